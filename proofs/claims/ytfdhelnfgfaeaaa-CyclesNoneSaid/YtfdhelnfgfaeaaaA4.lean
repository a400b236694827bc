/- Texts of this claim, one behind the other. -/
import Derived.Test.YtfdhelnfgfaeaaaA1
import Derived.Test.YtfdhelnfgfaeaaaA2
import Derived.Test.YtfdhelnfgfaeaaaA3
set_option linter.unusedVariables false
set_option linter.unusedSimpArgs false
namespace Go.Proofs.Ytfdhelnfgfaeaaa.Ax
open Go Go.Acq Go.RowKit Go.Proofs
set_option linter.unusedVariables false
set_option linter.unusedSimpArgs false
set_option maxHeartbeats 8000000
set_option maxRecDepth 20000
theorem Z1h : Zbj Try.prog 24 4 = true := by kernel_rfl
theorem Zap : Z63 Try.prog 2 = some 8 := by kernel_rfl
theorem Za5 : Z63 Try.prog 35 = some 24 := by kernel_rfl
theorem Za4 : Z0r Try.prog 15 = true := by kernel_rfl
theorem Z68 : Z0r Try.prog 22 = true := by kernel_rfl
theorem Z67 : Z0r Try.prog 23 = true := by kernel_rfl
theorem Z7n : Z0r Try.prog 24 = true := by kernel_rfl
theorem Z66 : Z0r Try.prog 25 = true := by kernel_rfl
theorem Za3 : Z0r Try.prog 26 = true := by kernel_rfl
theorem Z6o : Z33 Try.prog 24 0 = some 0 := by kernel_rfl
theorem Z5e : Z33 Try.prog 24 3 = some 3 := by kernel_rfl
theorem Zao : intT Try.prog 2 = some .i64 := by kernel_rfl
theorem Zan : intT Try.prog 3 = some .i64 := by kernel_rfl
theorem Z65 : Z1e Try.prog 22 = some 35 := by kernel_rfl
theorem Z1g : Z1e Try.prog 26 = some 2 := by kernel_rfl
theorem Z4p : Z1e Try.prog 40 = some 3 := by kernel_rfl
theorem Z29 : Z20 Try.prog 2 = some 1 := by kernel_rfl
theorem Za2 : Z20 Try.prog 22 = some 1 := by kernel_rfl
theorem Za1 : Z20 Try.prog 24 = some 4 := by kernel_rfl
theorem Z81 : Z20 Try.prog 3 = some 1 := by kernel_rfl
theorem Z7m : Z20 Try.prog 35 = some 3 := by kernel_rfl
theorem Za0 : (Try.prog.underlying 46).isSome = true := by kernel_rfl
theorem Zam : (Try.prog.underlying 5).isSome = true := by kernel_rfl
theorem Zal : Z3g Try.prog 2 = true := by kernel_rfl
theorem Z7l : Z3g Try.prog 22 = true := by kernel_rfl
theorem Z6c : Z3g Try.prog 3 = true := by kernel_rfl
theorem Zak : Try.prog.underlying 4 = some .bool := by kernel_rfl
theorem Zaj : Z4q Try.prog 2 = some (.int .i64 0) := by kernel_rfl
theorem Zai : Z4q Try.prog 3 = some (.int .i64 0) := by kernel_rfl
theorem Z7k : Z4q Try.prog 35 = some (.agg #[.int .i64 0, .int .i64 0, .int .i64 0]) := by kernel_rfl
theorem Z9z : ElemT Try.prog 22 35 3 24 (.agg #[.int .i64 0, .int .i64 0, .int .i64 0]) := ⟨Z65, Z7m, Za5, Z7k, rfl⟩
theorem w_acequialaw22_CyclesNone {n0 : Net} {v1 : Int} {x2 : Int} {n0f3_b : Option Addr} {n0f3_n : Nat} {n0f3_c : Nat} (w : World) (h_n0f3 : RS w [] Z5r 3 n0f3_b n0f3_n n0f3_c n0.Arcs) {r0 : Bool} (H : Z2u n0 v1 x2 = some r0) : Fnc Try.prog 5 #[.agg #[.int .i64 n0.N, .int .i64 n0.S, .int .i64 n0.T, .slice n0f3_b n0f3_n n0f3_c], .int .u8 v1, .int .u16 x2] w [] (fun v N => v = .bool r0 ∧ N = []) := by
 unfold Z2u at H; refine Fnc.enter (vs := [.agg #[.int .i64 n0.N, .int .i64 n0.S, .int .i64 n0.T, .slice n0f3_b n0f3_n n0f3_c], .int .u8 v1, .int .u16 x2]) Try.func5 rfl rfl (Inv.refl w) ?_; refine Z0b ?_; refine Z03 (ll := [0, 1]) rfl ?_; refine Z3b rfl rfl rfl rfl ?_; intro b1; refine Z06 rfl rfl rfl rfl ?_; refine Z04 ?_; refine Z01 ?_; refine Z0b ?_; obtain ⟨r3, e4, H⟩ := Z0k H; refine Z03 (ll := [0, 1, 2]) rfl ?_; refine Z11 rfl rfl rfl rfl Z1h mm0 rfl ?_; refine Z0n Za4 rfl rfl rfl rfl (fun wc hwc => Zab (n0 := n0) (verts1 := 30) (arcs2 := 60) wc (h_n0f3.mono hwc) e4) ?_; rintro _ _ ⟨m7, n6, c7, j8, rfl, rfl, a4, e2, e3, e5⟩; refine Z3i rfl rfl rfl rfl tk1 Za1 rfl rfl rfl ?_; refine Z04 ?_; refine Z01 ?_; refine Z0b ?_; obtain ⟨h4, H⟩ := Z0d H; obtain ⟨m8, H⟩ := Z0d H; refine Z03 (ll := [0, 1, 2, 3, 4, 5]) rfl ?_; refine Z05 rfl rfl rfl rfl ?_; refine Zaa rfl rfl rfl rfl Zam Zan (Z5m h4.1 h4.2) ?_; refine Z09 rfl rfl rfl rfl Z6o ?_; refine Z0e rfl rfl rfl rfl Z6c mm0 rfl ?_; refine TO.rem rfl rfl rfl rfl rfl m8 ?_; refine Z06 rfl rfl rfl rfl ?_; refine Z04 ?_; refine Z01 ?_; refine Z0l (Z00 (t := 2) rfl (Z00 (t := 3) rfl (Z00 (t := 7) rfl Z07))) ?_; refine Z0b ?_; obtain ⟨m9, H⟩ := Z0d H; refine Z03 (ll := [0, 1, 2, 3, 4, 5, 6, 7, 8]) rfl ?_; refine Z09 rfl rfl rfl rfl Z5e ?_; refine Z0e rfl rfl rfl rfl Z7l mm0 rfl ?_; refine Z05 rfl rfl rfl rfl ?_; refine Z05 rfl rfl rfl rfl ?_; refine Z34 (t := 35) [.int .i64 0, .int .i64 0, .int .i64 0] [0, 1, 2] rfl rfl rfl rfl (by simp only [Z2o, setCells, Value.cells, List.toList_toArray, List.getD_cons_zero, List.getD_cons_succ, List.set_cons_zero, List.set_cons_succ]; rfl) (by kernel_rfl) ?_; refine Z12 [.int .i64 0, .int .i64 0, .int .i64 0] [0] rfl rfl rfl rfl Z65 Z7m Z7k rfl rfl (by simp only [Z2o, setCells, Value.cells, List.toList_toArray, List.getD_cons_zero, List.getD_cons_succ, List.set_cons_zero, List.set_cons_succ]; rfl) (by kernel_rfl) ?_; intro u6; refine Zbv (f := Z5r) (s := 3) (xs := r3.Arcs) (ob := m7) (j := j8) (ys := [(Arc.mk (v1.tmod r3.N) (v1.tmod r3.N) 65536)]) (fun _ => rfl) (fun _ => rfl) Z9z m9 rfl rfl rfl rfl rfl tk2 a4 e2 e3 e5 (fun wc hwc => (hwc.rs (f := Z5r) (s := 3) (xs := [(Arc.mk (v1.tmod r3.N) (v1.tmod r3.N) 65536)]) (j := ([])) (fun _ => rfl) mm0 rfl (Nat.le_refl _) Z52)) ?_; intro a5 e6 a6 a2 n5 a3; refine Z09 rfl rfl rfl rfl Z5e ?_; refine Z6e (cs' := [.int .i64 r3.N, .int .i64 r3.S, .int .i64 r3.T, .slice (sb a5) (n6 + 1) e6]) rfl rfl rfl rfl tk2 Za2 rfl rfl rfl ?_; refine Z04 ?_; refine Z01 ?_; refine Z0l (Z00 (t := 2) rfl (Z00 (t := 3) rfl Z07)) ?_; refine Z0b ?_; obtain ⟨n7, H⟩ := Z0d H; refine Z03 (ll := [0, 1, 2, 3, 4]) rfl ?_; refine Z09 rfl rfl rfl rfl Z5e ?_; refine Z0e rfl rfl rfl rfl Z7l mm0 rfl ?_; refine Z1n (xs := (r3.Arcs ++ ([(Arc.mk (v1.tmod r3.N) (v1.tmod r3.N) 65536)]))) (Z5h a4 rfl) rfl rfl rfl rfl rfl Z65 ?_; refine Zhv n7 rfl rfl rfl rfl rfl Z1g Z29 Zaj Zap rfl ?_; intro b7; refine Z06 rfl rfl rfl rfl ?_; refine Z04 ?_; refine Z01 ?_; refine Z0b ?_; obtain ⟨⟨c9, u7⟩, n8, H⟩ := Z0k H; refine Z03 (ll := [0, 1, 2, 3, 4, 5, 6, 7]) rfl ?_; refine Z11 rfl rfl rfl rfl Z1h mm1 rfl ?_; refine Z05 rfl rfl rfl rfl ?_; refine Z0n Z67 rfl rfl rfl rfl (fun wc hwc => Z6f (n0 := (Net.mk r3.N r3.S r3.T (r3.Arcs ++ ([(Arc.mk (v1.tmod r3.N) (v1.tmod r3.N) 65536)])))) (f1 := (List.replicate (((r3.Arcs ++ ([(Arc.mk (v1.tmod r3.N) (v1.tmod r3.N) 65536)])).length : Int).toNat) (0 : Int))) wc (hwc.rs (f := Z5r) (s := 3) (xs := (r3.Arcs ++ ([(Arc.mk (v1.tmod r3.N) (v1.tmod r3.N) 65536)]))) (j := a6) (fun _ => rfl) mm2 (Z5h a4 rfl) a2 a3) (hwc.rs (f := (intC .i64)) (s := 1) (xs := (List.replicate (((r3.Arcs ++ ([(Arc.mk (v1.tmod r3.N) (v1.tmod r3.N) 65536)])).length : Int).toNat) (0 : Int))) (j := ([])) (fun _ => rfl) mm0 List.length_replicate (Nat.le_refl _) Z52) n8) ?_; rintro _ _ ⟨d2, n9, o0, o1, rfl, rfl, a9, d3, o2, d4⟩; refine Z05 rfl rfl rfl rfl ?_; refine TO.extract rfl rfl rfl rfl rfl ?_; refine TO.extract rfl rfl rfl rfl rfl ?_; refine Z06 rfl rfl rfl rfl ?_; refine Z06 rfl rfl rfl rfl ?_; refine Z04 ?_; refine Z01 ?_; refine Z0l (Z00 (t := 2) rfl (Z00 (t := 3) rfl (Z00 (t := 8) rfl (Z00 (t := 9) rfl (Z00 (t := 10) rfl Z07))))) ?_; refine Z0b ?_; refine Z0b ?_; rcases Z0g H with ⟨e7, H⟩ | ⟨e7, H⟩
 · refine Z03 (ll := [0, 1, 2, 3, 4, 5, 6, 7, 8]) rfl ?_; refine Z05 rfl rfl rfl rfl ?_; refine TO.not rfl rfl rfl rfl ?_; refine Z05 rfl rfl rfl rfl ?_; refine Z0m (t := 52) (b' := true) rfl e7 ?_; refine Z0c rfl rfl rfl rfl ?_; refine Z0c rfl rfl rfl rfl ?_; refine Z0c rfl rfl rfl rfl ?_; refine Z0c rfl rfl rfl rfl ?_; refine Z0c rfl rfl rfl rfl ?_; refine Z0u rfl rfl rfl rfl rfl ?_; refine Z04 ?_; refine Z01 ?_; refine Z0l (Z00 (t := 2) rfl (Z00 (t := 3) rfl (Z00 (t := 8) rfl (Z00 (t := 9) rfl (Z00 (t := 58) rfl Z07))))) ?_; refine Z28 rfl rfl ?_; refine Z0b ?_; refine Z03 (ll := [0]) rfl ?_; refine Z06 rfl rfl rfl rfl ?_; refine Z04 ?_; refine Z01 ?_; refine T.ret ?_; refine Z0f ?_; obtain rfl := ret1 H; exact Z0t rfl rfl rfl rfl (Res.tmp rfl) Z08 ⟨rfl, rfl⟩
 ·
  refine Z03 (ll := [0, 1, 2, 3, 4, 5, 6, 7, 8]) rfl ?_; refine Z05 rfl rfl rfl rfl ?_; refine TO.not rfl rfl rfl rfl ?_; refine Z05 rfl rfl rfl rfl ?_; refine Z0m (t := 52) (b' := false) rfl (Bool.eq_false_iff.2 e7) ?_; refine Z05 rfl rfl rfl rfl ?_; refine Z1n (xs := c9) a9 rfl rfl rfl rfl rfl Z4p ?_; refine Z09 rfl rfl rfl rfl Z6o ?_; refine Z0e rfl rfl rfl rfl Z6c mm2 rfl ?_; refine Z0q rfl rfl rfl rfl rfl rfl ?_; refine Z0v rfl rfl rfl rfl rfl ?_; refine Z04 ?_; refine Z01 ?_; refine Z0l (Z00 (t := 2) rfl (Z00 (t := 3) rfl (Z00 (t := 8) rfl (Z00 (t := 9) rfl (Z00 (t := 58) rfl Z07))))) ?_; rcases Z0g H with ⟨e8, H⟩ | ⟨e8, H⟩
  · refine Z13 rfl e8 ?_; refine Z0b ?_; refine Z03 (ll := [0]) rfl ?_; refine Z06 rfl rfl rfl rfl ?_; refine Z04 ?_; refine Z01 ?_; refine T.ret ?_; refine Z0f ?_; obtain rfl := ret1 H; exact Z0t rfl rfl rfl rfl (Res.tmp rfl) Z08 ⟨rfl, rfl⟩
  ·
   refine Z14 rfl e8 ?_; refine T.skip ?_; refine Z01 ?_; refine Z0b ?_; refine Z0b ?_; refine Z03 (ll := [0, 1, 2]) rfl ?_; refine Z05 rfl rfl rfl rfl ?_; refine Z1n (xs := c9) a9 rfl rfl rfl rfl rfl Z4p ?_; refine Z05 rfl rfl rfl rfl ?_; refine Z04 ?_; refine Z01 ?_; refine Z2h (fun (e9 : Unit) => Z2b v1 x2 r3 = some r0) (fun (e9 : Unit) => [(2, .int .u16 x2), (3, .pointer (some ⟨b1, 0, none⟩)), (8, .slice (some ⟨b7, 0, none⟩) (((r3.Arcs ++ ([(Arc.mk (v1.tmod r3.N) (v1.tmod r3.N) 65536)])).length : Int).toNat) (((r3.Arcs ++ ([(Arc.mk (v1.tmod r3.N) (v1.tmod r3.N) 65536)])).length : Int).toNat))]) (fun (e9 : Unit) => [(some b1, .cells #[.int .i64 r3.N, .int .i64 r3.S, .int .i64 r3.T, .slice (sb a5) (n6 + 1) e6] 24 (0, 0)), (a5, .cells (arr Z5r (r3.Arcs ++ ([(Arc.mk (v1.tmod r3.N) (v1.tmod r3.N) 65536)])) a6).toArray 35 (0, 0)), (some b7, .cells (arr (intC .i64) (List.replicate (((r3.Arcs ++ ([(Arc.mk (v1.tmod r3.N) (v1.tmod r3.N) 65536)])).length : Int).toNat) (0 : Int)) ([])).toArray 2 (0, 0))]) ?_ ?_
   ·
    refine T.block ?_; obtain ⟨o4, o6, h5⟩ := Z0k H; refine Z7p (fun (d0 : Nat) (b8 : Int) => Z2l (fun s => Z1q c9 s) d0 b8 = some o4) (fun (d0 : Nat) (b8 : Int) => [(2, .int .u16 x2), (3, .pointer (some ⟨b1, 0, none⟩)), (8, .slice (some ⟨b7, 0, none⟩) (((r3.Arcs ++ ([(Arc.mk (v1.tmod r3.N) (v1.tmod r3.N) 65536)])).length : Int).toNat) (((r3.Arcs ++ ([(Arc.mk (v1.tmod r3.N) (v1.tmod r3.N) 65536)])).length : Int).toNat)), (59, .slice (sb d2) n9 o0), (60, .int .i64 (c9.length : Int)), (61, .int .i64 b8)]) (fun (d0 : Nat) (b8 : Int) => [(some b1, .cells #[.int .i64 r3.N, .int .i64 r3.S, .int .i64 r3.T, .slice (sb a5) (n6 + 1) e6] 24 (0, 0)), (a5, .cells (arr Z5r (r3.Arcs ++ ([(Arc.mk (v1.tmod r3.N) (v1.tmod r3.N) 65536)])) a6).toArray 35 (0, 0)), (some b7, .cells (arr (intC .i64) (List.replicate (((r3.Arcs ++ ([(Arc.mk (v1.tmod r3.N) (v1.tmod r3.N) 65536)])).length : Int).toNat) (0 : Int)) ([])).toArray 2 (0, 0)), (d2, .cells (arr (intC .i64) c9 o1).toArray 3 (0, 0))]) (fun (d0 : Nat) (b8 : Int) => d0) Z50 0 o6 (Z00 rfl (Z00 rfl (Z00 rfl (Z00 rfl (Z00 rfl (Z00 rfl Z07)))))) (Z02 tk2 (Z02 tk2 (Z02 tk1 (Z02 tk0 Z08)))) ?_; rintro d0 b8 H; obtain ⟨o7, o8, rfl, H, f0⟩ := Z1i H; have H : Z1q c9 b8 = some o8 := H; unfold Z1q at H; refine Z0b ?_; refine Z03 (ll := [0]) rfl ?_; refine Z0q rfl rfl rfl rfl rfl rfl ?_; refine Z04 ?_; refine Z01 ?_; refine Z0b ?_; rcases Z0g H with ⟨f2, H⟩ | ⟨f2, H⟩
    ·
     refine Z13 rfl f2 ?_; refine T.skip ?_; refine Z01 ?_; refine Z0b ?_; refine T.block ?_; refine Z0b ?_; obtain ⟨h6, H⟩ := Z0d H; refine Z03 (ll := [0, 1, 2, 3, 4]) rfl ?_; refine Z05 rfl rfl rfl rfl ?_; refine Z6p d4 d3 a9 h6 rfl rfl rfl rfl rfl Z4p Z81 ?_; refine Z9o d4 d3 a9 h6 rfl rfl rfl rfl Z6c mm3 ?_; refine Z06 rfl rfl rfl rfl ?_; refine Z06 rfl rfl rfl rfl ?_; refine Z04 ?_; refine Z01 ?_; refine Z0b ?_; refine Z03 (ll := [0, 1, 2]) rfl ?_; refine Z05 rfl rfl rfl rfl ?_; refine Z05 rfl rfl rfl rfl ?_; refine Z0q rfl rfl rfl rfl rfl rfl ?_; refine Z04 ?_; refine Z01 ?_; refine Z0l (Z00 (t := 2) rfl (Z00 (t := 3) rfl (Z00 (t := 8) rfl (Z00 (t := 59) rfl (Z00 (t := 60) rfl (Z00 (t := 61) rfl (Z00 (t := 68) rfl Z07))))))) ?_; rcases Z0g H with ⟨f3, H⟩ | ⟨f3, H⟩
     · refine Z13 rfl f3 ?_; refine Z0b ?_; refine Z03 (ll := [0]) rfl ?_; refine Z06 rfl rfl rfl rfl ?_; refine Z04 ?_; refine Z01 ?_; refine T.ret ?_; refine Z0o ?_; refine Z0f ?_; have H := Z0s H f0 ▸ h5; refine Z0f ?_; refine Z0o ?_; refine Z0f ?_; obtain rfl := ret1 H; exact Z0t rfl rfl rfl rfl (Res.tmp rfl) Z08 ⟨rfl, rfl⟩
     · refine Z14 rfl f3 ?_; refine T.skip ?_; refine Z0j ?_; refine Z01 ?_; obtain ⟨o9, H⟩ := Z0d H; refine Z03 (ll := [0, 1]) rfl ?_; refine Z27 o9 rfl rfl rfl rfl rfl ?_; refine Z05 rfl rfl rfl rfl ?_; refine Z04 ?_; have H := Z1b H f0; exact Z6l o7 (b8 + 1) H (Nat.lt_succ_self _) (Z00 rfl (Z00 rfl (Z00 rfl (Z00 rfl (Z00 rfl (Z00 rfl Z07)))))) (Z02 tk0 (Z02 tk0 (Z02 tk0 (Z02 tk0 Z08))))
    · refine Z14 rfl f2 ?_; refine T.exit ?_; refine Z0i ?_; have H := Z0s H f0 ▸ h5; refine Z0i ?_; refine Z0y ?_; exact Z3o () H (Z00 rfl (Z00 rfl (Z00 rfl Z07))) (Z02 tk0 (Z02 tk0 (Z02 tk0 Z08)))
   ·
    rintro e9 H; unfold Z2b at H; refine Z0b ?_; obtain ⟨p0, H⟩ := Z0d H; obtain ⟨h7, H⟩ := Z0d H; obtain ⟨h8, H⟩ := Z0d H; refine Z03 (ll := [0, 1, 2, 3, 4, 5, 6, 7]) rfl ?_; refine Z05 rfl rfl rfl rfl ?_; refine Z05 rfl rfl rfl rfl ?_; refine Z1n (xs := (List.replicate (((r3.Arcs ++ ([(Arc.mk (v1.tmod r3.N) (v1.tmod r3.N) 65536)])).length : Int).toNat) (0 : Int))) List.length_replicate rfl rfl rfl rfl rfl Z1g ?_; refine Z8y p0 rfl rfl rfl rfl rfl ?_; refine Z05 rfl rfl rfl rfl ?_; refine Zaa rfl rfl rfl rfl Za0 Zao (Z5m h7.1 h7.2) ?_; refine Z8z List.length_replicate h8 rfl rfl rfl rfl rfl Z1g Z29 ?_; refine Zaq h8 rfl rfl rfl rfl tk2 Z29 ?_; refine Z04 ?_; refine Z01 ?_; refine Z0b ?_; obtain ⟨⟨d5, u9⟩, p1, H⟩ := Z0k H; refine Z03 (ll := [0, 1, 2, 3, 4, 5, 6, 7]) rfl ?_; refine Z11 rfl rfl rfl rfl Z1h mm1 rfl ?_; refine Z05 rfl rfl rfl rfl ?_; refine Z0n Z68 rfl rfl rfl rfl (fun wc hwc => Z6q (n0 := (Net.mk r3.N r3.S r3.T (r3.Arcs ++ ([(Arc.mk (v1.tmod r3.N) (v1.tmod r3.N) 65536)])))) (f1 := ((List.replicate (((r3.Arcs ++ ([(Arc.mk (v1.tmod r3.N) (v1.tmod r3.N) 65536)])).length : Int).toNat) (0 : Int)).set (((List.replicate (((r3.Arcs ++ ([(Arc.mk (v1.tmod r3.N) (v1.tmod r3.N) 65536)])).length : Int).toNat) (0 : Int)).length : Int) - 1).toNat x2)) wc (hwc.rs (f := Z5r) (s := 3) (xs := (r3.Arcs ++ ([(Arc.mk (v1.tmod r3.N) (v1.tmod r3.N) 65536)]))) (j := a6) (fun _ => rfl) mm2 (Z5h a4 rfl) a2 a3) (hwc.rs (f := (intC .i64)) (s := 1) (xs := ((List.replicate (((r3.Arcs ++ ([(Arc.mk (v1.tmod r3.N) (v1.tmod r3.N) 65536)])).length : Int).toNat) (0 : Int)).set (((List.replicate (((r3.Arcs ++ ([(Arc.mk (v1.tmod r3.N) (v1.tmod r3.N) 65536)])).length : Int).toNat) (0 : Int)).length : Int) - 1).toNat x2)) (j := ([])) (fun _ => rfl) mm0 (List.length_set.trans List.length_replicate) (Nat.le_refl _) Z52) p1) ?_; rintro _ _ ⟨b0, e0, c57, p2, p3, v2, v3, v4, rfl, rfl, f4, f5, f6, p4, f7⟩; refine Z05 rfl rfl rfl rfl ?_; refine TO.extract rfl rfl rfl rfl rfl ?_; refine TO.extract rfl rfl rfl rfl rfl ?_; refine Z06 rfl rfl rfl rfl ?_; refine Z06 rfl rfl rfl rfl ?_; refine Z04 ?_; refine Z01 ?_; refine Z0l (Z00 (t := 2) rfl (Z00 (t := 3) rfl (Z00 (t := 8) rfl (Z00 (t := 13) rfl (Z00 (t := 14) rfl Z07))))) ?_; refine Z0b ?_; obtain ⟨⟨d1, f8, p5⟩, p6, H⟩ := Z0k H; refine Z03 (ll := [0, 1, 2, 3, 4, 5, 6, 7, 8, 9]) rfl ?_; refine Z11 rfl rfl rfl rfl Z1h mm2 rfl ?_; refine Z05 rfl rfl rfl rfl ?_; refine Z0n Z66 rfl rfl rfl rfl (fun wc hwc => Z5y (n0 := (Net.mk r3.N r3.S r3.T (r3.Arcs ++ ([(Arc.mk (v1.tmod r3.N) (v1.tmod r3.N) 65536)])))) (f1 := ((List.replicate (((r3.Arcs ++ ([(Arc.mk (v1.tmod r3.N) (v1.tmod r3.N) 65536)])).length : Int).toNat) (0 : Int)).set (((List.replicate (((r3.Arcs ++ ([(Arc.mk (v1.tmod r3.N) (v1.tmod r3.N) 65536)])).length : Int).toNat) (0 : Int)).length : Int) - 1).toNat x2)) wc (hwc.rs (f := Z5r) (s := 3) (xs := (r3.Arcs ++ ([(Arc.mk (v1.tmod r3.N) (v1.tmod r3.N) 65536)]))) (j := a6) (fun _ => rfl) mm3 (Z5h a4 rfl) a2 a3) (hwc.rs (f := (intC .i64)) (s := 1) (xs := ((List.replicate (((r3.Arcs ++ ([(Arc.mk (v1.tmod r3.N) (v1.tmod r3.N) 65536)])).length : Int).toNat) (0 : Int)).set (((List.replicate (((r3.Arcs ++ ([(Arc.mk (v1.tmod r3.N) (v1.tmod r3.N) 65536)])).length : Int).toNat) (0 : Int)).length : Int) - 1).toNat x2)) (j := ([])) (fun _ => rfl) mm1 (List.length_set.trans List.length_replicate) (Nat.le_refl _) Z52) p6) ?_; rintro _ _ ⟨b9, f9, c75, v5, rfl, rfl, c3, d6, p7, d7⟩; refine Z05 rfl rfl rfl rfl ?_; refine TO.extract rfl rfl rfl rfl rfl ?_; refine TO.extract rfl rfl rfl rfl rfl ?_; refine TO.extract rfl rfl rfl rfl rfl ?_; refine Z06 rfl rfl rfl rfl ?_; refine Z06 rfl rfl rfl rfl ?_; refine Z06 rfl rfl rfl rfl ?_; refine Z04 ?_; refine Z01 ?_; refine Z0b ?_; refine Z0b ?_; refine Z03 (ll := [0, 1, 2, 3, 4, 5, 6, 7, 8, 9, 10, 11, 12, 13, 14, 15, 16, 17, 18, 19, 20, 21, 22, 23, 24, 25, 26, 27, 28, 29, 30, 31, 32, 33, 34, 35, 36, 37, 38, 39, 40, 41]) rfl ?_; refine Z05 rfl rfl rfl rfl ?_; refine Z0q rfl rfl rfl rfl rfl rfl ?_; refine Z05 rfl rfl rfl rfl ?_; refine TO.join [3, 4, 5] [6, 7, 8, 9, 10, 11, 12, 13, 14, 15, 16, 17, 18, 19, 20, 21, 22, 23, 24, 25, 26, 27, 28, 29, 30, 31, 32, 33, 34, 35, 36, 37, 38, 39, 40, 41] rfl 95 (fun h9 => Z1u v1 x2 r3 d5 d1 f8 h9 = some r0) [(2, .int .u16 x2), (3, .pointer (some ⟨b1, 0, none⟩)), (8, .slice (some ⟨b7, 0, none⟩) (((r3.Arcs ++ ([(Arc.mk (v1.tmod r3.N) (v1.tmod r3.N) 65536)])).length : Int).toNat) (((r3.Arcs ++ ([(Arc.mk (v1.tmod r3.N) (v1.tmod r3.N) 65536)])).length : Int).toNat)), (13, .slice b0 e0 c57), (15, .slice (sb b9) f9 c75), (16, .int .i64 f8)] ?_ ?_
    ·
     rcases Z0g H with ⟨g0, H⟩ | ⟨g0, H⟩
     · refine Z0m (t := 92) (b' := true) rfl (decide_eq_true g0) ?_; refine Z0c rfl rfl rfl rfl ?_; refine Z0c rfl rfl rfl rfl ?_; refine Z0u rfl rfl rfl rfl rfl ?_; refine Z04 ?_; exact Zf1 (b := true) H (Z00 rfl (Z00 rfl (Z00 rfl (Z00 rfl (Z00 rfl (Z00 rfl (Z00 rfl Z07)))))))
     · refine Z0m (t := 92) (b' := false) rfl (decide_eq_false g0) ?_; refine Z05 rfl rfl rfl rfl ?_; refine Z0q rfl rfl rfl rfl rfl rfl ?_; refine Z0v rfl rfl rfl rfl rfl ?_; refine Z04 ?_; exact Zf1 (b := (decide (p5 ≠ 0))) H (Z00 rfl (Z00 rfl (Z00 rfl (Z00 rfl (Z00 rfl (Z00 rfl (Z00 rfl Z07)))))))
    ·
     rintro h9 H; unfold Z1u at H; refine Z05 rfl rfl rfl rfl ?_; refine TO.join [7, 8, 9, 10, 11, 12] [13, 14, 15, 16, 17, 18, 19, 20, 21, 22, 23, 24, 25, 26, 27, 28, 29, 30, 31, 32, 33, 34, 35, 36, 37, 38, 39, 40, 41] rfl 102 (fun i4 => Z1t v1 x2 r3 d5 d1 i4 = some r0) [(2, .int .u16 x2), (3, .pointer (some ⟨b1, 0, none⟩)), (8, .slice (some ⟨b7, 0, none⟩) (((r3.Arcs ++ ([(Arc.mk (v1.tmod r3.N) (v1.tmod r3.N) 65536)])).length : Int).toNat) (((r3.Arcs ++ ([(Arc.mk (v1.tmod r3.N) (v1.tmod r3.N) 65536)])).length : Int).toNat)), (13, .slice b0 e0 c57), (15, .slice (sb b9) f9 c75)] ?_ ?_
     ·
      rcases Z0g H with ⟨g1, H⟩ | ⟨g1, H⟩
      · refine Z0m (t := 96) (b' := true) rfl g1 ?_; refine Z0c rfl rfl rfl rfl ?_; refine Z0c rfl rfl rfl rfl ?_; refine Z0c rfl rfl rfl rfl ?_; refine Z0c rfl rfl rfl rfl ?_; refine Z0c rfl rfl rfl rfl ?_; refine Z0u rfl rfl rfl rfl rfl ?_; refine Z04 ?_; exact Zf1 (b := true) H (Z00 rfl (Z00 rfl (Z00 rfl (Z00 rfl (Z00 rfl (Z00 rfl Z07))))))
      · refine Z0m (t := 96) (b' := false) rfl (Bool.eq_false_iff.2 g1) ?_; refine Z05 rfl rfl rfl rfl ?_; refine Z0q rfl rfl rfl rfl rfl rfl ?_; refine Z05 rfl rfl rfl rfl ?_; refine Z0q rfl rfl rfl rfl rfl rfl ?_; refine TO.neb rfl rfl rfl rfl rfl Zak ?_; refine Z0v rfl rfl rfl rfl rfl ?_; refine Z04 ?_; exact Zf1 (b := (!((decide (f8 = 1)) == (decide (0 < x2))))) H (Z00 rfl (Z00 rfl (Z00 rfl (Z00 rfl (Z00 rfl (Z00 rfl Z07))))))
     ·
      rintro i4 H; unfold Z1t at H; refine Z05 rfl rfl rfl rfl ?_; refine TO.join [14, 15, 16, 17, 18, 19] [20, 21, 22, 23, 24, 25, 26, 27, 28, 29, 30, 31, 32, 33, 34, 35, 36, 37, 38, 39, 40, 41] rfl 109 (fun i5 => Z1s v1 x2 r3 d5 d1 i5 = some r0) [(2, .int .u16 x2), (3, .pointer (some ⟨b1, 0, none⟩)), (8, .slice (some ⟨b7, 0, none⟩) (((r3.Arcs ++ ([(Arc.mk (v1.tmod r3.N) (v1.tmod r3.N) 65536)])).length : Int).toNat) (((r3.Arcs ++ ([(Arc.mk (v1.tmod r3.N) (v1.tmod r3.N) 65536)])).length : Int).toNat)), (13, .slice b0 e0 c57), (15, .slice (sb b9) f9 c75)] ?_ ?_
      ·
       rcases Z0g H with ⟨g2, H⟩ | ⟨g2, H⟩
       · refine Z0m (t := 103) (b' := true) rfl g2 ?_; refine Z0c rfl rfl rfl rfl ?_; refine Z0c rfl rfl rfl rfl ?_; refine Z0c rfl rfl rfl rfl ?_; refine Z0c rfl rfl rfl rfl ?_; refine Z0c rfl rfl rfl rfl ?_; refine Z0u rfl rfl rfl rfl rfl ?_; refine Z04 ?_; exact Zf1 (b := true) H (Z00 rfl (Z00 rfl (Z00 rfl (Z00 rfl (Z00 rfl (Z00 rfl Z07))))))
       · refine Z0m (t := 103) (b' := false) rfl (Bool.eq_false_iff.2 g2) ?_; refine Z05 rfl rfl rfl rfl ?_; refine Z1n (xs := d1) c3 rfl rfl rfl rfl rfl Z1g ?_; refine Z05 rfl rfl rfl rfl ?_; refine Z1n (xs := ((List.replicate (((r3.Arcs ++ ([(Arc.mk (v1.tmod r3.N) (v1.tmod r3.N) 65536)])).length : Int).toNat) (0 : Int)).set (((List.replicate (((r3.Arcs ++ ([(Arc.mk (v1.tmod r3.N) (v1.tmod r3.N) 65536)])).length : Int).toNat) (0 : Int)).length : Int) - 1).toNat x2)) (List.length_set.trans List.length_replicate) rfl rfl rfl rfl rfl Z1g ?_; refine Z0q rfl rfl rfl rfl rfl rfl ?_; refine Z0v rfl rfl rfl rfl rfl ?_; refine Z04 ?_; exact Zf1 (b := (decide ((d1.length : Int) ≠ (((List.replicate (((r3.Arcs ++ ([(Arc.mk (v1.tmod r3.N) (v1.tmod r3.N) 65536)])).length : Int).toNat) (0 : Int)).set (((List.replicate (((r3.Arcs ++ ([(Arc.mk (v1.tmod r3.N) (v1.tmod r3.N) 65536)])).length : Int).toNat) (0 : Int)).length : Int) - 1).toNat x2).length : Int)))) H (Z00 rfl (Z00 rfl (Z00 rfl (Z00 rfl (Z00 rfl (Z00 rfl Z07))))))
      ·
       rintro i5 H; unfold Z1s at H; refine Z05 rfl rfl rfl rfl ?_; refine TO.join [21, 22, 23, 24, 25, 26, 27, 28] [29, 30, 31, 32, 33, 34, 35, 36, 37, 38, 39, 40, 41] rfl 118 (fun i6 => Z1r v1 x2 r3 d5 i6 = some r0) [(2, .int .u16 x2), (3, .pointer (some ⟨b1, 0, none⟩)), (8, .slice (some ⟨b7, 0, none⟩) (((r3.Arcs ++ ([(Arc.mk (v1.tmod r3.N) (v1.tmod r3.N) 65536)])).length : Int).toNat) (((r3.Arcs ++ ([(Arc.mk (v1.tmod r3.N) (v1.tmod r3.N) 65536)])).length : Int).toNat)), (13, .slice b0 e0 c57)] ?_ ?_
       ·
        rcases Z0g H with ⟨g3, H⟩ | ⟨g3, H⟩
        · refine Z0m (t := 110) (b' := true) rfl g3 ?_; refine Z0c rfl rfl rfl rfl ?_; refine Z0c rfl rfl rfl rfl ?_; refine Z0c rfl rfl rfl rfl ?_; refine Z0c rfl rfl rfl rfl ?_; refine Z0c rfl rfl rfl rfl ?_; refine Z0c rfl rfl rfl rfl ?_; refine Z0c rfl rfl rfl rfl ?_; refine Z0u rfl rfl rfl rfl rfl ?_; refine Z04 ?_; exact Zf1 (b := true) H (Z00 rfl (Z00 rfl (Z00 rfl (Z00 rfl (Z00 rfl Z07)))))
        · obtain ⟨p8, H⟩ := Z0d H; obtain ⟨i7, H⟩ := Z0d H; refine Z0m (t := 110) (b' := false) rfl (Bool.eq_false_iff.2 g3) ?_; refine Z05 rfl rfl rfl rfl ?_; refine Z05 rfl rfl rfl rfl ?_; refine Z1n (xs := ((List.replicate (((r3.Arcs ++ ([(Arc.mk (v1.tmod r3.N) (v1.tmod r3.N) 65536)])).length : Int).toNat) (0 : Int)).set (((List.replicate (((r3.Arcs ++ ([(Arc.mk (v1.tmod r3.N) (v1.tmod r3.N) 65536)])).length : Int).toNat) (0 : Int)).length : Int) - 1).toNat x2)) (List.length_set.trans List.length_replicate) rfl rfl rfl rfl rfl Z1g ?_; refine Z8y p8 rfl rfl rfl rfl rfl ?_; refine Z6p d7 d6 c3 i7 rfl rfl rfl rfl rfl Z1g Z29 ?_; refine Z9o d7 d6 c3 i7 rfl rfl rfl rfl Zal mm0 ?_; refine Z0q rfl rfl rfl rfl rfl rfl ?_; refine Z0v rfl rfl rfl rfl rfl ?_; refine Z04 ?_; exact Zf1 (b := (decide ((d1.getD ((((List.replicate (((r3.Arcs ++ ([(Arc.mk (v1.tmod r3.N) (v1.tmod r3.N) 65536)])).length : Int).toNat) (0 : Int)).set (((List.replicate (((r3.Arcs ++ ([(Arc.mk (v1.tmod r3.N) (v1.tmod r3.N) 65536)])).length : Int).toNat) (0 : Int)).length : Int) - 1).toNat x2).length : Int) - 1).toNat 0) ≠ 0))) H (Z00 rfl (Z00 rfl (Z00 rfl (Z00 rfl (Z00 rfl Z07)))))
       ·
        rintro i6 H; unfold Z1r at H; rcases Z0g H with ⟨e1, H⟩ | ⟨e1, H⟩
        · refine Z05 rfl rfl rfl rfl ?_; refine Z0m (t := 119) (b' := true) rfl e1 ?_; refine Z0c rfl rfl rfl rfl ?_; refine Z0c rfl rfl rfl rfl ?_; refine Z0c rfl rfl rfl rfl ?_; refine Z3m rfl rfl rfl rfl ?_; refine Z3m rfl rfl rfl rfl ?_; refine Z3m rfl rfl rfl rfl ?_; refine Z3m rfl rfl rfl rfl ?_; refine Z3m rfl rfl rfl rfl ?_; refine Z3m rfl rfl rfl rfl ?_; refine Z3m rfl rfl rfl rfl ?_; refine Z0c rfl rfl rfl rfl ?_; refine Z0u rfl rfl rfl rfl rfl ?_; refine Z04 ?_; refine Z01 ?_; refine Z0l (Z00 (t := 3) rfl (Z00 (t := 8) rfl (Z00 (t := 131) rfl Z07))) ?_; refine Z28 rfl rfl ?_; refine Z0b ?_; refine Z03 (ll := [0]) rfl ?_; refine Z06 rfl rfl rfl rfl ?_; refine Z04 ?_; refine Z01 ?_; refine T.ret ?_; refine Z0f ?_; obtain rfl := ret1 H; exact Z0t rfl rfl rfl rfl (Res.tmp rfl) Z08 ⟨rfl, rfl⟩
        ·
         rcases Z0g H with ⟨g4, H⟩ | ⟨g4, H⟩
         ·
          obtain ⟨p9, H⟩ := Z0d H; obtain ⟨v6, q0, H⟩ := Z0k H; refine Z05 rfl rfl rfl rfl ?_; refine Z0m (t := 119) (b' := false) rfl (Bool.eq_false_iff.2 e1) ?_; refine Z05 rfl rfl rfl rfl ?_; refine Z0q rfl rfl rfl rfl rfl rfl ?_; refine Z05 rfl rfl rfl rfl ?_; refine Z0m (t := 122) (b' := true) rfl (decide_eq_true g4) ?_; refine Z05 rfl rfl rfl rfl ?_; refine Z05 rfl rfl rfl rfl ?_; refine Z1n (xs := ((List.replicate (((r3.Arcs ++ ([(Arc.mk (v1.tmod r3.N) (v1.tmod r3.N) 65536)])).length : Int).toNat) (0 : Int)).set (((List.replicate (((r3.Arcs ++ ([(Arc.mk (v1.tmod r3.N) (v1.tmod r3.N) 65536)])).length : Int).toNat) (0 : Int)).length : Int) - 1).toNat x2)) (List.length_set.trans List.length_replicate) rfl rfl rfl rfl rfl Z1g ?_; refine Z8y p9 rfl rfl rfl rfl rfl ?_; refine Z12 [.int .i64 0] [0] rfl rfl rfl rfl Z4p Z81 Zai rfl rfl (by simp only [Z2o, setCells, Value.cells, List.toList_toArray, List.getD_cons_zero, List.getD_cons_succ, List.set_cons_zero, List.set_cons_succ]; rfl) (by kernel_rfl) ?_; intro v7; refine Z0n Za3 rfl rfl rfl rfl (fun wc hwc => Z44 (a0 := d5) (b1 := [((((List.replicate (((r3.Arcs ++ ([(Arc.mk (v1.tmod r3.N) (v1.tmod r3.N) 65536)])).length : Int).toNat) (0 : Int)).set (((List.replicate (((r3.Arcs ++ ([(Arc.mk (v1.tmod r3.N) (v1.tmod r3.N) 65536)])).length : Int).toNat) (0 : Int)).length : Int) - 1).toNat x2).length : Int) - 1)]) wc (f4.rs hwc (fun _ => rfl) mm2 f5 f6 f7) (hwc.rs (f := (intC .i64)) (s := 1) (xs := [((((List.replicate (((r3.Arcs ++ ([(Arc.mk (v1.tmod r3.N) (v1.tmod r3.N) 65536)])).length : Int).toNat) (0 : Int)).set (((List.replicate (((r3.Arcs ++ ([(Arc.mk (v1.tmod r3.N) (v1.tmod r3.N) 65536)])).length : Int).toNat) (0 : Int)).length : Int) - 1).toNat x2).length : Int) - 1)]) (j := ([])) (fun _ => rfl) mm0 rfl (Nat.le_refl _) Z52) q0) ?_; rintro _ _ ⟨rfl, rfl⟩; refine TO.not rfl rfl rfl rfl ?_; refine Z0u rfl rfl rfl rfl rfl ?_; refine Z0v rfl rfl rfl rfl rfl ?_; refine Z04 ?_; refine Z01 ?_; refine Z0l (Z00 (t := 3) rfl (Z00 (t := 8) rfl (Z00 (t := 131) rfl Z07))) ?_; rcases Z0g H with ⟨g5, H⟩ | ⟨g5, H⟩
          · refine Z28 rfl g5 ?_; refine Z0b ?_; refine Z03 (ll := [0]) rfl ?_; refine Z06 rfl rfl rfl rfl ?_; refine Z04 ?_; refine Z01 ?_; refine T.ret ?_; refine Z0f ?_; obtain rfl := ret1 H; exact Z0t rfl rfl rfl rfl (Res.tmp rfl) Z08 ⟨rfl, rfl⟩
          ·
           refine Z3j rfl (Bool.eq_false_iff.2 g5) ?_; refine T.skip ?_; refine Z01 ?_; refine Z0b ?_; obtain ⟨d8, H⟩ := Z0d H; refine Z03 (ll := [0, 1, 2]) rfl ?_; refine Z05 rfl rfl rfl rfl ?_; refine Z8z (List.length_set.trans List.length_replicate) d8 rfl rfl rfl rfl rfl Z1g Z29 ?_; refine Zaq d8 rfl rfl rfl rfl tk3 Z29 ?_; refine Z04 ?_; refine Z01 ?_; refine Z0b ?_; obtain ⟨⟨q1, q2⟩, g6, H⟩ := Z0k H; refine Z03 (ll := [0, 1, 2, 3, 4, 5, 6, 7]) rfl ?_; refine Z11 rfl rfl rfl rfl Z1h mm4 rfl ?_; refine Z05 rfl rfl rfl rfl ?_; refine Z0n Z67 rfl rfl rfl rfl (fun wc hwc => Z6f (n0 := (Net.mk r3.N r3.S r3.T (r3.Arcs ++ ([(Arc.mk (v1.tmod r3.N) (v1.tmod r3.N) 65536)])))) (f1 := (((List.replicate (((r3.Arcs ++ ([(Arc.mk (v1.tmod r3.N) (v1.tmod r3.N) 65536)])).length : Int).toNat) (0 : Int)).set (((List.replicate (((r3.Arcs ++ ([(Arc.mk (v1.tmod r3.N) (v1.tmod r3.N) 65536)])).length : Int).toNat) (0 : Int)).length : Int) - 1).toNat x2).set (0 : Int).toNat (-1))) wc (hwc.rs (f := Z5r) (s := 3) (xs := (r3.Arcs ++ ([(Arc.mk (v1.tmod r3.N) (v1.tmod r3.N) 65536)]))) (j := a6) (fun _ => rfl) mm5 (Z5h a4 rfl) a2 a3) (hwc.rs (f := (intC .i64)) (s := 1) (xs := (((List.replicate (((r3.Arcs ++ ([(Arc.mk (v1.tmod r3.N) (v1.tmod r3.N) 65536)])).length : Int).toNat) (0 : Int)).set (((List.replicate (((r3.Arcs ++ ([(Arc.mk (v1.tmod r3.N) (v1.tmod r3.N) 65536)])).length : Int).toNat) (0 : Int)).length : Int) - 1).toNat x2).set (0 : Int).toNat (-1))) (j := ([])) (fun _ => rfl) mm0 (List.length_set.trans (List.length_set.trans List.length_replicate)) (Nat.le_refl _) Z52) g6) ?_; rintro _ _ ⟨i8, q3, c106, q4, rfl, rfl, i9, j0, j1, j2⟩; refine Z05 rfl rfl rfl rfl ?_; refine TO.extract rfl rfl rfl rfl rfl ?_; refine TO.extract rfl rfl rfl rfl rfl ?_; refine Z06 rfl rfl rfl rfl ?_; refine Z06 rfl rfl rfl rfl ?_; refine Z04 ?_; refine Z01 ?_; refine Z0l (Z00 (t := 3) rfl (Z00 (t := 8) rfl (Z00 (t := 19) rfl Z07))) ?_; refine Z0b ?_; obtain ⟨⟨q5, q6⟩, g7, H⟩ := Z0k H; refine Z03 (ll := [0, 1, 2, 3, 4, 5, 6, 7]) rfl ?_; refine Z11 rfl rfl rfl rfl Z1h mm5 rfl ?_; refine Z05 rfl rfl rfl rfl ?_; refine Z0n Z68 rfl rfl rfl rfl (fun wc hwc => Z6q (n0 := (Net.mk r3.N r3.S r3.T (r3.Arcs ++ ([(Arc.mk (v1.tmod r3.N) (v1.tmod r3.N) 65536)])))) (f1 := (((List.replicate (((r3.Arcs ++ ([(Arc.mk (v1.tmod r3.N) (v1.tmod r3.N) 65536)])).length : Int).toNat) (0 : Int)).set (((List.replicate (((r3.Arcs ++ ([(Arc.mk (v1.tmod r3.N) (v1.tmod r3.N) 65536)])).length : Int).toNat) (0 : Int)).length : Int) - 1).toNat x2).set (0 : Int).toNat (-1))) wc (hwc.rs (f := Z5r) (s := 3) (xs := (r3.Arcs ++ ([(Arc.mk (v1.tmod r3.N) (v1.tmod r3.N) 65536)]))) (j := a6) (fun _ => rfl) mm6 (Z5h a4 rfl) a2 a3) (hwc.rs (f := (intC .i64)) (s := 1) (xs := (((List.replicate (((r3.Arcs ++ ([(Arc.mk (v1.tmod r3.N) (v1.tmod r3.N) 65536)])).length : Int).toNat) (0 : Int)).set (((List.replicate (((r3.Arcs ++ ([(Arc.mk (v1.tmod r3.N) (v1.tmod r3.N) 65536)])).length : Int).toNat) (0 : Int)).length : Int) - 1).toNat x2).set (0 : Int).toNat (-1))) (j := ([])) (fun _ => rfl) mm1 (List.length_set.trans (List.length_set.trans List.length_replicate)) (Nat.le_refl _) Z52) g7) ?_; rintro _ _ ⟨j3, q7, q8, j4, j5, q9, r1, r2, rfl, rfl, j6, j7, j9, k1, k2⟩; refine Z05 rfl rfl rfl rfl ?_; refine TO.extract rfl rfl rfl rfl rfl ?_; refine TO.extract rfl rfl rfl rfl rfl ?_; refine Z06 rfl rfl rfl rfl ?_; refine Z06 rfl rfl rfl rfl ?_; refine Z04 ?_; refine Z01 ?_; refine Z0b ?_; obtain ⟨⟨r4, r5, r6⟩, g8, H⟩ := Z0k H; refine Z03 (ll := [0, 1, 2, 3, 4, 5, 6, 7, 8, 9]) rfl ?_; refine Z11 rfl rfl rfl rfl Z1h mm6 rfl ?_; refine Z05 rfl rfl rfl rfl ?_; refine Z0n Z66 rfl rfl rfl rfl (fun wc hwc => Z5y (n0 := (Net.mk r3.N r3.S r3.T (r3.Arcs ++ ([(Arc.mk (v1.tmod r3.N) (v1.tmod r3.N) 65536)])))) (f1 := (((List.replicate (((r3.Arcs ++ ([(Arc.mk (v1.tmod r3.N) (v1.tmod r3.N) 65536)])).length : Int).toNat) (0 : Int)).set (((List.replicate (((r3.Arcs ++ ([(Arc.mk (v1.tmod r3.N) (v1.tmod r3.N) 65536)])).length : Int).toNat) (0 : Int)).length : Int) - 1).toNat x2).set (0 : Int).toNat (-1))) wc (hwc.rs (f := Z5r) (s := 3) (xs := (r3.Arcs ++ ([(Arc.mk (v1.tmod r3.N) (v1.tmod r3.N) 65536)]))) (j := a6) (fun _ => rfl) mm7 (Z5h a4 rfl) a2 a3) (hwc.rs (f := (intC .i64)) (s := 1) (xs := (((List.replicate (((r3.Arcs ++ ([(Arc.mk (v1.tmod r3.N) (v1.tmod r3.N) 65536)])).length : Int).toNat) (0 : Int)).set (((List.replicate (((r3.Arcs ++ ([(Arc.mk (v1.tmod r3.N) (v1.tmod r3.N) 65536)])).length : Int).toNat) (0 : Int)).length : Int) - 1).toNat x2).set (0 : Int).toNat (-1))) (j := ([])) (fun _ => rfl) mm2 (List.length_set.trans (List.length_set.trans List.length_replicate)) (Nat.le_refl _) Z52) g8) ?_; rintro _ _ ⟨k3, r7, r8, r9, rfl, rfl, k4, k5, k6, k7⟩; refine Z05 rfl rfl rfl rfl ?_; refine TO.extract rfl rfl rfl rfl rfl ?_; refine TO.extract rfl rfl rfl rfl rfl ?_; refine TO.extract rfl rfl rfl rfl rfl ?_; refine Z06 rfl rfl rfl rfl ?_; refine Z06 rfl rfl rfl rfl ?_; refine Z06 rfl rfl rfl rfl ?_; refine Z04 ?_; refine Z01 ?_; refine Z0l (Z00 (t := 19) rfl (Z00 (t := 21) rfl (Z00 (t := 24) rfl Z07))) ?_; refine Z0b ?_; rcases Z0g H with ⟨a7, H⟩ | ⟨a7, H⟩
           ·
            rcases Z0g H with ⟨b5, H⟩ | ⟨b5, H⟩
            ·
             rcases Z0g H with ⟨c4, H⟩ | ⟨c4, H⟩
             · obtain ⟨s5, g9, H⟩ := Z0k H; refine Z03 (ll := [0, 1, 2, 3, 4, 5, 6, 7, 8, 9, 10, 11, 12, 13]) rfl ?_; refine Z05 rfl rfl rfl rfl ?_; refine TO.not rfl rfl rfl rfl ?_; refine Z05 rfl rfl rfl rfl ?_; refine Z0m (t := 155) (b' := true) rfl a7 ?_; refine Z05 rfl rfl rfl rfl ?_; refine Z0q rfl rfl rfl rfl rfl rfl ?_; refine Z0u rfl rfl rfl rfl rfl ?_; refine Z05 rfl rfl rfl rfl ?_; refine Z0m (t := 159) (b' := true) rfl (decide_eq_true b5) ?_; refine Z05 rfl rfl rfl rfl ?_; refine Z0q rfl rfl rfl rfl rfl rfl ?_; refine Z0u rfl rfl rfl rfl rfl ?_; refine Z05 rfl rfl rfl rfl ?_; refine Z0m (t := 163) (b' := true) rfl (decide_eq_true c4) ?_; refine Z0n Z7n rfl rfl rfl rfl (fun wc hwc => Z6m  wc  g9) ?_; rintro _ _ ⟨rfl, rfl⟩; refine Z0u rfl rfl rfl rfl rfl ?_; refine Z06 rfl rfl rfl rfl ?_; refine Z04 ?_; refine Z01 ?_; refine Z0l (Z00 (t := 6) rfl Z07) ?_; refine T.ret ?_; obtain rfl := ret1 H; exact Z0t rfl rfl rfl rfl (Res.tmp rfl) Z08 ⟨rfl, rfl⟩
             · refine Z03 (ll := [0, 1, 2, 3, 4, 5, 6, 7, 8, 9, 10, 11, 12, 13]) rfl ?_; refine Z05 rfl rfl rfl rfl ?_; refine TO.not rfl rfl rfl rfl ?_; refine Z05 rfl rfl rfl rfl ?_; refine Z0m (t := 155) (b' := true) rfl a7 ?_; refine Z05 rfl rfl rfl rfl ?_; refine Z0q rfl rfl rfl rfl rfl rfl ?_; refine Z0u rfl rfl rfl rfl rfl ?_; refine Z05 rfl rfl rfl rfl ?_; refine Z0m (t := 159) (b' := true) rfl (decide_eq_true b5) ?_; refine Z05 rfl rfl rfl rfl ?_; refine Z0q rfl rfl rfl rfl rfl rfl ?_; refine Z0u rfl rfl rfl rfl rfl ?_; refine Z05 rfl rfl rfl rfl ?_; refine Z0m (t := 163) (b' := false) rfl (decide_eq_false c4) ?_; refine Z0c rfl rfl rfl rfl ?_; refine Z0v rfl rfl rfl rfl rfl ?_; refine Z06 rfl rfl rfl rfl ?_; refine Z04 ?_; refine Z01 ?_; refine Z0l (Z00 (t := 6) rfl Z07) ?_; refine T.ret ?_; obtain rfl := ret1 H; exact Z0t rfl rfl rfl rfl (Res.tmp rfl) Z08 ⟨rfl, rfl⟩
            · refine Z03 (ll := [0, 1, 2, 3, 4, 5, 6, 7, 8, 9, 10, 11, 12, 13]) rfl ?_; refine Z05 rfl rfl rfl rfl ?_; refine TO.not rfl rfl rfl rfl ?_; refine Z05 rfl rfl rfl rfl ?_; refine Z0m (t := 155) (b' := true) rfl a7 ?_; refine Z05 rfl rfl rfl rfl ?_; refine Z0q rfl rfl rfl rfl rfl rfl ?_; refine Z0u rfl rfl rfl rfl rfl ?_; refine Z05 rfl rfl rfl rfl ?_; refine Z0m (t := 159) (b' := false) rfl (decide_eq_false b5) ?_; refine Z0c rfl rfl rfl rfl ?_; refine Z0c rfl rfl rfl rfl ?_; refine Z0v rfl rfl rfl rfl rfl ?_; refine Z05 rfl rfl rfl rfl ?_; refine Z0c rfl rfl rfl rfl ?_; refine Z0v rfl rfl rfl rfl rfl ?_; refine Z06 rfl rfl rfl rfl ?_; refine Z04 ?_; refine Z01 ?_; refine Z0l (Z00 (t := 6) rfl Z07) ?_; refine T.ret ?_; obtain rfl := ret1 H; exact Z0t rfl rfl rfl rfl (Res.tmp rfl) Z08 ⟨rfl, rfl⟩
           · refine Z03 (ll := [0, 1, 2, 3, 4, 5, 6, 7, 8, 9, 10, 11, 12, 13]) rfl ?_; refine Z05 rfl rfl rfl rfl ?_; refine TO.not rfl rfl rfl rfl ?_; refine Z05 rfl rfl rfl rfl ?_; refine Z0m (t := 155) (b' := false) rfl (Bool.eq_false_iff.2 a7) ?_; refine Z0c rfl rfl rfl rfl ?_; refine Z0c rfl rfl rfl rfl ?_; refine Z0v rfl rfl rfl rfl rfl ?_; refine Z05 rfl rfl rfl rfl ?_; refine Z0c rfl rfl rfl rfl ?_; refine Z0c rfl rfl rfl rfl ?_; refine Z0v rfl rfl rfl rfl rfl ?_; refine Z05 rfl rfl rfl rfl ?_; refine Z0c rfl rfl rfl rfl ?_; refine Z0v rfl rfl rfl rfl rfl ?_; refine Z06 rfl rfl rfl rfl ?_; refine Z04 ?_; refine Z01 ?_; refine Z0l (Z00 (t := 6) rfl Z07) ?_; refine T.ret ?_; obtain rfl := ret1 H; exact Z0t rfl rfl rfl rfl (Res.tmp rfl) Z08 ⟨rfl, rfl⟩
         ·
          refine Z05 rfl rfl rfl rfl ?_; refine Z0m (t := 119) (b' := false) rfl (Bool.eq_false_iff.2 e1) ?_; refine Z05 rfl rfl rfl rfl ?_; refine Z0q rfl rfl rfl rfl rfl rfl ?_; refine Z05 rfl rfl rfl rfl ?_; refine Z0m (t := 122) (b' := false) rfl (decide_eq_false g4) ?_; refine Z0c rfl rfl rfl rfl ?_; refine Z0c rfl rfl rfl rfl ?_; refine Z0c rfl rfl rfl rfl ?_; refine Z0c rfl rfl rfl rfl ?_; refine Z0c rfl rfl rfl rfl ?_; refine Z0c rfl rfl rfl rfl ?_; refine Z0c rfl rfl rfl rfl ?_; refine Z0v rfl rfl rfl rfl rfl ?_; refine Z0v rfl rfl rfl rfl rfl ?_; refine Z04 ?_; refine Z01 ?_; refine Z0l (Z00 (t := 3) rfl (Z00 (t := 8) rfl (Z00 (t := 131) rfl Z07))) ?_; refine Z3j rfl rfl ?_; refine T.skip ?_; refine Z01 ?_; refine Z0b ?_; obtain ⟨d9, H⟩ := Z0d H; refine Z03 (ll := [0, 1, 2]) rfl ?_; refine Z05 rfl rfl rfl rfl ?_; refine Z8z (List.length_set.trans List.length_replicate) d9 rfl rfl rfl rfl rfl Z1g Z29 ?_; refine Zaq d9 rfl rfl rfl rfl tk2 Z29 ?_; refine Z04 ?_; refine Z01 ?_; refine Z0b ?_; obtain ⟨⟨s6, s7⟩, h0, H⟩ := Z0k H; refine Z03 (ll := [0, 1, 2, 3, 4, 5, 6, 7]) rfl ?_; refine Z11 rfl rfl rfl rfl Z1h mm3 rfl ?_; refine Z05 rfl rfl rfl rfl ?_; refine Z0n Z67 rfl rfl rfl rfl (fun wc hwc => Z6f (n0 := (Net.mk r3.N r3.S r3.T (r3.Arcs ++ ([(Arc.mk (v1.tmod r3.N) (v1.tmod r3.N) 65536)])))) (f1 := (((List.replicate (((r3.Arcs ++ ([(Arc.mk (v1.tmod r3.N) (v1.tmod r3.N) 65536)])).length : Int).toNat) (0 : Int)).set (((List.replicate (((r3.Arcs ++ ([(Arc.mk (v1.tmod r3.N) (v1.tmod r3.N) 65536)])).length : Int).toNat) (0 : Int)).length : Int) - 1).toNat x2).set (0 : Int).toNat (-1))) wc (hwc.rs (f := Z5r) (s := 3) (xs := (r3.Arcs ++ ([(Arc.mk (v1.tmod r3.N) (v1.tmod r3.N) 65536)]))) (j := a6) (fun _ => rfl) mm4 (Z5h a4 rfl) a2 a3) (hwc.rs (f := (intC .i64)) (s := 1) (xs := (((List.replicate (((r3.Arcs ++ ([(Arc.mk (v1.tmod r3.N) (v1.tmod r3.N) 65536)])).length : Int).toNat) (0 : Int)).set (((List.replicate (((r3.Arcs ++ ([(Arc.mk (v1.tmod r3.N) (v1.tmod r3.N) 65536)])).length : Int).toNat) (0 : Int)).length : Int) - 1).toNat x2).set (0 : Int).toNat (-1))) (j := ([])) (fun _ => rfl) mm0 (List.length_set.trans (List.length_set.trans List.length_replicate)) (Nat.le_refl _) Z52) h0) ?_; rintro _ _ ⟨k8, s8, s9, t0, rfl, rfl, k9, l0, l1, l3⟩; refine Z05 rfl rfl rfl rfl ?_; refine TO.extract rfl rfl rfl rfl rfl ?_; refine TO.extract rfl rfl rfl rfl rfl ?_; refine Z06 rfl rfl rfl rfl ?_; refine Z06 rfl rfl rfl rfl ?_; refine Z04 ?_; refine Z01 ?_; refine Z0l (Z00 (t := 3) rfl (Z00 (t := 8) rfl (Z00 (t := 19) rfl Z07))) ?_; refine Z0b ?_; obtain ⟨⟨t1, t2⟩, h1, H⟩ := Z0k H; refine Z03 (ll := [0, 1, 2, 3, 4, 5, 6, 7]) rfl ?_; refine Z11 rfl rfl rfl rfl Z1h mm4 rfl ?_; refine Z05 rfl rfl rfl rfl ?_; refine Z0n Z68 rfl rfl rfl rfl (fun wc hwc => Z6q (n0 := (Net.mk r3.N r3.S r3.T (r3.Arcs ++ ([(Arc.mk (v1.tmod r3.N) (v1.tmod r3.N) 65536)])))) (f1 := (((List.replicate (((r3.Arcs ++ ([(Arc.mk (v1.tmod r3.N) (v1.tmod r3.N) 65536)])).length : Int).toNat) (0 : Int)).set (((List.replicate (((r3.Arcs ++ ([(Arc.mk (v1.tmod r3.N) (v1.tmod r3.N) 65536)])).length : Int).toNat) (0 : Int)).length : Int) - 1).toNat x2).set (0 : Int).toNat (-1))) wc (hwc.rs (f := Z5r) (s := 3) (xs := (r3.Arcs ++ ([(Arc.mk (v1.tmod r3.N) (v1.tmod r3.N) 65536)]))) (j := a6) (fun _ => rfl) mm5 (Z5h a4 rfl) a2 a3) (hwc.rs (f := (intC .i64)) (s := 1) (xs := (((List.replicate (((r3.Arcs ++ ([(Arc.mk (v1.tmod r3.N) (v1.tmod r3.N) 65536)])).length : Int).toNat) (0 : Int)).set (((List.replicate (((r3.Arcs ++ ([(Arc.mk (v1.tmod r3.N) (v1.tmod r3.N) 65536)])).length : Int).toNat) (0 : Int)).length : Int) - 1).toNat x2).set (0 : Int).toNat (-1))) (j := ([])) (fun _ => rfl) mm1 (List.length_set.trans (List.length_set.trans List.length_replicate)) (Nat.le_refl _) Z52) h1) ?_; rintro _ _ ⟨l4, t3, t4, l5, l6, t5, t6, t7, rfl, rfl, l7, l8, l9, m0, m1⟩; refine Z05 rfl rfl rfl rfl ?_; refine TO.extract rfl rfl rfl rfl rfl ?_; refine TO.extract rfl rfl rfl rfl rfl ?_; refine Z06 rfl rfl rfl rfl ?_; refine Z06 rfl rfl rfl rfl ?_; refine Z04 ?_; refine Z01 ?_; refine Z0b ?_; obtain ⟨⟨t8, t9, u0⟩, h2, H⟩ := Z0k H; refine Z03 (ll := [0, 1, 2, 3, 4, 5, 6, 7, 8, 9]) rfl ?_; refine Z11 rfl rfl rfl rfl Z1h mm5 rfl ?_; refine Z05 rfl rfl rfl rfl ?_; refine Z0n Z66 rfl rfl rfl rfl (fun wc hwc => Z5y (n0 := (Net.mk r3.N r3.S r3.T (r3.Arcs ++ ([(Arc.mk (v1.tmod r3.N) (v1.tmod r3.N) 65536)])))) (f1 := (((List.replicate (((r3.Arcs ++ ([(Arc.mk (v1.tmod r3.N) (v1.tmod r3.N) 65536)])).length : Int).toNat) (0 : Int)).set (((List.replicate (((r3.Arcs ++ ([(Arc.mk (v1.tmod r3.N) (v1.tmod r3.N) 65536)])).length : Int).toNat) (0 : Int)).length : Int) - 1).toNat x2).set (0 : Int).toNat (-1))) wc (hwc.rs (f := Z5r) (s := 3) (xs := (r3.Arcs ++ ([(Arc.mk (v1.tmod r3.N) (v1.tmod r3.N) 65536)]))) (j := a6) (fun _ => rfl) mm6 (Z5h a4 rfl) a2 a3) (hwc.rs (f := (intC .i64)) (s := 1) (xs := (((List.replicate (((r3.Arcs ++ ([(Arc.mk (v1.tmod r3.N) (v1.tmod r3.N) 65536)])).length : Int).toNat) (0 : Int)).set (((List.replicate (((r3.Arcs ++ ([(Arc.mk (v1.tmod r3.N) (v1.tmod r3.N) 65536)])).length : Int).toNat) (0 : Int)).length : Int) - 1).toNat x2).set (0 : Int).toNat (-1))) (j := ([])) (fun _ => rfl) mm2 (List.length_set.trans (List.length_set.trans List.length_replicate)) (Nat.le_refl _) Z52) h2) ?_; rintro _ _ ⟨m2, u1, u2, u3, rfl, rfl, m3, m4, m5, m6⟩; refine Z05 rfl rfl rfl rfl ?_; refine TO.extract rfl rfl rfl rfl rfl ?_; refine TO.extract rfl rfl rfl rfl rfl ?_; refine TO.extract rfl rfl rfl rfl rfl ?_; refine Z06 rfl rfl rfl rfl ?_; refine Z06 rfl rfl rfl rfl ?_; refine Z06 rfl rfl rfl rfl ?_; refine Z04 ?_; refine Z01 ?_; refine Z0l (Z00 (t := 19) rfl (Z00 (t := 21) rfl (Z00 (t := 24) rfl Z07))) ?_; refine Z0b ?_; rcases Z0g H with ⟨a8, H⟩ | ⟨a8, H⟩
          ·
           rcases Z0g H with ⟨b6, H⟩ | ⟨b6, H⟩
           ·
            rcases Z0g H with ⟨c8, H⟩ | ⟨c8, H⟩
            · obtain ⟨u5, h3, H⟩ := Z0k H; refine Z03 (ll := [0, 1, 2, 3, 4, 5, 6, 7, 8, 9, 10, 11, 12, 13]) rfl ?_; refine Z05 rfl rfl rfl rfl ?_; refine TO.not rfl rfl rfl rfl ?_; refine Z05 rfl rfl rfl rfl ?_; refine Z0m (t := 155) (b' := true) rfl a8 ?_; refine Z05 rfl rfl rfl rfl ?_; refine Z0q rfl rfl rfl rfl rfl rfl ?_; refine Z0u rfl rfl rfl rfl rfl ?_; refine Z05 rfl rfl rfl rfl ?_; refine Z0m (t := 159) (b' := true) rfl (decide_eq_true b6) ?_; refine Z05 rfl rfl rfl rfl ?_; refine Z0q rfl rfl rfl rfl rfl rfl ?_; refine Z0u rfl rfl rfl rfl rfl ?_; refine Z05 rfl rfl rfl rfl ?_; refine Z0m (t := 163) (b' := true) rfl (decide_eq_true c8) ?_; refine Z0n Z7n rfl rfl rfl rfl (fun wc hwc => Z6m  wc  h3) ?_; rintro _ _ ⟨rfl, rfl⟩; refine Z0u rfl rfl rfl rfl rfl ?_; refine Z06 rfl rfl rfl rfl ?_; refine Z04 ?_; refine Z01 ?_; refine Z0l (Z00 (t := 6) rfl Z07) ?_; refine T.ret ?_; obtain rfl := ret1 H; exact Z0t rfl rfl rfl rfl (Res.tmp rfl) Z08 ⟨rfl, rfl⟩
            · refine Z03 (ll := [0, 1, 2, 3, 4, 5, 6, 7, 8, 9, 10, 11, 12, 13]) rfl ?_; refine Z05 rfl rfl rfl rfl ?_; refine TO.not rfl rfl rfl rfl ?_; refine Z05 rfl rfl rfl rfl ?_; refine Z0m (t := 155) (b' := true) rfl a8 ?_; refine Z05 rfl rfl rfl rfl ?_; refine Z0q rfl rfl rfl rfl rfl rfl ?_; refine Z0u rfl rfl rfl rfl rfl ?_; refine Z05 rfl rfl rfl rfl ?_; refine Z0m (t := 159) (b' := true) rfl (decide_eq_true b6) ?_; refine Z05 rfl rfl rfl rfl ?_; refine Z0q rfl rfl rfl rfl rfl rfl ?_; refine Z0u rfl rfl rfl rfl rfl ?_; refine Z05 rfl rfl rfl rfl ?_; refine Z0m (t := 163) (b' := false) rfl (decide_eq_false c8) ?_; refine Z0c rfl rfl rfl rfl ?_; refine Z0v rfl rfl rfl rfl rfl ?_; refine Z06 rfl rfl rfl rfl ?_; refine Z04 ?_; refine Z01 ?_; refine Z0l (Z00 (t := 6) rfl Z07) ?_; refine T.ret ?_; obtain rfl := ret1 H; exact Z0t rfl rfl rfl rfl (Res.tmp rfl) Z08 ⟨rfl, rfl⟩
           · refine Z03 (ll := [0, 1, 2, 3, 4, 5, 6, 7, 8, 9, 10, 11, 12, 13]) rfl ?_; refine Z05 rfl rfl rfl rfl ?_; refine TO.not rfl rfl rfl rfl ?_; refine Z05 rfl rfl rfl rfl ?_; refine Z0m (t := 155) (b' := true) rfl a8 ?_; refine Z05 rfl rfl rfl rfl ?_; refine Z0q rfl rfl rfl rfl rfl rfl ?_; refine Z0u rfl rfl rfl rfl rfl ?_; refine Z05 rfl rfl rfl rfl ?_; refine Z0m (t := 159) (b' := false) rfl (decide_eq_false b6) ?_; refine Z0c rfl rfl rfl rfl ?_; refine Z0c rfl rfl rfl rfl ?_; refine Z0v rfl rfl rfl rfl rfl ?_; refine Z05 rfl rfl rfl rfl ?_; refine Z0c rfl rfl rfl rfl ?_; refine Z0v rfl rfl rfl rfl rfl ?_; refine Z06 rfl rfl rfl rfl ?_; refine Z04 ?_; refine Z01 ?_; refine Z0l (Z00 (t := 6) rfl Z07) ?_; refine T.ret ?_; obtain rfl := ret1 H; exact Z0t rfl rfl rfl rfl (Res.tmp rfl) Z08 ⟨rfl, rfl⟩
          · refine Z03 (ll := [0, 1, 2, 3, 4, 5, 6, 7, 8, 9, 10, 11, 12, 13]) rfl ?_; refine Z05 rfl rfl rfl rfl ?_; refine TO.not rfl rfl rfl rfl ?_; refine Z05 rfl rfl rfl rfl ?_; refine Z0m (t := 155) (b' := false) rfl (Bool.eq_false_iff.2 a8) ?_; refine Z0c rfl rfl rfl rfl ?_; refine Z0c rfl rfl rfl rfl ?_; refine Z0v rfl rfl rfl rfl rfl ?_; refine Z05 rfl rfl rfl rfl ?_; refine Z0c rfl rfl rfl rfl ?_; refine Z0c rfl rfl rfl rfl ?_; refine Z0v rfl rfl rfl rfl rfl ?_; refine Z05 rfl rfl rfl rfl ?_; refine Z0c rfl rfl rfl rfl ?_; refine Z0v rfl rfl rfl rfl rfl ?_; refine Z06 rfl rfl rfl rfl ?_; refine Z04 ?_; refine Z01 ?_; refine Z0l (Z00 (t := 6) rfl Z07) ?_; refine T.ret ?_; obtain rfl := ret1 H; exact Z0t rfl rfl rfl rfl (Res.tmp rfl) Z08 ⟨rfl, rfl⟩
end Go.Proofs.Ytfdhelnfgfaeaaa.Ax
namespace Go.Acq
open Go
def hit (a : Arc) (v : Nat) : Nat := if a.fr = a.to then 0 else if a.fr = v ∨ a.to = v then 1 else 0
def cnt (al : List Arc) (v : Nat) : Nat → Nat
  | 0 => 0
  | k + 1 => cnt al v k + hit (al.getD k default) v
def Z1w (al : List Arc) : Nat → Nat
  | 0 => 0
  | v + 1 => Z1w al v + cnt al v al.length
def vtx (a : Arc) (s : Bool) : Int := if s then a.to else a.fr
def pos (al : List Arc) (i : Nat) (s : Bool) : Nat := Z1w al (vtx (al.getD i default) s).toNat + cnt al (vtx (al.getD i default) s).toNat i
def Z7j (n : Nat) (al : List Arc) : Prop := ∀ i, i < al.length → ∀ s, 0 ≤ vtx (al.getD i default) s ∧ vtx (al.getD i default) s < n
theorem Zdq {α : Type} (xs : List α) (i j : Nat) (v d : α) : (xs.set i v).getD j d = if i = j ∧ i < xs.length then v else xs.getD j d := by
 rw [List.getD_eq_getElem?_getD, List.getD_eq_getElem?_getD, List.getElem?_set]
 split
 ·
  rename_i h; subst h
  split
  · rename_i h2; simp [h2]
  · rename_i h2; simp [h2]
 · rename_i h; simp [h]
theorem Z3z {α : Type} {xs : List α} {i j : Nat} {v d : α} (h : i ≠ j) : (xs.set i v).getD j d = xs.getD j d := by
 rw [Zdq, if_neg (fun e => h e.1)]
theorem Z5n {α : Type} {xs : List α} {i : Nat} {v d : α} (h : i < xs.length) : (xs.set i v).getD i d = v := by
 rw [Zdq, if_pos ⟨rfl, h⟩]
theorem Z2d {α : Type} (n j : Nat) (v : α) : (List.replicate n v).getD j v = v := by
 rw [List.getD_eq_getElem?_getD, List.getElem?_replicate]; split <;> simp
theorem hit_le (a : Arc) (v : Nat) : hit a v ≤ 1 := by unfold hit; split; omega; split <;> omega
theorem cnt_mono {al : List Arc} {v i j : Nat} (h : i ≤ j) : cnt al v i ≤ cnt al v j := by
 induction h with
 | refl => exact Nat.le_refl _
 | step _ ih => exact Nat.le_trans ih (Nat.le_add_right _ _)
theorem Z9l {al : List Arc} {u v : Nat} (h : u ≤ v) : Z1w al u ≤ Z1w al v := by
 induction h with
 | refl => exact Nat.le_refl _
 | step _ ih => exact Nat.le_trans ih (Nat.le_add_right _ _)
theorem hit_vtx {a : Arc} {s : Bool} (h : a.fr ≠ a.to) (h0 : 0 ≤ vtx a s) : hit a (vtx a s).toNat = 1 := by
 unfold hit; rw [if_neg h, if_pos]
 cases s
 · left; simp only [vtx] at h0 ⊢; simp only [Bool.false_eq_true, if_false] at h0 ⊢; omega
 · right; simp only [vtx] at h0 ⊢; simp only [if_true] at h0 ⊢; omega
theorem Zdu {al : List Arc} {i j : Nat} {s : Bool} (hij : i < j) (h : (al.getD i default).fr ≠ (al.getD i default).to) (h0 : 0 ≤ vtx (al.getD i default) s) :
    cnt al (vtx (al.getD i default) s).toNat i < cnt al (vtx (al.getD i default) s).toNat j := by
  have h1 := cnt_mono (al := al) (v := (vtx (al.getD i default) s).toNat) (i := i + 1) (j := j) hij
  have h2 := hit_vtx h h0
  simp only [cnt] at h1
  omega
theorem pos_lt {al : List Arc} {n i : Nat} {s : Bool} (hi : i < al.length) (h : (al.getD i default).fr ≠ (al.getD i default).to) (he : Z7j n al) : pos al i s < Z1w al n := by
 have h1 := Zdu (s := s) hi h (he i hi s).1
 have h2 := Z9l (al := al) (u := (vtx (al.getD i default) s).toNat + 1) (v := n) (by have := he i hi s; omega)
 simp only [Z1w] at h2
 unfold pos; omega
theorem Zef {al : List Arc} {n i j : Nat} {s t : Bool} (he : Z7j n al) (hi : i < al.length) (hj : j < al.length) (h : (al.getD i default).fr ≠ (al.getD i default).to) (g : (al.getD j default).fr ≠ (al.getD j default).to)
    (e : pos al i s = pos al j t) : i = j ∧ s = t := by
  have hi1 := Zdu (s := s) hi h (he i hi s).1
  have hj1 := Zdu (s := t) hj g (he j hj t).1
  have hv : (vtx (al.getD i default) s).toNat = (vtx (al.getD j default) t).toNat := by
    rcases Nat.lt_trichotomy (vtx (al.getD i default) s).toNat (vtx (al.getD j default) t).toNat with h1 | h1 | h1
    · have := Z9l (al := al) (u := (vtx (al.getD i default) s).toNat + 1) h1
      simp only [Z1w] at this
      unfold pos at e; omega
    · exact h1
    · have := Z9l (al := al) (u := (vtx (al.getD j default) t).toNat + 1) h1
      simp only [Z1w] at this
      unfold pos at e; omega
  have hij : i = j := by
    rcases Nat.lt_trichotomy i j with h1 | h1 | h1
    · have h2 := Zdu (s := s) h1 h (he i hi s).1
      unfold pos at e; rw [hv] at e h2; omega
    · exact h1
    · have h2 := Zdu (s := t) h1 g (he j hj t).1
      unfold pos at e; rw [hv] at e; omega
  refine ⟨hij, ?_⟩
  subst hij
  have h1 := (he i hi s).1
  have h2 := (he i hi t).1
  cases s <;> cases t <;> first | rfl | (simp only [vtx, Bool.false_eq_true, if_false, if_true] at hv h1 h2; omega)
theorem Zex {al : List Arc} {v r : Nat} : ∀ {k : Nat}, r < cnt al v k → ∃ i, i < k ∧ cnt al v i = r ∧ hit (al.getD i default) v = 1
 | 0, h => by simp [cnt] at h
 | k + 1, h => by
  by_cases h1 : r < cnt al v k
  · obtain ⟨i, h2, h3⟩ := Zex h1; exact ⟨i, by omega, h3⟩
  ·
   have := hit_le (al.getD k default) v
   simp only [cnt] at h
   exact ⟨k, by omega, by omega, by omega⟩
theorem Zbh {al : List Arc} {p : Nat} : ∀ {n : Nat}, p < Z1w al n → ∃ v, v < n ∧ Z1w al v ≤ p ∧ p < Z1w al (v + 1)
 | 0, h => by simp [Z1w] at h
 | n + 1, h => by
  by_cases h1 : p < Z1w al n
  · obtain ⟨v, h2, h3⟩ := Zbh h1; exact ⟨v, by omega, h3⟩
  · exact ⟨n, by omega, by omega, h⟩
theorem pos_surj {al : List Arc} {n p : Nat} (h : p < Z1w al n) : ∃ i s, i < al.length ∧ (al.getD i default).fr ≠ (al.getD i default).to ∧ pos al i s = p ∧ 0 ≤ vtx (al.getD i default) s ∧ vtx (al.getD i default) s < n ∧
    Z1w al (vtx (al.getD i default) s).toNat ≤ p ∧ p < Z1w al ((vtx (al.getD i default) s).toNat + 1) := by
  obtain ⟨v, hv, h1, h2⟩ := Zbh h
  simp only [Z1w] at h2
  obtain ⟨i, hi, h3, h4⟩ := Zex (al := al) (v := v) (r := p - Z1w al v) (k := al.length) (by omega)
  unfold hit at h4
  split at h4
  · omega
  · rename_i hne
    split at h4
    · rename_i ho
      rcases ho with ho | ho
      · refine ⟨i, false, hi, hne, ?_, ?_, ?_, ?_, ?_⟩ <;> simp only [pos, vtx, Bool.false_eq_true, if_false, ho, Int.toNat_natCast, Z1w] <;> omega
      · refine ⟨i, true, hi, hne, ?_, ?_, ?_, ?_, ?_⟩ <;> simp only [pos, vtx, if_true, ho, Int.toNat_natCast, Z1w] <;> omega
    · omega
def CsrAt (al : List Arc) (hs rs cs aa : List Int) (bs : List Bool) (k : Nat) : Prop :=
  ∀ i, i < k → (al.getD i default).fr ≠ (al.getD i default).to → ∀ s,
    hs.getD (pos al i s) 0 = vtx (al.getD i default) (!s) ∧ rs.getD (pos al i s) 0 = pos al i (!s) ∧ cs.getD (pos al i s) 0 = (if s then 0 else (al.getD i default).cap) ∧
    aa.getD (pos al i s) 0 = i ∧ bs.getD (pos al i s) false = s
structure CsrOK (al : List Arc) (n : Nat) (fs hs rs cs aa : List Int) (bs : List Bool) : Prop where
  lf : fs.length = n + 1
  lh : hs.length = Z1w al n
  lr : rs.length = Z1w al n
  lc : cs.length = Z1w al n
  la : aa.length = Z1w al n
  lb : bs.length = Z1w al n
  hf : ∀ v, v ≤ n → fs.getD v 0 = Z1w al v
  hat : CsrAt al hs rs cs aa bs al.length
theorem CsrAt.skip {al : List Arc} {hs rs cs aa : List Int} {bs : List Bool} {k : Nat} (h : CsrAt al hs rs cs aa bs k) (e : (al.getD k default).fr = (al.getD k default).to) : CsrAt al hs rs cs aa bs (k + 1) := by
 intro i hi hne s
 rcases Nat.lt_succ_iff_lt_or_eq.1 hi with h1 | h1
 · exact h i h1 hne s
 · subst h1; exact absurd e hne
theorem set2 {α : Type} {xs : List α} {p q j : Nat} {u v d : α} (hp : p < xs.length) (hq : q < xs.length) (hpq : p ≠ q) :
    ((xs.set p u).set q v).getD j d = if j = p then u else if j = q then v else xs.getD j d := by
  rw [Zdq, Zdq]
  by_cases h1 : j = p
  · subst h1; rw [if_pos rfl, if_neg (fun e => hpq e.1.symm), if_pos ⟨rfl, hp⟩]
  · rw [if_neg h1]
    by_cases h2 : j = q
    · subst h2; rw [if_pos rfl, if_pos ⟨rfl, by simpa using hq⟩]
    · rw [if_neg h2, if_neg (fun e => h2 e.1.symm), if_neg (fun e => h1 e.1.symm)]
theorem CsrAt.put {al : List Arc} {n : Nat} {hs rs cs aa : List Int} {bs : List Bool} {k : Nat} (h : CsrAt al hs rs cs aa bs k) (he : Z7j n al) (hk : k < al.length) (hne : (al.getD k default).fr ≠ (al.getD k default).to)
    (lh : hs.length = Z1w al n) (lr : rs.length = Z1w al n) (lc : cs.length = Z1w al n) (la : aa.length = Z1w al n) (lb : bs.length = Z1w al n) :
    CsrAt al ((hs.set (pos al k false) (al.getD k default).to).set (pos al k true) (al.getD k default).fr) ((rs.set (pos al k false) (pos al k true)).set (pos al k true) (pos al k false))
      ((cs.set (pos al k false) (al.getD k default).cap).set (pos al k true) 0) ((aa.set (pos al k false) k).set (pos al k true) k) ((bs.set (pos al k false) false).set (pos al k true) true) (k + 1) := by
  have hp : pos al k false < Z1w al n := pos_lt hk hne he
  have hq : pos al k true < Z1w al n := pos_lt hk hne he
  have hpq : pos al k false ≠ pos al k true := fun e => by have := (Zef he hk hk hne hne e).2; cases this
  intro i hi hni s
  have hil : i < al.length := by omega
  rw [set2 (by omega) (by omega) hpq, set2 (by omega) (by omega) hpq, set2 (by omega) (by omega) hpq, set2 (by omega) (by omega) hpq, set2 (by omega) (by omega) hpq]
  by_cases hik : i = k
  · subst hik
    cases s
    · simp [vtx]
    · simp [vtx, hpq.symm]
  · have h1 : pos al i s ≠ pos al k false := fun e => hik (Zef he hil hk hni hne e).1
    have h2 : pos al i s ≠ pos al k true := fun e => hik (Zef he hil hk hni hne e).1
    simp only [if_neg h1, if_neg h2]
    exact h i (by omega) hni s
def Counted (al : List Arc) (m k : Nat) (fs : List Int) : Prop := fs.length = m + 1 ∧ fs.getD 0 0 = 0 ∧ ∀ v : Int, 0 ≤ v → v < m → fs.getD (v + 1).toNat 0 = cnt al v.toNat k
def Summed (al : List Arc) (m k : Nat) (fs : List Int) : Prop := fs.length = m + 1 ∧ (∀ u, u ≤ k → fs.getD u 0 = Z1w al u) ∧ ∀ u, k ≤ u → u < m → fs.getD (u + 1) 0 = cnt al u al.length
theorem Counted.start (al : List Arc) (m : Nat) {p : Nat} (h : p = m + 1) : Counted al m 0 (List.replicate p 0) :=
 ⟨by simp [h], Z2d _ _ _, fun v _ _ => by rw [Z2d]; rfl⟩
theorem Counted.skip {al : List Arc} {m k : Nat} {fs : List Int} (h : Counted al m k fs) (e : (al.getD k default).fr = (al.getD k default).to) : Counted al m (k + 1) fs :=
 ⟨h.1, h.2.1, fun v h0 h1 => by rw [h.2.2 v h0 h1]; simp only [cnt, hit, if_pos e, Nat.add_zero]⟩
theorem Counted.put {al : List Arc} {m k : Nat} {fs : List Int} (h : Counted al m k fs) (he : Z7j m al) (hk : k < al.length) (hne : (al.getD k default).fr ≠ (al.getD k default).to) :
    Counted al m (k + 1) ((fs.set ((al.getD k default).fr + 1).toNat (fs.getD ((al.getD k default).fr + 1).toNat 0 + 1)).set ((al.getD k default).to + 1).toNat
      ((fs.set ((al.getD k default).fr + 1).toNat (fs.getD ((al.getD k default).fr + 1).toNat 0 + 1)).getD ((al.getD k default).to + 1).toNat 0 + 1)) := by
  have e0 := he k hk false
  have e1 := he k hk true
  simp only [vtx, Bool.false_eq_true, if_false, if_true] at e0 e1
  obtain ⟨hl, hz, hv⟩ := h
  refine ⟨by simpa using hl, ?_, ?_⟩
  · rw [Z3z (by omega), Z3z (by omega)]; exact hz
  · intro v h0 h1
    have hvv := hv v h0 h1
    rw [Z3z (i := ((al.getD k default).fr + 1).toNat) (j := ((al.getD k default).to + 1).toNat) (by omega), set2 (by omega) (by omega) (by omega)]
    simp only [cnt, hit, if_neg hne]
    by_cases a1 : v = (al.getD k default).fr
    · rw [if_pos (by omega), if_pos (by omega), ← a1, hvv]; omega
    · rw [if_neg (by omega)]
      by_cases a2 : v = (al.getD k default).to
      · rw [if_pos (by omega), if_pos (by omega), ← a2, hvv]; omega
      · rw [if_neg (by omega), if_neg (by omega), hvv]; omega
theorem Summed.put {al : List Arc} {m k : Nat} {fs : List Int} (h : Summed al m k fs) (hk : k < m) {i : Nat} (hi : i = k + 1) : Summed al m (k + 1) (fs.set i (fs.getD i 0 + fs.getD k 0)) := by
 subst hi
 obtain ⟨hl, h1, h2⟩ := h
 refine ⟨by simpa using hl, fun u hu => ?_, fun u h3 h4 => ?_⟩
 ·
  by_cases e : u = k + 1
  · subst e; rw [Z5n (by omega), h1 k (Nat.le_refl _), h2 k (Nat.le_refl _) hk]; simp [Z1w]; omega
  · rw [Z3z (by omega)]; exact h1 u (by omega)
 · rw [Z3z (by omega)]; exact h2 u (by omega) h4
theorem Z78 {N S T : Int} {al : List Arc} (h : Z8g N S T al = 0) : (2 ≤ N ∧ N ≤ 4096) ∧ (al.length : Int) ≤ 16384 ∧ (Z4k N S = true ∧ Z4k N T = true ∧ S ≠ T) ∧ al.all (Z9i N) = true ∧ al.all Zgd = true ∧ (Zc0 4611686018427387904 al).isSome = true := by
 unfold Z8g at h
 split at h
 · omega
 ·
  rename_i h1
  split at h
  · omega
  ·
   rename_i h2
   split at h
   · omega
   ·
    rename_i h3
    split at h
    · omega
    ·
     rename_i h4
     split at h
     · omega
     ·
      rename_i h5
      split at h
      · omega
      ·
       rename_i h6
       refine ⟨Classical.not_not.1 h1, Classical.not_not.1 h2, Classical.not_not.1 h3, by simpa using h4, by simpa using h5, ?_⟩
       cases e : Zc0 4611686018427387904 al <;> simp_all
theorem Zgw {m : Nat} {al : List Arc} (h : al.all (Z9i (m : Int)) = true) : Z7j m al := by
 intro i hi s
 have h1 := List.all_eq_true.1 h _ (Z7i hi default)
 simp only [Z9i, Z4k, Bool.and_eq_true, decide_eq_true_eq] at h1
 cases s
 · simp only [vtx, Bool.false_eq_true, if_false]; exact h1.1
 · simp only [vtx, if_true]; exact h1.2
def MakeAt (al : List Arc) (m k : Nat) (nx hs rs cs aa : List Int) (bs : List Bool) : Prop :=
  (nx.length = m + 1 ∧ hs.length = Z1w al m ∧ rs.length = Z1w al m ∧ cs.length = Z1w al m ∧ aa.length = Z1w al m ∧ bs.length = Z1w al m) ∧
  CsrAt al hs rs cs aa bs k ∧ ∀ v : Int, 0 ≤ v → v < m → nx.getD v.toNat 0 = Z1w al v.toNat + cnt al v.toNat k
theorem MakeAt.start {al : List Arc} {m : Nat} {fs : List Int} (hl : fs.length = m + 1) (hf : ∀ u, u ≤ m → fs.getD u 0 = Z1w al u) :
    MakeAt al m 0 fs (List.replicate (Z1w al m) 0) (List.replicate (Z1w al m) 0) (List.replicate (Z1w al m) 0) (List.replicate (Z1w al m) 0) (List.replicate (Z1w al m) false) := by
  refine ⟨⟨hl, by simp, by simp, by simp, by simp, by simp⟩, fun i hi => by omega, fun v h0 h1 => ?_⟩
  rw [hf _ (by omega)]; simp [cnt]
theorem MakeAt.skip {al : List Arc} {m k : Nat} {nx hs rs cs aa : List Int} {bs : List Bool} (h : MakeAt al m k nx hs rs cs aa bs) (e : (al.getD k default).fr = (al.getD k default).to) : MakeAt al m (k + 1) nx hs rs cs aa bs :=
 ⟨h.1, h.2.1.skip e, fun v h0 h1 => by rw [h.2.2 v h0 h1]; simp only [cnt, hit, if_pos e, Nat.add_zero]⟩
theorem MakeAt.at {al : List Arc} {m k : Nat} {nx hs rs cs aa : List Int} {bs : List Bool} (h : MakeAt al m k nx hs rs cs aa bs) (he : Z7j m al) (hk : k < al.length) (s : Bool) : nx.getD (vtx (al.getD k default) s).toNat 0 = (pos al k s : Nat) := by
 rw [h.2.2 _ (he k hk s).1 (he k hk s).2]; simp only [pos]; omega
theorem MakeAt.put {al : List Arc} {m k : Nat} {nx hs rs cs aa : List Int} {bs : List Bool} (h : MakeAt al m k nx hs rs cs aa bs) (he : Z7j m al) (hk : k < al.length) (hne : (al.getD k default).fr ≠ (al.getD k default).to) :
    MakeAt al m (k + 1) ((nx.set (al.getD k default).fr.toNat ((pos al k false : Nat) + 1)).set (al.getD k default).to.toNat ((pos al k true : Nat) + 1))
      ((hs.set (pos al k false) (al.getD k default).to).set (pos al k true) (al.getD k default).fr) ((rs.set (pos al k false) (pos al k true)).set (pos al k true) (pos al k false))
      ((cs.set (pos al k false) (al.getD k default).cap).set (pos al k true) 0) ((aa.set (pos al k false) k).set (pos al k true) k) ((bs.set (pos al k false) false).set (pos al k true) true) := by
  have g0 := h.at he hk false
  have g1 := h.at he hk true
  obtain ⟨⟨l0, l1, l2, l3, l4, l5⟩, hA, hv⟩ := h
  have e0 := he k hk false
  have e1 := he k hk true
  simp only [vtx, Bool.false_eq_true, if_false, if_true] at e0 e1 g0 g1
  refine ⟨⟨by simpa using l0, by simpa using l1, by simpa using l2, by simpa using l3, by simpa using l4, by simpa using l5⟩, hA.put he hk hne l1 l2 l3 l4 l5, fun v h0 h1 => ?_⟩
  have hvv := hv v h0 h1
  rw [set2 (by omega) (by omega) (by omega)]
  simp only [cnt, hit, if_neg hne]
  by_cases a1 : v = (al.getD k default).fr
  · rw [if_pos (by omega), if_pos (by omega), ← g0, ← a1, hvv]; omega
  · rw [if_neg (by omega)]
    by_cases a2 : v = (al.getD k default).to
    · rw [if_pos (by omega), if_pos (by omega), ← g1, ← a2, hvv]; omega
    · rw [if_neg (by omega), if_neg (by omega), hvv]; omega
theorem MakeAt.done {al : List Arc} {m : Nat} {fs nx hs rs cs aa : List Int} {bs : List Bool} (h : MakeAt al m al.length nx hs rs cs aa bs) (hl : fs.length = m + 1) (hf : ∀ u, u ≤ m → fs.getD u 0 = Z1w al u) : CsrOK al m fs hs rs cs aa bs :=
 ⟨hl, h.1.2.1, h.1.2.2.1, h.1.2.2.2.1, h.1.2.2.2.2.1, h.1.2.2.2.2.2, hf, h.2.1⟩
end Go.Acq
namespace Go.Acq
open Go
theorem next_ne {S m : Int} (h0 : 0 ≤ S) (h1 : S < m) (h2 : 2 ≤ m) : 0 ≤ (S + 1).tmod m ∧ (S + 1).tmod m < m ∧ (S + 1).tmod m ≠ S := by
 rw [Int.tmod_eq_emod_of_nonneg (by omega)]
 refine ⟨Int.emod_nonneg _ (by omega), Int.emod_lt_of_pos _ (by omega), ?_⟩
 by_cases h : S + 1 < m
 · rw [Int.emod_eq_of_lt (by omega) h]; omega
 · rw [show S + 1 = m by omega, Int.emod_self]; omega
theorem Zfa {x n : Int} (h : 0 ≤ x) (hn : 0 < n) : 0 ≤ x.tmod n ∧ x.tmod n < n := by
 rw [Int.tmod_eq_emod_of_nonneg h]
 exact ⟨Int.emod_nonneg _ (by omega), Int.emod_lt_of_pos _ hn⟩
def SomeAt (m : Nat) (ol : List Arc) : Prop := ∀ a, a ∈ ol → Z9i m a = true ∧ 0 ≤ a.cap ∧ a.cap < 1125899906842624
theorem SomeAt.put {m : Nat} {ol : List Arc} {a : Arc} (h : SomeAt m ol) (h1 : 0 ≤ a.fr ∧ a.fr < m) (h2 : 0 ≤ a.to ∧ a.to < m) (h3 : 0 ≤ a.cap ∧ a.cap < 1125899906842624) : SomeAt m (ol ++ [a]) := by
 intro b hb
 rcases List.mem_append.1 hb with hb | hb
 · exact h b hb
 ·
  simp only [List.mem_singleton] at hb
  subst hb
  exact ⟨by simp [Z9i, Z4k, h1, h2], h3⟩
theorem Zgi {m : Nat} {ol : List Arc} {left : Int} (h : SomeAt m ol) (hl : (ol.length : Int) * 1125899906842624 ≤ left) : (Zc0 left ol).isSome = true := by
 induction ol generalizing left with
 | nil => simp [Zc0]
 | cons a ol ih =>
  have ha := (h a (.head _)).2
  simp only [List.length_cons] at hl
  have h2 : (0 : Int) ≤ (ol.length : Int) * 1125899906842624 := by omega
  simp only [Zc0]
  rw [if_neg (by omega)]
  exact ih (fun b hb => h b (.tail _ hb)) (by omega)
theorem Zfc {m : Nat} {S T : Int} {ol : List Arc} (hm : 2 ≤ m) (hm2 : m ≤ 4096) (hS : 0 ≤ S ∧ S < m) (hT : 0 ≤ T ∧ T < m) (hST : T ≠ S) (h : SomeAt m ol) (hl : ol.length ≤ 4096) : Z8g m S T ol = 0 := by
 have h1 : ol.all (Z9i m) = true := List.all_eq_true.2 fun a ha => (h a ha).1
 have h2 : ol.all Zgd = true := List.all_eq_true.2 fun a ha => by simp [Zgd, (h a ha).2.1]
 have h3 : (Zc0 4611686018427387904 ol).isSome = true := Zgi h (by omega)
 unfold Z8g
 rw [if_neg (by omega), if_neg (by omega), if_neg (by simp [Z4k, hS, hT, Ne.symm hST]), if_neg (by simp [h1]), if_neg (by simp [h2]), if_neg (by
  cases e : Zc0 4611686018427387904 ol with
  | none => rw [e] at h3; cases h3
  | some x => simp)]
def WithinAt (al : List Arc) (n k : Nat) (fl : List Int) : Prop := fl.length = n ∧
  (∀ i, i < k → 0 ≤ fl.getD i 0 ∧ fl.getD i 0 ≤ (al.getD i default).cap ∧ ((al.getD i default).fr = (al.getD i default).to → fl.getD i 0 = 0)) ∧ ∀ i, k ≤ i → fl.getD i 0 = 0
theorem WithinAt.start (al : List Arc) (n : Nat) : WithinAt al n 0 (List.replicate n 0) := ⟨by simp, fun i h => by omega, fun i _ => Z2d _ _ _⟩
theorem WithinAt.skip {al : List Arc} {n k : Nat} {fl : List Int} (h : WithinAt al n k fl) (hc : 0 ≤ (al.getD k default).cap) : WithinAt al n (k + 1) fl := by
 refine ⟨h.1, fun i hi => ?_, fun i hi => h.2.2 i (by omega)⟩
 rcases Nat.lt_succ_iff_lt_or_eq.1 hi with h1 | h1
 · exact h.2.1 i h1
 · subst h1; have := h.2.2 i (Nat.le_refl _); rw [this]; exact ⟨Int.le_refl _, hc, fun _ => rfl⟩
theorem WithinAt.put {al : List Arc} {n k : Nat} {fl : List Int} {v : Int} (h : WithinAt al n k fl) (hk : k < n) (h0 : 0 ≤ v) (h1 : v ≤ (al.getD k default).cap) (hne : (al.getD k default).fr ≠ (al.getD k default).to) : WithinAt al n (k + 1) (fl.set k v) := by
 refine ⟨by simpa using h.1, fun i hi => ?_, fun i hi => by rw [Z3z (by omega)]; exact h.2.2 i (by omega)⟩
 by_cases e : i = k
 · subst e; rw [Z5n (by rw [h.1]; exact hk)]; exact ⟨h0, h1, fun e => absurd e hne⟩
 · rw [Z3z (by omega)]; exact h.2.1 i (by omega)
def resOK (aa cs : List Int) (bs : List Bool) (fl : List Int) (j : Nat) : Prop := aa.getD j 0 < fl.length ∧ (bs.getD j false = true ∨ (0 ≤ fl.getD (aa.getD j 0).toNat 0 ∧ fl.getD (aa.getD j 0).toNat 0 ≤ cs.getD j 0))
def resV (aa cs : List Int) (bs : List Bool) (fl : List Int) (j : Nat) : Int := if bs.getD j false = true then fl.getD (aa.getD j 0).toNat 0 else cs.getD j 0 - fl.getD (aa.getD j 0).toNat 0
def ResAt (aa cs : List Int) (bs : List Bool) (fl : List Int) (L k : Nat) (rl : List Int) : Prop := rl.length = L ∧ ∀ j, j < k → resOK aa cs bs fl j ∧ rl.getD j 0 = resV aa cs bs fl j
theorem ResAt.put {aa cs : List Int} {bs : List Bool} {fl : List Int} {L k : Nat} {rl : List Int} {v : Int} (h : ResAt aa cs bs fl L k rl) (hk : k < L) (h1 : resOK aa cs bs fl k) (h2 : v = resV aa cs bs fl k) : ResAt aa cs bs fl L (k + 1) (rl.set k v) := by
 refine ⟨by simpa using h.1, fun j hj => ?_⟩
 by_cases e : j = k
 · subst e; rw [Z5n (by rw [h.1]; exact hk)]; exact ⟨h1, h2⟩
 · rw [Z3z (by omega)]; exact h.2 j (by omega)
end Go.Acq
namespace Go.Acq
open Go
theorem CsrOK.place {al : List Arc} {m : Nat} {fs hs rs cs aa : List Int} {bs : List Bool} (h : CsrOK al m fs hs rs cs aa bs) {j : Nat} (hj : j < Z1w al m) :
    ∃ i s, i < al.length ∧ (al.getD i default).fr ≠ (al.getD i default).to ∧ pos al i s = j ∧ hs.getD j 0 = vtx (al.getD i default) (!s) ∧ rs.getD j 0 = pos al i (!s) ∧ cs.getD j 0 = (if s then 0 else (al.getD i default).cap) ∧ aa.getD j 0 = i ∧ bs.getD j false = s := by
  obtain ⟨i, s, hi, hne, hp, _⟩ := pos_surj hj
  have := h.hat i hi hne s
  rw [hp] at this
  exact ⟨i, s, hi, hne, hp, this⟩
end Go.Acq
namespace Go.Acq
open Go
theorem Zeg {α : Type} {m : Option α} {v : α} (h : Ok m (fun a => a = v)) : m = some v := by obtain ⟨a, h1, h2⟩ := h; rw [h1, h2]
theorem Z9u {α : Type} {m : Option α} {v : α} {Q : α → Prop} (h : m = some v) (q : Q v) : Ok m Q := ⟨v, h, q⟩
abbrev lenok (n : Nat) : Prop := n ≤ 9223372036854775807
theorem Zba {x n : Int} (h1 : n ≤ 4611686018427387904) : Z1p x n = some (Zbi x n) := by
 unfold Z1p Zbi
 by_cases h : n < 1
 · rw [if_pos h, if_pos h]
 ·
  have a1 := Int.tmod_lt_of_pos x (show 0 < n by omega)
  have a2 := Zbd x (show 0 < n by omega)
  rw [if_neg h, if_neg h, Zes (by omega), Zes (by constructor <;> omega), Zes (by omega)]
theorem s_Ints {a b : List Int} (h : lenok a.length) : Z2r a b = some (decide (a = b)) := by
 refine Zeg ?_
 unfold Z2r
 refine Ok.ite.2 ⟨fun hl => Ok.some.2 (decide_eq_false ?_).symm, fun hl => ?_⟩
 · rintro rfl; exact hl rfl
 ·
  refine Ok.bind.2 (Zby (fun x => 0 ≤ x ∧ x ≤ a.length ∧ ∀ i, i < x.toNat → a.getD i 0 = b.getD i 0) (fun x => (a.length - x).toNat) ⟨by omega, by omega, fun i hi => by omega⟩ (by unfold Z50; omega) ?_)
  rintro x ⟨h0, h1, h2⟩
  unfold Z32
  refine Ok.ite.2 ⟨fun hx => ?_, fun hx => ?_⟩
  ·
   refine Ok.gd.2 ⟨(by omega), Ok.gd.2 ⟨(by omega), Ok.ite.2 ⟨fun hne => ?_, fun hne => ?_⟩⟩⟩
   ·
    refine Ok.some.2 (Ok.some.2 (decide_eq_false ?_).symm)
    rintro rfl; exact hne rfl
   ·
    refine Ok.gd.2 ⟨(by omega), Ok.some.2 ⟨⟨by omega, by omega, fun i hi => ?_⟩, by omega⟩⟩
    rcases Nat.lt_or_ge i x.toNat with h3 | h3
    · exact h2 i h3
    · rw [show i = x.toNat by omega]; exact Classical.not_not.1 hne
  ·
   refine Ok.some.2 (Ok.some.2 (decide_eq_true ?_).symm)
   exact Zfg 0 (by omega) (fun i hi => h2 i (by omega))
theorem Zb1 (n : Net) (v : Int) : Z4d n v = some (Z4k n.N v) := by
 unfold Z4d Z4k
 by_cases h : 0 ≤ v <;> simp [h]
theorem s_rules4 (n : Net) (a : Arc) : Z61 n a = some (Z9i n.N a) := by
 unfold Z61 Z9i
 rw [Zb1, Zb1]
 simp only [Option.bind_some]
 cases Z4k n.N a.fr <;> simp
theorem s_of4 (n : Net) (h : lenok n.Arcs.length) : Z3u n = some (n.Arcs.all (Z9i n.N)) := by
 refine Zeg ?_
 unfold Z3u Z17 Z1d
 refine Ok.bind.2 (Ok.bind.2 (Ok.bind.2 (Zby (fun x => 0 ≤ x ∧ x ≤ n.Arcs.length ∧ ∀ i, i < x.toNat → Z9i n.N (n.Arcs.getD i default) = true) (fun x => (n.Arcs.length - x).toNat) ⟨by omega, by omega, fun i hi => by omega⟩ (by unfold Z50; omega) ?_)))
 rintro x ⟨h0, h1, h2⟩
 unfold Z10 Z42
 refine Ok.ite.2 ⟨fun hx => ?_, fun hx => ?_⟩
 ·
  refine Ok.gd.2 ⟨(by omega), Ok.bind.2 (Ok.bind.2 (Z9u (s_rules4 _ _) (Ok.some.2 (Ok.ite.2 ⟨fun hb => ?_, fun hb => ?_⟩))))⟩
  ·
   refine Ok.some.2 (Ok.some.2 (Ok.some.2 (Ok.some.2 ?_)))
   simp only [h0, decide_true, Bool.not_true]
   refine Eq.symm (Bool.eq_false_iff.2 fun hall => ?_)
   have := List.all_eq_true.1 hall _ (Z7i (show x.toNat < n.Arcs.length by omega) default)
   rw [this] at hb; cases hb
  ·
   refine Ok.gd.2 ⟨(by omega), Ok.some.2 ⟨⟨by omega, by omega, fun i hi => ?_⟩, by omega⟩⟩
   rcases Nat.lt_or_ge i x.toNat with h3 | h3
   · exact h2 i h3
   · rw [show i = x.toNat by omega]; simpa using hb
 ·
  refine Ok.some.2 (Ok.some.2 (Ok.some.2 (Ok.some.2 ?_)))
  refine Eq.symm (List.all_eq_true.2 fun a ha => ?_)
  obtain ⟨i, hi, rfl⟩ := List.getElem_of_mem ha
  have := h2 i (by omega)
  rwa [List.getD_eq_getElem?_getD, List.getElem?_eq_getElem hi] at this
theorem s_of5 (n : Net) (h : lenok n.Arcs.length) : Z3t n = some (n.Arcs.all Zgd) := by
 refine Zeg ?_
 unfold Z3t Z16 Z1c
 refine Ok.bind.2 (Ok.bind.2 (Ok.bind.2 (Zby (fun x => 0 ≤ x ∧ x ≤ n.Arcs.length ∧ ∀ i, i < x.toNat → Zgd (n.Arcs.getD i default) = true) (fun x => (n.Arcs.length - x).toNat) ⟨by omega, by omega, fun i hi => by omega⟩ (by unfold Z50; omega) ?_)))
 rintro x ⟨h0, h1, h2⟩
 unfold Z0z Z41 Z6s
 refine Ok.ite.2 ⟨fun hx => ?_, fun hx => ?_⟩
 ·
  refine Ok.gd.2 ⟨(by omega), Ok.bind.2 (Ok.bind.2 (Ok.some.2 (Ok.some.2 (Ok.ite.2 ⟨fun hb => ?_, fun hb => ?_⟩))))⟩
  ·
   refine Ok.some.2 (Ok.some.2 (Ok.some.2 (Ok.some.2 ?_)))
   simp only [h0, decide_true, Bool.not_true]
   refine Eq.symm (Bool.eq_false_iff.2 fun hall => ?_)
   have := List.all_eq_true.1 hall _ (Z7i (show x.toNat < n.Arcs.length by omega) default)
   simp only [Zgd] at this
   rw [this] at hb; cases hb
  ·
   refine Ok.gd.2 ⟨(by omega), Ok.some.2 ⟨⟨by omega, by omega, fun i hi => ?_⟩, by omega⟩⟩
   rcases Nat.lt_or_ge i x.toNat with h3 | h3
   · exact h2 i h3
   · rw [show i = x.toNat by omega]; simpa [Zgd] using hb
 ·
  refine Ok.some.2 (Ok.some.2 (Ok.some.2 (Ok.some.2 ?_)))
  refine Eq.symm (List.all_eq_true.2 fun a ha => ?_)
  obtain ⟨i, hi, rfl⟩ := List.getElem_of_mem ha
  have := h2 i (by omega)
  rwa [List.getD_eq_getElem?_getD, List.getElem?_eq_getElem hi] at this
theorem s_Sum (n : Net) (h : lenok n.Arcs.length) : Z8n n = some (match Zc0 4611686018427387904 n.Arcs with | some l => (4611686018427387904 - l, true) | none => (0, false)) := by
 refine Zeg ?_
 unfold Z8n
 refine Ok.bind.2 (Zby (fun s => 0 ≤ s.2 ∧ s.2 ≤ n.Arcs.length ∧ 0 ≤ s.1 ∧ s.1 ≤ 4611686018427387904 ∧ Zc0 4611686018427387904 n.Arcs = Zc0 s.1 (n.Arcs.drop s.2.toNat)) (fun s => (n.Arcs.length - s.2).toNat) ⟨by simp, by simp, by simp, by simp, by simp⟩ (by unfold Z50; simp; omega) ?_)
 rintro ⟨left, x⟩ ⟨h0, h1, h2, h3, h4⟩
 simp only at h0 h1 h2 h3 h4 ⊢
 unfold Z6i Z6j
 refine Ok.ite.2 ⟨fun hx => ?_, fun hx => ?_⟩
 ·
  rw [Zdj (by omega)] at h4
  refine Ok.gd.2 ⟨(by omega), Ok.ite.2 ⟨fun hb => ?_, fun hb => ?_⟩⟩
  ·
   rw [if_pos rfl]
   refine Ok.some.2 (Ok.some.2 ?_)
   rw [h4, if_pos (.inl hb)]
  ·
   by_cases hc : left < (n.Arcs.getD x.toNat default).cap
   ·
    rw [if_pos (decide_eq_true hc)]
    refine Ok.some.2 (Ok.some.2 ?_)
    rw [h4, if_pos (.inr hc)]
   ·
    rw [if_neg (by simpa using hc)]
    refine Ok.gd.2 ⟨(by omega), Ok.gd.2 ⟨(by omega), Ok.some.2 ⟨⟨by simp only; omega, by simp only; omega, by simp only; omega, by simp only; omega, ?_⟩, by simp only; omega⟩⟩⟩
    rw [h4, if_neg (by omega)]
    simp only
    rw [show (x + 1).toNat = x.toNat + 1 by omega]
 ·
  unfold Z7h
  refine Ok.some.2 (Ok.gd.2 ⟨(by omega), Ok.some.2 ?_⟩)
  rw [h4, List.drop_eq_nil_of_le (by omega)]
  rfl
theorem s_Check (n : Net) (h : lenok n.Arcs.length) : Z77 n = some (Z8g n.N n.S n.T n.Arcs) := by
 unfold Z77 Z89 Z5k Z5j Z6v Z6u Z6t Z6r Z6g
 rw [Zb1, Zb1, s_of4 n h, s_of5 n h, s_Sum n h]
 unfold Z8g
 simp only [Option.bind_some]
 by_cases h1 : 2 ≤ n.N ∧ n.N ≤ 4096
 ·
  rw [if_pos h1.1, if_neg (not_not_intro h1)]
  simp only [Option.bind_some, decide_eq_true h1.2, Bool.not_true, Bool.false_eq_true, if_false]
  by_cases h2 : (n.Arcs.length : Int) ≤ 16384
  ·
   rw [if_neg (by simp [h2]), if_neg (not_not_intro h2)]
   by_cases h3 : Z4k n.N n.S = true ∧ Z4k n.N n.T = true ∧ n.S ≠ n.T
   ·
    rw [if_pos h3.1, if_pos h3.2.1, if_neg (not_not_intro h3)]
    simp only [Option.bind_some, decide_eq_true h3.2.2, Bool.not_true, Bool.false_eq_true, if_false]
    cases h4 : n.Arcs.all (Z9i n.N)
    · simp
    ·
     cases h5 : n.Arcs.all Zgd
     · simp
     · cases h6 : Zc0 4611686018427387904 n.Arcs <;> simp
   ·
    rw [if_pos h3]
    by_cases a1 : Z4k n.N n.S = true
    ·
     by_cases a2 : Z4k n.N n.T = true
     ·
      have a3 : ¬ n.S ≠ n.T := fun e => h3 ⟨a1, a2, e⟩
      simp [a1, a2, a3]
     · simp [a1, a2]
    · simp [a1]
  · rw [if_pos (by simp [h2]), if_pos h2]
 ·
  rw [if_pos h1]
  by_cases a1 : 2 ≤ n.N
  ·
   have a2 : ¬ n.N ≤ 4096 := fun e => h1 ⟨a1, e⟩
   simp [a1, a2]
  · simp [a1]
end Go.Acq
namespace Go.Acq
open Go
set_option linter.unusedSimpArgs false
structure NetIn (n : Net) : Prop where
  nN : i64ok n.N
  nS : i64ok n.S
  nT : i64ok n.T
  arcs : ∀ a, a ∈ n.Arcs → i64ok a.fr ∧ i64ok a.to ∧ i64ok a.cap
  len : n.Arcs.length ≤ 9223372036854775807
structure Made (n : Net) (v a : Int) : Prop where
  check : Z8g n.N n.S n.T n.Arcs = 0
  rows : SomeAt n.N.toNat n.Arcs
  verts : n.N ≤ v
  arcs : (n.Arcs.length : Int) ≤ a
  ends : 2 ≤ n.N ∧ 0 ≤ n.S ∧ n.S < n.N ∧ 0 ≤ n.T ∧ n.T < n.N ∧ n.S ≠ n.T
theorem Made.nat {n : Net} {v a : Int} (h : Made n v a) : ∃ m : Nat, n.N = m ∧ SomeAt m n.Arcs := ⟨n.N.toNat, by have := h.ends.1; omega, h.rows⟩
theorem Zi8 {n : Net} {m : Nat} (h : SomeAt m n.Arcs) : ∀ i, i < n.Arcs.length → 0 ≤ (n.Arcs.getD i default).cap ∧ (n.Arcs.getD i default).cap < 1125899906842624 := fun _ hi => (h _ (Z7i hi default)).2
theorem s_Some {n : Net} {v a : Int} (h : NetIn n) (hv0 : 2 ≤ v) (hv1 : v ≤ 4096) (ha0 : 0 ≤ a) (ha1 : a ≤ 4096) : Ok (Z49 n v a) (fun r => Made r v a) := by
 have hN := Z79 (x := n.N) (n := v - 1) (by omega)
 unfold Z49
 refine Ok.gd.2 ⟨(by omega), Ok.bind.2 (Z9u (Zba (by omega)) (Ok.gd.2 ⟨(by omega), ?_⟩))⟩
 obtain ⟨m, hm⟩ : ∃ m : Nat, 2 + Zbi n.N (v - 1) = m := ⟨(2 + Zbi n.N (v - 1)).toNat, by omega⟩
 rw [hm]
 have hS := Z79 (x := n.S) (n := (m : Int)) (by omega)
 have hT := Z79 (x := n.T) (n := (m : Int)) (by omega)
 refine Ok.bind.2 (Z9u (Zba (by omega)) (Ok.bind.2 (Z9u (Zba (by omega)) ?_)))
 have key : ∀ t : Int, 0 ≤ t → t < m → t ≠ Zbi n.S m → Ok (Z2j n a (Zbi n.N (v - 1)) (Zbi n.S m) t) (fun r => Made r v a) := by
  intro t t0 t1 t2
  unfold Z2j
  refine Ok.gd.2 ⟨(by omega), Ok.bind.2 ?_⟩
  obtain ⟨q, hq⟩ : ∃ q : Nat, min (n.Arcs.length : Int) a = q := ⟨(min (n.Arcs.length : Int) a).toNat, by omega⟩
  obtain ⟨al, hal⟩ : ∃ l, l = n.Arcs.take (q : Int).toNat := ⟨_, rfl⟩
  have hlen : al.length = q := by rw [hal, List.length_take]; omega
  have hcap : ∀ b, b ∈ al → i64ok b.cap := fun b hb => (h.arcs b (List.mem_of_mem_take (by rw [← hal]; exact hb))).2.2
  refine Z90 (fun s => ∃ k : Nat, s.2 = k ∧ k ≤ q ∧ s.1.length = k ∧ SomeAt m s.1) (fun s => (q - s.2).toNat) ⟨0, rfl, by omega, rfl, fun b hb => by cases hb⟩ (by unfold Z50; simp only; omega) ?_
  rintro ⟨ol, x⟩ ⟨k, h1, h2, h3, h4⟩ P next exit
  simp only at h1 h2 h3 h4 next ⊢
  subst h1
  unfold Z31
  rw [hq, ← hal]
  simp only [Int.toNat_natCast]
  refine Ok.ite.2 ⟨fun hx => ?_, fun hx => ?_⟩
  ·
   have hkl : k < al.length := by omega
   have hc := hcap _ (Z7i hkl default)
   have hj : ∀ c : Int, 0 ≤ c → Ok (Z2i n a (Zbi n.N (v - 1)) ol k c) P := by
    intro c hc0
    unfold Z2i
    rw [hq, ← hal, hm]
    refine Ok.bind.2 (Z9u (Zba (by omega)) (Ok.bind.2 (Z9u (Zba (by omega)) (Ok.gd.2 ⟨?_, Ok.gd.2 ⟨(by omega), Ok.some.2 (next _ ⟨k + 1, by simp, by omega, by simp [h3], ?_⟩ (by simp only; omega))⟩⟩))))
    · rw [List.length_append, h3]; simp only [List.length_cons, List.length_nil]; constructor <;> omega
    · exact h4.put (Z79 (by omega)) (Z79 (by omega)) (Zfa hc0 (by omega))
   refine Ok.gd.2 ⟨(by omega), Ok.ite.2 ⟨fun hn => ?_, fun hn => ?_⟩⟩
   · exact Ok.gd.2 ⟨by constructor <;> omega, Ok.gd.2 ⟨by constructor <;> omega, hj (-((al.getD k default).cap + 1)) (by omega)⟩⟩
   · exact hj (al.getD k default).cap (by omega)
  ·
   refine Ok.some.2 (exit _ ?_)
   unfold Z43
   refine Ok.some.2 ?_
   rw [hm]
   exact ⟨Zfc (by omega) (by omega) hS ⟨t0, t1⟩ t2 h4 (show ol.length ≤ 4096 by omega), by simpa using h4, by simp only; omega, by show (ol.length : Int) ≤ a; omega, ⟨by simp only; omega, hS.1, hS.2, t0, t1, fun e => t2 e.symm⟩⟩
 refine Ok.ite.2 ⟨fun he => ?_, fun he => ?_⟩
 ·
  refine Ok.gd.2 ⟨(by omega), Ok.gd.2 ⟨by omega, ?_⟩⟩
  obtain ⟨n1, n2, n3⟩ := next_ne hS.1 hS.2 (by omega)
  exact key _ n1 n2 n3
 · exact key _ hT.1 hT.2 (fun e => he e.symm)
end Go.Acq
namespace Go.Acq
open Go
set_option linter.unusedSimpArgs false
def ex (al : List Arc) (f : List Int) (v : Int) : Nat → Int
  | 0 => 0
  | k + 1 => ex al f v k - (if (al.getD k default).fr = v then f.getD k 0 else 0) + (if (al.getD k default).to = v then f.getD k 0 else 0)
def tot (f : List Int) : Nat → Int
  | 0 => 0
  | k + 1 => tot f k + f.getD k 0
def part (al : List Arc) (f : List Int) (j : Int) : Nat → Int
  | 0 => 0
  | k + 1 => part al f j k - (if (al.getD k default).fr < j then f.getD k 0 else 0) + (if (al.getD k default).to < j then f.getD k 0 else 0)
theorem Zcy {f : List Int} {n : Nat} (h : ∀ i, i < n → 0 ≤ f.getD i 0) : ∀ j k, j ≤ k → k ≤ n → tot f j ≤ tot f k
  | j, 0, hj, _ => by have : j = 0 := by omega
                      subst this; exact Int.le_refl _
  | j, k + 1, hj, hk => by
    rcases Nat.lt_or_ge j (k + 1) with h1 | h1
    · have := Zcy h j k (by omega) (by omega)
      have := h k hk
      simp only [tot]; omega
    · rw [show j = k + 1 by omega]; exact Int.le_refl _
theorem sumL_tot {f : List Int} : ∀ (al : List Arc) (left : Int) (k : Nat), (Zc0 left (al.drop k)).isSome = true → 0 ≤ left → k ≤ al.length → (∀ i, i < al.length → 0 ≤ f.getD i 0 ∧ f.getD i 0 ≤ (al.getD i default).cap) → tot f al.length - tot f k ≤ left := by
 intro al left k
 induction hn : al.length - k generalizing left k with
 | zero =>
  intro _ h0 hk _
  rw [show k = al.length by omega]; omega
 | succ n ih =>
  intro hs h0 hk hf
  have hkl : k < al.length := by omega
  rw [Zdj hkl] at hs
  by_cases hc : (al.getD k default).cap < 0 ∨ left < (al.getD k default).cap
  · rw [if_pos hc] at hs; cases hs
  ·
   rw [if_neg hc] at hs
   have := ih (left - (al.getD k default).cap) (k + 1) (by omega) hs (by omega) (by omega) hf
   have hfk := hf k hkl
   simp only [tot] at this
   omega
def FwithinP (n : Net) (f : List Int) : Prop := Z8g n.N n.S n.T n.Arcs = 0 ∧ f.length = n.Arcs.length ∧ ∀ i, i < n.Arcs.length → 0 ≤ f.getD i 0 ∧ f.getD i 0 ≤ (n.Arcs.getD i default).cap
theorem FwithinP.tot {n : Net} {f : List Int} (h : FwithinP n f) : ∀ k, k ≤ n.Arcs.length → 0 ≤ tot f k ∧ tot f k ≤ 4611686018427387904 := by
 intro k hk
 have hz := Z78 h.1
 have h1 := sumL_tot (f := f) n.Arcs 4611686018427387904 0 (by simpa using hz.2.2.2.2.2) (by omega) (by omega) h.2.2
 have h2 := Zcy (fun i hi => (h.2.2 i hi).1) k n.Arcs.length hk (Nat.le_refl _)
 have h3 := Zcy (fun i hi => (h.2.2 i hi).1) 0 k (by omega) hk
 simp only [Acq.tot] at h1 h3
 omega
theorem Zb9 {n : Net} {f : List Int} (hl : lenok n.Arcs.length) : Ok (Z4g n f) (fun b => b = true ↔ FwithinP n f) := by
 unfold Z4g
 refine Ok.bind.2 (Z9u (s_Check n hl) (Ok.ite.2 ⟨fun h => Ok.some.2 ⟨fun h2 => (by cases h2), fun h2 => absurd h2.1 h⟩, fun h1 => Ok.ite.2 ⟨fun h => Ok.some.2 ⟨fun h2 => (by cases h2), fun h2 => absurd h2.2.1 (by omega)⟩, fun h2 => Ok.bind.2 ?_⟩⟩))
 have hz := Z78 (Classical.not_not.1 h1)
 refine Z90 (fun x => ∃ k : Nat, x = k ∧ k ≤ n.Arcs.length ∧ ∀ i, i < k → 0 ≤ f.getD i 0 ∧ f.getD i 0 ≤ (n.Arcs.getD i default).cap) (fun x => (n.Arcs.length - x).toNat) ⟨0, rfl, by omega, fun i hi => by omega⟩ (by unfold Z50; omega) ?_
 rintro x ⟨k, rfl, hk, h3⟩ P next exit
 unfold Z4h
 simp only [Int.toNat_natCast]
 refine Ok.ite.2 ⟨fun hx => ?_, fun hx => ?_⟩
 ·
  refine Ok.gd.2 ⟨(by omega), Ok.gd.2 ⟨(by omega), Ok.ite.2 ⟨fun h => Ok.some.2 (exit _ (Ok.some.2 ⟨fun h2 => (by cases h2), fun h2 => by have := h2.2.2 k (by omega); omega⟩)), fun h4 => Ok.gd.2 ⟨(by omega), Ok.ite.2 ⟨fun h => Ok.some.2 (exit _ (Ok.some.2 ⟨fun h2 => (by cases h2), fun h2 => by have := h2.2.2 k (by omega); omega⟩)), fun h5 => Ok.gd.2 ⟨(by omega), Ok.some.2 (next _ ⟨k + 1, by simp, by omega, fun i hi => ?_⟩ (by omega))⟩⟩⟩⟩⟩⟩
  rcases Nat.lt_or_ge i k with h | h
  · exact h3 i h
  · rw [show i = k by omega]; omega
 ·
  refine Ok.some.2 (exit _ ?_)
  unfold Z5l
  exact Ok.some.2 ⟨fun _ => ⟨Classical.not_not.1 h1, by omega, fun i hi => h3 i (by omega)⟩, fun _ => rfl⟩
end Go.Acq
namespace Go.Acq
open Go
set_option linter.unusedSimpArgs false
set_option linter.unusedVariables false
theorem aw22 : Z2k = some true := by decide +kernel
def Zgc (al : List Arc) (f : List Int) (v : Nat) : Nat → List Int
  | 0 => []
  | k + 1 => Zgc al f v k ++ (if 0 < f.getD k 0 ∧ (al.getD k default).fr = (v : Int) then [(k : Int)] else [])
def OutIs (n : Net) (m : Nat) (f : List Int) (out : List (List Int)) : Prop := out.length = m ∧ ∀ v, v < m → out.getD v [] = Zgc n.Arcs f v n.Arcs.length
theorem outK_mem {al : List Arc} {f : List Int} {v : Nat} {x : Int} : ∀ {k : Nat}, x ∈ Zgc al f v k ↔ ∃ i : Nat, i < k ∧ x = i ∧ 0 < f.getD i 0 ∧ (al.getD i default).fr = (v : Int)
 | 0 => by simp [Zgc]
 | k + 1 => by
  rw [Zgc, List.mem_append, outK_mem (k := k)]
  constructor
  ·
   rintro (⟨i, h1, h2⟩ | h)
   · exact ⟨i, by omega, h2⟩
   ·
    split at h
    · rename_i h2; rw [List.mem_singleton] at h; exact ⟨k, by omega, h, h2⟩
    · cases h
  ·
   rintro ⟨i, h1, h2, h3⟩
   rcases Nat.lt_or_ge i k with h | h
   · exact .inl ⟨i, h, h2, h3⟩
   ·
    have e : i = k := by omega
    subst e
    exact .inr (by rw [if_pos h3, h2]; exact .head _)
theorem Zd3 {al : List Arc} {f : List Int} {v : Nat} : ∀ k, (Zgc al f v k).length ≤ k
 | 0 => Nat.le_refl _
 | k + 1 => by
  have := Zd3 (al := al) (f := f) (v := v) k
  rw [Zgc, List.length_append]
  split <;> simp <;> omega
theorem Zad {al : List Arc} {f : List Int} {v : Nat} : ∀ k, (Zgc al f v k).Nodup
 | 0 => List.nodup_nil
 | k + 1 => by
  rw [Zgc, List.nodup_append]
  refine ⟨Zad k, by split <;> simp, fun a ha b hb e => ?_⟩
  subst e
  split at hb
  ·
   rw [List.mem_singleton] at hb
   obtain ⟨i, h1, h2, -⟩ := outK_mem.1 ha
   omega
  · cases hb
theorem OutIs.at {n : Net} {m : Nat} {f : List Int} {out : List (List Int)} (h : OutIs n m f out) {v q : Nat} (hv : v < m) (hq : q < (out.getD v []).length) :
    ∃ k : Nat, (out.getD v []).getD q 0 = k ∧ k < n.Arcs.length ∧ 0 < f.getD k 0 ∧ (n.Arcs.getD k default).fr = (v : Int) := by
  have := Z7i hq 0
  rw [h.2 v hv] at this
  obtain ⟨i, h1, h2, h3, h4⟩ := outK_mem.1 this
  exact ⟨i, by rw [h.2 v hv]; exact h2, h1, h3, h4⟩
theorem OutIs.in {n : Net} {m : Nat} {f : List Int} {out : List (List Int)} (h : OutIs n m f out) {v k : Nat} (hv : v < m) (hk : k < n.Arcs.length) (hf : 0 < f.getD k 0) (he : (n.Arcs.getD k default).fr = (v : Int)) :
    ∃ q, q < (out.getD v []).length ∧ (out.getD v []).getD q 0 = k := by
  have : (k : Int) ∈ out.getD v [] := by rw [h.2 v hv]; exact outK_mem.2 ⟨k, hk, rfl, hf, he⟩
  obtain ⟨q, hq, e⟩ := List.getElem_of_mem this
  exact ⟨q, hq, by rw [List.getD_eq_getElem?_getD, List.getElem?_eq_getElem hq]; exact e⟩
theorem OutIs.len {n : Net} {m : Nat} {f : List Int} {out : List (List Int)} (h : OutIs n m f out) {v : Nat} (hv : v < m) : (out.getD v []).length ≤ n.Arcs.length := by
 rw [h.2 v hv]; exact Zd3 _
def Zge (n : Net) (f : List Int) : Prop := ∃ ρ : Nat → Nat, ∀ k, k < n.Arcs.length → 0 < f.getD k 0 → ρ (n.Arcs.getD k default).to.toNat < ρ (n.Arcs.getD k default).fr.toNat
def Cyc (n : Net) (f : List Int) (c : List Int) : Prop := 0 < c.length ∧
  (∀ j, j < c.length → ∃ k : Nat, c.getD j 0 = k ∧ k < n.Arcs.length ∧ 0 < f.getD k 0 ∧ (n.Arcs.getD k default).to = (n.Arcs.getD (c.getD ((j + 1) % c.length) 0).toNat default).fr) ∧
  ∀ i j, i < c.length → j < c.length → (n.Arcs.getD (c.getD i 0).toNat default).fr = (n.Arcs.getD (c.getD j 0).toNat default).fr → i = j
theorem Cyc.not {n : Net} {f c : List Int} (h : Cyc n f c) : ¬ Zge n f := by
 rintro ⟨ρ, hρ⟩
 obtain ⟨h0, h1, -⟩ := h
 let g : Nat → Nat := fun j => ρ (n.Arcs.getD (c.getD j 0).toNat default).fr.toNat
 have hs : ∀ j, j < c.length → g ((j + 1) % c.length) < g j := by
  intro j hj
  obtain ⟨k, e1, e2, e3, e4⟩ := h1 j hj
  have := hρ k e2 e3
  rw [e4] at this
  show ρ _ < ρ (n.Arcs.getD (c.getD j 0).toNat default).fr.toNat
  rw [e1, Int.toNat_natCast]
  exact this
 have key : ∀ j, j < c.length → g j + j ≤ g 0 := by
  intro j
  induction j with
  | zero => intro _; omega
  | succ j ih =>
   intro hj
   have h2 := ih (by omega)
   have h3 := hs j (by omega)
   rw [Nat.mod_eq_of_lt hj] at h3
   omega
 have h2 := key (c.length - 1) (by omega)
 have h3 := hs (c.length - 1) (by omega)
 rw [show c.length - 1 + 1 = c.length by omega, Nat.mod_self] at h3
 omega
theorem Zgl {n : Net} {m : Nat} {f : List Int} (hm : n.N = m) (hm2 : m ≤ 4096) (he : Z7j m n.Arcs) (hl : n.Arcs.length ≤ 16384) (hf : f.length = n.Arcs.length) :
    Ok (Z4j n f) (fun s => ∃ out, s = CyclesSearch.mk n out (List.replicate m 0) (List.replicate m false) (List.replicate m false) [] ∧ OutIs n m f out) := by
  unfold Z4j
  rw [hm]
  refine Ok.gd.2 ⟨(by omega), Ok.gd.2 ⟨(by omega), Ok.gd.2 ⟨(by omega), Ok.gd.2 ⟨(by omega), Ok.bind.2 ?_⟩⟩⟩⟩
  simp only [Int.toNat_natCast]
  refine Z90 (fun s => ∃ k : Nat, s.2 = k ∧ k ≤ n.Arcs.length ∧ s.1.length = m ∧ ∀ v, v < m → s.1.getD v [] = Zgc n.Arcs f v k) (fun s => (n.Arcs.length - s.2).toNat) ⟨0, rfl, by omega, List.length_replicate, fun v _ => by rw [Z2d]; rfl⟩ (by unfold Z50; simp only; omega) ?_
  rintro ⟨xs, x⟩ ⟨k, h1, hk, h3, h4⟩ P next exit
  simp only at h1 h3 h4 next ⊢
  subst h1
  unfold Z46
  simp only [Int.toNat_natCast]
  refine Ok.ite.2 ⟨fun hx => ?_, fun hx => ?_⟩
  · have hkl : k < n.Arcs.length := by omega
    have e0 := he k hkl false
    simp only [vtx, Bool.false_eq_true, if_false] at e0
    obtain ⟨p, hp⟩ : ∃ p : Nat, (n.Arcs.getD k default).fr = p := ⟨(n.Arcs.getD k default).fr.toNat, by omega⟩
    rw [hp] at e0
    refine Ok.gd.2 ⟨(by constructor <;> omega), Ok.gd.2 ⟨(by constructor <;> omega), Ok.ite.2 ⟨fun hp0 => ?_, fun hp0 => Ok.gd.2 ⟨(by constructor <;> omega), Ok.some.2 (next _ ⟨k + 1, by simp, by omega, h3, fun v hv => ?_⟩ (by simp only; omega))⟩⟩⟩⟩
    · simp only [hp, Int.toNat_natCast]
      have h5 := h4 p (by omega)
      have h6 := Zd3 (al := n.Arcs) (f := f) (v := p) k
      refine Ok.gd.2 ⟨(by constructor <;> omega), Ok.gd.2 ⟨?_, Ok.gd.2 ⟨(by constructor <;> omega), Ok.some.2 (next _ ⟨k + 1, by simp, by omega, by simp [h3], fun v hv => ?_⟩ (by simp only; omega))⟩⟩⟩
      · rw [List.length_append, h5]; simp only [List.length_singleton]; constructor <;> omega
      · rw [Zdq, h3, h5, Zgc]
        by_cases e : p = v
        · subst e; rw [if_pos ⟨rfl, by omega⟩, if_pos ⟨hp0, hp⟩]
        · rw [if_neg (fun h => e h.1), if_neg (fun h => by have := h.2; rw [hp] at this; omega), List.append_nil]; exact h4 v hv
    · rw [Zgc, if_neg (fun h => hp0 h.1), List.append_nil]; exact h4 v hv
  · refine Ok.some.2 (exit _ ?_)
    unfold Z54
    simp only [hm, Int.toNat_natCast]
    exact Ok.some.2 ⟨xs, rfl, h3, fun v hv => by rw [h4 v hv, show k = n.Arcs.length by omega]⟩
end Go.Acq
namespace Go.Acq
open Go
set_option linter.unusedSimpArgs false
set_option linter.unusedVariables false
section dfs
variable {n : Net} {m : Nat} {f : List Int} {out : List (List Int)}
def past (n : Net) (out : List (List Int)) (dn : List Bool) (u q : Nat) : Prop := ∀ j, j < q → dn.getD (n.Arcs.getD ((out.getD u []).getD j 0).toNat default).to.toNat false = true
inductive Chain (n : Net) (f : List Int) (out : List (List Int)) (at_ : List Int) (dn : List Bool) : List Nat → List Nat → Prop
  | root (r : Nat) : Chain n f out at_ dn [r] []
  | step {v u e : Nat} {ps es : List Nat} (h1 : e < n.Arcs.length) (h2 : 0 < f.getD e 0) (h3 : (n.Arcs.getD e default).fr = (u : Int)) (h4 : (n.Arcs.getD e default).to = (v : Int))
      (h5 : ∃ q : Nat, at_.getD u 0 = ((q + 1 : Nat) : Int) ∧ (out.getD u []).getD q 0 = (e : Int) ∧ past n out dn u q) (h6 : Chain n f out at_ dn (u :: ps) es) : Chain n f out at_ dn (v :: u :: ps) (e :: es)
theorem past.mono {dn dn' : List Bool} {u q : Nat} (h : past n out dn u q) (hd : ∀ x, dn.getD x false = true → dn'.getD x false = true) : past n out dn' u q := fun j hj => hd _ (h j hj)
theorem Chain.mono {at_ at' : List Int} {dn dn' : List Bool} {pv es : List Nat} (h : Chain n f out at_ dn pv es) (hd : ∀ x, dn.getD x false = true → dn'.getD x false = true) (ha : ∀ x, x ∈ pv.tail → at'.getD x 0 = at_.getD x 0) : Chain n f out at' dn' pv es := by
 induction h with
 | root r => exact .root r
 | step h1 h2 h3 h4 h5 h6 ih =>
  obtain ⟨q, q1, q2, q3⟩ := h5
  refine .step h1 h2 h3 h4 ⟨q, by rw [ha _ (.head _)]; exact q1, q2, q3.mono hd⟩ (ih fun x hx => ha x ?_)
  exact .tail _ hx
theorem Chain.len {at_ : List Int} {dn : List Bool} {pv es : List Nat} (h : Chain n f out at_ dn pv es) : pv.length = es.length + 1 := by
 induction h with
 | root r => rfl
 | step _ _ _ _ _ _ ih => simp only [List.length_cons] at ih ⊢; omega
theorem Chain.at {at_ : List Int} {dn : List Bool} {pv es : List Nat} (h : Chain n f out at_ dn pv es) : ∀ i, i < es.length → es.getD i 0 < n.Arcs.length ∧ 0 < f.getD (es.getD i 0) 0 ∧ (n.Arcs.getD (es.getD i 0) default).fr = (pv.getD (i + 1) 0 : Int) ∧ (n.Arcs.getD (es.getD i 0) default).to = (pv.getD i 0 : Int) := by
 induction h with
 | root r => intro i hi; simp at hi
 | step h1 h2 h3 h4 h5 h6 ih =>
  intro i hi
  cases i with
  | zero => exact ⟨h1, h2, h3, h4⟩
  | succ i =>
   have := ih i (by simpa using hi)
   simpa using this
structure DI (n : Net) (m : Nat) (f : List Int) (out : List (List Int)) (at_ : List Int) (dn : List Bool) : Prop where
  la : at_.length = m
  ld : dn.length = m
  lo : ∀ u, u < m → 0 ≤ at_.getD u 0 ∧ at_.getD u 0 ≤ ((out.getD u []).length : Int)
  rank : ∃ (ρ : Nat → Nat) (c : Nat), ∀ u, u < m → dn.getD u false = true → ρ u < c ∧ ∀ k, k < n.Arcs.length → 0 < f.getD k 0 → (n.Arcs.getD k default).fr = (u : Int) → dn.getD (n.Arcs.getD k default).to.toNat false = true ∧ ρ (n.Arcs.getD k default).to.toNat < ρ u
structure WI (n : Net) (m : Nat) (f : List Int) (out : List (List Int)) (r v : Nat) (pv es : List Nat) (at_ : List Int) (dn on : List Bool) (way : List Int) : Prop where
  di : DI n m f out at_ dn
  ch : Chain n f out at_ dn (v :: pv) es
  nd : (v :: pv).Nodup
  lt : ∀ u, u ∈ v :: pv → u < m
  way : way = es.reverse.map fun e : Nat => (e : Int)
  lon : on.length = m
  on : ∀ u, u < m → (on.getD u false = true ↔ u ∈ v :: pv)
  open_ : ∀ u, u ∈ v :: pv → dn.getD u false = false
  pst : past n out dn v (at_.getD v 0).toNat
  fresh : ∀ u, u < m → dn.getD u false = false → u ∉ v :: pv → at_.getD u 0 = 0
  root : ∃ pre, v :: pv = pre ++ [r]
structure EI (n : Net) (m : Nat) (f : List Int) (out : List (List Int)) (at_ : List Int) (dn on : List Bool) (way : List Int) : Prop where
  di : DI n m f out at_ dn
  way : way = []
  lon : on.length = m
  on : ∀ u, u < m → on.getD u false = false
  fresh : ∀ u, u < m → dn.getD u false = false → at_.getD u 0 = 0
theorem WI.begin {at_ : List Int} {dn on : List Bool} {way : List Int} {v : Nat} (h : EI n m f out at_ dn on way) (hv : v < m) (hd : dn.getD v false = false) : WI n m f out v v [] [] at_ dn (on.set v true) way := by
 refine ⟨h.di, .root v, by simp, fun u hu => ?_, h.way, by rw [List.length_set]; exact h.lon, fun u hu => ?_, fun u hu => ?_, fun j hj => ?_, fun u hu hdu _ => h.fresh u hu hdu, [], rfl⟩
 · rw [List.mem_singleton] at hu; subst hu; exact hv
 ·
  rw [Zdq, h.lon, List.mem_singleton]
  by_cases e : v = u
  · rw [if_pos ⟨e, hv⟩]; exact ⟨fun _ => e.symm, fun _ => rfl⟩
  · rw [if_neg (fun h => e h.1), h.on u hu]; exact ⟨fun h => (by cases h), fun h => absurd h.symm e⟩
 · rw [List.mem_singleton] at hu; subst hu; exact hd
 · rw [h.fresh v hv hd] at hj; simp at hj
theorem WI.skip {r v q : Nat} {pv es : List Nat} {at_ : List Int} {dn on : List Bool} {way : List Int} (h : WI n m f out r v pv es at_ dn on way) (hq : at_.getD v 0 = (q : Int)) (hl : q < (out.getD v []).length)
    (hd : dn.getD (n.Arcs.getD ((out.getD v []).getD q 0).toNat default).to.toNat false = true) : WI n m f out r v pv es (at_.set v ((q : Int) + 1)) dn on way := by
  have hv := h.lt v (.head _)
  have hne : ∀ u, u ∈ pv → v ≠ u := fun u hu e => by subst e; exact (List.nodup_cons.1 h.nd).1 hu
  refine ⟨⟨by rw [List.length_set]; exact h.di.la, h.di.ld, fun u hu => ?_, h.di.rank⟩, h.ch.mono (fun _ h => h) (fun x hx => Z3z (hne x hx)), h.nd, h.lt, h.way, h.lon, h.on, h.open_, ?_, fun u hu hdu hup => ?_, h.root⟩
  · have := h.di.lo u hu
    rw [Zdq, h.di.la]
    split
    · rename_i e; rw [← e.1]; omega
    · exact this
  · rw [Z5n (by rw [h.di.la]; exact hv)]
    intro j hj
    rcases Nat.lt_or_ge j q with h1 | h1
    · exact h.pst j (by rw [hq]; omega)
    · rw [show j = q by omega]; exact hd
  · have h1 : v ≠ u := fun e => hup (by rw [← e]; exact .head _)
    rw [Z3z h1]; exact h.fresh u hu hdu hup
theorem WI.push {r v q w k : Nat} {pv es : List Nat} {at_ : List Int} {dn on : List Bool} {way : List Int} (h : WI n m f out r v pv es at_ dn on way) (hq : at_.getD v 0 = (q : Int)) (hl : q < (out.getD v []).length)
    (hk : (out.getD v []).getD q 0 = (k : Int)) (hkl : k < n.Arcs.length) (hf : 0 < f.getD k 0) (hfr : (n.Arcs.getD k default).fr = (v : Int)) (hto : (n.Arcs.getD k default).to = (w : Int)) (hw : w < m) (hon : on.getD w false = false) (hd : dn.getD w false = false) :
    WI n m f out r w (v :: pv) (k :: es) (at_.set v ((q : Int) + 1)) dn (on.set w true) (way ++ [(k : Int)]) := by
  have hv := h.lt v (.head _)
  have hwn : w ∉ v :: pv := fun hm => by have := (h.on w hw).2 hm; rw [hon] at this; cases this
  have hvw : v ≠ w := fun e => hwn (e ▸ .head _)
  have hne : ∀ u, u ∈ pv → v ≠ u := fun u hu e => by subst e; exact (List.nodup_cons.1 h.nd).1 hu
  have hw0 := h.fresh w hw hd hwn
  refine ⟨⟨by rw [List.length_set]; exact h.di.la, h.di.ld, fun u hu => ?_, h.di.rank⟩, .step hkl hf hfr hto ⟨q, by rw [Z5n (by rw [h.di.la]; exact hv)]; omega, hk, fun j hj => h.pst j (by rw [hq]; omega)⟩ (h.ch.mono (fun _ h => h) (fun x hx => Z3z (hne x hx))), List.nodup_cons.2 ⟨hwn, h.nd⟩, fun u hu => ?_, ?_, by rw [List.length_set]; exact h.lon, fun u hu => ?_, fun u hu => ?_, ?_, fun u hu hdu hup => ?_, (by obtain ⟨pre, e⟩ := h.root; exact ⟨w :: pre, by rw [e]; rfl⟩)⟩
  · have := h.di.lo u hu
    rw [Zdq, h.di.la]
    split
    · rename_i e; rw [← e.1]; omega
    · exact this
  · rcases List.mem_cons.1 hu with rfl | hu
    · exact hw
    · exact h.lt u hu
  · rw [h.way, List.reverse_cons, List.map_append]; rfl
  · rw [Zdq, h.lon]
    by_cases e : w = u
    · rw [if_pos ⟨e, hw⟩]; exact ⟨fun _ => e ▸ .head _, fun _ => rfl⟩
    · rw [if_neg (fun h => e h.1), h.on u hu]
      exact ⟨fun h => .tail _ h, fun h => by rcases List.mem_cons.1 h with h | h; (exact absurd h.symm e); exact h⟩
  · rcases List.mem_cons.1 hu with rfl | hu
    · exact hd
    · exact h.open_ u hu
  · rw [Z3z hvw, hw0]; intro j hj; simp at hj
  · have h1 : v ≠ u := fun e => hup (e ▸ .tail _ (.head _))
    rw [Z3z h1]; exact h.fresh u hu hdu (fun hm => hup (.tail _ hm))
theorem WI.fin {r v : Nat} {pv es : List Nat} {at_ : List Int} {dn on : List Bool} {way : List Int} (ho : OutIs n m f out) (h : WI n m f out r v pv es at_ dn on way) (hq : at_.getD v 0 = ((out.getD v []).length : Int)) :
    DI n m f out at_ (dn.set v true) := by
  have hv := h.lt v (.head _)
  have hdv := h.open_ v (.head _)
  obtain ⟨ρ, c, hρ⟩ := h.di.rank
  refine ⟨h.di.la, by rw [List.length_set]; exact h.di.ld, h.di.lo, fun x => if x = v then c else ρ x, c + 1, fun u hu hd => ?_⟩
  rw [Zdq, h.di.ld] at hd
  by_cases e : v = u
  · subst e
    simp only [if_true]
    refine ⟨by omega, fun k hk hf hfr => ?_⟩
    obtain ⟨q, hq1, hq2⟩ := ho.in hv hk hf hfr
    have h1 := h.pst q (by rw [hq]; omega)
    rw [hq2, Int.toNat_natCast] at h1
    have h2 : (n.Arcs.getD k default).to.toNat ≠ v := fun e => by rw [e, hdv] at h1; cases h1
    have hlt : (n.Arcs.getD k default).to.toNat < m := by
      rcases Nat.lt_or_ge (n.Arcs.getD k default).to.toNat m with h3 | h3
      · exact h3
      · rw [List.getD_eq_getElem?_getD, List.getElem?_eq_none (by rw [h.di.ld]; exact h3)] at h1; cases h1
    rw [if_neg h2]
    exact ⟨by rw [Z3z (Ne.symm h2)]; exact h1, (hρ _ hlt h1).1⟩
  · rw [if_neg (fun h => e h.1)] at hd
    obtain ⟨h1, h2⟩ := hρ u hu hd
    simp only [if_neg (show ¬ u = v from fun h => e h.symm)]
    refine ⟨by omega, fun k hk hf hfr => ?_⟩
    obtain ⟨h3, h4⟩ := h2 k hk hf hfr
    have h5 : (n.Arcs.getD k default).to.toNat ≠ v := fun e => by rw [e, hdv] at h3; cases h3
    rw [if_neg h5]
    exact ⟨by rw [Z3z (Ne.symm h5)]; exact h3, h4⟩
theorem Zgx {dn : List Bool} {v : Nat} : ∀ x, dn.getD x false = true → (dn.set v true).getD x false = true := by
 intro x hx
 rw [Zdq]; split
 · rfl
 · exact hx
theorem WI.pop {r v u e : Nat} {ps es : List Nat} {at_ : List Int} {dn on : List Bool} {way : List Int} (ho : OutIs n m f out) (h : WI n m f out r v (u :: ps) (e :: es) at_ dn on way) (hq : at_.getD v 0 = ((out.getD v []).length : Int)) :
    WI n m f out r u ps es at_ (dn.set v true) (on.set v false) (es.reverse.map fun e : Nat => (e : Int)) ∧ (n.Arcs.getD e default).fr = (u : Int) ∧ e < n.Arcs.length := by
  have hv := h.lt v (.head _)
  have hfin := h.fin ho hq
  have hnd := List.nodup_cons.1 h.nd
  cases h.ch with
  | step h1 h2 h3 h4 h5 h6 =>
  obtain ⟨q, q1, q2, q3⟩ := h5
  refine ⟨⟨hfin, h6.mono Zgx (fun _ _ => rfl), hnd.2, fun x hx => h.lt x (.tail _ hx), rfl, by rw [List.length_set]; exact h.lon, fun x hx => ?_, fun x hx => ?_, ?_, fun x hx hdx hup => ?_, ?_⟩, h3, h1⟩
  · rw [Zdq, h.lon]
    by_cases e : v = x
    · subst e; rw [if_pos ⟨rfl, hv⟩]; exact ⟨fun h => (by cases h), fun hm => absurd hm hnd.1⟩
    · rw [if_neg (fun h => e h.1), h.on x hx]
      exact ⟨fun h => by rcases List.mem_cons.1 h with h | h; (exact absurd h.symm e); exact h, fun h => .tail _ h⟩
  · have h1 : v ≠ x := fun e => hnd.1 (by rw [e]; exact hx)
    rw [Z3z h1]; exact h.open_ x (.tail _ hx)
  · rw [q1, Int.toNat_natCast]
    intro j hj
    rcases Nat.lt_or_ge j q with h7 | h7
    · exact Zgx _ (q3 j h7)
    · rw [show j = q by omega, q2, Int.toNat_natCast, h4, Int.toNat_natCast]
      exact Z5n (by rw [h.di.ld]; exact hv)
  · have hxv : v ≠ x := fun e => by subst e; rw [Z5n (by rw [h.di.ld]; exact hv)] at hdx; cases hdx
    rw [Z3z hxv] at hdx
    exact h.fresh x hx hdx (fun hm => by rcases List.mem_cons.1 hm with h | h; (exact hxv h.symm); exact hup h)
  · obtain ⟨pre, e⟩ := h.root
    cases pre with
    | nil => simp at e
    | cons x pre => exact ⟨pre, by simpa using (List.cons.inj e).2⟩
theorem WI.last {r v : Nat} {at_ : List Int} {dn on : List Bool} {way : List Int} (ho : OutIs n m f out) (h : WI n m f out r v [] [] at_ dn on way) (hq : at_.getD v 0 = ((out.getD v []).length : Int)) :
    EI n m f out at_ (dn.set v true) (on.set v false) way ∧ (dn.set v true).getD r false = true := by
  have hv := h.lt v (.head _)
  have hrv : r = v := by
    obtain ⟨pre, e⟩ := h.root
    cases pre with
    | nil => simpa using e.symm
    | cons x pre => simp at e
  refine ⟨⟨h.fin ho hq, by rw [h.way]; rfl, by rw [List.length_set]; exact h.lon, fun u hu => ?_, fun u hu hd => ?_⟩, by rw [hrv]; exact Z5n (by rw [h.di.ld]; exact hv)⟩
  · rw [Zdq, h.lon]
    by_cases e : v = u
    · rw [if_pos ⟨e, hv⟩]
    · rw [if_neg (fun h => e h.1), Bool.eq_false_iff]
      intro h1
      have := (h.on u hu).1 h1
      rw [List.mem_singleton] at this; exact e this.symm
  · have hxv : v ≠ u := fun e => by subst e; rw [Z5n (by rw [h.di.ld]; exact hv)] at hd; cases hd
    rw [Z3z hxv] at hd
    exact h.fresh u hu hd (by rw [List.mem_singleton]; exact fun e => hxv e.symm)
end dfs
end Go.Acq
namespace Go.Acq
open Go
set_option linter.unusedSimpArgs false
set_option linter.unusedVariables false
theorem appR {α : Type} {xs ys : List α} {i : Nat} {d : α} (h : xs.length ≤ i) : (xs ++ ys).getD i d = ys.getD (i - xs.length) d := by
 rw [List.getD_eq_getElem?_getD, List.getElem?_append_right h, ← List.getD_eq_getElem?_getD]
theorem appL {α : Type} {xs ys : List α} {i : Nat} {d : α} (h : i < xs.length) : (xs ++ ys).getD i d = xs.getD i d := by
 rw [List.getD_eq_getElem?_getD, List.getElem?_append_left h, ← List.getD_eq_getElem?_getD]
def smI : List Int → Int
  | [] => 0
  | x :: xs => x + smI xs
def cT : List Bool → Nat
  | [] => 0
  | b :: bs => (if b = true then 1 else 0) + cT bs
theorem Zee : ∀ {xs : List Int} {i : Nat} {y : Int}, i < xs.length → smI (xs.set i y) = smI xs - xs.getD i 0 + y
 | [], i, y, h => by simp at h
 | x :: xs, 0, y, _ => by simp [smI]; omega
 | x :: xs, i + 1, y, h => by
  have := Zee (xs := xs) (i := i) (y := y) (by simpa using h)
  simp only [List.set_cons_succ, smI, this, List.getD_cons_succ]; omega
theorem smI_le {B : Nat} : ∀ {xs : List Int}, (∀ i, i < xs.length → 0 ≤ xs.getD i 0 ∧ xs.getD i 0 ≤ B) → 0 ≤ smI xs ∧ smI xs ≤ (xs.length * B : Nat)
 | [], _ => by simp [smI]
 | x :: xs, h => by
  have h1 := smI_le (B := B) (xs := xs) (fun i hi => by have := h (i + 1) (by simpa using hi); simpa using this)
  have h2 := h 0 (by simp)
  simp only [List.getD_cons_zero] at h2
  simp only [smI, List.length_cons, Nat.add_mul, Nat.one_mul]
  omega
theorem cT_le : ∀ bs : List Bool, cT bs ≤ bs.length
 | [] => Nat.le_refl _
 | b :: bs => by have := cT_le bs; simp only [cT, List.length_cons]; split <;> omega
theorem cT_set : ∀ {bs : List Bool} {i : Nat}, i < bs.length → bs.getD i false = false → cT (bs.set i true) = cT bs + 1
 | [], i, h, _ => by simp at h
 | b :: bs, 0, _, h => by simp only [List.getD_cons_zero] at h; subst h; simp [cT]; omega
 | b :: bs, i + 1, h, hb => by
  have := cT_set (bs := bs) (i := i) (by simpa using h) (by simpa using hb)
  simp only [List.set_cons_succ, cT, this]; omega
section
variable {n : Net} {m : Nat} {f : List Int} {out : List (List Int)}
theorem s_closes {way at_ : List Int} {dn on : List Bool} {w : Int} {k : Int} (hl : way.length ≤ 4096) (hin : ∀ j, j < (way ++ [k]).length → ∃ a : Nat, (way ++ [k]).getD j 0 = a ∧ a < n.Arcs.length)
    (hex : ∃ j, j < (way ++ [k]).length ∧ (n.Arcs.getD ((way ++ [k]).getD j 0).toNat default).fr = w) :
    Ok (Z2p (CyclesSearch.mk n out at_ dn on way) w k) (fun c => ∃ i, i < (way ++ [k]).length ∧ c = (way ++ [k]).drop i ∧ (n.Arcs.getD ((way ++ [k]).getD i 0).toNat default).fr = w) := by
  have hl2 : (way ++ [k]).length = way.length + 1 := by simp
  unfold Z2p
  have hc : Z3s way = some way := by
    refine Zeg ?_
    unfold Z3s
    exact Ok.gd.2 ⟨by constructor <;> omega, Ok.some.2 rfl⟩
  refine Ok.bind.2 (Z9u hc (Ok.gd.2 ⟨by rw [hl2]; constructor <;> omega, Ok.bind.2 ?_⟩))
  generalize hws : way ++ [k] = ws at *
  unfold Z19
  refine Ok.bind.2 (Z90 (fun x => ∃ i : Nat, x = i ∧ i ≤ ws.length ∧ ∀ j, j < i → (n.Arcs.getD (ws.getD j 0).toNat default).fr ≠ w) (fun x => (ws.length - x).toNat) ⟨0, rfl, by omega, fun j hj => by omega⟩ (by unfold Z50; omega) ?_)
  rintro x ⟨i, rfl, hi, hno⟩ P next exit
  unfold Z0w
  simp only [Int.toNat_natCast]
  refine Ok.ite.2 ⟨fun hx => ?_, fun hx => ?_⟩
  · obtain ⟨a, ha, hal⟩ := hin i (by omega)
    refine Ok.gd.2 ⟨(by constructor <;> omega), Ok.bind.2 ?_⟩
    unfold Z2w
    rw [ha]
    refine Ok.gd.2 ⟨by show inb (a : Int) n.Arcs.length; constructor <;> omega, Ok.some.2 ?_⟩
    simp only [Int.toNat_natCast]
    refine Ok.ite.2 ⟨fun h => Ok.some.2 (exit _ ?_), fun h => Ok.gd.2 ⟨(by constructor <;> omega), Ok.some.2 (next _ ⟨i + 1, by simp, by omega, fun j hj => ?_⟩ (by omega))⟩⟩
    · have h := of_decide_eq_true h
      refine Ok.some.2 (Ok.gd.2 ⟨(by constructor <;> omega), Ok.some.2 ?_⟩)
      rw [Int.toNat_natCast]
      exact ⟨i, by omega, rfl, by rw [ha, Int.toNat_natCast]; exact h⟩
    · rcases Nat.lt_or_ge j i with h1 | h1
      · exact hno j h1
      · rw [show j = i by omega, ha, Int.toNat_natCast]; exact fun e => h (decide_eq_true e)
  · obtain ⟨j, hj, e⟩ := hex
    exact absurd e (hno j (by omega))
theorem WI.cyc {r v k w i : Nat} {pv es : List Nat} {at_ : List Int} {dn on : List Bool} {way : List Int} (h : WI n m f out r v pv es at_ dn on way) (hkl : k < n.Arcs.length) (hf : 0 < f.getD k 0) (hfr : (n.Arcs.getD k default).fr = (v : Int)) (hto : (n.Arcs.getD k default).to = (w : Int)) (hw : w < m) (hon : on.getD w false = true) :
    (∀ j, j < (way ++ [(k : Int)]).length → ∃ a : Nat, (way ++ [(k : Int)]).getD j 0 = a ∧ a < n.Arcs.length) ∧
    (∃ j, j < (way ++ [(k : Int)]).length ∧ (n.Arcs.getD ((way ++ [(k : Int)]).getD j 0).toNat default).fr = (w : Int)) ∧
    (i < (way ++ [(k : Int)]).length → (n.Arcs.getD ((way ++ [(k : Int)]).getD i 0).toNat default).fr = (w : Int) → Cyc n f ((way ++ [(k : Int)]).drop i)) := by
  have hlen := h.ch.len
  simp only [List.length_cons] at hlen
  have hat := h.ch.at
  have hwl : way.length = es.length := by rw [h.way]; simp
  have hwsl : (way ++ [(k : Int)]).length = es.length + 1 := by simp [hwl]
  have key : ∀ j, j < es.length + 1 → ∃ a : Nat, (way ++ [(k : Int)]).getD j 0 = a ∧ a < n.Arcs.length ∧ 0 < f.getD a 0 ∧ (n.Arcs.getD a default).fr = ((v :: pv).getD (es.length - j) 0 : Int) ∧ (n.Arcs.getD a default).to = (if j = es.length then (w : Int) else ((v :: pv).getD (es.length - (j + 1)) 0 : Int)) := by
    intro j hj
    by_cases e : j = es.length
    · refine ⟨k, by rw [appR (by omega), hwl, e]; simp, hkl, hf, ?_, by rw [if_pos e]; exact hto⟩
      rw [e, Nat.sub_self]; exact hfr
    · obtain ⟨h1, h2, h3, h4⟩ := hat (es.length - (j + 1)) (by omega)
      refine ⟨es.getD (es.length - (j + 1)) 0, ?_, h1, h2, ?_, by rw [if_neg e]; exact h4⟩
      · rw [appL (by omega), h.way, List.getD_eq_getElem?_getD, List.getElem?_map, List.getElem?_reverse (by omega), List.getD_eq_getElem?_getD, show es.length - 1 - j = es.length - (j + 1) by omega, List.getElem?_eq_getElem (by omega)]
        rfl
      · rw [h3, show es.length - (j + 1) + 1 = es.length - j by omega]
  have hinj : ∀ a b, a < es.length + 1 → b < es.length + 1 → (v :: pv).getD a 0 = (v :: pv).getD b 0 → a = b := by
    intro a b ha hb e
    have hl : (v :: pv).length = es.length + 1 := by simp [hlen]
    rw [List.getD_eq_getElem?_getD, List.getD_eq_getElem?_getD, List.getElem?_eq_getElem (by omega), List.getElem?_eq_getElem (by omega)] at e
    exact (List.getElem_inj h.nd).1 e
  refine ⟨fun j hj => ?_, ?_, fun hi hfi => ?_⟩
  · obtain ⟨a, h1, h2, -⟩ := key j (by omega)
    exact ⟨a, h1, h2⟩
  · obtain ⟨p, hp, e⟩ := List.getElem_of_mem ((h.on w hw).1 hon)
    have hp2 : p < es.length + 1 := by simp at hp; omega
    refine ⟨es.length - p, by omega, ?_⟩
    obtain ⟨a, h1, h2, h3, h4, -⟩ := key (es.length - p) (by omega)
    rw [h1, Int.toNat_natCast, h4, show es.length - (es.length - p) = p by omega, List.getD_eq_getElem?_getD, List.getElem?_eq_getElem hp, e]; rfl
  · have hdl : ((way ++ [(k : Int)]).drop i).length = es.length + 1 - i := by rw [List.length_drop, hwsl]
    have hdg : ∀ j, ((way ++ [(k : Int)]).drop i).getD j 0 = (way ++ [(k : Int)]).getD (i + j) 0 := fun j => by
      rw [List.getD_eq_getElem?_getD, List.getElem?_drop, ← List.getD_eq_getElem?_getD]
    refine ⟨by omega, fun j hj => ?_, fun a b ha hb e => ?_⟩
    · rw [hdl] at hj ⊢
      obtain ⟨a, h1, h2, h3, h4, h5⟩ := key (i + j) (by omega)
      refine ⟨a, by rw [hdg]; exact h1, h2, h3, ?_⟩
      rw [h5, hdg]
      by_cases hj2 : j + 1 = es.length + 1 - i
      · rw [if_pos (by omega), hj2, Nat.mod_self, Nat.add_zero]; exact hfi.symm
      · rw [if_neg (by omega), Nat.mod_eq_of_lt (by omega)]
        obtain ⟨b, g1, g2, g3, g4, -⟩ := key (i + (j + 1)) (by omega)
        rw [g1, Int.toNat_natCast, g4]
        congr 2
    · rw [hdl] at ha hb
      rw [hdg, hdg] at e
      obtain ⟨x, h1, h2, h3, h4, -⟩ := key (i + a) (by omega)
      obtain ⟨y, g1, g2, g3, g4, -⟩ := key (i + b) (by omega)
      rw [h1, g1, Int.toNat_natCast, Int.toNat_natCast, h4, g4] at e
      have := hinj _ _ (by omega) (by omega) (Int.natCast_inj.1 e)
      omega
end
end Go.Acq
namespace Go.Acq
open Go
set_option linter.unusedSimpArgs false
set_option linter.unusedVariables false
section
variable {n : Net} {m : Nat} {f : List Int} {out : List (List Int)}
theorem DI.sm {at_ : List Int} {dn : List Bool} (ho : OutIs n m f out) (h : DI n m f out at_ dn) : 0 ≤ smI at_ ∧ smI at_ ≤ ((m * n.Arcs.length : Nat) : Int) := by
 have := smI_le (B := n.Arcs.length) (xs := at_) (fun i hi => by
  rw [h.la] at hi
  have h1 := h.lo i hi
  have h2 := ho.len hi
  omega)
 rw [h.la] at this
 exact this
theorem s_inner {A : List Int} {D O : List Bool} {W : List Int} (hm2 : m ≤ 4096) (hl : n.Arcs.length ≤ 16384) (he : Z7j m n.Arcs) (ho : OutIs n m f out) {r v : Nat} {pv es : List Nat} {at0 : List Int} {dn on : List Bool} {way : List Int} (h : WI n m f out r v pv es at0 dn on way) :
    Ok (Z2l (fun s => Z22 (CyclesSearch.mk n out A D O W) (v : Int) dn on way s) Z50 at0) (fun o => match o with
      | .inl (c, _) => Cyc n f c
      | .inr (.inl (w, at', dn', on', way')) => ∃ w' k : Nat, w = w' ∧ dn' = dn ∧ WI n m f out r w' (v :: pv) (k :: es) at' dn on' way' ∧ smI at0 < smI at'
      | .inr (.inr at') => WI n m f out r v pv es at' dn on way ∧ at'.getD v 0 = ((out.getD v []).length : Int) ∧ smI at0 ≤ smI at') := by
  have hv := h.lt v (.head _)
  have hlo := ho.len hv
  have h1 := h.ch.len
  have hwl : way.length = es.length := by rw [h.way]; simp
  have hpl : es.length + 1 ≤ m := by
    have := List.Nodup.length_le_of_subset h.nd (l₂ := List.range m) (fun u hu => List.mem_range.2 (h.lt u hu))
    rw [h1, List.length_range] at this; exact this
  refine Z90 (fun a => WI n m f out r v pv es a dn on way ∧ smI at0 ≤ smI a) (fun a => ((out.getD v []).length - a.getD v 0).toNat) ⟨h, Int.le_refl _⟩ (by
    have := (h.di.lo v hv).1
    unfold Z50; omega) ?_
  rintro a ⟨hW, hs⟩ P next exit
  unfold Z22
  have hal := hW.di.la
  have hdl := hW.di.ld
  have hol := hW.lon
  have hoo := ho.1
  obtain ⟨q, hq⟩ : ∃ q : Nat, a.getD v 0 = (q : Int) := ⟨(a.getD v 0).toNat, (Int.toNat_of_nonneg (hW.di.lo v hv).1).symm⟩
  simp only [Int.toNat_natCast, hq]
  refine Ok.gd.2 ⟨(by constructor <;> omega), Ok.gd.2 ⟨(by constructor <;> omega), Ok.ite.2 ⟨fun hx => ?_, fun hx => ?_⟩⟩⟩
  · have hql : q < (out.getD v []).length := by omega
    obtain ⟨k, hk, hkl, hf, hfr⟩ := ho.at hv hql
    have e1 := he k hkl true
    simp only [vtx, if_true] at e1
    obtain ⟨w, hto⟩ : ∃ w : Nat, (n.Arcs.getD k default).to = (w : Int) := ⟨(n.Arcs.getD k default).to.toNat, by omega⟩
    have hw : w < m := by omega
    simp only [hk, hto, Int.toNat_natCast]
    refine Ok.gd.2 ⟨(by constructor <;> omega), Ok.gd.2 ⟨(by constructor <;> omega), Ok.gd.2 ⟨(by constructor <;> omega), Ok.gd.2 ⟨(by constructor <;> omega), Ok.gd.2 ⟨(by constructor <;> omega), Ok.gd.2 ⟨(by constructor <;> omega), Ok.gd.2 ⟨(by constructor <;> omega), Ok.gd.2 ⟨(by constructor <;> omega), Ok.ite.2 ⟨fun hon => ?_, fun hon => Ok.gd.2 ⟨(by constructor <;> omega), Ok.ite.2 ⟨fun hd => ?_, fun hd => ?_⟩⟩⟩⟩⟩⟩⟩⟩⟩⟩⟩
    · obtain ⟨c1, c2, c3⟩ := hW.cyc (i := 0) hkl hf hfr hto hw hon
      refine Ok.bind.2 (Ok.mono (s_closes (by omega) c1 c2) ?_)
      rintro c ⟨i, hi, rfl, hfi⟩
      exact Ok.some.2 (exit _ ((hW.cyc (i := i) hkl hf hfr hto hw hon).2.2 hi hfi))
    · have hdw : dn.getD w false = false := by simpa using hd
      have hp := hW.push hq hql hk hkl hf hfr hto hw (Bool.eq_false_iff.2 hon) hdw
      refine Ok.gd.2 ⟨by simp only [List.length_append, List.length_singleton]; constructor <;> omega, Ok.gd.2 ⟨(by constructor <;> omega), Ok.some.2 (exit _ ⟨w, k, rfl, rfl, hp, ?_⟩)⟩⟩
      rw [Zee (by omega), hq]; omega
    · have hdw : dn.getD w false = true := by simpa using hd
      have hp := hW.skip hq hql (by rw [hk, Int.toNat_natCast, hto, Int.toNat_natCast]; exact hdw)
      refine Ok.some.2 (next _ ⟨hp, ?_⟩ ?_)
      · rw [Zee (by omega), hq]; omega
      · rw [Z5n (by omega), hq]; omega
  · have := hW.di.lo v hv
    exact Ok.some.2 (exit _ ⟨hW, by omega, hs⟩)
theorem s_from (hm2 : m ≤ 4096) (hl : n.Arcs.length ≤ 16384) (he : Z7j m n.Arcs) (ho : OutIs n m f out) {v : Nat} {at0 : List Int} {dn0 on0 : List Bool} {way0 : List Int} (h : EI n m f out at0 dn0 on0 way0) (hv : v < m) (hd : dn0.getD v false = false) :
    Ok (Z30 (CyclesSearch.mk n out at0 dn0 on0 way0) v) (fun r => Cyc n f r.1 ∨ (r.1 = [] ∧ ∃ at' dn' on', r.2 = CyclesSearch.mk n out at' dn' on' [] ∧ EI n m f out at' dn' on' [] ∧ dn'.getD v false = true ∧ ∀ u, dn0.getD u false = true → dn'.getD u false = true)) := by
  have hlon := h.lon
  have hML : m * n.Arcs.length ≤ 4096 * 16384 := Nat.mul_le_mul hm2 hl
  unfold Z30
  refine Ok.gd.2 ⟨by show inb (v : Int) on0.length; constructor <;> omega, Ok.bind.2 ?_⟩
  simp only [Int.toNat_natCast]
  refine Z90 (fun s => (∀ u, dn0.getD u false = true → s.2.2.1.getD u false = true) ∧ ((∃ (w : Nat) (pv es : List Nat), s.1 = w ∧ WI n m f out v w pv es s.2.1 s.2.2.1 s.2.2.2.1 s.2.2.2.2) ∨ (s.1 = -1 ∧ EI n m f out s.2.1 s.2.2.1 s.2.2.2.1 s.2.2.2.2 ∧ s.2.2.1.getD v false = true)))
    (fun s => (((m * n.Arcs.length : Nat) : Int) - smI s.2.1).toNat + (m - cT s.2.2.1)) ⟨fun u hu => hu, .inl ⟨v, [], [], rfl, WI.begin h hv hd⟩⟩ (by
      have := h.di.sm ho
      unfold Z50; simp only; omega) ?_
  rintro ⟨x, a, dn, on, way⟩ ⟨hmo, hI⟩ P next exit
  simp only at hmo hI next ⊢
  unfold Z2e
  rcases hI with ⟨w, pv, es, rfl, hW⟩ | ⟨rfl, hE, hdv⟩
  · refine Ok.ite.2 ⟨fun _ => ?_, fun hx => absurd (Int.natCast_nonneg w) hx⟩
    refine Ok.bind.2 (Ok.mono (s_inner hm2 hl he ho hW) ?_)
    have hsm := hW.di.sm ho
    rintro (⟨c, st⟩ | ⟨w2, at', dn', on', way'⟩ | at') hr
    · exact Ok.some.2 (exit _ (Ok.some.2 (.inl hr)))
    · obtain ⟨w', k, rfl, rfl, hW', hlt⟩ := hr
      have hsm' := hW'.di.sm ho
      exact Ok.some.2 (next _ ⟨hmo, .inl ⟨w', w :: pv, k :: es, rfl, hW'⟩⟩ (by simp only; omega))
    · obtain ⟨hW', hfull, hle⟩ := hr
      have hsm' := hW'.di.sm ho
      have hwm := hW'.lt w (.head _)
      have hdw := hW'.open_ w (.head _)
      have hdl := hW'.di.ld
      have hol := hW'.lon
      have hcs := cT_set (bs := dn) (i := w) (by omega) hdw
      have hcl := cT_le (dn.set w true)
      rw [List.length_set, hdl] at hcl
      have hmo' : ∀ u, dn0.getD u false = true → (dn.set w true).getD u false = true := fun u hu => Zgx u (hmo u hu)
      have hway := hW'.way
      have hch := hW'.ch.len
      unfold Z36 Z3k
      simp only [Int.toNat_natCast]
      cases es with
      | nil =>
        have hpv : pv = [] := by simpa using hch
        subst hpv
        obtain ⟨hE, hdr⟩ := hW'.last ho hfull
        refine Ok.bind.2 (Ok.gd.2 ⟨(by constructor <;> omega), Ok.gd.2 ⟨(by constructor <;> omega), Ok.ite.2 ⟨fun _ => Ok.some.2 ?_, fun hx => absurd (by rw [hway]; rfl) hx⟩⟩⟩)
        exact Ok.some.2 (next _ ⟨hmo', .inr ⟨rfl, hE, hdr⟩⟩ (by simp only; omega))
      | cons e es =>
        cases pv with
        | nil => simp at hch
        | cons u ps =>
          obtain ⟨hW2, hfr, hel⟩ := hW'.pop ho hfull
          have hwl : way.length = es.length + 1 := by rw [hway]; simp
          have hpl := List.Nodup.length_le_of_subset hW'.nd (l₂ := List.range m) (fun u hu => List.mem_range.2 (hW'.lt u hu))
          rw [hch, List.length_range, List.length_cons] at hpl
          have hlast : way.getD es.length 0 = (e : Int) := by
            rw [hway, List.getD_eq_getElem?_getD, List.getElem?_map, List.reverse_cons, List.getElem?_append_right (by simp)]
            simp
          have htake : way.take es.length = es.reverse.map fun e : Nat => (e : Int) := by
            rw [hway, List.reverse_cons, List.map_append, List.take_left' (by simp)]
          have hi : ((way.length : Int) - 1).toNat = es.length := by omega
          refine Ok.bind.2 (Ok.gd.2 ⟨(by constructor <;> omega), Ok.gd.2 ⟨(by constructor <;> omega), Ok.ite.2 ⟨fun hx => absurd hx (by omega), fun _ => ?_⟩⟩⟩)
          simp only [hi, hlast, Int.toNat_natCast, htake, hfr]
          refine Ok.gd.2 ⟨(by constructor <;> omega), Ok.gd.2 ⟨(by constructor <;> omega), Ok.gd.2 ⟨(by constructor <;> omega), Ok.gd.2 ⟨(by constructor <;> omega), Ok.gd.2 ⟨by show inb (e : Int) n.Arcs.length; constructor <;> omega, Ok.some.2 ?_⟩⟩⟩⟩⟩
          exact Ok.some.2 (next _ ⟨hmo', .inl ⟨u, ps, es, rfl, hW2⟩⟩ (by simp only; omega))
  · refine Ok.ite.2 ⟨fun hx => absurd hx (by omega), fun _ => Ok.some.2 (exit _ ?_)⟩
    unfold Z35
    have := hE.way
    subst this
    exact Ok.some.2 (.inr ⟨rfl, a, dn, on, rfl, hE, hdv, hmo⟩)
theorem Zgk (hm : n.N = m) (hm2 : m ≤ 4096) (hl : n.Arcs.length ≤ 16384) (he : Z7j m n.Arcs) (hf : f.length = n.Arcs.length) :
    Ok (Z3c n f) (fun r => Cyc n f r ∨ (r = [] ∧ Zge n f)) := by
  unfold Z3c
  refine Ok.bind.2 (Ok.mono (Zgl hm hm2 he hl hf) ?_)
  rintro s ⟨out, rfl, ho⟩
  simp only
  refine Ok.bind.2 (Z90 (fun s => ∃ k : Nat, s.2.2.2.2 = k ∧ k ≤ m ∧ EI n m f out s.1 s.2.1 s.2.2.1 s.2.2.2.1 ∧ ∀ u, u < k → s.2.1.getD u false = true) (fun s => (m - s.2.2.2.2).toNat)
    ⟨0, rfl, by omega, ⟨⟨List.length_replicate, List.length_replicate, fun u hu => by rw [Z2d]; omega, fun _ => 0, 0, fun u hu hd => (by rw [Z2d] at hd; cases hd)⟩, rfl, List.length_replicate, fun u _ => Z2d .., fun u _ _ => Z2d ..⟩, fun u hu => by omega⟩ (by unfold Z50; simp only; omega) ?_)
  rintro ⟨a, dn, on, way, x⟩ ⟨k, h1, hk, hE, hdn⟩ P next exit
  simp only at h1 hE hdn next ⊢
  subst h1
  have hdl := hE.di.ld
  unfold Z45
  simp only [Int.toNat_natCast]
  refine Ok.ite.2 ⟨fun hx => ?_, fun hx => ?_⟩
  · refine Ok.gd.2 ⟨(by constructor <;> omega), Ok.ite.2 ⟨fun hd => ?_, fun hd => ?_⟩⟩
    · refine Ok.gd.2 ⟨(by constructor <;> omega), Ok.some.2 (next _ ⟨k + 1, by simp, by omega, hE, fun u hu => ?_⟩ (by simp only; omega))⟩
      rcases Nat.lt_or_ge u k with h | h
      · exact hdn u h
      · rw [show u = k by omega]; exact hd
    · have hw := hE.way
      subst hw
      refine Ok.bind.2 (Ok.mono (s_from (v := k) hm2 hl he ho hE (by omega) (Bool.eq_false_iff.2 hd)) ?_)
      rintro ⟨c, st⟩ (hc | ⟨h1, a', dn', on', h2, hE', hd', hmo⟩)
      · simp only at hc ⊢
        exact Ok.ite.2 ⟨fun _ => Ok.some.2 (exit _ (Ok.some.2 (.inl hc))), fun h => absurd (by have := hc.1; omega) h⟩
      · simp only at h1 h2 ⊢
        subst h1; subst h2
        refine Ok.ite.2 ⟨fun h => absurd h (by simp), fun _ => Ok.gd.2 ⟨(by constructor <;> omega), Ok.some.2 (next _ ⟨k + 1, by simp, by omega, hE', fun u hu => ?_⟩ (by simp only; omega))⟩⟩
        rcases Nat.lt_or_ge u k with h | h
        · exact hmo u (hdn u h)
        · rw [show u = k by omega]; exact hd'
  · refine Ok.some.2 (exit _ ?_)
    unfold Z53
    refine Ok.some.2 (.inr ⟨rfl, ?_⟩)
    obtain ⟨ρ, c, hρ⟩ := hE.di.rank
    refine ⟨ρ, fun j hj hfj => ?_⟩
    have e0 := he j hj false
    simp only [vtx, Bool.false_eq_true, if_false] at e0
    have hu : (n.Arcs.getD j default).fr.toNat < m := by omega
    exact ((hρ _ hu (hdn _ (by omega))).2 j hj hfj (by omega)).2
theorem FwithinP.vert {n : Net} {f : List Int} (h : FwithinP n f) : ∃ m : Nat, n.N = m ∧ 2 ≤ m ∧ m ≤ 4096 ∧ n.Arcs.length ≤ 16384 ∧ Z7j m n.Arcs ∧ f.length = n.Arcs.length := by
 have hz := Z78 h.1
 obtain ⟨m, hm⟩ : ∃ m : Nat, n.N = m := ⟨n.N.toNat, by omega⟩
 exact ⟨m, hm, by omega, by omega, by omega, Zgw (by rw [← hm]; exact hz.2.2.2.1), h.2.1⟩
theorem s_Find {n : Net} {f : List Int} (hl : lenok n.Arcs.length) : Ok (Z37 n f) (fun r => (¬ FwithinP n f ∧ r = ([], 20)) ∨ (FwithinP n f ∧ r.2 = 0 ∧ Z3c n f = some r.1 ∧ (Cyc n f r.1 ∨ (r.1 = [] ∧ Zge n f)))) := by
 unfold Z37
 refine Ok.bind.2 (Ok.mono (Zb9 hl) fun b hb => Ok.ite.2 ⟨fun h => Ok.some.2 (.inl ⟨fun h2 => (by rw [hb.2 h2] at h; cases h), rfl⟩), fun h => ?_⟩)
 have hw : FwithinP n f := hb.1 (by cases b; exact absurd rfl h; rfl)
 obtain ⟨m, hm, -, hm2, hl2, he, hfl⟩ := hw.vert
 obtain ⟨c, hc, hc2⟩ := Zgk hm hm2 hl2 he hfl
 exact Ok.bind.2 (Z9u hc (Ok.some.2 (.inr ⟨hw, rfl, hc, hc2⟩)))
end
end Go.Acq
namespace Go.Acq
open Go
set_option linter.unusedSimpArgs false
set_option linter.unusedVariables false
def Zdi (f : List Int) : Nat → Nat
  | 0 => 0
  | k + 1 => Zdi f k + (if 0 < f.getD k 0 then 1 else 0)
theorem Zgr (f : List Int) : ∀ k, Zdi f k ≤ k
 | 0 => Nat.le_refl _
 | k + 1 => by have := Zgr f k; simp only [Zdi]; split <;> omega
theorem Zdn {f g : List Int} : ∀ {k : Nat}, (∀ i, i < k → g.getD i 0 ≤ f.getD i 0) → Zdi g k ≤ Zdi f k
 | 0, _ => Nat.le_refl _
 | k + 1, h => by
  have := Zdn (k := k) fun i hi => h i (by omega)
  have := h k (by omega)
  simp only [Zdi]; split <;> split <;> omega
theorem Zgq {f g : List Int} {a : Nat} : ∀ {k : Nat}, (∀ i, i < k → g.getD i 0 ≤ f.getD i 0) → a < k → 0 < f.getD a 0 → g.getD a 0 ≤ 0 → Zdi g k < Zdi f k
 | 0, _, h, _, _ => by omega
 | k + 1, h, ha, hf, hg => by
  by_cases e : a = k
  ·
   subst e
   have := Zdn (k := a) fun i hi => h i (by omega)
   simp only [Zdi]
   rw [if_neg (show ¬ 0 < g.getD a 0 by omega), if_pos hf]; omega
  ·
   have := Zgq (k := k) (fun i hi => h i (by omega)) (by omega) hf hg
   have := h k (by omega)
   simp only [Zdi]; split <;> split <;> omega
theorem Zgv {al : List Arc} {f : List Int} {i : Nat} {y : Int} (hi : i < f.length) (v : Int) : ∀ k, ex al (f.set i y) v k = ex al f v k + if i < k then ((if (al.getD i default).to = v then y - f.getD i 0 else 0) - (if (al.getD i default).fr = v then y - f.getD i 0 else 0)) else 0
 | 0 => by simp [ex]
 | k + 1 => by
  have ih := Zgv (al := al) hi v (y := y) k
  simp only [ex]
  rw [ih]
  by_cases e : i = k
  ·
   subst e
   rw [if_neg (show ¬ i < i by omega), if_pos (show i < i + 1 by omega), Z5n hi]
   split <;> split <;> omega
  ·
   rw [Z3z e]
   by_cases e2 : i < k
   · rw [if_pos e2, if_pos (show i < k + 1 by omega)]; omega
   · rw [if_neg e2, if_neg (show ¬ i < k + 1 by omega)]; omega
structure Canc (n : Net) (f g : List Int) : Prop where
  len : g.length = n.Arcs.length
  le : ∀ i, i < n.Arcs.length → 0 ≤ g.getD i 0 ∧ g.getD i 0 ≤ f.getD i 0
  ex : ∀ v, ex n.Arcs g v n.Arcs.length = ex n.Arcs f v n.Arcs.length
  all : ∀ a, a < n.Arcs.length → (∀ f' c, (∀ i, i < n.Arcs.length → f'.getD i 0 ≤ f.getD i 0) → Cyc n f' c → ∃ j, j < c.length ∧ c.getD j 0 = (a : Int)) → ∀ b, b < n.Arcs.length → f.getD b 0 - g.getD b 0 ≤ f.getD a 0 - g.getD a 0
theorem Canc.refl {n : Net} {f : List Int} (hl : f.length = n.Arcs.length) (h : ∀ i, i < n.Arcs.length → 0 ≤ f.getD i 0) : Canc n f f := ⟨hl, fun i hi => ⟨h i hi, Int.le_refl _⟩, fun _ => rfl, fun a _ _ b _ => by omega⟩
theorem Canc.trans {n : Net} {f g h : List Int} (h1 : Canc n f g) (h2 : Canc n g h) : Canc n f h :=
 ⟨h2.len, fun i hi => by have := h1.le i hi; have := h2.le i hi; omega, fun v => (h2.ex v).trans (h1.ex v), fun a ha hc b hb => by
  have e1 := h1.all a ha hc b hb
  have e2 := h2.all a ha (fun f' c hf' hcy => hc f' c (fun i hi => by have := hf' i hi; have := h1.le i hi; omega) hcy) b hb
  omega⟩
theorem Canc.within {n : Net} {f g : List Int} (h : Canc n f g) (hw : FwithinP n f) : FwithinP n g := ⟨hw.1, h.len, fun i hi => by have := h.le i hi; have := hw.2.2 i hi; omega⟩
section
variable {n : Net} {f c : List Int}
theorem s_least (hc : Cyc n f c) (hf : f.length = n.Arcs.length) (hl : n.Arcs.length ≤ 16384) (hcl : c.length ≤ n.Arcs.length) :
    Ok (Z2l (fun s => Z2y f c s.1 s.2) Z50 (f.getD (c.getD 0 0).toNat 0, 0)) (fun d => (∀ j, j < c.length → d ≤ f.getD (c.getD j 0).toNat 0) ∧ ∃ j, j < c.length ∧ d = f.getD (c.getD j 0).toNat 0) := by
  refine Z90 (fun s => ∃ j : Nat, s.2 = j ∧ j ≤ c.length ∧ (∀ i, i < j → s.1 ≤ f.getD (c.getD i 0).toNat 0) ∧ ∃ i, i < c.length ∧ s.1 = f.getD (c.getD i 0).toNat 0) (fun s => (c.length - s.2).toNat) ⟨0, rfl, by omega, fun i hi => by omega, 0, hc.1, rfl⟩ (by unfold Z50; simp only; omega) ?_
  rintro ⟨d, x⟩ ⟨j, h1, hj, h2, h3⟩ P next exit
  simp only at h1 h2 h3 next ⊢
  subst h1
  unfold Z2y
  simp only [Int.toNat_natCast]
  refine Ok.ite.2 ⟨fun hx => ?_, fun hx => Ok.some.2 (exit _ ⟨fun i hi => h2 i (by omega), h3⟩)⟩
  obtain ⟨k, hk, hkl, hfk, -⟩ := hc.2.1 j (by omega)
  simp only [hk]
  refine Ok.gd.2 ⟨(by constructor <;> omega), Ok.gd.2 ⟨(by constructor <;> omega), Ok.gd.2 ⟨(by constructor <;> omega), Ok.some.2 (next _ ⟨j + 1, by simp, by omega, fun i hi => ?_, ?_⟩ (by simp only; omega))⟩⟩⟩
  · simp only [Int.toNat_natCast]
    rcases Nat.lt_or_ge i j with h | h
    · have := h2 i h; omega
    · rw [show i = j by omega, hk, Int.toNat_natCast]; omega
  · simp only [Int.toNat_natCast]
    obtain ⟨i, hi, e⟩ := h3
    by_cases hle : d ≤ f.getD k 0
    · exact ⟨i, hi, by rw [Int.min_eq_left hle]; exact e⟩
    · exact ⟨j, by omega, by rw [Int.min_eq_right (by omega), hk, Int.toNat_natCast]⟩
theorem Cyc.arc_inj (hc : Cyc n f c) {i j : Nat} (hi : i < c.length) (hj : j < c.length) (h : c.getD i 0 = c.getD j 0) : i = j := hc.2.2 i j hi hj (by rw [h])
theorem Cyc.len (hc : Cyc n f c) : c.length ≤ n.Arcs.length := by
 have hnd : (c.map Int.toNat).Nodup := by
  refine List.pairwise_iff_getElem.2 fun i j hi hj hij h => ?_
  rw [List.length_map] at hi hj
  rw [List.getElem_map, List.getElem_map] at h
  obtain ⟨a, ha, -⟩ := hc.2.1 i (by omega)
  obtain ⟨b, hb, -⟩ := hc.2.1 j hj
  have e1 : c.getD i 0 = c[i] := by rw [List.getD_eq_getElem?_getD, List.getElem?_eq_getElem (by omega)]; rfl
  have e2 : c.getD j 0 = c[j] := by rw [List.getD_eq_getElem?_getD, List.getElem?_eq_getElem hj]; rfl
  have := hc.arc_inj (i := i) (j := j) (by omega) hj (by rw [ha, hb]; rw [← e1, ← e2, ha, hb, Int.toNat_natCast, Int.toNat_natCast] at h; rw [h])
  omega
 have := List.Nodup.length_le_of_subset hnd (l₂ := List.range n.Arcs.length) (fun u hu => by
  obtain ⟨x, hx, rfl⟩ := List.mem_map.1 hu
  obtain ⟨i, hi, rfl⟩ := List.getElem_of_mem hx
  obtain ⟨a, ha, hal, -⟩ := hc.2.1 i hi
  have e1 : c.getD i 0 = c[i] := by rw [List.getD_eq_getElem?_getD, List.getElem?_eq_getElem hi]; rfl
  rw [← e1, ha, Int.toNat_natCast]
  exact List.mem_range.2 hal)
 rw [List.length_map, List.length_range] at this
 exact this
theorem s_take {d : Int} (hc : Cyc n f c) (hw : FwithinP n f) (hl : n.Arcs.length ≤ 16384) (hd0 : 0 < d) (hd : ∀ j, j < c.length → d ≤ f.getD (c.getD j 0).toNat 0) :
    Ok (Z2l (fun s => Z2x c d s.1 s.2) Z50 (f, 0)) (fun g => Canc n f g ∧ ∀ j, j < c.length → g.getD (c.getD j 0).toNat 0 = f.getD (c.getD j 0).toNat 0 - d) := by
  have hcl := hc.len
  have hfl := hw.2.1
  refine Z90 (fun s => ∃ j : Nat, s.2 = j ∧ j ≤ c.length ∧ s.1.length = n.Arcs.length ∧ (∀ i, i < n.Arcs.length → (s.1.getD i 0 = f.getD i 0 ∧ ∀ p, p < j → c.getD p 0 ≠ (i : Int)) ∨ (s.1.getD i 0 = f.getD i 0 - d ∧ ∃ p, p < j ∧ c.getD p 0 = (i : Int))) ∧
    ∀ v, ex n.Arcs s.1 v n.Arcs.length = ex n.Arcs f v n.Arcs.length + (if (n.Arcs.getD (c.getD 0 0).toNat default).fr = v then d else 0) - (if (n.Arcs.getD (c.getD (j % c.length) 0).toNat default).fr = v then d else 0))
    (fun s => (c.length - s.2).toNat) ⟨0, rfl, by omega, hfl, fun i hi => .inl ⟨rfl, fun p hp => by omega⟩, fun v => by rw [Nat.zero_mod]; simp only; omega⟩ (by unfold Z50; simp only; omega) ?_
  rintro ⟨xs, x⟩ ⟨j, h1, hj, hxl, hxs, hex⟩ P next exit
  simp only at h1 hxl hxs hex next ⊢
  subst h1
  unfold Z2x
  simp only [Int.toNat_natCast]
  refine Ok.ite.2 ⟨fun hx => ?_, fun hx => ?_⟩
  · have hjl : j < c.length := by omega
    obtain ⟨k, hk, hkl, hfk, hto⟩ := hc.2.1 j hjl
    have hdk := hd j hjl
    rw [hk, Int.toNat_natCast] at hdk
    have hwk := hw.2.2 k hkl
    have ht1 := hw.tot (k + 1) (by omega)
    have ht0 := hw.tot k (by omega)
    simp only [tot] at ht1
    have hxk : xs.getD k 0 = f.getD k 0 := by
      rcases hxs k hkl with h | ⟨-, p, hp, e⟩
      · exact h.1
      · have := hc.arc_inj (i := p) (j := j) (by omega) hjl (by rw [e, hk]); omega
    simp only [hk, Int.toNat_natCast, hxk]
    refine Ok.gd.2 ⟨(by constructor <;> omega), Ok.gd.2 ⟨(by constructor <;> omega), Ok.gd.2 ⟨(by constructor <;> omega), Ok.gd.2 ⟨(by constructor <;> omega), Ok.gd.2 ⟨(by constructor <;> omega), Ok.some.2 (next _ ⟨j + 1, by simp, by omega, by simp [hxl], fun i hi => ?_, fun v => ?_⟩ (by simp only; omega))⟩⟩⟩⟩⟩
    · by_cases e : k = i
      · subst e
        exact .inr ⟨Z5n (by omega), j, by omega, hk⟩
      · simp only [Z3z e]
        rcases hxs i hi with ⟨h, h2⟩ | ⟨h, p, hp, h2⟩
        · refine .inl ⟨h, fun p hp => ?_⟩
          rcases Nat.lt_or_ge p j with h3 | h3
          · exact h2 p h3
          · rw [show p = j by omega, hk]; omega
        · exact .inr ⟨h, p, by omega, h2⟩
    · simp only
      rw [Zgv (by omega), if_pos hkl, hex v, hxk, Nat.mod_eq_of_lt hjl, hk, Int.toNat_natCast, hto]
      split <;> split <;> split <;> omega
  · have e : j = c.length := by omega
    subst e
    refine Ok.some.2 (exit _ ⟨⟨hxl, fun i hi => ?_, fun v => ?_, fun a ha hca b hb => ?_⟩, fun p hp => ?_⟩)
    · have := hw.2.2 i hi
      rcases hxs i hi with ⟨h, -⟩ | ⟨h, p, hp, h2⟩
      · omega
      · have := hd p hp
        rw [h2, Int.toNat_natCast] at this; omega
    · rw [hex v, Nat.mod_self]; omega
    · obtain ⟨p, hp, h2⟩ := hca f c (fun i _ => Int.le_refl _) hc
      have ea : xs.getD a 0 = f.getD a 0 - d := by
        rcases hxs a ha with ⟨-, h⟩ | ⟨h, -⟩
        · exact absurd h2 (h p hp)
        · exact h
      rcases hxs b hb with ⟨h, -⟩ | ⟨h, -⟩ <;> omega
    · obtain ⟨k, hk, hkl, -⟩ := hc.2.1 p hp
      rw [hk, Int.toNat_natCast]
      rcases hxs k hkl with ⟨-, h⟩ | ⟨h, -⟩
      · exact absurd hk (h p hp)
      · exact h
theorem Zep (hl : lenok n.Arcs.length) : Ok (Z2f n f) (fun r => (¬ FwithinP n f ∧ r = ([], 0, 20)) ∨
    (FwithinP n f ∧ r.2.2 = 0 ∧ Canc n f r.1 ∧ Zge n r.1 ∧ Z3c n r.1 = some [] ∧ 0 ≤ r.2.1 ∧ r.2.1 ≤ Zdi f n.Arcs.length ∧ (Zge n f → r.1 = f ∧ r.2.1 = 0) ∧ (¬ Zge n f → 0 < r.2.1))) := by
  unfold Z2f
  refine Ok.bind.2 (Ok.mono (Zb9 hl) fun b hb => Ok.ite.2 ⟨fun h => Ok.some.2 (.inl ⟨fun h2 => (by rw [hb.2 h2] at h; cases h), rfl⟩), fun h => ?_⟩)
  have hw : FwithinP n f := hb.1 (by cases b; exact absurd rfl h; rfl)
  obtain ⟨m, hm, -, hm2, hl2, he, hfl⟩ := hw.vert
  have hcl : Z2z f = some f := by
    refine Zeg ?_
    unfold Z2z
    exact Ok.gd.2 ⟨by constructor <;> omega, Ok.some.2 rfl⟩
  refine Ok.bind.2 (Z9u hcl (Ok.bind.2 ?_))
  have hpl := Zgr f n.Arcs.length
  refine Z90 (fun s => Canc n f s.1 ∧ 0 ≤ s.2 ∧ s.2 + Zdi s.1 n.Arcs.length ≤ Zdi f n.Arcs.length ∧ (Zge n f → s.1 = f ∧ s.2 = 0) ∧ (¬ Zge n f → (s.1 = f ∧ s.2 = 0) ∨ 0 < s.2)) (fun s => Zdi s.1 n.Arcs.length) ⟨Canc.refl hfl fun i hi => (hw.2.2 i hi).1, by simp only; omega, by simp only; omega, fun _ => ⟨rfl, rfl⟩, fun _ => .inl ⟨rfl, rfl⟩⟩ (by unfold Z50; simp only; omega) ?_
  rintro ⟨g, k⟩ ⟨hC, hk0, hk, hA, hB⟩ P next exit
  simp only at hC hk0 hk hA hB next ⊢
  have hwg := hC.within hw
  unfold Z3v
  obtain ⟨c, hc1, hc2⟩ := Zgk hm hm2 hl2 he hC.len
  refine Ok.bind.2 (Z9u hc1 (Ok.ite.2 ⟨fun hx => ?_, fun hx => ?_⟩))
  · have hcn : c = [] := List.eq_nil_of_length_eq_zero (by omega)
    subst hcn
    have hacy : Zge n g := by
      rcases hc2 with h | h
      · have := h.1; simp at this
      · exact h.2
    refine Ok.some.2 (exit _ (Ok.some.2 (.inr ⟨hw, rfl, hC, hacy, hc1, hk0, (by show k ≤ _; omega), hA, fun h => ?_⟩)))
    rcases hB h with ⟨h1, -⟩ | h1
    · subst h1; exact absurd hacy h
    · exact h1
  · have hcy : Cyc n g c := by
      rcases hc2 with h | h
      · exact h
      · rw [h.1] at hx; exact absurd rfl hx
    have hnA : ¬ Zge n f := fun h => by
      have := (hA h).1
      subst this
      exact hcy.not h
    have hcl := hcy.len
    obtain ⟨k0, hk0', hk0l, hk0f, -⟩ := hcy.2.1 0 hcy.1
    have hgl := hC.len
    simp only [show (0 : Int).toNat = 0 from rfl]
    refine Ok.gd.2 ⟨by have := hcy.1; constructor <;> omega, Ok.gd.2 ⟨by simp only [hk0']; constructor <;> omega, Ok.bind.2 (Ok.mono (s_least hcy hC.len hl2 hcl) ?_)⟩⟩
    rintro d ⟨hd1, p, hp, hd2⟩
    unfold Z4n
    obtain ⟨a, ha, hal, haf, -⟩ := hcy.2.1 p hp
    rw [ha, Int.toNat_natCast] at hd2
    refine Ok.bind.2 (Ok.mono (s_take hcy hwg hl2 (by omega) hd1) ?_)
    rintro g2 ⟨hC2, hg2⟩
    unfold Z4m
    have h0 := hg2 p hp
    rw [ha, Int.toNat_natCast] at h0
    have hlt := Zgq (f := g) (g := g2) (a := a) (k := n.Arcs.length) (fun i hi => (hC2.le i hi).2) hal haf (by omega)
    exact Ok.gd.2 ⟨by constructor <;> omega, Ok.some.2 (next _ ⟨hC.trans hC2, by simp only; omega, by simp only; omega, fun h => absurd h hnA, fun _ => .inr (by simp only; omega)⟩ hlt)⟩
end
end Go.Acq
namespace Go.Acq
open Go
set_option linter.unusedSimpArgs false
set_option linter.unusedVariables false
def Z9v (al : List Arc) (f : List Int) (rem : Nat → Bool) (w : Nat) : Nat → Nat
  | 0 => 0
  | k + 1 => Z9v al f rem w k + (if 0 < f.getD k 0 ∧ (al.getD k default).to = (w : Int) ∧ rem k = false then 1 else 0)
theorem Zd8 {al : List Arc} {f : List Int} {rem : Nat → Bool} {w : Nat} : ∀ k, Z9v al f rem w k ≤ k
 | 0 => Nat.le_refl _
 | k + 1 => by have := Zd8 (al := al) (f := f) (rem := rem) (w := w) k; simp only [Z9v]; split <;> omega
theorem Z9k {al : List Arc} {f : List Int} {rem rem' : Nat → Bool} {w : Nat} : ∀ {K : Nat}, (∀ k, k < K → 0 < f.getD k 0 → rem' k = rem k) → Z9v al f rem' w K = Z9v al f rem w K
 | 0, _ => rfl
 | K + 1, h => by
  simp only [Z9v]
  rw [Z9k (K := K) fun k hk => h k (by omega)]
  by_cases hf : 0 < f.getD K 0
  · rw [h K (by omega) hf]
  · rw [if_neg (fun h => hf h.1), if_neg (fun h => hf h.1)]
theorem Zaf {al : List Arc} {f : List Int} {rem rem' : Nat → Bool} {w k0 : Nat} : ∀ {K : Nat}, k0 < K → 0 < f.getD k0 0 → rem k0 = true → rem' k0 = false → (∀ k, k < K → k ≠ k0 → 0 < f.getD k 0 → rem' k = rem k) →
    Z9v al f rem' w K = Z9v al f rem w K + if (al.getD k0 default).to = (w : Int) then 1 else 0
  | 0, h, _, _, _, _ => by omega
  | K + 1, h, hf, h1, h2, h3 => by
    simp only [Z9v]
    by_cases e : k0 = K
    · subst e
      have e0 : (if 0 < f.getD k0 0 ∧ (al.getD k0 default).to = (w : Int) ∧ rem k0 = false then 1 else 0) = 0 := if_neg (fun h => (by rw [h1] at h; cases h.2.2))
      rw [Z9k (K := k0) (rem := rem) fun k hk => h3 k (by omega) (by omega), e0]
      by_cases hw : (al.getD k0 default).to = (w : Int)
      · rw [if_pos ⟨hf, hw, h2⟩, if_pos hw]
      · rw [if_neg (fun h => hw h.2.1), if_neg hw]
    · rw [Zaf (K := K) (by omega) hf h1 h2 fun k hk => h3 k (by omega)]
      by_cases hfK : 0 < f.getD K 0
      · rw [h3 K (by omega) (fun h => e h.symm) hfK]; omega
      · have e1 : ∀ b : Bool, (if 0 < f.getD K 0 ∧ (al.getD K default).to = (w : Int) ∧ b = false then 1 else 0) = 0 := fun b => if_neg (fun h => hfK h.1)
        rw [e1, e1]; omega
theorem cntIn_zero {al : List Arc} {f : List Int} {rem : Nat → Bool} {w : Nat} : ∀ {K : Nat}, Z9v al f rem w K = 0 ↔ ∀ k, k < K → 0 < f.getD k 0 → (al.getD k default).to = (w : Int) → rem k = true
 | 0 => ⟨fun _ k hk => by omega, fun _ => rfl⟩
 | K + 1 => by
  have ih := cntIn_zero (al := al) (f := f) (rem := rem) (w := w) (K := K)
  simp only [Z9v]
  constructor
  ·
   intro h k hk hf ht
   by_cases e : k = K
   ·
    subst e
    cases hr : rem k with
    | true => rfl
    | false => rw [if_pos ⟨hf, ht, hr⟩] at h; omega
   · exact ih.1 (by omega) k (by omega) hf ht
  ·
   intro h
   rw [ih.2 fun k hk => h k (by omega), if_neg (fun g => by have := h K (by omega) g.1 g.2.1; rw [this] at g; cases g.2.2)]
theorem s_BinS {xs : List Int} {w : Int} (hl : xs.length ≤ 1000000000) : Ok (Z25 xs w) (fun r => 0 ≤ r.1 ∧ r.1 ≤ (xs.length : Int)) := by
 unfold Z25
 refine Ok.bind.2 (Z90 (fun s => 0 ≤ s.1 ∧ s.1 ≤ s.2 ∧ s.2 ≤ (xs.length : Int)) (fun s => (s.2 - s.1).toNat) ⟨by simp, by simp, by simp⟩ (by unfold Z50; simp only; omega) ?_)
 rintro ⟨i, j⟩ ⟨h1, h2, h3⟩ P next exit
 simp only at h1 h2 h3 next ⊢
 unfold Z1o
 have hless : ∀ x y : Int, ∃ b, Z5g x y = some b := fun x y => by
  unfold Z5g Z4v
  simp [Option.bind]
 have hh : i < j → i ≤ Int.fdiv (i + j) (2 ^ 1) ∧ Int.fdiv (i + j) (2 ^ 1) < j := fun h => by
  rw [Int.fdiv_eq_ediv_of_nonneg _ (by omega)]
  omega
 refine Ok.ite.2 ⟨fun hx => ?_, fun hx => Ok.some.2 (exit _ ?_)⟩
 ·
  obtain ⟨g1, g2⟩ := hh hx
  obtain ⟨b, hb⟩ := hless (xs.getD (Int.fdiv (i + j) (2 ^ 1)).toNat 0) w
  refine Ok.gd.2 ⟨(by constructor <;> omega), Ok.gd.2 ⟨by constructor <;> omega, Ok.gd.2 ⟨(by constructor <;> omega), Ok.gd.2 ⟨(by constructor <;> omega), Ok.bind.2 (Z9u hb (Ok.ite.2 ⟨fun _ => Ok.gd.2 ⟨(by constructor <;> omega), Ok.some.2 (next _ ⟨by simp only; omega, by simp only; omega, h3⟩ (by simp only; omega))⟩, fun _ => Ok.some.2 (next _ ⟨h1, g1, by simp only; omega⟩ (by simp only; omega))⟩))⟩⟩⟩⟩
 ·
  unfold Z2a
  have e : i = j := by omega
  refine Ok.ite.2 ⟨fun hy => Ok.gd.2 ⟨(by constructor <;> omega), Ok.ite.2 ⟨fun _ => Ok.some.2 ⟨h1, by simp only; omega⟩, fun _ => Ok.gd.2 ⟨(by constructor <;> omega), ?_⟩⟩⟩, fun _ => Ok.some.2 ⟨h1, by simp only; omega⟩⟩
  unfold Z3r
  refine Ok.bind.2 (Ok.some.2 (Ok.ite.2 ⟨fun h => absurd h (by simp), fun _ => Ok.some.2 ⟨h1, by simp only; omega⟩⟩))
section
variable {n : Net} {m : Nat} {f : List Int} {out : List (List Int)}
def CntP (n : Net) (m : Nat) (f : List Int) (left : List Int) (rem : Nat → Bool) : Prop := left.length = m ∧ ∀ w, w < m → left.getD w 0 = (Z9v n.Arcs f rem w n.Arcs.length : Nat)
theorem s_count (hm2 : m ≤ 4096) (hl : n.Arcs.length ≤ 16384) (he : Z7j m n.Arcs) (ho : OutIs n m f out) {A : List Int} {D O : List Bool} {W : List Int} :
    Ok (Z2l (fun s => Z3f n (CyclesSearch.mk n out A D O W) s.1 s.2) Z50 (List.replicate m (0 : Int), 0)) (fun left => CntP n m f left fun _ => false) := by
  have hoo := ho.1
  refine Z90 (fun s => ∃ x : Nat, s.2 = x ∧ x ≤ m ∧ ∃ rem, CntP n m f s.1 rem ∧ ∀ k, k < n.Arcs.length → 0 < f.getD k 0 → (rem k = false ↔ (n.Arcs.getD k default).fr < (x : Int))) (fun s => (m - s.2).toNat)
    ⟨0, rfl, by omega, fun _ => true, ⟨List.length_replicate, fun w hw => by rw [Z2d, cntIn_zero.2 (fun _ _ _ _ => rfl)]; rfl⟩, fun k hk _ => by
      have := he k hk false
      simp only [vtx, Bool.false_eq_true, if_false] at this
      exact ⟨fun h => (by cases h), fun h => by omega⟩⟩ (by unfold Z50; simp only; omega) ?_
  rintro ⟨left, x'⟩ ⟨x, h1, hx, rem, ⟨hll, hc⟩, hrem⟩ P next exit
  simp only at h1 hll hc next ⊢
  subst h1
  unfold Z3f
  simp only [Int.toNat_natCast]
  refine Ok.ite.2 ⟨fun hlt => ?_, fun hge => Ok.some.2 (exit _ ⟨hll, fun w hw => ?_⟩)⟩
  · have hxm : x < m := by omega
    have hlo := ho.len hxm
    have hnd : (out.getD x []).Nodup := by rw [ho.2 x hxm]; exact Zad _
    refine Ok.gd.2 ⟨(by constructor <;> omega), Ok.bind.2 ?_⟩
    refine Z90 (fun s => ∃ q : Nat, s.2 = q ∧ q ≤ (out.getD x []).length ∧ ∃ rem, CntP n m f s.1 rem ∧ ∀ k, k < n.Arcs.length → 0 < f.getD k 0 → (rem k = false ↔ (n.Arcs.getD k default).fr < (x : Int) ∨ ∃ p, p < q ∧ (out.getD x []).getD p 0 = (k : Int))) (fun s => ((out.getD x []).length - s.2).toNat)
      ⟨0, rfl, by omega, rem, ⟨hll, hc⟩, fun k hk hf => ⟨fun h => .inl ((hrem k hk hf).1 h), fun h => by rcases h with h | ⟨p, hp, -⟩; (exact (hrem k hk hf).2 h); omega⟩⟩ (by unfold Z50; simp only; omega) ?_
    rintro ⟨left, y⟩ ⟨q, h1, hq, rem, ⟨hll, hc⟩, hrem⟩ P' next' exit'
    simp only at h1 hll hc next' ⊢
    subst h1
    unfold Z48
    simp only [Int.toNat_natCast]
    refine Ok.ite.2 ⟨fun hy => ?_, fun hy => Ok.some.2 (exit' _ ?_)⟩
    · have hql : q < (out.getD x []).length := by omega
      obtain ⟨k, hk, hkl, hf, hfr⟩ := ho.at hxm hql
      have e1 := he k hkl true
      simp only [vtx, if_true] at e1
      obtain ⟨w, hto⟩ : ∃ w : Nat, (n.Arcs.getD k default).to = (w : Int) := ⟨(n.Arcs.getD k default).to.toNat, by omega⟩
      have hw : w < m := by omega
      have hcw := hc w hw
      have hcl := Zd8 (al := n.Arcs) (f := f) (rem := rem) (w := w) n.Arcs.length
      have hrk : rem k = true := by
        cases h : rem k with
        | true => rfl
        | false =>
          rcases (hrem k hkl hf).1 h with h2 | ⟨p, hp, h2⟩
          · omega
          · have e : p = q := by
              have g1 : (out.getD x [])[p]'(by omega) = (out.getD x [])[q] := by
                rw [List.getD_eq_getElem?_getD, List.getElem?_eq_getElem (by omega)] at h2 hk
                exact h2.trans hk.symm
              exact (List.getElem_inj hnd).1 g1
            omega
      simp only [hk, hto, Int.toNat_natCast, hcw]
      refine Ok.gd.2 ⟨(by constructor <;> omega), Ok.gd.2 ⟨(by constructor <;> omega), Ok.gd.2 ⟨(by constructor <;> omega), Ok.gd.2 ⟨(by constructor <;> omega), Ok.gd.2 ⟨(by constructor <;> omega), Ok.gd.2 ⟨(by constructor <;> omega), Ok.some.2 (next' _ ⟨q + 1, by simp, by omega, fun j => if j = k then false else rem j, ⟨by simp only [List.length_set]; exact hll, fun u hu => ?_⟩, fun j hj hfj => ?_⟩ (by simp only; omega))⟩⟩⟩⟩⟩⟩
      · rw [Zaf hkl hf hrk (if_pos rfl) (fun j _ hne _ => if_neg hne), hto]
        simp only [Zdq, hll]
        by_cases e : w = u
        · subst e; rw [if_pos ⟨rfl, hw⟩, if_pos rfl]; omega
        · rw [if_neg (fun h => e h.1), if_neg (by omega), hc u hu]; rfl
      · by_cases e : j = k
        · subst e
          simp only [if_true]
          exact ⟨fun _ => .inr ⟨q, by omega, hk⟩, fun _ => trivial⟩
        · simp only [if_neg e]
          rw [hrem j hj hfj]
          constructor
          · rintro (h | ⟨p, hp, h⟩)
            · exact .inl h
            · exact .inr ⟨p, by omega, h⟩
          · rintro (h | ⟨p, hp, h⟩)
            · exact .inl h
            · rcases Nat.lt_or_ge p q with h2 | h2
              · exact .inr ⟨p, h2, h⟩
              · rw [show p = q by omega, hk] at h; exact absurd (Int.natCast_inj.1 h).symm e
    · unfold Z58
      refine Ok.gd.2 ⟨(by constructor <;> omega), Ok.some.2 (next _ ⟨x + 1, by simp, by omega, rem, ⟨hll, hc⟩, fun k hk hf => ?_⟩ (by simp only; omega))⟩
      rw [hrem k hk hf]
      constructor
      · rintro (h | ⟨p, hp, h⟩)
        · omega
        · obtain ⟨k', hk', -, -, hfr⟩ := ho.at hxm (q := p) (by omega)
          rw [hk'] at h
          rw [← Int.natCast_inj.1 h, hfr]; omega
      · intro h
        by_cases e : (n.Arcs.getD k default).fr = (x : Int)
        · obtain ⟨p, hp, h2⟩ := ho.in hxm hk hf e
          exact .inr ⟨p, by omega, h2⟩
        · exact .inl (by omega)
  · rw [hc w hw, Z9k (rem := fun _ => false) (rem' := rem) fun k hk hf => (hrem k hk hf).2 (by
      have := he k hk false
      simp only [vtx, Bool.false_eq_true, if_false] at this
      omega)]
theorem s_free {left : List Int} (hm2 : m ≤ 4096) (hll : left.length = m) :
    Ok (Z2l (fun s => Z3e left s.1 s.2) Z50 ([], 0)) (fun fr => fr = ((List.range m).filter fun v => left.getD v 0 = 0).map fun v : Nat => (v : Int)) := by
  refine Z90 (fun s => ∃ x : Nat, s.2 = x ∧ x ≤ m ∧ s.1 = ((List.range x).filter fun v => left.getD v 0 = 0).map fun v : Nat => (v : Int)) (fun s => (m - s.2).toNat) ⟨0, rfl, by omega, rfl⟩ (by unfold Z50; simp only; omega) ?_
  rintro ⟨fr, x'⟩ ⟨x, h1, hx, h2⟩ P next exit
  simp only at h1 h2 next ⊢
  subst h1
  have hfl : fr.length ≤ x := by rw [h2, List.length_map]; have := List.length_filter_le (fun v => decide (left.getD v 0 = 0)) (List.range x); rw [List.length_range] at this; exact this
  unfold Z3e
  simp only [Int.toNat_natCast]
  refine Ok.ite.2 ⟨fun hlt => Ok.gd.2 ⟨(by constructor <;> omega), Ok.ite.2 ⟨fun h0 => Ok.gd.2 ⟨by rw [List.length_append]; simp only [List.length_singleton]; constructor <;> omega, Ok.gd.2 ⟨(by constructor <;> omega), Ok.some.2 (next _ ⟨x + 1, by simp, by omega, ?_⟩ (by simp only; omega))⟩⟩, fun h0 => Ok.gd.2 ⟨(by constructor <;> omega), Ok.some.2 (next _ ⟨x + 1, by simp, by omega, ?_⟩ (by simp only; omega))⟩⟩⟩, fun hge => Ok.some.2 (exit _ ?_)⟩
  · rw [List.range_succ, List.filter_append, List.map_append, ← h2, List.filter_cons_of_pos (by simpa using h0)]; rfl
  · rw [List.range_succ, List.filter_append, List.map_append, ← h2, List.filter_cons_of_neg (by simpa using h0)]; simp
  · rw [h2, show x = m by omega]
end
end Go.Acq
namespace Go.Acq
open Go
set_option linter.unusedSimpArgs false
set_option linter.unusedVariables false
section
variable {n : Net} {m : Nat} {f : List Int} {out : List (List Int)}
def OrdP (n : Net) (f : List Int) (o : List Int) : Prop := ∀ i, i < o.length → ∀ k, k < n.Arcs.length → 0 < f.getD k 0 → (n.Arcs.getD k default).to = o.getD i 0 → ∃ j, j < i ∧ o.getD j 0 = (n.Arcs.getD k default).fr
structure RowP (m : Nat) (o : List Int) : Prop where
  nd : o.Nodup
  lt : ∀ x, x ∈ o → ∃ v : Nat, x = v ∧ v < m
theorem RowP.len {o : List Int} (h : RowP m o) : o.length ≤ m := by
 have := List.Nodup.length_le_of_subset h.nd (l₂ := (List.range m).map fun v : Nat => (v : Int)) (fun x hx => by
  obtain ⟨v, rfl, hv⟩ := h.lt x hx
  exact List.mem_map.2 ⟨v, List.mem_range.2 hv, rfl⟩)
 rw [List.length_map, List.length_range] at this
 exact this
theorem RowP.perm {o o' : List Int} (h : RowP m o) (hp : List.Perm o o') : RowP m o' := ⟨(List.Perm.nodup_iff hp).1 h.nd, fun x hx => h.lt x ((List.Perm.mem_iff hp).2 hx)⟩
theorem RowP.left {o o' : List Int} (h : RowP m (o ++ o')) : RowP m o := ⟨(List.nodup_append.1 h.nd).1, fun x hx => h.lt x (List.mem_append_left _ hx)⟩
structure KP (n : Net) (m : Nat) (f : List Int) (out : List (List Int)) (o left fr : List Int) (rem : Nat → Bool) : Prop where
  cnt : CntP n m f left rem
  row : RowP m (o ++ fr)
  zero : ∀ v : Nat, v < m → ((v : Int) ∈ o ++ fr ↔ left.getD v 0 = 0)
  ord : OrdP n f o
  none : (∀ k, k < n.Arcs.length → ¬ 0 < f.getD k 0) → o ++ fr = (List.range m).map fun v : Nat => (v : Int)
theorem ins_perm (fr : List Int) (i : Nat) (w : Int) : List.Perm (fr.take i ++ [w] ++ fr.drop i) (w :: fr) := by
 have h1 : List.Perm (fr.take i ++ [w] ++ fr.drop i) ([w] ++ fr.take i ++ fr.drop i) := List.Perm.append_right _ List.perm_append_comm
 have e : [w] ++ fr.take i ++ fr.drop i = w :: fr := by rw [List.append_assoc, List.take_append_drop]; rfl
 rw [e] at h1
 exact h1
theorem KP.start (ho : OutIs n m f out) {left : List Int} (h : CntP n m f left fun _ => false) : KP n m f out [] left (((List.range m).filter fun v => left.getD v 0 = 0).map fun v : Nat => (v : Int)) fun _ => false := by
 refine ⟨h, ⟨?_, fun x hx => ?_⟩, fun v hv => ?_, fun i hi => by simp at hi, fun hn => ?_⟩
 ·
  rw [List.nil_append]
  refine List.pairwise_map.2 (List.Pairwise.imp (fun {a b} hab => ?_) (List.Pairwise.filter _ List.nodup_range))
  exact fun e => hab (Int.natCast_inj.1 e)
 ·
  rw [List.nil_append] at hx
  obtain ⟨v, hv, rfl⟩ := List.mem_map.1 hx
  exact ⟨v, rfl, List.mem_range.1 (List.mem_filter.1 hv).1⟩
 ·
  rw [List.nil_append, List.mem_map]
  constructor
  ·
   rintro ⟨u, hu, e⟩
   rw [← Int.natCast_inj.1 e]
   simpa using (List.mem_filter.1 hu).2
  ·
   intro h0
   exact ⟨v, List.mem_filter.2 ⟨List.mem_range.2 hv, by simpa using h0⟩, rfl⟩
 ·
  rw [List.nil_append, List.filter_eq_self.2]
  intro v hv
  have hv := List.mem_range.1 hv
  rw [decide_eq_true_eq, h.2 v hv, cntIn_zero.2 (fun k hk hf _ => absurd hf (hn k hk))]; rfl
theorem s_round (hm2 : m ≤ 4096) (hl : n.Arcs.length ≤ 16384) (he : Z7j m n.Arcs) (ho : OutIs n m f out) {A : List Int} {D O : List Bool} {W : List Int} {o left fr : List Int} {rem : Nat → Bool} (h : KP n m f out o left fr rem) (hr : ∀ k, k < n.Arcs.length → 0 < f.getD k 0 → (rem k = true ↔ (n.Arcs.getD k default).fr ∈ o)) {v : Nat} (hfr : fr.getD 0 0 = (v : Int)) (hf0 : 0 < fr.length) :
    Ok (Z2l (fun s => Z3d n (CyclesSearch.mk n out A D O W) o fr s.1 s.2.1 s.2.2) Z50 (left, fr.drop 1, 0)) (fun r => r.2.1 = o ++ [(v : Int)] ∧ ∃ rem', KP n m f out (o ++ [(v : Int)]) r.1 r.2.2 rem' ∧ ∀ k, k < n.Arcs.length → 0 < f.getD k 0 → (rem' k = true ↔ (n.Arcs.getD k default).fr ∈ o ++ [(v : Int)])) := by
  obtain ⟨fr', rfl⟩ : ∃ fr', fr = (v : Int) :: fr' := by
    cases fr with
    | nil => simp at hf0
    | cons x fr' => simp only [List.getD_cons_zero] at hfr; subst hfr; exact ⟨fr', rfl⟩
  have happ : o ++ (v : Int) :: fr' = (o ++ [(v : Int)]) ++ fr' := by simp
  obtain ⟨v', e, hvm⟩ := h.row.lt (v : Int) (by simp)
  have e := Int.natCast_inj.1 e
  subst e
  have hvo : (v : Int) ∉ o := fun hm => by
    have := (List.nodup_append.1 h.row.nd).2.2 _ hm _ (.head _)
    exact this rfl
  have hlv : left.getD v 0 = 0 := (h.zero v hvm).1 (by simp)
  have hnd : (out.getD v []).Nodup := by rw [ho.2 v hvm]; exact Zad _
  have hlo := ho.len hvm
  have hord : OrdP n f (o ++ [(v : Int)]) := by
    intro i hi k hk hf hto
    rw [List.length_append, List.length_singleton] at hi
    by_cases e : i < o.length
    · rw [appL e] at hto
      obtain ⟨j, hj, e2⟩ := h.ord i e k hk hf hto
      exact ⟨j, hj, by rw [appL (by omega)]; exact e2⟩
    · rw [appR (by omega), show i - o.length = 0 by omega] at hto
      have h0 : Z9v n.Arcs f rem v n.Arcs.length = 0 := by
        have := h.cnt.2 v hvm
        omega
      have := (hr k hk hf).1 (cntIn_zero.1 h0 k hk hf hto)
      obtain ⟨j, hj, e2⟩ := List.getElem_of_mem this
      exact ⟨j, by omega, by rw [appL hj, List.getD_eq_getElem?_getD, List.getElem?_eq_getElem hj, e2]; rfl⟩
  rw [List.drop_succ_cons, List.drop_zero]
  refine Z90 (fun s => ∃ q : Nat, s.2.2 = q ∧ q ≤ (out.getD v []).length ∧ ∃ rem, KP n m f out (o ++ [(v : Int)]) s.1 s.2.1 rem ∧ ∀ k, k < n.Arcs.length → 0 < f.getD k 0 → (rem k = true ↔ (n.Arcs.getD k default).fr ∈ o ∨ ∃ p, p < q ∧ (out.getD v []).getD p 0 = (k : Int))) (fun s => ((out.getD v []).length - s.2.2).toNat)
    ⟨0, rfl, by omega, rem, ⟨h.cnt, by rw [← happ]; exact h.row, fun u hu => by rw [← happ]; exact h.zero u hu, hord, fun hn => by rw [← happ]; exact h.none hn⟩, fun k hk hf => by
      rw [hr k hk hf]
      exact ⟨fun h => .inl h, fun h => by rcases h with h | ⟨p, hp, -⟩; (exact h); omega⟩⟩ (by unfold Z50; simp only; omega) ?_
  rintro ⟨left, fr, y⟩ ⟨q, h1, hq, rem, hK, hrem⟩ P next exit
  simp only at h1 hK next ⊢
  subst h1
  have hoo := ho.1
  have hll := hK.cnt.1
  have hrl := hK.row.len
  rw [List.length_append, List.length_append] at hrl
  unfold Z3d
  simp only [List.getD_cons_zero, Int.toNat_natCast, show (0 : Int).toNat = 0 from rfl]
  refine Ok.ite.2 ⟨fun hy => ?_, fun hy => Ok.some.2 (exit _ ⟨rfl, rem, hK, fun k hk hf => ?_⟩)⟩
  · have hql : q < (out.getD v []).length := by omega
    obtain ⟨k, hk, hkl, hf, hfk⟩ := ho.at hvm hql
    have e1 := he k hkl true
    simp only [vtx, if_true] at e1
    obtain ⟨w, hto⟩ : ∃ w : Nat, (n.Arcs.getD k default).to = (w : Int) := ⟨(n.Arcs.getD k default).to.toNat, by omega⟩
    have hw : w < m := by omega
    have hcw := hK.cnt.2 w hw
    have hcl := Zd8 (al := n.Arcs) (f := f) (rem := rem) (w := w) n.Arcs.length
    have hrk : rem k = false := by
      rw [Bool.eq_false_iff]
      intro h2
      rcases (hrem k hkl hf).1 h2 with h3 | ⟨p, hp, h3⟩
      · rw [hfk] at h3; exact hvo h3
      · have e : p = q := by
          have g1 : (out.getD v [])[p]'(by omega) = (out.getD v [])[q] := by
            rw [List.getD_eq_getElem?_getD, List.getElem?_eq_getElem (by omega)] at h3 hk
            exact h3.trans hk.symm
          exact (List.getElem_inj hnd).1 g1
        omega
    have hflip := fun u => Zaf (al := n.Arcs) (f := f) (rem := fun j => if j = k then true else rem j) (rem' := rem) (w := u) (k0 := k) (K := n.Arcs.length) hkl hf (if_pos rfl) hrk (fun j _ hne _ => (if_neg hne).symm)
    have hfw := hflip w
    rw [if_pos hto] at hfw
    have hwn : (w : Int) ∉ (o ++ [(v : Int)]) ++ fr := fun hm => by
      have := (hK.zero w hw).1 hm
      omega
    have hcnt' : CntP n m f (left.set w (left.getD w 0 - 1)) (fun j => if j = k then true else rem j) := ⟨by rw [List.length_set]; exact hll, fun u hu => by
      have := hflip u
      have h2 := hK.cnt.2 u hu
      rw [hto] at this
      rw [Zdq, hll]
      by_cases e : w = u
      · subst e; rw [if_pos ⟨rfl, hw⟩]; omega
      · rw [if_neg (fun h => e h.1)]; rw [if_neg (by omega)] at this; omega⟩
    have hrem' : ∀ j, j < n.Arcs.length → 0 < f.getD j 0 → ((if j = k then true else rem j) = true ↔ (n.Arcs.getD j default).fr ∈ o ∨ ∃ p, p < q + 1 ∧ (out.getD v []).getD p 0 = (j : Int)) := by
      intro j hj hfj
      by_cases e : j = k
      · subst e
        rw [if_pos rfl]
        exact ⟨fun _ => .inr ⟨q, by omega, hk⟩, fun _ => rfl⟩
      · rw [if_neg e, hrem j hj hfj]
        constructor
        · rintro (h | ⟨p, hp, h⟩)
          · exact .inl h
          · exact .inr ⟨p, by omega, h⟩
        · rintro (h | ⟨p, hp, h⟩)
          · exact .inl h
          · rcases Nat.lt_or_ge p q with h2 | h2
            · exact .inr ⟨p, h2, h⟩
            · rw [show p = q by omega, hk] at h; exact absurd (Int.natCast_inj.1 h).symm e
    have hnone : ¬ ∀ k, k < n.Arcs.length → ¬ 0 < f.getD k 0 := fun h => h k hkl hf
    simp only [hk, hto, Int.toNat_natCast, List.length_set, Z5n (show w < left.length by omega)]
    refine Ok.gd.2 ⟨(by constructor <;> omega), Ok.gd.2 ⟨(by constructor <;> omega), Ok.gd.2 ⟨(by constructor <;> omega), Ok.gd.2 ⟨by rw [hcw]; constructor <;> omega, Ok.gd.2 ⟨(by constructor <;> omega), Ok.gd.2 ⟨(by constructor <;> omega), Ok.ite.2 ⟨fun h0 => ?_, fun h0 => ?_⟩⟩⟩⟩⟩⟩⟩
    · refine Ok.bind.2 (Ok.mono (s_BinS (by omega)) ?_)
      rintro ⟨i, b⟩ ⟨hi0, hi1⟩
      simp only at hi0 hi1 ⊢
      unfold Z4f
      refine Ok.bind.2 (Ok.gd.2 ⟨⟨hi0, hi1, by simp, by rw [List.length_append]; simp only [List.length_singleton]; constructor <;> omega⟩, Ok.some.2 ?_⟩)
      have hp := ins_perm fr i.toNat (w : Int)
      have hp2 : List.Perm ((w : Int) :: ((o ++ [(v : Int)]) ++ fr)) ((o ++ [(v : Int)]) ++ (fr.take i.toNat ++ [(w : Int)] ++ fr.drop i.toNat)) :=
        List.perm_middle.symm.trans (List.Perm.append_left _ hp.symm)
      have hrow : RowP m ((w : Int) :: ((o ++ [(v : Int)]) ++ fr)) := ⟨List.nodup_cons.2 ⟨hwn, hK.row.nd⟩, fun x hx => by
        rcases List.mem_cons.1 hx with rfl | hx
        · exact ⟨w, rfl, hw⟩
        · exact hK.row.lt x hx⟩
      refine Ok.gd.2 ⟨(by constructor <;> omega), Ok.some.2 (next _ ⟨q + 1, by simp, by omega, _, ⟨hcnt', hrow.perm hp2, fun u hu => ?_, hord, fun hn => absurd hn hnone⟩, hrem'⟩ (by simp only; omega))⟩
      rw [← List.Perm.mem_iff hp2, List.mem_cons, hK.zero u hu, Zdq, hll]
      by_cases e : w = u
      · subst e
        rw [if_pos ⟨rfl, hw⟩]
        exact ⟨fun _ => h0, fun _ => .inl rfl⟩
      · rw [if_neg (fun h => e h.1)]
        exact ⟨fun h => by rcases h with h | h; (exact absurd (Int.natCast_inj.1 h).symm e); exact h, fun h => .inr h⟩
    · refine Ok.gd.2 ⟨(by constructor <;> omega), Ok.some.2 (next _ ⟨q + 1, by simp, by omega, _, ⟨hcnt', hK.row, fun u hu => ?_, hord, fun hn => absurd hn hnone⟩, hrem'⟩ (by simp only; omega))⟩
      rw [Zdq, hll]
      by_cases e : w = u
      · subst e
        rw [if_pos ⟨rfl, hw⟩]
        exact ⟨fun h => absurd h hwn, fun h => absurd h h0⟩
      · rw [if_neg (fun h => e h.1)]; exact hK.zero u hu
  · rw [hrem k hk hf, List.mem_append, List.mem_singleton]
    constructor
    · rintro (h | ⟨p, hp, h⟩)
      · exact .inl h
      · obtain ⟨k', hk', -, -, hfk⟩ := ho.at hvm (q := p) (by omega)
        rw [hk'] at h
        rw [← Int.natCast_inj.1 h]; exact .inr hfk
    · rintro (h | h)
      · exact .inl h
      · obtain ⟨p, hp, h2⟩ := ho.in hvm hk hf h
        exact .inr ⟨p, by omega, h2⟩
def Topo (n : Net) (m : Nat) (f : List Int) (o : List Int) : Prop := o.length = m ∧ RowP m o ∧ OrdP n f o
theorem Topo.mem {o : List Int} (h : Topo n m f o) {v : Nat} (hv : v < m) : (v : Int) ∈ o := by
 apply Classical.byContradiction
 intro hn
 have : RowP m ((v : Int) :: o) := ⟨List.nodup_cons.2 ⟨hn, h.2.1.nd⟩, fun x hx => by
  rcases List.mem_cons.1 hx with rfl | hx
  · exact ⟨v, rfl, hv⟩
  · exact h.2.1.lt x hx⟩
 have := this.len
 rw [List.length_cons, h.1] at this
 omega
theorem Zgp (ρ : Nat → Nat) : ∀ m : Nat, ∃ B, ∀ v, v < m → ρ v ≤ B
 | 0 => ⟨0, fun v hv => by omega⟩
 | m + 1 => by
  obtain ⟨B, hB⟩ := Zgp ρ m
  refine ⟨max B (ρ m), fun v hv => ?_⟩
  rcases Nat.lt_or_ge v m with h | h
  · have := hB v h; omega
  · rw [show v = m by omega]; omega
theorem Zgm (hl : lenok n.Arcs.length) : Ok (Z2t n f) (fun r => (¬ FwithinP n f ∧ r = ([], false)) ∨
    (FwithinP n f ∧ (r.2 = true → Topo n n.N.toNat f r.1) ∧ (r.2 = false → r.1 = [] ∧ ¬ Zge n f) ∧ ((∀ k, k < n.Arcs.length → ¬ 0 < f.getD k 0) → r = ((List.range n.N.toNat).map fun v : Nat => (v : Int), true)))) := by
  unfold Z2t
  refine Ok.bind.2 (Ok.mono (Zb9 hl) fun b hb => Ok.ite.2 ⟨fun h => Ok.some.2 (.inl ⟨fun h2 => (by rw [hb.2 h2] at h; cases h), rfl⟩), fun h => ?_⟩)
  have hw : FwithinP n f := hb.1 (by cases b; exact absurd rfl h; rfl)
  obtain ⟨m, hm, -, hm2, hl2, he, hfl⟩ := hw.vert
  refine Ok.bind.2 (Ok.mono (Zgl hm hm2 he hl2 hfl) ?_)
  rintro s ⟨out, rfl, ho⟩
  rw [hm, Int.toNat_natCast]
  refine Ok.gd.2 ⟨(by constructor <;> omega), Ok.bind.2 (Ok.mono (s_count hm2 hl2 he ho) fun left hc => ?_)⟩
  unfold Z57
  refine Ok.bind.2 (Ok.mono (s_free hm2 hc.1) fun fr hfr => ?_)
  unfold Z56
  have hst := KP.start ho hc
  rw [← hfr] at hst
  refine Ok.bind.2 (Z90 (fun s => ∃ rem, KP n m f out s.2.1 s.1 s.2.2 rem ∧ ∀ k, k < n.Arcs.length → 0 < f.getD k 0 → (rem k = true ↔ (n.Arcs.getD k default).fr ∈ s.2.1)) (fun s => m - s.2.1.length) ⟨_, hst, fun k hk hf => ⟨fun h => (by cases h), fun h => (by cases h)⟩⟩ (by unfold Z50; simp only; omega) ?_)
  rintro ⟨left, o, fr⟩ ⟨rem, hK, hr⟩ P next exit
  simp only at hK hr next ⊢
  have hrl := hK.row.len
  rw [List.length_append] at hrl
  have hoo := ho.1
  unfold Z47
  refine Ok.ite.2 ⟨fun hf => ?_, fun hf => Ok.some.2 (exit _ ?_)⟩
  · have hf0 : 0 < fr.length := by omega
    obtain ⟨v, hv, hvm⟩ := hK.row.lt (fr.getD 0 0) (List.mem_append_right _ (Z7i hf0 0))
    simp only [show (0 : Int).toNat = 0 from rfl, show (1 : Int).toNat = 1 from rfl, hv]
    refine Ok.gd.2 ⟨(by constructor <;> omega), Ok.gd.2 ⟨(by constructor <;> omega), Ok.gd.2 ⟨by rw [List.length_append]; simp only [List.length_singleton]; constructor <;> omega, Ok.gd.2 ⟨(by constructor <;> omega), Ok.bind.2 (Ok.mono (s_round hm2 hl2 he ho hK hr hv hf0) ?_)⟩⟩⟩⟩
    rintro ⟨left', o', fr'⟩ ⟨h1, rem', hK', hr'⟩
    simp only at h1 hK' ⊢
    subst h1
    exact Ok.some.2 (next _ ⟨rem', hK', hr'⟩ (by simp only [List.length_append, List.length_singleton]; omega))
  · have hfn : fr = [] := List.eq_nil_of_length_eq_zero (by omega)
    subst hfn
    have hrow := hK.row
    have hzero := hK.zero
    have hnone := hK.none
    rw [List.append_nil] at hrow hnone
    simp only [List.append_nil] at hzero
    unfold Z55
    refine Ok.ite.2 ⟨fun hlt => Ok.some.2 (.inr ⟨hw, fun h => (by cases h), fun _ => ⟨rfl, ?_⟩, fun hn => ?_⟩), fun hge => Ok.some.2 (.inr ⟨hw, fun _ => ⟨by show o.length = m; omega, hrow, hK.ord⟩, fun h => (by cases h), fun hn => ?_⟩)⟩
    · rintro ⟨ρ, hρ⟩
      obtain ⟨B, hB⟩ := Zgp ρ m
      have key : ∀ N, ∃ v, v < m ∧ (v : Int) ∉ o ∧ N ≤ ρ v := by
        intro N
        induction N with
        | zero =>
          apply Classical.byContradiction
          intro hno
          have : RowP m ((List.range m).map fun v : Nat => (v : Int)) := ⟨List.pairwise_map.2 (List.Pairwise.imp (fun {a b} hab e => hab (Int.natCast_inj.1 e)) List.nodup_range), fun x hx => by
            obtain ⟨v, hv, rfl⟩ := List.mem_map.1 hx
            exact ⟨v, rfl, List.mem_range.1 hv⟩⟩
          have := List.Nodup.length_le_of_subset this.nd (l₂ := o) (fun x hx => by
            obtain ⟨v, hv, rfl⟩ := List.mem_map.1 hx
            exact Classical.byContradiction fun h => hno ⟨v, List.mem_range.1 hv, h, Nat.zero_le _⟩)
          rw [List.length_map, List.length_range] at this
          omega
        | succ N ih =>
          obtain ⟨v, hv, hvo, hN⟩ := ih
          have h0 : ¬ left.getD v 0 = 0 := fun h => hvo ((hzero v hv).2 h)
          have hc := hK.cnt.2 v hv
          have h1 : ¬ Z9v n.Arcs f rem v n.Arcs.length = 0 := by omega
          have h2 : ¬ ∀ k, k < n.Arcs.length → 0 < f.getD k 0 → (n.Arcs.getD k default).to = (v : Int) → rem k = true := fun h => h1 (cntIn_zero.2 h)
          obtain ⟨k, h3⟩ := Classical.not_forall.1 h2
          simp only [Classical.not_imp] at h3
          obtain ⟨hk, hfk, hto, hrk⟩ := h3
          have e0 := he k hk false
          simp only [vtx, Bool.false_eq_true, if_false] at e0
          have := hρ k hk hfk
          rw [hto, Int.toNat_natCast] at this
          refine ⟨(n.Arcs.getD k default).fr.toNat, by omega, ?_, by omega⟩
          rw [Int.toNat_of_nonneg e0.1]
          exact fun hm => hrk ((hr k hk hfk).2 hm)
      obtain ⟨v, hv, -, hN⟩ := key (B + 1)
      have := hB v hv
      omega
    · have := hnone hn
      rw [this, List.length_map, List.length_range] at hlt
      omega
    · rw [hnone hn]
end
end Go.Acq
namespace Go.Acq
open Go
abbrev u16ok (x : Int) : Prop := 0 ≤ x ∧ x ≤ 65535
theorem u16ok_wf {x : Int} (h : (Lit.int .u16 x).wf = true) : u16ok x := by simp [Lit.wf, IntKind.min, IntKind.max, IntKind.signed, IntKind.bits] at h; omega
end Go.Acq
namespace Go.Acq
open Go
set_option linter.unusedSimpArgs false
set_option linter.unusedVariables false
theorem sumL_B2 {ol : List Arc} {left : Int} (h : ∀ a, a ∈ ol → 0 ≤ a.cap ∧ a.cap ≤ 4503599627370496) (hl : (ol.length : Int) * 4503599627370496 ≤ left) : (Zc0 left ol).isSome = true := by
 induction ol generalizing left with
 | nil => simp [Zc0]
 | cons a ol ih =>
  have ha := h a (.head _)
  simp only [List.length_cons] at hl
  simp only [Zc0]
  rw [if_neg (by omega)]
  exact ih (fun b hb => h b (.tail _ hb)) (by omega)
theorem Zgy {m : Nat} {S T : Int} {ol : List Arc} (hm : 2 ≤ m) (hm2 : m ≤ 4096) (hS : 0 ≤ S ∧ S < m) (hT : 0 ≤ T ∧ T < m) (hST : S ≠ T) (h : ∀ a, a ∈ ol → Z9i m a = true ∧ 0 ≤ a.cap ∧ a.cap ≤ 4503599627370496) (hl : ol.length ≤ 1000) : Z8g m S T ol = 0 := by
 have h1 : ol.all (Z9i m) = true := List.all_eq_true.2 fun a ha => (h a ha).1
 have h2 : ol.all Zgd = true := List.all_eq_true.2 fun a ha => by simp [Zgd, (h a ha).2.1]
 have h3 : (Zc0 4611686018427387904 ol).isSome = true := sumL_B2 (fun a ha => (h a ha).2) (by omega)
 unfold Z8g
 rw [if_neg (by omega), if_neg (by omega), if_neg (by simp [Z4k, hS, hT, hST]), if_neg (by simp [h1]), if_neg (by simp [h2]), if_neg (by
  cases e : Zc0 4611686018427387904 ol with
  | none => rw [e] at h3; cases h3
  | some x => simp)]
theorem selfC {n : Net} {L : Nat} {f : List Int} (hL : n.Arcs.length = L + 1) (h0 : ∀ i, i < L → f.getD i 0 = 0) (hs : (n.Arcs.getD L default).fr = (n.Arcs.getD L default).to) {c : List Int} (hc : Cyc n f c) : c = [(L : Int)] := by
 have hall : ∀ j, j < c.length → c.getD j 0 = (L : Int) := fun j hj => by
  obtain ⟨k, hk, hkl, hf, -⟩ := hc.2.1 j hj
  rw [hk]
  rcases Nat.lt_or_ge k L with h | h
  · have := h0 k h; omega
  · rw [show k = L by omega]
 have hlen : c.length = 1 := by
  have h1 := hc.1
  rcases Nat.lt_or_ge 1 c.length with h | h
  ·
   have := hc.2.2 0 1 (by omega) h (by rw [hall 0 (by omega), hall 1 h])
   omega
  · omega
 have := hall 0 (by omega)
 match c, hlen, this with
 | [x], _, h => simp only [List.getD_cons_zero] at h; rw [h]
theorem selfA {n : Net} {L : Nat} {f : List Int} (hL : n.Arcs.length = L + 1) (h0 : ∀ i, i < L → f.getD i 0 = 0) (hs : (n.Arcs.getD L default).fr = (n.Arcs.getD L default).to) : Zge n f ↔ ¬ 0 < f.getD L 0 := by
 constructor
 ·
  rintro ⟨ρ, hρ⟩ h
  have := hρ L (by omega) h
  rw [hs] at this
  omega
 ·
  intro h
  refine ⟨fun _ => 0, fun k hk hf => ?_⟩
  rcases Nat.lt_or_ge k L with h1 | h1
  · have := h0 k h1; omega
  · rw [show k = L by omega] at hf; exact absurd hf h
theorem p_CyclesNone {n : Net} {v x : Int} (hn : NetIn n) (hv : u8ok v) (hx : u16ok x) : Z2u n v x = some true := by
  refine Zeg ?_
  unfold Z2u
  refine Ok.bind.2 (Ok.mono (s_Some hn (by omega) (by omega) (by omega) (by omega)) fun r hr => ?_)
  obtain ⟨m, hm, hso⟩ := hr.nat
  have hlen := hr.arcs
  have hvv := hr.verts
  have hends := hr.ends
  have hcaps := Zi8 hso
  have hchk := Z78 hr.check
  have hv0 : 0 ≤ v ∧ v ≤ 255 := hv
  have hx0 : 0 ≤ x ∧ x ≤ 65535 := hx
  obtain ⟨a, ha, ham⟩ : ∃ a : Nat, v.tmod r.N = (a : Int) ∧ a < m := by
    have h1 := Int.tmod_lt_of_pos v (show 0 < r.N by omega)
    have h2 := Int.tmod_nonneg r.N hv0.1
    exact ⟨(v.tmod r.N).toNat, by omega, by omega⟩
  obtain ⟨L, hL⟩ : ∃ L, r.Arcs.length = L := ⟨_, rfl⟩
  have hAl : (r.Arcs ++ [Arc.mk (a : Int) (a : Int) 65536]).length = L + 1 := by simp [hL]
  have hnet : Z8g r.N r.S r.T (r.Arcs ++ [Arc.mk (a : Int) (a : Int) 65536]) = 0 := by
    rw [hm]
    refine Zgy (by omega) (by omega) (by omega) (by omega) hends.2.2.2.2.2 (fun b hb => ?_) (by omega)
    rcases List.mem_append.1 hb with h | h
    · obtain ⟨i, hi, rfl⟩ := List.getElem_of_mem h
      have h1 := List.all_eq_true.1 hchk.2.2.2.1 _ h
      have h2 := hcaps i hi
      rw [List.getD_eq_getElem?_getD, List.getElem?_eq_getElem hi] at h2
      simp only [Option.getD_some] at h2
      rw [hm] at h1
      exact ⟨h1, h2.1, by omega⟩
    · rw [List.mem_singleton] at h
      subst h
      simp [Z9i, Z4k]; omega
  obtain ⟨A, hA⟩ : ∃ A, A = r.Arcs ++ [Arc.mk (a : Int) (a : Int) 65536] := ⟨_, rfl⟩
  have hlast : A.getD L default = Arc.mk (a : Int) (a : Int) 65536 := by
    rw [hA, List.getD_eq_getElem?_getD, List.getElem?_append_right (by omega), hL, Nat.sub_self]; rfl
  rw [← hA] at hAl hnet
  rw [ha]
  rw [← hA]
  refine Ok.gd.2 ⟨by constructor <;> omega, Ok.gd.2 ⟨by omega, Ok.gd.2 ⟨by rw [hAl]; constructor <;> omega, Ok.gd.2 ⟨by rw [hAl]; constructor <;> omega, ?_⟩⟩⟩⟩
  obtain ⟨N, hN⟩ : ∃ N : Net, N = Net.mk r.N r.S r.T A := ⟨_, rfl⟩
  have hNA : N.Arcs = A := by rw [hN]
  have hNN : N.N = m := by rw [hN]; exact hm
  have hNl : N.Arcs.length = L + 1 := by rw [hNA]; exact hAl
  have hNc : Z8g N.N N.S N.T N.Arcs = 0 := by rw [hN]; exact hnet
  have hself : (N.Arcs.getD L default).fr = (N.Arcs.getD L default).to := by rw [hNA, hlast]
  have hll : lenok N.Arcs.length := by omega
  have hcap0 : ∀ i, i < N.Arcs.length → 0 ≤ (N.Arcs.getD i default).cap := fun i hi => by
    have := List.all_eq_true.1 (Z78 hNc).2.2.2.2.1 _ (Z7i hi default)
    simpa [Zgd] using this
  obtain ⟨Z, hZ⟩ : ∃ Z, Z = List.replicate (L + 1) (0 : Int) := ⟨_, rfl⟩
  have hZl : Z.length = L + 1 := by rw [hZ]; exact List.length_replicate
  have hZg : ∀ i, Z.getD i 0 = 0 := fun i => by rw [hZ]; exact Z2d ..
  have hZw : FwithinP N Z := ⟨hNc, by rw [hZl, hNl], fun i hi => by rw [hZg]; exact ⟨Int.le_refl _, hcap0 i hi⟩⟩
  obtain ⟨F, hF⟩ : ∃ F, F = Z.set L x := ⟨_, rfl⟩
  have hFl : F.length = L + 1 := by rw [hF, List.length_set]; exact hZl
  have hF0 : ∀ i, i < L → F.getD i 0 = 0 := fun i hi => by rw [hF, Z3z (by omega)]; exact hZg i
  have hFL : F.getD L 0 = x := by rw [hF]; exact Z5n (by omega)
  have hFw : FwithinP N F := ⟨hNc, by rw [hFl, hNl], fun i hi => by
    rcases Nat.lt_or_ge i L with h | h
    · rw [hF0 i h]; exact ⟨Int.le_refl _, hcap0 i hi⟩
    · rw [show i = L by omega, hFL, hNA, hlast]; exact ⟨hx0.1, by show x ≤ 65536; omega⟩⟩
  have hacy := selfA hNl hF0 hself
  rw [hFL] at hacy
  obtain ⟨G, hG⟩ : ∃ G, G = F.set 0 (-1) := ⟨_, rfl⟩
  have hGw : ¬ FwithinP N G := fun h => by
    have := (h.2.2 0 (by omega)).1
    rw [hG, Z5n (by omega)] at this
    omega
  have e1 : (((A.length : Int)).toNat) = L + 1 := by omega
  have e2 : (((L + 1 : Nat) : Int) - 1).toNat = L := by omega
  rw [← hN]
  simp only [e1, ← hZ]
  refine Ok.bind.2 (Ok.mono (Zgm hll) ?_)
  rintro ⟨o, ok⟩ (⟨h, -⟩ | ⟨-, -, -, h3⟩)
  · exact absurd hZw h
  have h3 := h3 (fun k _ => by rw [hZg]; omega)
  rw [hNN, Int.toNat_natCast] at h3
  injection h3 with h3 h4
  subst h3; subst h4
  refine Ok.ite.2 ⟨fun h => by simp at h, fun _ => Ok.ite.2 ⟨fun h => absurd (by simp [hm]) h, fun _ => Ok.bind.2 ?_⟩⟩
  refine Z90 (fun y => ∃ i : Nat, y = i ∧ i ≤ m) (fun y => (m - y).toNat) ⟨0, rfl, by omega⟩ (by unfold Z50; omega) ?_
  rintro y ⟨i, rfl, hi⟩ P next exit
  unfold Z1q
  simp only [List.length_map, List.length_range, Int.toNat_natCast]
  refine Ok.ite.2 ⟨fun hy => ?_, fun hy => Ok.some.2 (exit _ ?_)⟩
  · have hg : ((List.range m).map fun v : Nat => (v : Int)).getD i 0 = (i : Int) := by
      rw [List.getD_eq_getElem?_getD, List.getElem?_map, List.getElem?_range (by omega)]; rfl
    simp only [hg]
    exact Ok.gd.2 ⟨(by constructor <;> omega), Ok.ite.2 ⟨fun h => absurd rfl h, fun _ => Ok.gd.2 ⟨(by constructor <;> omega), Ok.some.2 (next _ ⟨i + 1, by simp, by omega⟩ (by omega))⟩⟩⟩
  · simp only
    unfold Z2b
    rw [ha]
    simp only [← hA, ← hN, e1, ← hZ, hZl, e2, ← hF]
    refine Ok.gd.2 ⟨(by constructor <;> omega), Ok.gd.2 ⟨(by constructor <;> omega), Ok.gd.2 ⟨(by constructor <;> omega), Ok.bind.2 (Ok.mono (s_Find hll) ?_)⟩⟩⟩
    rintro ⟨c, e3⟩ (⟨h, -⟩ | ⟨-, h5, -, h6⟩)
    · exact absurd hFw h
    simp only at h5 h6 ⊢
    subst h5
    refine Ok.bind.2 (Ok.mono (Zep hll) ?_)
    rintro ⟨g, many, e4⟩ (⟨h, -⟩ | ⟨-, h7, hC, hAg, -, hm0, hm1, h8, h9⟩)
    · exact absurd hFw h
    simp only at h7 hC hAg hm0 hm1 h8 h9 ⊢
    subst h7
    have hgl := hC.len
    rw [hNl] at hgl
    have hgL : g.getD L 0 = 0 := by
      have h1 := (selfA hNl (fun i hi => by have := hC.le i (by omega); have := hF0 i hi; omega) hself).1 hAg
      have := hC.le L (by omega)
      omega
    have hpos : Zdi F (L + 1) ≤ 1 := by
      have h1 : ∀ k, k ≤ L → Zdi F k = 0 := by
        intro k
        induction k with
        | zero => intro _; rfl
        | succ k ih => intro hk; simp only [Zdi]; rw [ih (by omega), hF0 k (by omega)]; rfl
      simp only [Zdi]; rw [h1 L (Nat.le_refl _)]; split <;> omega
    rw [hNl] at hm1
    have hmany : decide (many = 1) = decide (0 < x) := by
      by_cases hx1 : 0 < x
      · have := h9 (fun h => hacy.1 h hx1)
        rw [decide_eq_true (show many = 1 by omega), decide_eq_true hx1]
      · have := (h8 (hacy.2 hx1)).2
        rw [decide_eq_false (show ¬ many = 1 by omega), decide_eq_false hx1]
    have hc : 0 < x → c = [(L : Int)] := fun hx1 => by
      rcases h6 with h | ⟨-, h⟩
      · exact selfC hNl hF0 hself h
      · exact absurd hx1 (hacy.1 h)
    have hFl' : (F.length : Int) - 1 = L := by omega
    refine Ok.ite.2 ⟨fun h => absurd rfl h, fun _ => ?_⟩
    unfold Z1u
    refine Ok.ite.2 ⟨fun h => by simp at h, fun _ => ?_⟩
    unfold Z1t
    rw [ha]
    simp only [← hA, ← hN, e1, ← hZ, hZl, e2, ← hF]
    refine Ok.ite.2 ⟨fun h => (by rw [hmany] at h; simp at h), fun _ => ?_⟩
    unfold Z1s
    rw [ha]
    simp only [← hA, ← hN, e1, ← hZ, hZl, e2, ← hF, hFl', Int.toNat_natCast]
    refine Ok.ite.2 ⟨fun h => (by simp at h; omega), fun _ => Ok.gd.2 ⟨(by constructor <;> omega), Ok.gd.2 ⟨(by constructor <;> omega), ?_⟩⟩⟩
    unfold Z1r
    rw [ha]
    simp only [← hA, ← hN, e1, ← hZ, hZl, e2, ← hF, hFl', Int.toNat_natCast, show (0 : Int).toNat = 0 from rfl, ← hG]
    have hend : Ok (Option.bind (Z2t N G) fun (r101, r102) => Option.bind (Z37 N G) fun (r113, r114) => Option.bind (Z2f N G) fun (r130, r131, r132) =>
        if (!r102) = true then (if r114 = 20 then (if r132 = 20 then (Option.bind Z2k fun r146 => some r146) else some false) else some false) else some false) (fun b => b = true) := by
      refine Ok.bind.2 (Ok.mono (Zgm hll) ?_)
      rintro ⟨o, ok⟩ (⟨-, h⟩ | ⟨h, -⟩)
      rotate_left
      · exact absurd h hGw
      cases h
      refine Ok.bind.2 (Ok.mono (s_Find hll) ?_)
      rintro ⟨c, e3⟩ (⟨-, h⟩ | ⟨h, -⟩)
      rotate_left
      · exact absurd h hGw
      cases h
      refine Ok.bind.2 (Ok.mono (Zep hll) ?_)
      rintro ⟨c, e3, e4⟩ (⟨-, h⟩ | ⟨h, -⟩)
      rotate_left
      · exact absurd h hGw
      cases h
      exact Ok.ite.2 ⟨fun _ => Ok.ite.2 ⟨fun _ => Ok.ite.2 ⟨fun _ => Ok.bind.2 (Z9u aw22 (Ok.some.2 rfl)), fun h => absurd rfl h⟩, fun h => absurd rfl h⟩, fun h => absurd (by rfl) h⟩
    refine Ok.ite.2 ⟨fun h => absurd hgL (of_decide_eq_true h), fun _ => Ok.ite.2 ⟨fun hx1 => ?_, fun hx1 => Ok.gd.2 ⟨(by constructor <;> omega), hend⟩⟩⟩
    have hc := hc hx1
    subst hc
    refine Ok.gd.2 ⟨(by constructor <;> omega), Ok.bind.2 (Z9u (s_Ints (by simp)) (Ok.ite.2 ⟨fun h => by simp at h, fun _ => Ok.gd.2 ⟨(by constructor <;> omega), hend⟩⟩))⟩
end Go.Acq
