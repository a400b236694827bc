/- Texts of this claim, one behind the other. -/
import Derived.Test.YtfdhelnfgfaeaaaA1
import Derived.Test.YtfdhelnfgfaeaaaA2
import Derived.Test.YtfdhelnfgfaeaaaA3
set_option linter.unusedVariables false
set_option linter.unusedSimpArgs false
namespace Go.Proofs.Ytfdhelnfgfaeaaa.Ax
open Go Go.Acq Go.RowKit Go.Proofs
set_option linter.unusedVariables false
set_option linter.unusedSimpArgs false
set_option maxHeartbeats 8000000
set_option maxRecDepth 20000
theorem Z4e : Zb0 Try.prog 24 4 = true := by kernel_rfl
theorem Z7h : Zb0 Try.prog 35 3 = true := by kernel_rfl
theorem Zap : Z5u Try.prog 2 = some 8 := by kernel_rfl
theorem Za5 : Z5u Try.prog 35 = some 24 := by kernel_rfl
theorem Za4 : Z0q Try.prog 22 = true := by kernel_rfl
theorem Za3 : Z0q Try.prog 24 = true := by kernel_rfl
theorem Za2 : Z0q Try.prog 25 = true := by kernel_rfl
theorem Z7g : Z0q Try.prog 27 = true := by kernel_rfl
theorem Z7f : Z0q Try.prog 28 = true := by kernel_rfl
theorem Z7e : Z0q Try.prog 29 = true := by kernel_rfl
theorem Z32 : Z2v Try.prog 24 3 = some 3 := by kernel_rfl
theorem Z6l : Z2v Try.prog 35 0 = some 0 := by kernel_rfl
theorem Z6k : Z2v Try.prog 35 1 = some 1 := by kernel_rfl
theorem Zao : intT Try.prog 2 = some .i64 := by kernel_rfl
theorem Zan : intT Try.prog 3 = some .i64 := by kernel_rfl
theorem Z1w : Z1m Try.prog 22 = some 35 := by kernel_rfl
theorem Z0x : Z1m Try.prog 26 = some 2 := by kernel_rfl
theorem Za1 : Z1m Try.prog 40 = some 3 := by kernel_rfl
theorem Z2c : Z29 Try.prog 2 = some 1 := by kernel_rfl
theorem Z7d : Z29 Try.prog 22 = some 1 := by kernel_rfl
theorem Za0 : Z29 Try.prog 24 = some 4 := by kernel_rfl
theorem Z27 : Z29 Try.prog 35 = some 3 := by kernel_rfl
theorem Zam : (Try.prog.underlying 5).isSome = true := by kernel_rfl
theorem Z9z : (Try.prog.underlying 54).isSome = true := by kernel_rfl
theorem Z7s : Z3l Try.prog 2 = true := by kernel_rfl
theorem Z5r : Z3l Try.prog 22 = true := by kernel_rfl
theorem Z4t : Z3l Try.prog 3 = true := by kernel_rfl
theorem Z7r : Try.prog.underlying 4 = some .bool := by kernel_rfl
theorem Z9n : Try.prog.underlying 3 = some (.int .i64) := by kernel_rfl
theorem Z4s : Z4k Try.prog 2 = some (.int .i64 0) := by kernel_rfl
theorem Z9y : Z4k Try.prog 24 = some (.agg #[.int .i64 0, .int .i64 0, .int .i64 0, .slice none 0 0]) := by kernel_rfl
theorem Z3m : Z4k Try.prog 35 = some (.agg #[.int .i64 0, .int .i64 0, .int .i64 0]) := by kernel_rfl
theorem Z7c : ElemT Try.prog 22 35 3 24 (.agg #[.int .i64 0, .int .i64 0, .int .i64 0]) := ⟨Z1w, Z27, Za5, Z3m, rfl⟩
theorem Z2y : ElemT Try.prog 26 2 1 8 (.int .i64 0) := ⟨Z0x, Z2c, Zap, Z4s, rfl⟩
theorem w_acequialaw22_CyclesRound {many0 : Int} {arcs1 : List Arc} {l2 : List Int} {d3 : Int} {arcs1_b : Option Addr} {arcs1_n : Nat} {arcs1_c : Nat} {l2_b : Option Addr} {l2_n : Nat} {l2_c : Nat} (w : World) (d1 : RS w [] Z5f 3 arcs1_b arcs1_n arcs1_c arcs1) (l8 : RS w [] (intC .i64) 1 l2_b l2_n l2_c l2) {r0 : Bool} (H : Z2s many0 arcs1 l2 d3 = some r0) : Fnc Try.prog 7 #[.int .u8 many0, .slice arcs1_b arcs1_n arcs1_c, .slice l2_b l2_n l2_c, .int .u32 d3] w [] (fun v N => v = .bool r0 ∧ N = []) := by
 unfold Z2s at H; refine Fnc.enter (vs := [.int .u8 many0, .slice arcs1_b arcs1_n arcs1_c, .slice l2_b l2_n l2_c, .int .u32 d3]) Try.func7 rfl rfl (Inv.refl w) ?_; refine Z0b ?_; refine Z04 (ll := [0]) rfl ?_; refine Z06 rfl rfl rfl rfl ?_; refine Z03 ?_; refine Z01 ?_; refine Z0b ?_; obtain ⟨g1, H⟩ := Z0c H; obtain ⟨g2, H⟩ := Z0c H; refine Z04 (ll := [0, 1, 2, 3, 4]) rfl ?_; refine Z05 rfl rfl rfl rfl ?_; refine TO.rem rfl rfl rfl rfl rfl (by decide) ?_; refine Zau rfl rfl rfl rfl Zam Zan (Z69 g1.1 g1.2) ?_; refine Z2b g2 rfl rfl rfl rfl rfl ?_; refine Z06 rfl rfl rfl rfl ?_; refine Z03 ?_; refine Z01 ?_; refine Z0b ?_; obtain ⟨g3, H⟩ := Z0c H; refine Z04 (ll := [0, 1, 2, 3, 4, 5]) rfl ?_; refine Z05 rfl rfl rfl rfl ?_; refine Z05 rfl rfl rfl rfl ?_; refine Za7 g3 rfl rfl rfl rfl rfl ?_; refine Z3b (t := 24) [.int .i64 0, .int .i64 0, .int .i64 0, .slice none 0 0] [0, 1, 2, 3] rfl rfl rfl rfl (by simp only [Z2n, setCells, Value.cells, List.toList_toArray, List.getD_cons_zero, List.getD_cons_succ, List.set_cons_zero, List.set_cons_succ]; rfl) (by kernel_rfl) ?_; refine Z3q rfl rfl rfl Z9y ?_; intro b4; refine Z3o rfl rfl rfl rfl tk0 Za0 rfl rfl rfl ?_; refine Z03 ?_; refine Z01 ?_; refine Z0l (Z00 (t := 1) rfl (Z00 (t := 2) rfl (Z00 (t := 3) rfl (Z00 (t := 9) rfl (Z00 (t := 10) rfl Z07))))) ?_; refine Z0b ?_; refine Z0b ?_; obtain ⟨g6, H⟩ := Z0c H; refine Z04 (ll := [0, 1, 2, 3, 4, 5, 6]) rfl ?_; refine Z05 rfl rfl rfl rfl ?_; refine Z05 rfl rfl rfl rfl ?_; refine Z22 (xs := arcs1) d1.len rfl rfl rfl rfl rfl Z1w ?_; refine TO.min2 rfl rfl rfl rfl rfl ?_; refine TO.slH (xs := arcs1) d1.len d1.cap g6 rfl rfl rfl rfl rfl Z1w Z27 ?_; refine Z22 (xs := (arcs1.take (min (arcs1.length : Int) 20).toNat)) ((RS.take d1 g6).len) rfl rfl rfl rfl rfl Z1w ?_; refine Z05 rfl rfl rfl rfl ?_; refine Z03 ?_; refine Z01 ?_; refine Zav (fun (a3 : List Arc) (j4 : Nat) (j5 : Nat) (d5 : Option Nat) (l9 : List Value) => Z2g many0 l2 d3 a3 = some r0 ∧ a3.length = j4 ∧ j4 ≤ j5 ∧ l9.length = (j5 - j4) * 3 ∧ (d5 = none → j5 = 0)) (fun (a3 : List Arc) (j4 : Nat) (j5 : Nat) (d5 : Option Nat) (l9 : List Value) => [(2, .slice l2_b l2_n l2_c), (3, .int .u32 d3), (9, .int .i64 (3 + (many0.tmod 10))), (10, .pointer (some ⟨b4, 0, none⟩))]) (fun (a3 : List Arc) (j4 : Nat) (j5 : Nat) (d5 : Option Nat) (l9 : List Value) => [(some b4, .cells #[.int .i64 (3 + (many0.tmod 10)), .int .i64 0, .int .i64 ((3 + (many0.tmod 10)) - 1), .slice (sb d5) j4 j5] 24 (0, 0)), (d5, .cells (arr Z5f a3 l9).toArray 35 (0, 0))]) ?_ ?_
 ·
  refine T.block ?_; obtain ⟨D4, m6, D5⟩ := Z0k H; refine Zdp (fun (q8 : Nat) (c7 : List Arc) (n8 : Nat) (c9 : Nat) (g8 : Option Nat) (m7 : List Value) (j6 : Int) => Z2k (fun s => Z1e many0 arcs1 s.1 s.2) q8 (c7, j6) = some D4 ∧ c7.length = n8 ∧ n8 ≤ c9 ∧ m7.length = (c9 - n8) * 3 ∧ (g8 = none → c9 = 0)) (fun (q8 : Nat) (c7 : List Arc) (n8 : Nat) (c9 : Nat) (g8 : Option Nat) (m7 : List Value) (j6 : Int) => [(2, .slice l2_b l2_n l2_c), (3, .int .u32 d3), (9, .int .i64 (3 + (many0.tmod 10))), (10, .pointer (some ⟨b4, 0, none⟩)), (42, .slice arcs1_b ((min (arcs1.length : Int) 20).toNat) arcs1_c), (43, .int .i64 ((arcs1.take (min (arcs1.length : Int) 20).toNat).length : Int)), (44, .int .i64 j6)]) (fun (q8 : Nat) (c7 : List Arc) (n8 : Nat) (c9 : Nat) (g8 : Option Nat) (m7 : List Value) (j6 : Int) => [(some b4, .cells #[.int .i64 (3 + (many0.tmod 10)), .int .i64 0, .int .i64 ((3 + (many0.tmod 10)) - 1), .slice (sb g8) n8 c9] 24 (0, 0)), (g8, .cells (arr Z5f c7 m7).toArray 35 (0, 0))]) (fun (q8 : Nat) (c7 : List Arc) (n8 : Nat) (c9 : Nat) (g8 : Option Nat) (m7 : List Value) (j6 : Int) => q8) Z51 ([]) 0 0 none ([]) 0 ⟨m6, rfl, (Nat.le_refl _), (Z76 0 _), (fun _ => rfl)⟩ (Z00 rfl (Z00 rfl (Z00 rfl (Z00 rfl (Z00 rfl (Z00 rfl (Z00 rfl Z07))))))) (Z02 tk0 (Pick.none Z08)) ?_; rintro q8 c7 n8 c9 g8 m7 j6 ⟨H, o6, r4, r5, r6⟩; obtain ⟨D6, D7, rfl, H, B7⟩ := Z1i H; have H : Z1e many0 arcs1 c7 j6 = some D7 := H; unfold Z1e at H; refine Z0b ?_; refine Z04 (ll := [0]) rfl ?_; refine Z0r rfl rfl rfl rfl rfl rfl ?_; refine Z03 ?_; refine Z01 ?_; refine Z0b ?_; rcases Z0h H with ⟨w4, H⟩ | ⟨w4, H⟩
  · refine Z15 rfl w4 ?_; refine T.skip ?_; refine Z01 ?_; refine Z0b ?_; refine T.block ?_; refine Z0b ?_; obtain ⟨B8, H⟩ := Z0c H; refine Z04 (ll := [0, 1, 2, 3]) rfl ?_; refine Z38 (RS.take d1 g6) B8 rfl rfl rfl rfl rfl Z1w Z27 ?_; refine Za8 (cs := [.int .i64 (((arcs1.take (min (arcs1.length : Int) 20).toNat).getD j6.toNat default).fr), .int .i64 (((arcs1.take (min (arcs1.length : Int) 20).toNat).getD j6.toNat default).to), .int .i64 (((arcs1.take (min (arcs1.length : Int) 20).toNat).getD j6.toNat default).cap)]) default (RS.take d1 g6) B8 rfl rfl rfl rfl rfl Z7h ?_; refine Z3q rfl rfl rfl Z3m ?_; intro G3; refine Z3o rfl rfl rfl rfl tk0 Z27 rfl rfl rfl ?_; refine Z03 ?_; refine Z01 ?_; refine Z0b ?_; obtain ⟨q9, D8, H⟩ := Z0k H; obtain ⟨r1, D9, H⟩ := Z0k H; refine Zb7 7 [0, 1, 2, 3, 4, 5, 6] rfl Z84 (by kernel_rfl) (by kernel_rfl) rfl (by kernel_rfl) ?_; refine Z2h rfl rfl rfl rfl Z6l ?_; refine Z37 rfl rfl rfl rfl Z4t mm0 rfl ?_; refine TQ.move rfl rfl rfl rfl ?_; refine TQ.callX Z7e rfl rfl rfl rfl (fun wc hwc => Z7m (x0 := ((arcs1.take (min (arcs1.length : Int) 20).toNat).getD j6.toNat default).fr) (n1 := (3 + (many0.tmod 10))) wc  D8) (by rintro _ _ ⟨rfl, rfl⟩; rfl) ?_; refine Z2h rfl rfl rfl rfl Z6k ?_; refine Z37 rfl rfl rfl rfl Z4t mm0 rfl ?_; refine TQ.move rfl rfl rfl rfl ?_; refine TQ.tail [7, 8, 9] rfl rfl ?_; refine Z0o Z7e rfl rfl rfl rfl (fun wc hwc => Z7m (x0 := ((arcs1.take (min (arcs1.length : Int) 20).toNat).getD j6.toNat default).to) (n1 := (3 + (many0.tmod 10))) wc  D9) ?_; rintro _ _ ⟨rfl, rfl⟩; refine Z06 rfl rfl rfl rfl ?_; refine Z06 rfl rfl rfl rfl ?_; refine Z03 ?_; refine Z01 ?_; refine Z0l (Z00 (t := 2) rfl (Z00 (t := 3) rfl (Z00 (t := 9) rfl (Z00 (t := 10) rfl (Z00 (t := 42) rfl (Z00 (t := 43) rfl (Z00 (t := 44) rfl (Z00 (t := 13) rfl (Z00 (t := 14) rfl Z07))))))))) ?_; obtain ⟨E0, H⟩ := Z0c H; refine Z04 (ll := [0, 1, 2, 3, 4, 5, 6, 7, 8, 9, 10, 11, 12]) rfl ?_; refine Z0a rfl rfl rfl rfl Z32 ?_; refine Z0g rfl rfl rfl rfl Z5r mm1 rfl ?_; refine Z05 rfl rfl rfl rfl ?_; refine Z05 rfl rfl rfl rfl ?_; refine TO.min2 rfl rfl rfl rfl rfl ?_; refine Z05 rfl rfl rfl rfl ?_; refine Z05 rfl rfl rfl rfl ?_; refine TO.max2 rfl rfl rfl rfl rfl ?_; refine Z3b (t := 35) [.int .i64 0, .int .i64 0, .int .i64 0] [0, 1, 2] rfl rfl rfl rfl (by simp only [Z2n, setCells, Value.cells, List.toList_toArray, List.getD_cons_zero, List.getD_cons_succ, List.set_cons_zero, List.set_cons_succ]; rfl) (by kernel_rfl) ?_; refine Z0u [.int .i64 0, .int .i64 0, .int .i64 0] [0] rfl rfl rfl rfl Z1w Z27 Z3m rfl rfl (by simp only [Z2n, setCells, Value.cells, List.toList_toArray, List.getD_cons_zero, List.getD_cons_succ, List.set_cons_zero, List.set_cons_succ]; rfl) (by kernel_rfl) ?_; intro G4; refine Z8s (f := Z5f) (s := 3) (xs := c7) (ob := g8) (j := m7) (ys := [(Arc.mk (min q9 r1) (max q9 r1) 1099511627776)]) (fun _ => rfl) (fun _ => rfl) Z7c E0 rfl rfl rfl rfl rfl tk3 o6 r4 r5 r6 (fun wc hwc => (hwc.rs (f := Z5f) (s := 3) (xs := [(Arc.mk (min q9 r1) (max q9 r1) 1099511627776)]) (j := ([])) (fun _ => rfl) mm0 rfl (Nat.le_refl _) Z60)) ?_; intro r7 B9 E1 w5 w6 w7; refine Z0a rfl rfl rfl rfl Z32 ?_; refine Z9f (cs' := [.int .i64 (3 + (many0.tmod 10)), .int .i64 0, .int .i64 ((3 + (many0.tmod 10)) - 1), .slice (sb r7) (n8 + 1) B9]) rfl rfl rfl rfl tk3 Z7d rfl rfl rfl ?_; refine Z03 ?_; refine Z0j ?_; refine Z01 ?_; refine Z0l (Z00 (t := 2) rfl (Z00 (t := 3) rfl (Z00 (t := 9) rfl (Z00 (t := 10) rfl (Z00 (t := 42) rfl (Z00 (t := 43) rfl (Z00 (t := 44) rfl Z07))))))) ?_; obtain ⟨E2, H⟩ := Z0c H; refine Z04 (ll := [0, 1]) rfl ?_; refine Z2b E2 rfl rfl rfl rfl rfl ?_; refine Z05 rfl rfl rfl rfl ?_; refine Z03 ?_; have H := Z12 H B7; exact Z91 D6 (c7 ++ ([(Arc.mk (min q9 r1) (max q9 r1) 1099511627776)])) (n8 + 1) B9 r7 E1 (j6 + 1) ⟨H, (Z6n o6 rfl), w5, w6, w7⟩ (Nat.lt_succ_self _) (Z00 rfl (Z00 rfl (Z00 rfl (Z00 rfl (Z00 rfl (Z00 rfl (Z00 rfl Z07))))))) (Z02 tk0 (Z02 tk0 Z08))
  · refine Z16 rfl w4 ?_; refine T.exit ?_; refine Z0i ?_; have H := Z0s H B7 ▸ D5; refine Z0i ?_; refine Z0t ?_; exact Zdi c7 n8 c9 g8 m7 ⟨H, o6, r4, r5, r6⟩ (Z00 rfl (Z00 rfl (Z00 rfl (Z00 rfl Z07)))) (Z02 tk0 (Z02 tk0 Z08))
 ·
  rintro a3 j4 j5 d5 l9 ⟨H, m0, o7, w8, o8⟩; unfold Z2g at H; refine Z0b ?_; refine Z04 (ll := [0]) rfl ?_; refine Z06 rfl rfl rfl rfl ?_; refine Z03 ?_; refine Z01 ?_; refine Z0b ?_; refine Z0b ?_; refine Z04 (ll := [0, 1, 2, 3]) rfl ?_; refine Z0a rfl rfl rfl rfl Z32 ?_; refine Z0g rfl rfl rfl rfl Z5r mm0 rfl ?_; refine Z22 (xs := a3) m0 rfl rfl rfl rfl rfl Z1w ?_; refine Z05 rfl rfl rfl rfl ?_; refine Z03 ?_; refine Z01 ?_; refine Zav (fun (a4 : List Int) (f7 : Nat) (j7 : Nat) (b5 : Option Nat) (f8 : List Value) => Z2f many0 d3 a3 a4 = some r0 ∧ a4.length = f7 ∧ f7 ≤ j7 ∧ f8.length = (j7 - f7) * 1 ∧ (b5 = none → j7 = 0)) (fun (a4 : List Int) (f7 : Nat) (j7 : Nat) (b5 : Option Nat) (f8 : List Value) => [(3, .int .u32 d3), (9, .int .i64 (3 + (many0.tmod 10))), (10, .pointer (some ⟨b4, 0, none⟩)), (15, .slice (sb b5) f7 j7)]) (fun (a4 : List Int) (f7 : Nat) (j7 : Nat) (b5 : Option Nat) (f8 : List Value) => [(some b4, .cells #[.int .i64 (3 + (many0.tmod 10)), .int .i64 0, .int .i64 ((3 + (many0.tmod 10)) - 1), .slice (sb d5) j4 j5] 24 (0, 0)), (d5, .cells (arr Z5f a3 l9).toArray 35 (0, 0)), (b5, .cells (arr (intC .i64) a4 f8).toArray 2 (0, 0))]) ?_ ?_
  ·
   refine T.block ?_; obtain ⟨E3, m1, E4⟩ := Z0k H; refine Zdp (fun (r2 : Nat) (d6 : List Int) (j9 : Nat) (c49 : Nat) (e6 : Option Nat) (l6 : List Value) (f9 : Int) => Z2k (fun s => Z1d l2 a3 s.1 s.2) r2 (d6, f9) = some E3 ∧ d6.length = j9 ∧ j9 ≤ c49 ∧ l6.length = (c49 - j9) * 1 ∧ (e6 = none → c49 = 0)) (fun (r2 : Nat) (d6 : List Int) (j9 : Nat) (c49 : Nat) (e6 : Option Nat) (l6 : List Value) (f9 : Int) => [(2, .slice l2_b l2_n l2_c), (3, .int .u32 d3), (9, .int .i64 (3 + (many0.tmod 10))), (10, .pointer (some ⟨b4, 0, none⟩)), (15, .slice (sb e6) j9 c49), (70, .slice (sb d5) j4 j5), (71, .int .i64 (a3.length : Int)), (72, .int .i64 f9)]) (fun (r2 : Nat) (d6 : List Int) (j9 : Nat) (c49 : Nat) (e6 : Option Nat) (l6 : List Value) (f9 : Int) => [(some b4, .cells #[.int .i64 (3 + (many0.tmod 10)), .int .i64 0, .int .i64 ((3 + (many0.tmod 10)) - 1), .slice (sb d5) j4 j5] 24 (0, 0)), (d5, .cells (arr Z5f a3 l9).toArray 35 (0, 0)), (e6, .cells (arr (intC .i64) d6 l6).toArray 2 (0, 0))]) (fun (r2 : Nat) (d6 : List Int) (j9 : Nat) (c49 : Nat) (e6 : Option Nat) (l6 : List Value) (f9 : Int) => r2) Z51 ([]) 0 0 none ([]) 0 ⟨m1, rfl, (Nat.le_refl _), (Z76 0 _), (fun _ => rfl)⟩ (Z00 rfl (Z00 rfl (Z00 rfl (Z00 rfl (Z00 rfl (Z00 rfl (Z00 rfl (Z00 rfl Z07)))))))) (Z02 tk0 (Z02 tk0 (Pick.none Z08))) ?_; rintro r2 d6 j9 c49 e6 l6 f9 ⟨H, k1, o9, p0, p1⟩; obtain ⟨C0, C1, rfl, H, w9⟩ := Z1i H; have H : Z1d l2 a3 d6 f9 = some C1 := H; unfold Z1d at H; refine Z0b ?_; refine Z04 (ll := [0]) rfl ?_; refine Z0r rfl rfl rfl rfl rfl rfl ?_; refine Z03 ?_; refine Z01 ?_; refine Z0b ?_; rcases Z0h H with ⟨x2, H⟩ | ⟨x2, H⟩
   ·
    refine Z15 rfl x2 ?_; refine T.skip ?_; refine Z01 ?_; refine Z0b ?_; refine T.block ?_; refine Z0b ?_; obtain ⟨C2, H⟩ := Z0c H; refine Z04 (ll := [0, 1, 2, 3, 4, 5]) rfl ?_; refine Z05 rfl rfl rfl rfl ?_; refine Z6p o8 o7 m0 C2 rfl rfl rfl rfl rfl Z1w Z27 ?_; refine TO.ldSV (f := Z5f) (cs := [.int .i64 ((a3.getD f9.toNat default).fr), .int .i64 ((a3.getD f9.toNat default).to), .int .i64 ((a3.getD f9.toNat default).cap)]) default (fun _ => rfl) o8 o7 m0 C2 rfl rfl rfl rfl rfl Z7h mm1 ?_; refine Z3q rfl rfl rfl Z3m ?_; intro G5; refine Z06 rfl rfl rfl rfl ?_; refine Z3o rfl rfl rfl rfl tk0 Z27 rfl rfl rfl ?_; refine Z03 ?_; refine Z01 ?_; refine Z0b ?_; refine Z04 (ll := [0]) rfl ?_; refine Z06 rfl rfl rfl rfl ?_; refine Z03 ?_; refine Z01 ?_; refine Z0b ?_; refine Z0b ?_; refine Z2w (fun (r8 : Bool) => Z1f l2 d6 f9 r8 = some C1) (fun (r8 : Bool) => [(2, .slice l2_b l2_n l2_c), (3, .int .u32 d3), (9, .int .i64 (3 + (many0.tmod 10))), (10, .pointer (some ⟨b4, 0, none⟩)), (15, .slice (sb e6) j9 c49), (16, .int .i64 f9), (18, .int .i64 0), (70, .slice (sb d5) j4 j5), (71, .int .i64 (a3.length : Int)), (72, .int .i64 f9), (87, .bool r8)]) (fun (r8 : Bool) => [(some b4, .cells #[.int .i64 (3 + (many0.tmod 10)), .int .i64 0, .int .i64 ((3 + (many0.tmod 10)) - 1), .slice (sb d5) j4 j5] 24 (0, 0)), (d5, .cells (arr Z5f a3 l9).toArray 35 (0, 0)), (e6, .cells (arr (intC .i64) d6 l6).toArray 2 (0, 0))]) ?_ ?_
    ·
     rcases Z0h H with ⟨x3, H⟩ | ⟨x3, H⟩
     · refine Z04 (ll := [0, 1, 2, 3, 4, 5, 6, 7, 8, 9, 10]) rfl ?_; refine Z05 rfl rfl rfl rfl ?_; refine Z05 rfl rfl rfl rfl ?_; refine Z22 (xs := l2) l8.len rfl rfl rfl rfl rfl Z0x ?_; refine Z0r rfl rfl rfl rfl rfl rfl ?_; refine Z05 rfl rfl rfl rfl ?_; refine Z0n (t := 81) (b' := true) rfl (decide_eq_true x3) ?_; refine Z0a rfl rfl rfl rfl Z6l ?_; refine Z0g rfl rfl rfl rfl Z4t mm0 rfl ?_; refine Z0a rfl rfl rfl rfl Z6k ?_; refine Z0g rfl rfl rfl rfl Z4t mm0 rfl ?_; refine Z0r rfl rfl rfl rfl rfl rfl ?_; refine Z14 rfl rfl rfl rfl rfl ?_; refine Z03 ?_; exact Z49 (decide (((a3.getD f9.toNat default).fr) ≠ ((a3.getD f9.toNat default).to))) H (Z00 rfl (Z00 rfl (Z00 rfl (Z00 rfl (Z00 rfl (Z00 rfl (Z00 rfl (Z00 rfl (Z00 rfl (Z00 rfl (Z00 rfl Z07))))))))))) (Z02 tk1 (Z02 tk1 (Z02 tk1 Z08)))
     · refine Z04 (ll := [0, 1, 2, 3, 4, 5, 6, 7, 8, 9, 10]) rfl ?_; refine Z05 rfl rfl rfl rfl ?_; refine Z05 rfl rfl rfl rfl ?_; refine Z22 (xs := l2) l8.len rfl rfl rfl rfl rfl Z0x ?_; refine Z0r rfl rfl rfl rfl rfl rfl ?_; refine Z05 rfl rfl rfl rfl ?_; refine Z0n (t := 81) (b' := false) rfl (decide_eq_false x3) ?_; refine Z0d rfl rfl rfl rfl ?_; refine Z0d rfl rfl rfl rfl ?_; refine Z0d rfl rfl rfl rfl ?_; refine Z0d rfl rfl rfl rfl ?_; refine Z0d rfl rfl rfl rfl ?_; refine Z1a rfl rfl rfl rfl rfl ?_; refine Z03 ?_; exact Z49 false H (Z00 rfl (Z00 rfl (Z00 rfl (Z00 rfl (Z00 rfl (Z00 rfl (Z00 rfl (Z00 rfl (Z00 rfl (Z00 rfl (Z00 rfl Z07))))))))))) (Z02 tk1 (Z02 tk1 (Z02 tk1 Z08)))
    ·
     rintro r8 H; unfold Z1f at H; rcases Z0h H with ⟨x4, H⟩ | ⟨x4, H⟩
     · refine Z2j rfl x4 ?_; obtain ⟨C3, H⟩ := Z0c H; refine Z04 (ll := [0, 1, 2, 3, 4, 5]) rfl ?_; refine Z05 rfl rfl rfl rfl ?_; refine Z05 rfl rfl rfl rfl ?_; refine Z38 l8 C3 rfl rfl rfl rfl rfl Z0x Z2c ?_; refine Z41 l8 C3 rfl rfl rfl rfl Z7s ?_; refine TO.andB rfl rfl rfl rfl rfl ?_; refine Z06 rfl rfl rfl rfl ?_; refine Z03 ?_; refine Z01 ?_; obtain ⟨E5, H⟩ := Z0c H; refine Z04 (ll := [0, 1, 2, 3, 4]) rfl ?_; refine Z05 rfl rfl rfl rfl ?_; refine Z05 rfl rfl rfl rfl ?_; refine Z0u [.int .i64 0] [0] rfl rfl rfl rfl Z0x Z2c Z4s rfl rfl (by simp only [Z2n, setCells, Value.cells, List.toList_toArray, List.getD_cons_zero, List.getD_cons_succ, List.set_cons_zero, List.set_cons_succ]; rfl) (by kernel_rfl) ?_; intro G6; refine Z8s (f := (intC .i64)) (s := 1) (xs := d6) (ob := e6) (j := l6) (ys := [(Zh4 .i64 (l2.getD f9.toNat 0) 1099511627775)]) (fun _ => rfl) (fun _ => rfl) Z2y E5 rfl rfl rfl rfl rfl tk3 k1 o9 p0 p1 (fun wc hwc => (hwc.rs (f := (intC .i64)) (s := 1) (xs := [(Zh4 .i64 (l2.getD f9.toNat 0) 1099511627775)]) (j := ([])) (fun _ => rfl) mm0 rfl (Nat.le_refl _) Z60)) ?_; intro x5 E6 E7 x6 x7 x8; refine Z06 rfl rfl rfl rfl ?_; refine Z03 ?_; refine Z0j ?_; refine Z01 ?_; refine Z0l (Z00 (t := 2) rfl (Z00 (t := 3) rfl (Z00 (t := 9) rfl (Z00 (t := 10) rfl (Z00 (t := 15) rfl (Z00 (t := 70) rfl (Z00 (t := 71) rfl (Z00 (t := 72) rfl Z07)))))))) ?_; obtain ⟨E8, H⟩ := Z0c H; refine Z04 (ll := [0, 1]) rfl ?_; refine Z2b E8 rfl rfl rfl rfl rfl ?_; refine Z05 rfl rfl rfl rfl ?_; refine Z03 ?_; have H := Z12 H w9; exact Z91 C0 (d6 ++ ([(Zh4 .i64 (l2.getD f9.toNat 0) 1099511627775)])) (j9 + 1) E6 x5 E7 (f9 + 1) ⟨H, (Z6n k1 rfl), x6, x7, x8⟩ (Nat.lt_succ_self _) (Z00 rfl (Z00 rfl (Z00 rfl (Z00 rfl (Z00 rfl (Z00 rfl (Z00 rfl (Z00 rfl Z07)))))))) (Z02 tk2 (Z02 tk2 (Z02 tk0 Z08)))
     · refine Z3i rfl (Bool.eq_false_iff.2 x4) ?_; refine T.skip ?_; refine Z01 ?_; obtain ⟨E9, H⟩ := Z0c H; refine Z04 (ll := [0, 1, 2, 3, 4]) rfl ?_; refine Z05 rfl rfl rfl rfl ?_; refine Z05 rfl rfl rfl rfl ?_; refine Z0u [.int .i64 0] [0] rfl rfl rfl rfl Z0x Z2c Z4s rfl rfl (by simp only [Z2n, setCells, Value.cells, List.toList_toArray, List.getD_cons_zero, List.getD_cons_succ, List.set_cons_zero, List.set_cons_succ]; rfl) (by kernel_rfl) ?_; intro G7; refine Z8s (f := (intC .i64)) (s := 1) (xs := d6) (ob := e6) (j := l6) (ys := [0]) (fun _ => rfl) (fun _ => rfl) Z2y E9 rfl rfl rfl rfl rfl tk3 k1 o9 p0 p1 (fun wc hwc => (hwc.rs (f := (intC .i64)) (s := 1) (xs := [0]) (j := ([])) (fun _ => rfl) mm0 rfl (Nat.le_refl _) Z60)) ?_; intro x9 F0 F1 y0 y2 y3; refine Z06 rfl rfl rfl rfl ?_; refine Z03 ?_; refine Z0j ?_; refine Z01 ?_; obtain ⟨F2, H⟩ := Z0c H; refine Z04 (ll := [0, 1]) rfl ?_; refine Z2b F2 rfl rfl rfl rfl rfl ?_; refine Z05 rfl rfl rfl rfl ?_; refine Z03 ?_; have H := Z12 H w9; exact Z91 C0 (d6 ++ ([0])) (j9 + 1) F0 x9 F1 (f9 + 1) ⟨H, (Z6n k1 rfl), y0, y2, y3⟩ (Nat.lt_succ_self _) (Z00 rfl (Z00 rfl (Z00 rfl (Z00 rfl (Z00 rfl (Z00 rfl (Z00 rfl (Z00 rfl Z07)))))))) (Z02 tk2 (Z02 tk2 (Z02 tk0 Z08)))
   · refine Z16 rfl x2 ?_; refine T.exit ?_; refine Z0i ?_; have H := Z0s H w9 ▸ E4; refine Z0i ?_; refine Z0t ?_; exact Zdi d6 j9 c49 e6 l6 ⟨H, k1, o9, p0, p1⟩ (Z00 rfl (Z00 rfl (Z00 rfl (Z00 rfl Z07)))) (Z02 tk0 (Z02 tk0 (Z02 tk0 Z08)))
  ·
   rintro a4 f7 j7 b5 f8 ⟨H, k2, r9, F3, s5⟩; unfold Z2f at H; refine Z0b ?_; obtain ⟨y4, H⟩ := Z0c H; refine Z04 (ll := [0, 1, 2, 3]) rfl ?_; refine Z7u rfl rfl rfl Z0x Z2c ?_; intro F4; refine Z05 rfl rfl rfl rfl ?_; refine Z8s (f := (intC .i64)) (s := 1) (xs := ([] : List Int)) (ob := some F4) (j := ([])) (ys := a4) (fun _ => rfl) (fun _ => rfl) Z2y y4 rfl rfl rfl rfl rfl tk0 rfl (Nat.le_refl _) (Z76 0 _) Z60 (fun wc hwc => (hwc.rs (f := (intC .i64)) (s := 1) (xs := a4) (j := f8) (fun _ => rfl) mm3 k2 r9 s5)) ?_; intro s6 y5 y6 s7 s8 s9; refine Z06 rfl rfl rfl rfl ?_; refine Z03 ?_; refine Z01 ?_; refine Z0b ?_; refine Z0b ?_; refine Z04 (ll := [0, 1]) rfl ?_; refine Z05 rfl rfl rfl rfl ?_; refine Z05 rfl rfl rfl rfl ?_; refine Z03 ?_; refine Z01 ?_; refine Zgi (fun (a2 : List Arc) (d2 : Nat) (d4 : Nat) (a5 : Option Nat) (c3 : List Value) (a9 : List Int) (d7 : Nat) (d8 : Nat) (a6 : Option Nat) (c8 : List Value) => Z2e many0 d3 a4 a2 a9 = some r0 ∧ a2.length = d2 ∧ d2 ≤ d4 ∧ c3.length = (d4 - d2) * 3 ∧ (a5 = none → d4 = 0) ∧ a9.length = d7 ∧ d7 ≤ d8 ∧ c8.length = (d8 - d7) * 1 ∧ (a6 = none → d8 = 0)) (fun (a2 : List Arc) (d2 : Nat) (d4 : Nat) (a5 : Option Nat) (c3 : List Value) (a9 : List Int) (d7 : Nat) (d8 : Nat) (a6 : Option Nat) (c8 : List Value) => [(3, .int .u32 d3), (9, .int .i64 (3 + (many0.tmod 10))), (10, .pointer (some ⟨b4, 0, none⟩)), (15, .slice (sb b5) f7 j7), (19, .slice (sb a6) d7 d8)]) (fun (a2 : List Arc) (d2 : Nat) (d4 : Nat) (a5 : Option Nat) (c3 : List Value) (a9 : List Int) (d7 : Nat) (d8 : Nat) (a6 : Option Nat) (c8 : List Value) => [(some b4, .cells #[.int .i64 (3 + (many0.tmod 10)), .int .i64 0, .int .i64 ((3 + (many0.tmod 10)) - 1), .slice (sb a5) d2 d4] 24 (0, 0)), (a5, .cells (arr Z5f a2 c3).toArray 35 (0, 0)), (b5, .cells (arr (intC .i64) a4 f8).toArray 2 (0, 0)), (a6, .cells (arr (intC .i64) a9 c8).toArray 2 (0, 0))]) ?_ ?_
   ·
    refine T.block ?_; obtain ⟨F5, g0, F6⟩ := Z0k H; refine Zek (fun (r3 : Nat) (a8 : List Arc) (e4 : Nat) (c110 : Nat) (b7 : Option Nat) (f3 : List Value) (e5 : List Int) (f4 : Nat) (g9 : Nat) (d0 : Option Nat) (f5 : List Value) (c4 : Int) => Z2k (fun s => Z1c many0 d3 s.1 s.2.1 s.2.2) r3 (a8, e5, c4) = some F5 ∧ a8.length = e4 ∧ e4 ≤ c110 ∧ f3.length = (c110 - e4) * 3 ∧ (b7 = none → c110 = 0) ∧ e5.length = f4 ∧ f4 ≤ g9 ∧ f5.length = (g9 - f4) * 1 ∧ (d0 = none → g9 = 0)) (fun (r3 : Nat) (a8 : List Arc) (e4 : Nat) (c110 : Nat) (b7 : Option Nat) (f3 : List Value) (e5 : List Int) (f4 : Nat) (g9 : Nat) (d0 : Option Nat) (f5 : List Value) (c4 : Int) => [(3, .int .u32 d3), (9, .int .i64 (3 + (many0.tmod 10))), (10, .pointer (some ⟨b4, 0, none⟩)), (15, .slice (sb b5) f7 j7), (19, .slice (sb d0) f4 g9), (101, .int .i64 (3 + (many0.tmod 10))), (102, .int .i64 c4)]) (fun (r3 : Nat) (a8 : List Arc) (e4 : Nat) (c110 : Nat) (b7 : Option Nat) (f3 : List Value) (e5 : List Int) (f4 : Nat) (g9 : Nat) (d0 : Option Nat) (f5 : List Value) (c4 : Int) => [(some b4, .cells #[.int .i64 (3 + (many0.tmod 10)), .int .i64 0, .int .i64 ((3 + (many0.tmod 10)) - 1), .slice (sb b7) e4 c110] 24 (0, 0)), (b7, .cells (arr Z5f a8 f3).toArray 35 (0, 0)), (b5, .cells (arr (intC .i64) a4 f8).toArray 2 (0, 0)), (d0, .cells (arr (intC .i64) e5 f5).toArray 2 (0, 0))]) (fun (r3 : Nat) (a8 : List Arc) (e4 : Nat) (c110 : Nat) (b7 : Option Nat) (f3 : List Value) (e5 : List Int) (f4 : Nat) (g9 : Nat) (d0 : Option Nat) (f5 : List Value) (c4 : Int) => r3) Z51 a3 j4 j5 d5 l9 a4 (0 + f7) y5 s6 y6 0 ⟨g0, m0, o7, w8, o8, (Zbu k2), s7, s8, s9⟩ (Z00 rfl (Z00 rfl (Z00 rfl (Z00 rfl (Z00 rfl (Z00 rfl (Z00 rfl Z07))))))) (Z02 tk1 (Z02 tk1 (Z02 tk1 (Z02 tk0 Z08)))) ?_; rintro r3 a8 e4 c110 b7 f3 e5 f4 g9 d0 f5 c4 ⟨H, k3, m8, m9, n5, k4, n6, n7, n9⟩; obtain ⟨F7, F8, rfl, H, C4⟩ := Z1i H; have H : Z1c many0 d3 a8 e5 c4 = some F8 := H; unfold Z1c at H; refine Z0b ?_; refine Z04 (ll := [0]) rfl ?_; refine Z0r rfl rfl rfl rfl rfl rfl ?_; refine Z03 ?_; refine Z01 ?_; refine Z0b ?_; rcases Z0h H with ⟨p2, H⟩ | ⟨p2, H⟩
    ·
     refine Z15 rfl p2 ?_; refine T.skip ?_; refine Z01 ?_; refine Z0b ?_; refine T.block ?_; refine Z0b ?_; refine Z04 (ll := [0, 1]) rfl ?_; refine Z05 rfl rfl rfl rfl ?_; refine Z06 rfl rfl rfl rfl ?_; refine Z03 ?_; refine Z01 ?_; refine Z0b ?_; obtain ⟨y7, H⟩ := Z0c H; obtain ⟨y8, H⟩ := Z0c H; obtain ⟨y9, H⟩ := Z0c H; apply Zdq [⟨[], false, [], Z5p _⟩, ⟨[0], false, [], Z5p _⟩, ⟨[], false, [], Z5p _⟩, ⟨[], false, [], Z5p _⟩, ⟨[3], false, [], Z5p _⟩, ⟨[], false, [], Z5p _⟩, ⟨[4, 5], false, [], Z5p _⟩, ⟨[2, 6], false, [], Z5p _⟩, ⟨[7], false, [], fun _ v e => ∃ (j8 : Nat), v = .slice (some ⟨j8, 0, none⟩) 1 1 ∧ e = [(some j8, .cells (arr Z5f ([(Arc.mk c4 ((c4 + 1).tmod (3 + (many0.tmod 10))) 1099511627776)]) ([])).toArray 35 (0, 0))]⟩] [105, 106, 107, 108, 109, 110, 111, 112, 113] 9 (HRk [[]]) [[]] [] [(some b4, .cells #[.int .i64 (3 + (many0.tmod 10)), .int .i64 0, .int .i64 ((3 + (many0.tmod 10)) - 1), .slice (sb b7) e4 c110] 24 (0, 0)), (b7, .cells (arr Z5f a8 f3).toArray 35 (0, 0)), (b5, .cells (arr (intC .i64) a4 f8).toArray 2 (0, 0)), (d0, .cells (arr (intC .i64) e5 f5).toArray 2 (0, 0))]
     · exact Z84
     · exact rfl
     · kernel_rfl
     · kernel_rfl
     · kernel_rfl
     · exact rfl
     · exact rfl
     · exact rfl
     · exact rfl
     · exact (by repeat (first | exact Z09 _ | exact Z08 | apply Pick.none | refine Z02 (by repeat (first | exact Take.head _ _ | apply Take.tail)) ?_))
     ·
      refine ⟨?_, ?_, ?_, ?_, ?_, ?_, ?_, ?_, ?_, trivial⟩
      · rintro vs es Es Hx -; refine Z0f (D := []) rfl ?_; refine Z0a rfl rfl rfl rfl Z32 ?_; refine Z03 ?_; exact Z1o rfl ⟨rfl, rfl⟩ (Z09 _) rfl
      · rintro vs es Es Hx ⟨⟨k5, m2⟩, -⟩; refine Z0f (D := [(105, vs 0)]) rfl ?_; rw [k5]; refine Z0g rfl rfl rfl rfl Z5r mm0 rfl ?_; refine Z03 ?_; exact Z1o rfl ⟨rfl, rfl⟩ (Z09 _) (by show [(105, vs 0)] = _; rw [k5])
      · rintro vs es Es Hx -; refine Z0f (D := []) rfl ?_; refine Z05 rfl rfl rfl rfl ?_; refine Z03 ?_; exact Z1o rfl ⟨rfl, rfl⟩ (Z09 _) rfl
      · rintro vs es Es Hx -; refine Z0f (D := []) rfl ?_; refine Z05 rfl rfl rfl rfl ?_; refine Z03 ?_; exact Z1o rfl ⟨rfl, rfl⟩ (Z09 _) rfl
      · rintro vs es Es Hx ⟨⟨k6, m1⟩, -⟩; refine Z0f (D := [(108, vs 3)]) rfl ?_; rw [k6]; refine Z2b y7 rfl rfl rfl rfl rfl ?_; refine Z03 ?_; exact Z1o rfl ⟨rfl, rfl⟩ (Z09 _) (by show [(108, vs 3)] = _; rw [k6])
      · rintro vs es Es Hx -; refine Z0f (D := []) rfl ?_; refine Z05 rfl rfl rfl rfl ?_; refine Z03 ?_; exact Z1o rfl ⟨rfl, rfl⟩ (Z09 _) rfl
      · rintro vs es Es Hx ⟨⟨k7, m3⟩, ⟨k8, m4⟩, -⟩; refine Z0f (D := [(109, vs 4), (110, vs 5)]) rfl ?_; rw [k7, k8]; refine TO.rem rfl rfl rfl rfl rfl y8 ?_; refine Z03 ?_; exact Z1o rfl ⟨rfl, rfl⟩ (Z09 _) (by show [(109, vs 4), (110, vs 5)] = _; rw [k7, k8])
      · rintro vs es Es Hx ⟨⟨k9, m5⟩, ⟨e7, g0⟩, -⟩; refine Z0f (D := [(107, vs 2), (111, vs 6)]) rfl ?_; rw [k9, e7]; refine Z3b (t := 35) [.int .i64 0, .int .i64 0, .int .i64 0] [0, 1, 2] rfl rfl rfl rfl (by simp only [Z2n, setCells, Value.cells, List.toList_toArray, List.getD_cons_zero, List.getD_cons_succ, List.set_cons_zero, List.set_cons_succ]; rfl) (by kernel_rfl) ?_; refine Z03 ?_; exact Z1o rfl ⟨rfl, rfl⟩ (Z09 _) (by show [(107, vs 2), (111, vs 6)] = _; rw [k9, e7])
      · rintro vs es Es Hx ⟨⟨g4, h8⟩, -⟩; refine Z0f (D := [(112, vs 7)]) rfl ?_; rw [g4]; refine Z0u [.int .i64 0, .int .i64 0, .int .i64 0] [0] rfl rfl rfl rfl Z1w Z27 Z3m rfl rfl (by simp only [Z2n, setCells, Value.cells, List.toList_toArray, List.getD_cons_zero, List.getD_cons_succ, List.set_cons_zero, List.set_cons_succ]; rfl) (by kernel_rfl) ?_; intro j8; refine Z03 ?_; exact Z1o rfl ⟨j8, rfl, rfl⟩ (by repeat (first | exact Z09 _ | exact Z08 | apply Pick.none | refine Z02 (by repeat (first | exact Take.head _ _ | apply Take.tail)) ?_)) (by show [(112, vs 7)] = _; rw [g4])
     · rintro vs es hb ⟨⟨k5, m2⟩, ⟨o0, m6⟩, ⟨k9, m5⟩, ⟨k6, m1⟩, ⟨k7, m3⟩, ⟨k8, m4⟩, ⟨e7, g0⟩, ⟨g4, h8⟩, ⟨j8, l7, o1⟩, -⟩ hHR; obtain rfl : hb = [] := hHR; refine Z0f (D := [(105, vs 0), (106, vs 1), (107, vs 2), (108, vs 3), (109, vs 4), (110, vs 5), (111, vs 6), (112, vs 7), (113, vs 8)]) rfl ?_; refine Z11 (H := [(some b4, .cells #[.int .i64 (3 + (many0.tmod 10)), .int .i64 0, .int .i64 ((3 + (many0.tmod 10)) - 1), .slice (sb b7) e4 c110] 24 (0, 0)), (b7, .cells (arr Z5f a8 f3).toArray 35 (0, 0)), (b5, .cells (arr (intC .i64) a4 f8).toArray 2 (0, 0)), (d0, .cells (arr (intC .i64) e5 f5).toArray 2 (0, 0)), (some j8, .cells (arr Z5f ([(Arc.mk c4 ((c4 + 1).tmod (3 + (many0.tmod 10))) 1099511627776)]) ([])).toArray 35 (0, 0))]) (by show _ ++ (_ ++ (es 0 ++ (es 1 ++ (es 2 ++ (es 3 ++ (es 4 ++ (es 5 ++ (es 6 ++ (es 7 ++ (es 8 ++ ([]))))))))))) = _; rw [m2, m6, m5, m1, m3, m4, g0, h8, o1]; rfl) ?_; rw [k5, o0, k9, k6, k7, k8, e7, g4, l7]; clear l7 g4 e7 k8 k7 k6 k9 o0 k5 m2 m6 m5 m1 m3 m4 g0 h8 o1; refine Z8s (f := Z5f) (s := 3) (xs := a8) (ob := b7) (j := f3) (ys := [(Arc.mk c4 ((c4 + 1).tmod (3 + (many0.tmod 10))) 1099511627776)]) (fun _ => rfl) (fun _ => rfl) Z7c y9 rfl rfl rfl rfl rfl tk1 k3 m8 m9 n5 (fun wc hwc => (hwc.rs (f := Z5f) (s := 3) (xs := [(Arc.mk c4 ((c4 + 1).tmod (3 + (many0.tmod 10))) 1099511627776)]) (j := ([])) (fun _ => rfl) mm4 rfl (Nat.le_refl _) Z60)) ?_; intro o2 t0 z0 t1 t2 t3; refine Z0a rfl rfl rfl rfl Z32 ?_; refine Z9f (cs' := [.int .i64 (3 + (many0.tmod 10)), .int .i64 0, .int .i64 ((3 + (many0.tmod 10)) - 1), .slice (sb o2) (e4 + 1) t0]) rfl rfl rfl rfl tk1 Z7d rfl rfl rfl ?_; refine Z03 ?_; refine Z01 ?_; refine Z0l (Z00 (t := 3) rfl (Z00 (t := 9) rfl (Z00 (t := 10) rfl (Z00 (t := 15) rfl (Z00 (t := 19) rfl (Z00 (t := 101) rfl (Z00 (t := 102) rfl Z07))))))) ?_; obtain ⟨t4, H⟩ := Z0c H; obtain ⟨z1, H⟩ := Z0c H; refine Z04 (ll := [0, 1, 2, 3, 4, 5]) rfl ?_; refine Z05 rfl rfl rfl rfl ?_; refine Z05 rfl rfl rfl rfl ?_; refine Zau rfl rfl rfl rfl Z9z Zao (Z69 t4.1 t4.2) ?_; refine Z0u [.int .i64 0] [0] rfl rfl rfl rfl Z0x Z2c Z4s rfl rfl (by simp only [Z2n, setCells, Value.cells, List.toList_toArray, List.getD_cons_zero, List.getD_cons_succ, List.set_cons_zero, List.set_cons_succ]; rfl) (by kernel_rfl) ?_; intro F9; refine Z8s (f := (intC .i64)) (s := 1) (xs := e5) (ob := d0) (j := f5) (ys := [d3]) (fun _ => rfl) (fun _ => rfl) Z2y z1 rfl rfl rfl rfl rfl tk4 k4 n6 n7 n9 (fun wc hwc => (hwc.rs (f := (intC .i64)) (s := 1) (xs := [d3]) (j := ([])) (fun _ => rfl) mm0 rfl (Nat.le_refl _) Z60)) ?_; intro t5 z5 z6 t6 t7 t8; refine Z06 rfl rfl rfl rfl ?_; refine Z03 ?_; refine Z0j ?_; refine Z01 ?_; obtain ⟨z7, H⟩ := Z0c H; refine Z04 (ll := [0, 1]) rfl ?_; refine Z2b z7 rfl rfl rfl rfl rfl ?_; refine Z05 rfl rfl rfl rfl ?_; refine Z03 ?_; have H := Z12 H C4; exact Zb2 F7 (a8 ++ ([(Arc.mk c4 ((c4 + 1).tmod (3 + (many0.tmod 10))) 1099511627776)])) (e4 + 1) t0 o2 z0 (e5 ++ ([d3])) (f4 + 1) z5 t5 z6 (c4 + 1) ⟨H, (Z6n k3 rfl), t1, t2, t3, (Z6n k4 rfl), t6, t7, t8⟩ (Nat.lt_succ_self _) (Z00 rfl (Z00 rfl (Z00 rfl (Z00 rfl (Z00 rfl (Z00 rfl (Z00 rfl Z07))))))) (Z02 tk2 (Z02 tk2 (Z02 tk2 (Z02 tk0 Z08))))
    · refine Z16 rfl p2 ?_; refine T.exit ?_; refine Z0i ?_; have H := Z0s H C4 ▸ F6; refine Z0i ?_; refine Z0t ?_; exact X.metE10 a8 e4 c110 b7 f3 e5 f4 g9 d0 f5 ⟨H, k3, m8, m9, n5, k4, n6, n7, n9⟩ (Z00 rfl (Z00 rfl (Z00 rfl (Z00 rfl (Z00 rfl Z07))))) (Z02 tk0 (Z02 tk0 (Z02 tk0 (Z02 tk0 Z08))))
   ·
    rintro a2 d2 d4 a5 c3 a9 d7 d8 a6 c8 ⟨H, h9, i4, C5, i5, i6, l0, C6, l1⟩; unfold Z2e at H; refine Z0b ?_; obtain ⟨⟨p3, G0⟩, z8, H⟩ := Z0k H; refine Z04 (ll := [0, 1, 2, 3, 4, 5, 6, 7]) rfl ?_; refine Z1g rfl rfl rfl rfl Z4e mm0 rfl ?_; refine Z05 rfl rfl rfl rfl ?_; refine Z0o Za4 rfl rfl rfl rfl (fun wc hwc => Zah (n0 := (Net.mk (3 + (many0.tmod 10)) 0 ((3 + (many0.tmod 10)) - 1) a2)) (f1 := a9) wc (hwc.rs (f := Z5f) (s := 3) (xs := a2) (j := c3) (fun _ => rfl) mm1 h9 i4 i5) (hwc.rs (f := (intC .i64)) (s := 1) (xs := a9) (j := c8) (fun _ => rfl) mm3 i6 l0 l1) z8) ?_; rintro _ _ ⟨t9, z9, A0, e0, e1, G1, G2, h0, rfl, rfl, u0, u1, C7, C8, C9⟩; refine Z05 rfl rfl rfl rfl ?_; refine TO.extract rfl rfl rfl rfl rfl ?_; refine TO.extract rfl rfl rfl rfl rfl ?_; refine Z06 rfl rfl rfl rfl ?_; refine Z06 rfl rfl rfl rfl ?_; refine Z03 ?_; refine Z01 ?_; refine Z0b ?_; obtain ⟨⟨b6, l3, A1⟩, A2, H⟩ := Z0k H; refine Z04 (ll := [0, 1, 2, 3, 4, 5, 6, 7, 8, 9]) rfl ?_; refine Z1g rfl rfl rfl rfl Z4e mm1 rfl ?_; refine Z05 rfl rfl rfl rfl ?_; refine Z0o Za2 rfl rfl rfl rfl (fun wc hwc => Z8v (n0 := (Net.mk (3 + (many0.tmod 10)) 0 ((3 + (many0.tmod 10)) - 1) a2)) (f1 := a9) wc (hwc.rs (f := Z5f) (s := 3) (xs := a2) (j := c3) (fun _ => rfl) mm2 h9 i4 i5) (hwc.rs (f := (intC .i64)) (s := 1) (xs := a9) (j := c8) (fun _ => rfl) mm4 i6 l0 l1) A2) ?_; rintro _ _ ⟨b0, h2, h3, e8, rfl, rfl, g5, i7, D0, i8⟩; refine Z05 rfl rfl rfl rfl ?_; refine TO.extract rfl rfl rfl rfl rfl ?_; refine TO.extract rfl rfl rfl rfl rfl ?_; refine TO.extract rfl rfl rfl rfl rfl ?_; refine Z06 rfl rfl rfl rfl ?_; refine Z06 rfl rfl rfl rfl ?_; refine Z06 rfl rfl rfl rfl ?_; refine Z03 ?_; refine Z01 ?_; refine Z0l (Z00 (t := 3) rfl (Z00 (t := 9) rfl (Z00 (t := 10) rfl (Z00 (t := 15) rfl (Z00 (t := 19) rfl (Z00 (t := 21) rfl (Z00 (t := 22) rfl (Z00 (t := 23) rfl (Z00 (t := 24) rfl (Z00 (t := 25) rfl Z07)))))))))) ?_; refine Z0b ?_; refine Z0b ?_; refine Z04 (ll := [0, 1, 2, 3, 4, 5, 6, 7, 8, 9, 10, 11, 12, 13, 14, 15, 16, 17, 18, 19, 20, 21, 22, 23, 24, 25, 26, 27]) rfl ?_; refine Z05 rfl rfl rfl rfl ?_; refine Z0r rfl rfl rfl rfl rfl rfl ?_; refine Z05 rfl rfl rfl rfl ?_; refine TO.join [3, 4, 5] [6, 7, 8, 9, 10, 11, 12, 13, 14, 15, 16, 17, 18, 19, 20, 21, 22, 23, 24, 25, 26, 27] rfl 140 (fun u2 => Z1y many0 d3 a4 a2 a9 p3 b6 l3 u2 = some r0) [(3, .int .u32 d3), (9, .int .i64 (3 + (many0.tmod 10))), (10, .pointer (some ⟨b4, 0, none⟩)), (15, .slice (sb b5) f7 j7), (19, .slice (sb a6) d7 d8), (21, .slice t9 z9 A0), (23, .slice (sb b0) h2 h3), (24, .int .i64 l3)] ?_ ?_
    ·
     rcases Z0h H with ⟨p4, H⟩ | ⟨p4, H⟩
     · refine Z0n (t := 137) (b' := true) rfl (decide_eq_true p4) ?_; refine Z0d rfl rfl rfl rfl ?_; refine Z0d rfl rfl rfl rfl ?_; refine Z14 rfl rfl rfl rfl rfl ?_; refine Z03 ?_; exact Zbb (b := true) H (Z00 rfl (Z00 rfl (Z00 rfl (Z00 rfl (Z00 rfl (Z00 rfl (Z00 rfl (Z00 rfl (Z00 rfl Z07)))))))))
     · refine Z0n (t := 137) (b' := false) rfl (decide_eq_false p4) ?_; refine Z05 rfl rfl rfl rfl ?_; refine Z0r rfl rfl rfl rfl rfl rfl ?_; refine Z1a rfl rfl rfl rfl rfl ?_; refine Z03 ?_; exact Zbb (b := (decide (A1 ≠ 0))) H (Z00 rfl (Z00 rfl (Z00 rfl (Z00 rfl (Z00 rfl (Z00 rfl (Z00 rfl (Z00 rfl (Z00 rfl Z07)))))))))
    ·
     rintro u2 H; unfold Z1y at H; refine Z05 rfl rfl rfl rfl ?_; refine TO.join [7, 8, 9, 10, 11, 12, 13] [14, 15, 16, 17, 18, 19, 20, 21, 22, 23, 24, 25, 26, 27] rfl 148 (fun u3 => Z1x many0 d3 a4 a2 a9 b6 l3 u3 = some r0) [(3, .int .u32 d3), (9, .int .i64 (3 + (many0.tmod 10))), (10, .pointer (some ⟨b4, 0, none⟩)), (15, .slice (sb b5) f7 j7), (19, .slice (sb a6) d7 d8), (23, .slice (sb b0) h2 h3), (24, .int .i64 l3)] ?_ ?_
     ·
      rcases Z0h H with ⟨p5, H⟩ | ⟨p5, H⟩
      · refine Z0n (t := 141) (b' := true) rfl p5 ?_; refine Z0d rfl rfl rfl rfl ?_; refine Z0d rfl rfl rfl rfl ?_; refine Z0d rfl rfl rfl rfl ?_; refine Z0d rfl rfl rfl rfl ?_; refine Z0d rfl rfl rfl rfl ?_; refine Z0d rfl rfl rfl rfl ?_; refine Z14 rfl rfl rfl rfl rfl ?_; refine Z03 ?_; exact Zbb (b := true) H (Z00 rfl (Z00 rfl (Z00 rfl (Z00 rfl (Z00 rfl (Z00 rfl (Z00 rfl (Z00 rfl Z07))))))))
      · refine Z0n (t := 141) (b' := false) rfl (Bool.eq_false_iff.2 p5) ?_; refine Z05 rfl rfl rfl rfl ?_; refine Z22 (xs := p3) (u0.len u1) rfl rfl rfl rfl rfl Za1 ?_; refine Z0r rfl rfl rfl rfl rfl rfl ?_; refine Z05 rfl rfl rfl rfl ?_; refine Z0r rfl rfl rfl rfl rfl rfl ?_; refine TO.neb rfl rfl rfl rfl rfl Z7r ?_; refine Z1a rfl rfl rfl rfl rfl ?_; refine Z03 ?_; exact Zbb (b := (!((decide (0 < (p3.length : Int))) == (decide (0 < d3))))) H (Z00 rfl (Z00 rfl (Z00 rfl (Z00 rfl (Z00 rfl (Z00 rfl (Z00 rfl (Z00 rfl Z07))))))))
     ·
      rintro u3 H; unfold Z1x at H; refine Z05 rfl rfl rfl rfl ?_; refine TO.join [15, 16, 17, 18, 19, 20] [21, 22, 23, 24, 25, 26, 27] rfl 155 (fun u5 => Z1v many0 d3 a4 a2 a9 b6 u5 = some r0) [(3, .int .u32 d3), (9, .int .i64 (3 + (many0.tmod 10))), (10, .pointer (some ⟨b4, 0, none⟩)), (15, .slice (sb b5) f7 j7), (19, .slice (sb a6) d7 d8), (23, .slice (sb b0) h2 h3)] ?_ ?_
      ·
       rcases Z0h H with ⟨p6, H⟩ | ⟨p6, H⟩
       · refine Z0n (t := 149) (b' := true) rfl p6 ?_; refine Z0d rfl rfl rfl rfl ?_; refine Z0d rfl rfl rfl rfl ?_; refine Z0d rfl rfl rfl rfl ?_; refine Z0d rfl rfl rfl rfl ?_; refine Z0d rfl rfl rfl rfl ?_; refine Z14 rfl rfl rfl rfl rfl ?_; refine Z03 ?_; exact Zbb (b := true) H (Z00 rfl (Z00 rfl (Z00 rfl (Z00 rfl (Z00 rfl (Z00 rfl (Z00 rfl Z07)))))))
       · refine Z0n (t := 149) (b' := false) rfl (Bool.eq_false_iff.2 p6) ?_; refine Z05 rfl rfl rfl rfl ?_; refine Z0r rfl rfl rfl rfl rfl rfl ?_; refine Z05 rfl rfl rfl rfl ?_; refine Z0r rfl rfl rfl rfl rfl rfl ?_; refine TO.neb rfl rfl rfl rfl rfl Z7r ?_; refine Z1a rfl rfl rfl rfl rfl ?_; refine Z03 ?_; exact Zbb (b := (!((decide (0 < l3)) == (decide (0 < d3))))) H (Z00 rfl (Z00 rfl (Z00 rfl (Z00 rfl (Z00 rfl (Z00 rfl (Z00 rfl Z07)))))))
      ·
       rintro u5 H; unfold Z1v at H; refine Z05 rfl rfl rfl rfl ?_; refine TO.join [22, 23, 24, 25, 26, 27] [] rfl 162 (fun u6 => Z1u many0 d3 a4 a2 a9 b6 u6 = some r0) [(3, .int .u32 d3), (9, .int .i64 (3 + (many0.tmod 10))), (10, .pointer (some ⟨b4, 0, none⟩)), (15, .slice (sb b5) f7 j7), (19, .slice (sb a6) d7 d8), (23, .slice (sb b0) h2 h3)] ?_ ?_
       ·
        rcases Z0h H with ⟨p7, H⟩ | ⟨p7, H⟩
        · refine Z0n (t := 156) (b' := true) rfl p7 ?_; refine Z0d rfl rfl rfl rfl ?_; refine Z0d rfl rfl rfl rfl ?_; refine Z0d rfl rfl rfl rfl ?_; refine Z0d rfl rfl rfl rfl ?_; refine Z0d rfl rfl rfl rfl ?_; refine Z14 rfl rfl rfl rfl rfl ?_; refine Z03 ?_; exact Zbb (b := true) H (Z00 rfl (Z00 rfl (Z00 rfl (Z00 rfl (Z00 rfl (Z00 rfl (Z00 rfl Z07)))))))
        · refine Z0n (t := 156) (b' := false) rfl (Bool.eq_false_iff.2 p7) ?_; refine Z05 rfl rfl rfl rfl ?_; refine Z22 (xs := b6) g5 rfl rfl rfl rfl rfl Z0x ?_; refine Z05 rfl rfl rfl rfl ?_; refine Z22 (xs := a9) i6 rfl rfl rfl rfl rfl Z0x ?_; refine Z0r rfl rfl rfl rfl rfl rfl ?_; refine Z1a rfl rfl rfl rfl rfl ?_; refine Z03 ?_; exact Zbb (b := (decide ((b6.length : Int) ≠ (a9.length : Int)))) H (Z00 rfl (Z00 rfl (Z00 rfl (Z00 rfl (Z00 rfl (Z00 rfl (Z00 rfl Z07)))))))
       ·
        rintro u6 H; unfold Z1u at H; refine Z03 ?_; refine Z01 ?_; rcases Z0h H with ⟨p8, H⟩ | ⟨p8, H⟩
        · refine Z2j rfl p8 ?_; refine Z0b ?_; refine Z04 (ll := [0]) rfl ?_; refine Z06 rfl rfl rfl rfl ?_; refine Z03 ?_; refine Z01 ?_; refine T.ret ?_; refine Z0e ?_; obtain rfl := ret1 H; exact Z10 rfl rfl rfl rfl (Res.tmp rfl) Z08 ⟨rfl, rfl⟩
        ·
         refine Z3i rfl (Bool.eq_false_iff.2 p8) ?_; refine T.skip ?_; refine Z01 ?_; refine Z0b ?_; obtain ⟨A3, H⟩ := Z0c H; obtain ⟨u7, H⟩ := Z0c H; obtain ⟨⟨f6, l4⟩, A4, H⟩ := Z0k H; apply Zdq [⟨[], false, [], Z5p _⟩, ⟨[], false, [], fun _ v e => ∃ (h4 : Nat), v = .slice (some ⟨h4, 0, none⟩) 0 0 ∧ e = [(some h4, .cells (arr (intC .i64) ([] : List Int) ([])).toArray 2 (0, 0))]⟩, ⟨[], false, [], Z5p _⟩, ⟨[1, 2], false, [1], fun _ v e => ∃ (e2 : Option Nat) (h5 : Nat) (h6 : List Value), v = .slice (sb e2) (0 + f7) h5 ∧ e = [(e2, .cells (arr (intC .i64) a4 h6).toArray 2 (0, 0))] ∧ (0 + f7) ≤ h5 ∧ h6.length = (h5 - (0 + f7)) * 1 ∧ (e2 = none → h5 = 0)⟩, ⟨[], false, [], Z5p _⟩, ⟨[3, 4], false, [3], fun _ v e => ∃ (e3 : Option Nat) (h7 : Nat) (h1 : List Value), v = .slice (sb e3) ((0 + f7) + (3 + (many0.tmod 10)).toNat) h7 ∧ e = [(e3, .cells (arr (intC .i64) (a4 ++ List.replicate ((3 + (many0.tmod 10)).toNat) 0) h1).toArray 2 (0, 0))] ∧ ((0 + f7) + (3 + (many0.tmod 10)).toNat) ≤ h7 ∧ h1.length = (h7 - ((0 + f7) + (3 + (many0.tmod 10)).toNat)) * 1 ∧ (e3 = none → h7 = 0)⟩, ⟨[0, 5], false, [], fun _ v e => ∃ (a7 : Option Nat) (b8 : Nat) (b9 : Nat) (d9 : List Value), v = .tuple #[.slice (sb a7) b8 b9, .int .i64 l4] ∧ e = [(a7, .cells (arr (intC .i64) f6 d9).toArray 2 (0, 0))] ∧ f6.length = b8 ∧ b8 ≤ b9 ∧ d9.length = (b9 - b8) * 1 ∧ (a7 = none → b9 = 0)⟩, ⟨[6], false, [], fun vl v e => v = (vl.getD 0 undef) ∧ e = []⟩, ⟨[6, 7], false, [], fun vl v e => v = (tupAt (vl.getD 1 undef) 0) ∧ e = []⟩, ⟨[6, 7], false, [], Z5p _⟩, ⟨[6, 7, 8], false, [], fun vl v e => v = (vl.getD 2 undef) ∧ e = []⟩] [164, 165, 166, 167, 168, 169, 170, 163, 171, 172, 26] 11 (HRk [[]]) [[]] [] [(b0, .cells (arr (intC .i64) b6 e8).toArray 2 (0, 0)), (e0, .cells (arr (intC .i64) e1 h0).toArray 3 (0, 0)), (some b4, .cells #[.int .i64 (3 + (many0.tmod 10)), .int .i64 0, .int .i64 ((3 + (many0.tmod 10)) - 1), .slice (sb a5) d2 d4] 24 (0, 0)), (a5, .cells (arr Z5f a2 c3).toArray 35 (0, 0)), (b5, .cells (arr (intC .i64) a4 f8).toArray 2 (0, 0)), (a6, .cells (arr (intC .i64) a9 c8).toArray 2 (0, 0))]
         · exact Z84
         · exact rfl
         · kernel_rfl
         · kernel_rfl
         · kernel_rfl
         · exact rfl
         · exact rfl
         · exact rfl
         · exact rfl
         · exact (by repeat (first | exact Z09 _ | exact Z08 | apply Pick.none | refine Z02 (by repeat (first | exact Take.head _ _ | apply Take.tail)) ?_))
         ·
          refine ⟨?_, ?_, ?_, ?_, ?_, ?_, ?_, ?_, ?_, ?_, ?_, trivial⟩
          · rintro vs es Es Hx -; refine Z0f (D := []) rfl ?_; refine Z1g rfl rfl rfl rfl Z4e mm2 rfl ?_; refine Z03 ?_; exact Z1o rfl ⟨rfl, rfl⟩ (Z09 _) rfl
          · rintro vs es Es Hx -; refine Z0f (D := []) rfl ?_; refine Z7u rfl rfl rfl Z0x Z2c ?_; intro h4; refine Z03 ?_; exact Z1o rfl ⟨h4, rfl, rfl⟩ (by repeat (first | exact Z09 _ | exact Z08 | apply Pick.none | refine Z02 (by repeat (first | exact Take.head _ _ | apply Take.tail)) ?_)) rfl
          · rintro vs es Es Hx -; refine Z0f (D := []) rfl ?_; refine Z05 rfl rfl rfl rfl ?_; refine Z03 ?_; exact Z1o rfl ⟨rfl, rfl⟩ (Z09 _) rfl
          · rintro vs es Es Hx ⟨⟨h4, o0, m6⟩, ⟨k9, m5⟩, -⟩; refine Z0f (D := [(165, vs 1), (166, vs 2)]) rfl ?_; rw [o0, k9]; refine Z11 (H := [(b0, .cells (arr (intC .i64) b6 e8).toArray 2 (0, 0)), (e0, .cells (arr (intC .i64) e1 h0).toArray 3 (0, 0)), (some b4, .cells #[.int .i64 (3 + (many0.tmod 10)), .int .i64 0, .int .i64 ((3 + (many0.tmod 10)) - 1), .slice (sb a5) d2 d4] 24 (0, 0)), (a5, .cells (arr Z5f a2 c3).toArray 35 (0, 0)), (b5, .cells (arr (intC .i64) a4 f8).toArray 2 (0, 0)), (a6, .cells (arr (intC .i64) a9 c8).toArray 2 (0, 0))] ++ ([(some h4, .cells (arr (intC .i64) ([] : List Int) ([])).toArray 2 (0, 0))] ++ Hx)) (by show _ ++ ((es 1 ++ (es 2 ++ ([]))) ++ _) = _; rw [m6, m5]; rfl) ?_; refine Z8s (f := (intC .i64)) (s := 1) (xs := ([] : List Int)) (ob := some h4) (j := ([])) (ys := a4) (fun _ => rfl) (fun _ => rfl) Z2y A3 rfl rfl rfl rfl rfl tk6 rfl (Nat.le_refl _) (Z76 0 _) Z60 (fun wc hwc => (hwc.rs (f := (intC .i64)) (s := 1) (xs := a4) (j := f8) (fun _ => rfl) mm4 k2 r9 s5)) ?_; intro e2 h5 h6 i9 j0 j1; refine Z03 ?_; exact Z1o rfl ⟨e2, h5, h6, rfl, rfl, i9, j0, j1⟩ (by show Pick (_ ++ (_ ++ ((es 2 ++ ([])) ++ _))) _; rw [m5]; exact (by repeat (first | exact Z09 _ | exact Z08 | apply Pick.none | refine Z02 (by repeat (first | exact Take.head _ _ | apply Take.tail)) ?_))) (by show [(165, vs 1), (166, vs 2)] = _; rw [o0, k9])
          · rintro vs es Es Hx -; refine Z0f (D := []) rfl ?_; refine Z05 rfl rfl rfl rfl ?_; refine Z03 ?_; exact Z1o rfl ⟨rfl, rfl⟩ (Z09 _) rfl
          · rintro vs es Es Hx ⟨⟨e2, h5, h6, k6, m1, i9, j0, j1⟩, ⟨k7, m3⟩, -⟩; refine Z0f (D := [(167, vs 3), (168, vs 4)]) rfl ?_; rw [k6, k7]; refine Z11 (H := [(b0, .cells (arr (intC .i64) b6 e8).toArray 2 (0, 0)), (e0, .cells (arr (intC .i64) e1 h0).toArray 3 (0, 0)), (some b4, .cells #[.int .i64 (3 + (many0.tmod 10)), .int .i64 0, .int .i64 ((3 + (many0.tmod 10)) - 1), .slice (sb a5) d2 d4] 24 (0, 0)), (a5, .cells (arr Z5f a2 c3).toArray 35 (0, 0)), (b5, .cells (arr (intC .i64) a4 f8).toArray 2 (0, 0)), (a6, .cells (arr (intC .i64) a9 c8).toArray 2 (0, 0))] ++ ([(e2, .cells (arr (intC .i64) a4 h6).toArray 2 (0, 0))] ++ Hx)) (by show _ ++ ((es 3 ++ (es 4 ++ ([]))) ++ _) = _; rw [m1, m3]; rfl) ?_; refine TO.appZ (xs := a4) (ob := e2) (j := h6) Z2y Z9n u7.1 u7.2 rfl rfl rfl rfl rfl tk6 (Zbu k2) i9 j0 j1 ?_; intro e3 h7 h1 j2 l5 j3; refine Z03 ?_; exact Z1o rfl ⟨e3, h7, h1, rfl, rfl, j2, l5, j3⟩ (by show Pick (_ ++ (_ ++ ((es 4 ++ ([])) ++ _))) _; rw [m3]; exact (by repeat (first | exact Z09 _ | exact Z08 | apply Pick.none | refine Z02 (by repeat (first | exact Take.head _ _ | apply Take.tail)) ?_))) (by show [(167, vs 3), (168, vs 4)] = _; rw [k6, k7])
          · rintro vs es Es Hx ⟨⟨k5, m2⟩, ⟨e3, h7, h1, k8, m4, j2, l5, j3⟩, -⟩; refine Z0f (D := [(164, vs 0), (169, vs 5)]) rfl ?_; rw [k5, k8]; refine Z11 (H := [(b0, .cells (arr (intC .i64) b6 e8).toArray 2 (0, 0)), (e0, .cells (arr (intC .i64) e1 h0).toArray 3 (0, 0)), (some b4, .cells #[.int .i64 (3 + (many0.tmod 10)), .int .i64 0, .int .i64 ((3 + (many0.tmod 10)) - 1), .slice (sb a5) d2 d4] 24 (0, 0)), (a5, .cells (arr Z5f a2 c3).toArray 35 (0, 0)), (b5, .cells (arr (intC .i64) a4 f8).toArray 2 (0, 0)), (a6, .cells (arr (intC .i64) a9 c8).toArray 2 (0, 0))] ++ ([(e3, .cells (arr (intC .i64) (a4 ++ List.replicate ((3 + (many0.tmod 10)).toNat) 0) h1).toArray 2 (0, 0))] ++ Hx)) (by show _ ++ ((es 0 ++ (es 5 ++ ([]))) ++ _) = _; rw [m2, m4]; rfl) ?_; refine Z0o Z7g rfl rfl rfl rfl (fun wc hwc => Zag (n0 := (Net.mk (3 + (many0.tmod 10)) 0 ((3 + (many0.tmod 10)) - 1) a2)) (f1 := (a4 ++ List.replicate ((3 + (many0.tmod 10)).toNat) 0)) wc (hwc.rs (f := Z5f) (s := 3) (xs := a2) (j := c3) (fun _ => rfl) mm3 h9 i4 i5) (hwc.rs (f := (intC .i64)) (s := 1) (xs := (a4 ++ List.replicate ((3 + (many0.tmod 10)).toNat) 0)) (j := h1) (fun _ => rfl) mm6 (Z6n (Zbu k2) List.length_replicate) j2 j3) A4) ?_; rintro _ _ ⟨a7, b8, b9, d9, rfl, rfl, e9, f0, g7, f2⟩; refine Z03 ?_; exact Z1o rfl ⟨a7, b8, b9, d9, rfl, rfl, e9, f0, g7, f2⟩ (by show Pick (_ ++ (_ ++ ((es 0 ++ (es 5 ++ ([]))) ++ _))) _; rw [m2, m4]; exact (by repeat (first | exact Z09 _ | exact Z08 | apply Pick.none | refine Z02 (by repeat (first | exact Take.head _ _ | apply Take.tail)) ?_))) (by show [(164, vs 0), (169, vs 5)] = _; rw [k5, k8])
          · rintro vs es Es Hx ⟨⟨a7, b8, b9, d9, e7, g0, e9, f0, g7, f2⟩, -⟩; refine Z0f (D := [(170, vs 6)]) rfl ?_; rw [e7]; refine Z11 (H := [(b0, .cells (arr (intC .i64) b6 e8).toArray 2 (0, 0)), (e0, .cells (arr (intC .i64) e1 h0).toArray 3 (0, 0)), (some b4, .cells #[.int .i64 (3 + (many0.tmod 10)), .int .i64 0, .int .i64 ((3 + (many0.tmod 10)) - 1), .slice (sb a5) d2 d4] 24 (0, 0)), (a5, .cells (arr Z5f a2 c3).toArray 35 (0, 0)), (b5, .cells (arr (intC .i64) a4 f8).toArray 2 (0, 0)), (a6, .cells (arr (intC .i64) a9 c8).toArray 2 (0, 0))] ++ ([(a7, .cells (arr (intC .i64) f6 d9).toArray 2 (0, 0))] ++ Hx)) (by show _ ++ ((es 6 ++ ([])) ++ _) = _; rw [g0]; rfl) ?_; refine Z05 rfl rfl rfl rfl ?_; refine Z03 ?_; exact Z1o rfl ⟨by show _ = vs 6; rw [e7] <;> rfl, rfl⟩ (by show Pick (_ ++ (_ ++ ((es 6 ++ ([])) ++ _))) _; rw [g0]; exact (by repeat (first | exact Z09 _ | exact Z08 | apply Pick.none | refine Z02 (by repeat (first | exact Take.head _ _ | apply Take.tail)) ?_))) (by show [(170, vs 6)] = _; rw [e7])
          ·
           rintro vs es Es Hx ⟨⟨a7, b8, b9, d9, e7, g0, e9, f0, g7, f2⟩, ⟨o4, h8⟩, -⟩; have g4 : vs 7 = .tuple #[.slice (sb a7) b8 b9, .int .i64 l4] := by refine Eq.trans o4 ?_; show vs 6 = _; rw [e7] <;> rfl
           refine Z0f (D := [(170, vs 6), (163, vs 7)]) rfl ?_; rw [e7, g4]; refine Z11 (H := [(b0, .cells (arr (intC .i64) b6 e8).toArray 2 (0, 0)), (e0, .cells (arr (intC .i64) e1 h0).toArray 3 (0, 0)), (some b4, .cells #[.int .i64 (3 + (many0.tmod 10)), .int .i64 0, .int .i64 ((3 + (many0.tmod 10)) - 1), .slice (sb a5) d2 d4] 24 (0, 0)), (a5, .cells (arr Z5f a2 c3).toArray 35 (0, 0)), (b5, .cells (arr (intC .i64) a4 f8).toArray 2 (0, 0)), (a6, .cells (arr (intC .i64) a9 c8).toArray 2 (0, 0))] ++ ([(a7, .cells (arr (intC .i64) f6 d9).toArray 2 (0, 0))] ++ Hx)) (by show _ ++ ((es 6 ++ (es 7 ++ ([]))) ++ _) = _; rw [g0, h8]; rfl) ?_; refine TO.extract rfl rfl rfl rfl rfl ?_; refine Z03 ?_; exact Z1o rfl ⟨by show _ = (tupAt (vs 7) 0); rw [g4] <;> rfl, rfl⟩ (by show Pick (_ ++ (_ ++ ((es 6 ++ (es 7 ++ ([]))) ++ _))) _; rw [g0, h8]; exact (by repeat (first | exact Z09 _ | exact Z08 | apply Pick.none | refine Z02 (by repeat (first | exact Take.head _ _ | apply Take.tail)) ?_))) (by show [(170, vs 6), (163, vs 7)] = _; rw [e7, g4])
          ·
           rintro vs es Es Hx ⟨⟨a7, b8, b9, d9, e7, g0, e9, f0, g7, f2⟩, ⟨o4, h8⟩, -⟩; have g4 : vs 7 = .tuple #[.slice (sb a7) b8 b9, .int .i64 l4] := by refine Eq.trans o4 ?_; show vs 6 = _; rw [e7] <;> rfl
           refine Z0f (D := [(170, vs 6), (163, vs 7)]) rfl ?_; rw [e7, g4]; refine Z11 (H := [(b0, .cells (arr (intC .i64) b6 e8).toArray 2 (0, 0)), (e0, .cells (arr (intC .i64) e1 h0).toArray 3 (0, 0)), (some b4, .cells #[.int .i64 (3 + (many0.tmod 10)), .int .i64 0, .int .i64 ((3 + (many0.tmod 10)) - 1), .slice (sb a5) d2 d4] 24 (0, 0)), (a5, .cells (arr Z5f a2 c3).toArray 35 (0, 0)), (b5, .cells (arr (intC .i64) a4 f8).toArray 2 (0, 0)), (a6, .cells (arr (intC .i64) a9 c8).toArray 2 (0, 0))] ++ ([(a7, .cells (arr (intC .i64) f6 d9).toArray 2 (0, 0))] ++ Hx)) (by show _ ++ ((es 6 ++ (es 7 ++ ([]))) ++ _) = _; rw [g0, h8]; rfl) ?_; refine TO.extract rfl rfl rfl rfl rfl ?_; refine Z03 ?_; exact Z1o rfl ⟨rfl, rfl⟩ (by show Pick (_ ++ (_ ++ ((es 6 ++ (es 7 ++ ([]))) ++ _))) _; rw [g0, h8]; exact (by repeat (first | exact Z09 _ | exact Z08 | apply Pick.none | refine Z02 (by repeat (first | exact Take.head _ _ | apply Take.tail)) ?_))) (by show [(170, vs 6), (163, vs 7)] = _; rw [e7, g4])
          ·
           rintro vs es Es Hx ⟨⟨a7, b8, b9, d9, e7, g0, e9, f0, g7, f2⟩, ⟨o4, h8⟩, ⟨w3, o1⟩, -⟩; have g4 : vs 7 = .tuple #[.slice (sb a7) b8 b9, .int .i64 l4] := by refine Eq.trans o4 ?_; show vs 6 = _; rw [e7] <;> rfl
           have l7 : vs 8 = .slice (sb a7) b8 b9 := by refine Eq.trans w3 ?_; show (tupAt (vs 7) 0) = _; rw [g4] <;> rfl
           refine Z0f (D := [(170, vs 6), (163, vs 7), (171, vs 8)]) rfl ?_; rw [e7, g4, l7]; refine Z11 (H := [(b0, .cells (arr (intC .i64) b6 e8).toArray 2 (0, 0)), (e0, .cells (arr (intC .i64) e1 h0).toArray 3 (0, 0)), (some b4, .cells #[.int .i64 (3 + (many0.tmod 10)), .int .i64 0, .int .i64 ((3 + (many0.tmod 10)) - 1), .slice (sb a5) d2 d4] 24 (0, 0)), (a5, .cells (arr Z5f a2 c3).toArray 35 (0, 0)), (b5, .cells (arr (intC .i64) a4 f8).toArray 2 (0, 0)), (a6, .cells (arr (intC .i64) a9 c8).toArray 2 (0, 0))] ++ ([(a7, .cells (arr (intC .i64) f6 d9).toArray 2 (0, 0))] ++ Hx)) (by show _ ++ ((es 6 ++ (es 7 ++ (es 8 ++ ([])))) ++ _) = _; rw [g0, h8, o1]; rfl) ?_; refine Z06 rfl rfl rfl rfl ?_; refine Z03 ?_; exact Z1o rfl ⟨by show _ = vs 8; rw [l7] <;> rfl, rfl⟩ (by show Pick (_ ++ (_ ++ ((es 6 ++ (es 7 ++ (es 8 ++ ([])))) ++ _))) _; rw [g0, h8, o1]; exact (by repeat (first | exact Z09 _ | exact Z08 | apply Pick.none | refine Z02 (by repeat (first | exact Take.head _ _ | apply Take.tail)) ?_))) (by show [(170, vs 6), (163, vs 7), (171, vs 8)] = _; rw [e7, g4, l7])
         ·
          rintro vs es hb ⟨⟨k5, m2⟩, ⟨h4, o0, m6⟩, ⟨k9, m5⟩, ⟨e2, h5, h6, k6, m1, i9, j0, j1⟩, ⟨k7, m3⟩, ⟨e3, h7, h1, k8, m4, j2, l5, j3⟩, ⟨a7, b8, b9, d9, e7, g0, e9, f0, g7, f2⟩, ⟨o4, h8⟩, ⟨w3, o1⟩, ⟨D1, D2⟩, ⟨u9, v2⟩, -⟩ hHR; obtain rfl : hb = [] := hHR; have g4 : vs 7 = .tuple #[.slice (sb a7) b8 b9, .int .i64 l4] := by refine Eq.trans o4 ?_; show vs 6 = _; rw [e7] <;> rfl
          have l7 : vs 8 = .slice (sb a7) b8 b9 := by refine Eq.trans w3 ?_; show (tupAt (vs 7) 0) = _; rw [g4] <;> rfl
          have v3 : vs 10 = .slice (sb a7) b8 b9 := by refine Eq.trans u9 ?_; show vs 8 = _; rw [l7] <;> rfl
          refine Z0f (D := [(164, vs 0), (165, vs 1), (166, vs 2), (167, vs 3), (168, vs 4), (169, vs 5), (170, vs 6), (163, vs 7), (171, vs 8), (172, vs 9), (26, vs 10)]) rfl ?_; refine Z11 (H := [(b0, .cells (arr (intC .i64) b6 e8).toArray 2 (0, 0)), (e0, .cells (arr (intC .i64) e1 h0).toArray 3 (0, 0)), (some b4, .cells #[.int .i64 (3 + (many0.tmod 10)), .int .i64 0, .int .i64 ((3 + (many0.tmod 10)) - 1), .slice (sb a5) d2 d4] 24 (0, 0)), (a5, .cells (arr Z5f a2 c3).toArray 35 (0, 0)), (b5, .cells (arr (intC .i64) a4 f8).toArray 2 (0, 0)), (a6, .cells (arr (intC .i64) a9 c8).toArray 2 (0, 0)), (e3, .cells (arr (intC .i64) (a4 ++ List.replicate ((3 + (many0.tmod 10)).toNat) 0) h1).toArray 2 (0, 0)), (a7, .cells (arr (intC .i64) f6 d9).toArray 2 (0, 0))]) (by show _ ++ (_ ++ (es 0 ++ (es 2 ++ (es 4 ++ (es 5 ++ (es 6 ++ (es 7 ++ (es 8 ++ (es 9 ++ (es 10 ++ ([]))))))))))) = _; rw [m2, m5, m3, m4, g0, h8, o1, D2, v2]; rfl) ?_; rw [k5, o0, k9, k6, k7, k8, e7, g4, l7, D1, v3]; clear v3 D1 l7 g4 e7 k8 k7 k6 k9 o0 k5 o4 w3 u9 m2 m6 m5 m1 m3 m4 g0 h8 o1 D2 v2; refine Z06 rfl rfl rfl rfl ?_; refine Z03 ?_; refine Z01 ?_; refine Z0l (Z00 (t := 3) rfl (Z00 (t := 10) rfl (Z00 (t := 19) rfl (Z00 (t := 23) rfl (Z00 (t := 26) rfl (Z00 (t := 27) rfl Z07)))))) ?_; refine Z0b ?_; obtain ⟨⟨p9, A5⟩, A6, H⟩ := Z0k H; refine Z04 (ll := [0, 1, 2, 3, 4, 5, 6, 7]) rfl ?_; refine Z1g rfl rfl rfl rfl Z4e mm2 rfl ?_; refine Z05 rfl rfl rfl rfl ?_; refine Z0o Z7g rfl rfl rfl rfl (fun wc hwc => Zag (n0 := (Net.mk (3 + (many0.tmod 10)) 0 ((3 + (many0.tmod 10)) - 1) a2)) (f1 := b6) wc (hwc.rs (f := Z5f) (s := 3) (xs := a2) (j := c3) (fun _ => rfl) mm3 h9 i4 i5) (hwc.rs (f := (intC .i64)) (s := 1) (xs := b6) (j := e8) (fun _ => rfl) mm0 g5 i7 i8) A6) ?_; rintro _ _ ⟨v4, A7, A8, A9, rfl, rfl, v5, v6, D3, v7⟩; refine Z05 rfl rfl rfl rfl ?_; refine TO.extract rfl rfl rfl rfl rfl ?_; refine TO.extract rfl rfl rfl rfl rfl ?_; refine Z06 rfl rfl rfl rfl ?_; refine Z06 rfl rfl rfl rfl ?_; refine Z03 ?_; refine Z01 ?_; refine Z0b ?_; refine Z04 (ll := [0, 1, 2, 3, 4, 5, 6, 7, 8, 9, 10, 11, 12, 13, 14, 15, 16, 17, 18, 19, 20, 21, 22, 23, 24, 25, 26, 27, 28, 29, 30, 31, 32]) rfl ?_; refine Z05 rfl rfl rfl rfl ?_; refine Z0r rfl rfl rfl rfl rfl rfl ?_; refine Z05 rfl rfl rfl rfl ?_; refine TO.join [3, 4, 5] [6, 7, 8, 9, 10, 11, 12, 13, 14, 15, 16, 17, 18, 19, 20, 21, 22, 23, 24, 25, 26, 27, 28, 29, 30, 31, 32] rfl 184 (fun v8 => Z1t d3 a9 b6 f6 p9 v8 = some r0) [(3, .int .u32 d3), (19, .slice (sb a6) d7 d8), (23, .slice (sb b0) h2 h3), (26, .slice (sb a7) b8 b9), (28, .slice (sb v4) A7 A8)] ?_ ?_
          ·
           rcases Z0h H with ⟨q0, H⟩ | ⟨q0, H⟩
           · refine Z0n (t := 181) (b' := true) rfl (decide_eq_true q0) ?_; refine Z05 rfl rfl rfl rfl ?_; refine Z0r rfl rfl rfl rfl rfl rfl ?_; refine Z14 rfl rfl rfl rfl rfl ?_; refine Z03 ?_; exact Zbb (b := (decide (A5 = 0))) H (Z00 rfl (Z00 rfl (Z00 rfl (Z00 rfl (Z00 rfl (Z00 rfl Z07))))))
           · refine Z0n (t := 181) (b' := false) rfl (decide_eq_false q0) ?_; refine Z0d rfl rfl rfl rfl ?_; refine Z0d rfl rfl rfl rfl ?_; refine Z1a rfl rfl rfl rfl rfl ?_; refine Z03 ?_; exact Zbb (b := false) H (Z00 rfl (Z00 rfl (Z00 rfl (Z00 rfl (Z00 rfl (Z00 rfl Z07))))))
          ·
           rintro v8 H; unfold Z1t at H; refine Z05 rfl rfl rfl rfl ?_; refine TO.join [7, 8, 9, 10] [11, 12, 13, 14, 15, 16, 17, 18, 19, 20, 21, 22, 23, 24, 25, 26, 27, 28, 29, 30, 31, 32] rfl 189 (fun v9 => Z1s d3 a9 b6 v9 = some r0) [(3, .int .u32 d3), (19, .slice (sb a6) d7 d8), (23, .slice (sb b0) h2 h3)] ?_ ?_
           ·
            rcases Z0h H with ⟨q1, H⟩ | ⟨q1, H⟩
            · obtain ⟨B0, B1, H⟩ := Z0k H; refine Z0n (t := 185) (b' := true) rfl q1 ?_; refine Z05 rfl rfl rfl rfl ?_; refine Z05 rfl rfl rfl rfl ?_; refine Z0o Z7f rfl rfl rfl rfl (fun wc hwc => Z4m (a0 := f6) (b1 := p9) wc (hwc.rs (f := (intC .i64)) (s := 1) (xs := f6) (j := d9) (fun _ => rfl) mm8 e9 f0 f2) (hwc.rs (f := (intC .i64)) (s := 1) (xs := p9) (j := A9) (fun _ => rfl) mm0 v5 v6 v7) B1) ?_; rintro _ _ ⟨rfl, rfl⟩; refine Z14 rfl rfl rfl rfl rfl ?_; refine Z03 ?_; exact Zbb (b := B0) H (Z00 rfl (Z00 rfl (Z00 rfl (Z00 rfl Z07))))
            · refine Z0n (t := 185) (b' := false) rfl (Bool.eq_false_iff.2 q1) ?_; refine Z0d rfl rfl rfl rfl ?_; refine Z0d rfl rfl rfl rfl ?_; refine Z0d rfl rfl rfl rfl ?_; refine Z1a rfl rfl rfl rfl rfl ?_; refine Z03 ?_; exact Zbb (b := false) H (Z00 rfl (Z00 rfl (Z00 rfl (Z00 rfl Z07))))
           ·
            rintro v9 H; unfold Z1s at H; refine Z05 rfl rfl rfl rfl ?_; refine TO.join [12, 13, 14, 15, 16, 17, 18, 19] [20, 21, 22, 23, 24, 25, 26, 27, 28, 29, 30, 31, 32] rfl 198 (fun q2 => Z1r d3 a9 b6 q2 = some r0) [(3, .int .u32 d3), (19, .slice (sb a6) d7 d8), (23, .slice (sb b0) h2 h3)] ?_ ?_
            ·
             rcases Z0h H with ⟨q3, H⟩ | ⟨q3, H⟩
             · obtain ⟨B2, H⟩ := Z0c H; obtain ⟨w0, H⟩ := Z0c H; refine Z0n (t := 190) (b' := true) rfl q3 ?_; refine Z05 rfl rfl rfl rfl ?_; refine Z05 rfl rfl rfl rfl ?_; refine Z22 (xs := b6) g5 rfl rfl rfl rfl rfl Z0x ?_; refine Za7 B2 rfl rfl rfl rfl rfl ?_; refine Z6p i8 i7 g5 w0 rfl rfl rfl rfl rfl Z0x Z2c ?_; refine Zb5 i8 i7 g5 w0 rfl rfl rfl rfl Z7s mm1 ?_; refine Z0r rfl rfl rfl rfl rfl rfl ?_; refine Z14 rfl rfl rfl rfl rfl ?_; refine Z03 ?_; exact Zbb (b := (decide ((b6.getD ((b6.length : Int) - 1).toNat 0) = 0))) H (Z00 rfl (Z00 rfl (Z00 rfl (Z00 rfl Z07))))
             · refine Z0n (t := 190) (b' := false) rfl (Bool.eq_false_iff.2 q3) ?_; refine Z0d rfl rfl rfl rfl ?_; refine Z0d rfl rfl rfl rfl ?_; refine Z0d rfl rfl rfl rfl ?_; refine Z0d rfl rfl rfl rfl ?_; refine Z0d rfl rfl rfl rfl ?_; refine Z0d rfl rfl rfl rfl ?_; refine Z0d rfl rfl rfl rfl ?_; refine Z1a rfl rfl rfl rfl rfl ?_; refine Z03 ?_; exact Zbb (b := false) H (Z00 rfl (Z00 rfl (Z00 rfl (Z00 rfl Z07))))
            ·
             rintro q2 H; unfold Z1r at H; refine Z05 rfl rfl rfl rfl ?_; refine TO.join [21, 22, 23, 24, 25, 26, 27, 28] [29, 30, 31, 32] rfl 207 (fun w1 => Z1q w1 = some r0) [] ?_ ?_
             ·
              rcases Z0h H with ⟨q4, H⟩ | ⟨q4, H⟩
              ·
               refine Z0n (t := 199) (b' := true) rfl q4 ?_; refine Z05 rfl rfl rfl rfl ?_; refine Z0r rfl rfl rfl rfl rfl rfl ?_; refine Z05 rfl rfl rfl rfl ?_; refine TO.join [24, 25, 26, 27] [28] rfl 206 (fun q5 => Z17 q5 = some r0) [(3, .int .u32 d3), (19, .slice (sb a6) d7 d8), (23, .slice (sb b0) h2 h3), (198, .bool q2), (199, .bool true), (200, .int .u32 d3), (201, .bool (decide (0 < d3)))] ?_ ?_
               ·
                rcases Z0h H with ⟨q6, H⟩ | ⟨q6, H⟩
                · refine Z0n (t := 202) (b' := true) rfl (decide_eq_true q6) ?_; refine Z0d rfl rfl rfl rfl ?_; refine Z0d rfl rfl rfl rfl ?_; refine Z0d rfl rfl rfl rfl ?_; refine Z14 rfl rfl rfl rfl rfl ?_; refine Z03 ?_; exact Zbb (b := true) H (Z00 rfl (Z00 rfl (Z00 rfl (Z00 rfl (Z00 rfl (Z00 rfl (Z00 rfl (Z00 rfl Z07))))))))
                · obtain ⟨B3, B4, H⟩ := Z0k H; refine Z0n (t := 202) (b' := false) rfl (decide_eq_false q6) ?_; refine Z05 rfl rfl rfl rfl ?_; refine Z05 rfl rfl rfl rfl ?_; refine Z0o Z7f rfl rfl rfl rfl (fun wc hwc => Z4m (a0 := b6) (b1 := a9) wc (hwc.rs (f := (intC .i64)) (s := 1) (xs := b6) (j := e8) (fun _ => rfl) mm1 g5 i7 i8) (hwc.rs (f := (intC .i64)) (s := 1) (xs := a9) (j := c8) (fun _ => rfl) mm6 i6 l0 l1) B4) ?_; rintro _ _ ⟨rfl, rfl⟩; refine Z1a rfl rfl rfl rfl rfl ?_; refine Z03 ?_; exact Zbb (b := B3) H (Z00 rfl (Z00 rfl (Z00 rfl (Z00 rfl (Z00 rfl (Z00 rfl (Z00 rfl (Z00 rfl Z07))))))))
               · rintro q5 H; unfold Z17 at H; refine Z14 rfl rfl rfl rfl rfl ?_; refine Z03 ?_; exact Zbb (b := q5) H (Z00 rfl Z07)
              · refine Z0n (t := 199) (b' := false) rfl (Bool.eq_false_iff.2 q4) ?_; refine Z0d rfl rfl rfl rfl ?_; refine Z0d rfl rfl rfl rfl ?_; refine Z0d rfl rfl rfl rfl ?_; refine Z4u rfl rfl rfl rfl ?_; refine Z4u rfl rfl rfl rfl ?_; refine Z4u rfl rfl rfl rfl ?_; refine Z0d rfl rfl rfl rfl ?_; refine Z1a rfl rfl rfl rfl rfl ?_; refine Z03 ?_; exact Zbb (b := false) H (Z00 rfl Z07)
             ·
              rintro w1 H; unfold Z1q at H; refine Z05 rfl rfl rfl rfl ?_; refine TO.join [30, 31] [32] rfl 210 (fun w2 => Z1p w2 = some r0) [] ?_ ?_
              ·
               rcases Z0h H with ⟨q7, H⟩ | ⟨q7, H⟩
               · obtain ⟨B5, B6, H⟩ := Z0k H; refine Z0n (t := 208) (b' := true) rfl q7 ?_; refine Z0o Za3 rfl rfl rfl rfl (fun wc hwc => Z9m  wc  B6) ?_; rintro _ _ ⟨rfl, rfl⟩; refine Z14 rfl rfl rfl rfl rfl ?_; refine Z03 ?_; exact Zbb (b := B5) H (Z00 rfl Z07)
               · refine Z0n (t := 208) (b' := false) rfl (Bool.eq_false_iff.2 q7) ?_; refine Z0d rfl rfl rfl rfl ?_; refine Z1a rfl rfl rfl rfl rfl ?_; refine Z03 ?_; exact Zbb (b := false) H (Z00 rfl Z07)
              · rintro w2 H; unfold Z1p at H; refine Z06 rfl rfl rfl rfl ?_; refine Z03 ?_; refine Z01 ?_; refine T.ret ?_; obtain rfl := ret1 H; exact Z10 rfl rfl rfl rfl (Res.tmp rfl) Z08 ⟨rfl, rfl⟩
end Go.Proofs.Ytfdhelnfgfaeaaa.Ax
namespace Go.Acq
open Go
def hit (a : Arc) (v : Nat) : Nat := if a.fr = a.to then 0 else if a.fr = v ∨ a.to = v then 1 else 0
def cnt (al : List Arc) (v : Nat) : Nat → Nat
  | 0 => 0
  | k + 1 => cnt al v k + hit (al.getD k default) v
def Z2d (al : List Arc) : Nat → Nat
  | 0 => 0
  | v + 1 => Z2d al v + cnt al v al.length
def vtx (a : Arc) (s : Bool) : Int := if s then a.to else a.fr
def pos (al : List Arc) (i : Nat) (s : Bool) : Nat := Z2d al (vtx (al.getD i default) s).toNat + cnt al (vtx (al.getD i default) s).toNat i
def Z85 (n : Nat) (al : List Arc) : Prop := ∀ i, i < al.length → ∀ s, 0 ≤ vtx (al.getD i default) s ∧ vtx (al.getD i default) s < n
theorem Zem {α : Type} (xs : List α) (i j : Nat) (v d : α) : (xs.set i v).getD j d = if i = j ∧ i < xs.length then v else xs.getD j d := by
 rw [List.getD_eq_getElem?_getD, List.getD_eq_getElem?_getD, List.getElem?_set]
 split
 ·
  rename_i h; subst h
  split
  · rename_i h2; simp [h2]
  · rename_i h2; simp [h2]
 · rename_i h; simp [h]
theorem Z3s {α : Type} {xs : List α} {i j : Nat} {v d : α} (h : i ≠ j) : (xs.set i v).getD j d = xs.getD j d := by
 rw [Zem, if_neg (fun e => h e.1)]
theorem Z6m {α : Type} {xs : List α} {i : Nat} {v d : α} (h : i < xs.length) : (xs.set i v).getD i d = v := by
 rw [Zem, if_pos ⟨rfl, h⟩]
theorem Z4j {α : Type} (n j : Nat) (v : α) : (List.replicate n v).getD j v = v := by
 rw [List.getD_eq_getElem?_getD, List.getElem?_replicate]; split <;> simp
theorem hit_le (a : Arc) (v : Nat) : hit a v ≤ 1 := by unfold hit; split; omega; split <;> omega
theorem cnt_mono {al : List Arc} {v i j : Nat} (h : i ≤ j) : cnt al v i ≤ cnt al v j := by
 induction h with
 | refl => exact Nat.le_refl _
 | step _ ih => exact Nat.le_trans ih (Nat.le_add_right _ _)
theorem Z9w {al : List Arc} {u v : Nat} (h : u ≤ v) : Z2d al u ≤ Z2d al v := by
 induction h with
 | refl => exact Nat.le_refl _
 | step _ ih => exact Nat.le_trans ih (Nat.le_add_right _ _)
theorem hit_vtx {a : Arc} {s : Bool} (h : a.fr ≠ a.to) (h0 : 0 ≤ vtx a s) : hit a (vtx a s).toNat = 1 := by
 unfold hit; rw [if_neg h, if_pos]
 cases s
 · left; simp only [vtx] at h0 ⊢; simp only [Bool.false_eq_true, if_false] at h0 ⊢; omega
 · right; simp only [vtx] at h0 ⊢; simp only [if_true] at h0 ⊢; omega
theorem Ze4 {al : List Arc} {i j : Nat} {s : Bool} (hij : i < j) (h : (al.getD i default).fr ≠ (al.getD i default).to) (h0 : 0 ≤ vtx (al.getD i default) s) :
    cnt al (vtx (al.getD i default) s).toNat i < cnt al (vtx (al.getD i default) s).toNat j := by
  have h1 := cnt_mono (al := al) (v := (vtx (al.getD i default) s).toNat) (i := i + 1) (j := j) hij
  have h2 := hit_vtx h h0
  simp only [cnt] at h1
  omega
theorem pos_lt {al : List Arc} {n i : Nat} {s : Bool} (hi : i < al.length) (h : (al.getD i default).fr ≠ (al.getD i default).to) (he : Z85 n al) : pos al i s < Z2d al n := by
 have h1 := Ze4 (s := s) hi h (he i hi s).1
 have h2 := Z9w (al := al) (u := (vtx (al.getD i default) s).toNat + 1) (v := n) (by have := he i hi s; omega)
 simp only [Z2d] at h2
 unfold pos; omega
theorem Zeq {al : List Arc} {n i j : Nat} {s t : Bool} (he : Z85 n al) (hi : i < al.length) (hj : j < al.length) (h : (al.getD i default).fr ≠ (al.getD i default).to) (g : (al.getD j default).fr ≠ (al.getD j default).to)
    (e : pos al i s = pos al j t) : i = j ∧ s = t := by
  have hi1 := Ze4 (s := s) hi h (he i hi s).1
  have hj1 := Ze4 (s := t) hj g (he j hj t).1
  have hv : (vtx (al.getD i default) s).toNat = (vtx (al.getD j default) t).toNat := by
    rcases Nat.lt_trichotomy (vtx (al.getD i default) s).toNat (vtx (al.getD j default) t).toNat with h1 | h1 | h1
    · have := Z9w (al := al) (u := (vtx (al.getD i default) s).toNat + 1) h1
      simp only [Z2d] at this
      unfold pos at e; omega
    · exact h1
    · have := Z9w (al := al) (u := (vtx (al.getD j default) t).toNat + 1) h1
      simp only [Z2d] at this
      unfold pos at e; omega
  have hij : i = j := by
    rcases Nat.lt_trichotomy i j with h1 | h1 | h1
    · have h2 := Ze4 (s := s) h1 h (he i hi s).1
      unfold pos at e; rw [hv] at e h2; omega
    · exact h1
    · have h2 := Ze4 (s := t) h1 g (he j hj t).1
      unfold pos at e; rw [hv] at e; omega
  refine ⟨hij, ?_⟩
  subst hij
  have h1 := (he i hi s).1
  have h2 := (he i hi t).1
  cases s <;> cases t <;> first | rfl | (simp only [vtx, Bool.false_eq_true, if_false, if_true] at hv h1 h2; omega)
theorem Zfa {al : List Arc} {v r : Nat} : ∀ {k : Nat}, r < cnt al v k → ∃ i, i < k ∧ cnt al v i = r ∧ hit (al.getD i default) v = 1
 | 0, h => by simp [cnt] at h
 | k + 1, h => by
  by_cases h1 : r < cnt al v k
  · obtain ⟨i, h2, h3⟩ := Zfa h1; exact ⟨i, by omega, h3⟩
  ·
   have := hit_le (al.getD k default) v
   simp only [cnt] at h
   exact ⟨k, by omega, by omega, by omega⟩
theorem Zbx {al : List Arc} {p : Nat} : ∀ {n : Nat}, p < Z2d al n → ∃ v, v < n ∧ Z2d al v ≤ p ∧ p < Z2d al (v + 1)
 | 0, h => by simp [Z2d] at h
 | n + 1, h => by
  by_cases h1 : p < Z2d al n
  · obtain ⟨v, h2, h3⟩ := Zbx h1; exact ⟨v, by omega, h3⟩
  · exact ⟨n, by omega, by omega, h⟩
theorem pos_surj {al : List Arc} {n p : Nat} (h : p < Z2d al n) : ∃ i s, i < al.length ∧ (al.getD i default).fr ≠ (al.getD i default).to ∧ pos al i s = p ∧ 0 ≤ vtx (al.getD i default) s ∧ vtx (al.getD i default) s < n ∧
    Z2d al (vtx (al.getD i default) s).toNat ≤ p ∧ p < Z2d al ((vtx (al.getD i default) s).toNat + 1) := by
  obtain ⟨v, hv, h1, h2⟩ := Zbx h
  simp only [Z2d] at h2
  obtain ⟨i, hi, h3, h4⟩ := Zfa (al := al) (v := v) (r := p - Z2d al v) (k := al.length) (by omega)
  unfold hit at h4
  split at h4
  · omega
  · rename_i hne
    split at h4
    · rename_i ho
      rcases ho with ho | ho
      · refine ⟨i, false, hi, hne, ?_, ?_, ?_, ?_, ?_⟩ <;> simp only [pos, vtx, Bool.false_eq_true, if_false, ho, Int.toNat_natCast, Z2d] <;> omega
      · refine ⟨i, true, hi, hne, ?_, ?_, ?_, ?_, ?_⟩ <;> simp only [pos, vtx, if_true, ho, Int.toNat_natCast, Z2d] <;> omega
    · omega
def CsrAt (al : List Arc) (hs rs cs aa : List Int) (bs : List Bool) (k : Nat) : Prop :=
  ∀ i, i < k → (al.getD i default).fr ≠ (al.getD i default).to → ∀ s,
    hs.getD (pos al i s) 0 = vtx (al.getD i default) (!s) ∧ rs.getD (pos al i s) 0 = pos al i (!s) ∧ cs.getD (pos al i s) 0 = (if s then 0 else (al.getD i default).cap) ∧
    aa.getD (pos al i s) 0 = i ∧ bs.getD (pos al i s) false = s
structure CsrOK (al : List Arc) (n : Nat) (fs hs rs cs aa : List Int) (bs : List Bool) : Prop where
  lf : fs.length = n + 1
  lh : hs.length = Z2d al n
  lr : rs.length = Z2d al n
  lc : cs.length = Z2d al n
  la : aa.length = Z2d al n
  lb : bs.length = Z2d al n
  hf : ∀ v, v ≤ n → fs.getD v 0 = Z2d al v
  hat : CsrAt al hs rs cs aa bs al.length
theorem CsrAt.skip {al : List Arc} {hs rs cs aa : List Int} {bs : List Bool} {k : Nat} (h : CsrAt al hs rs cs aa bs k) (e : (al.getD k default).fr = (al.getD k default).to) : CsrAt al hs rs cs aa bs (k + 1) := by
 intro i hi hne s
 rcases Nat.lt_succ_iff_lt_or_eq.1 hi with h1 | h1
 · exact h i h1 hne s
 · subst h1; exact absurd e hne
theorem set2 {α : Type} {xs : List α} {p q j : Nat} {u v d : α} (hp : p < xs.length) (hq : q < xs.length) (hpq : p ≠ q) :
    ((xs.set p u).set q v).getD j d = if j = p then u else if j = q then v else xs.getD j d := by
  rw [Zem, Zem]
  by_cases h1 : j = p
  · subst h1; rw [if_pos rfl, if_neg (fun e => hpq e.1.symm), if_pos ⟨rfl, hp⟩]
  · rw [if_neg h1]
    by_cases h2 : j = q
    · subst h2; rw [if_pos rfl, if_pos ⟨rfl, by simpa using hq⟩]
    · rw [if_neg h2, if_neg (fun e => h2 e.1.symm), if_neg (fun e => h1 e.1.symm)]
theorem CsrAt.put {al : List Arc} {n : Nat} {hs rs cs aa : List Int} {bs : List Bool} {k : Nat} (h : CsrAt al hs rs cs aa bs k) (he : Z85 n al) (hk : k < al.length) (hne : (al.getD k default).fr ≠ (al.getD k default).to)
    (lh : hs.length = Z2d al n) (lr : rs.length = Z2d al n) (lc : cs.length = Z2d al n) (la : aa.length = Z2d al n) (lb : bs.length = Z2d al n) :
    CsrAt al ((hs.set (pos al k false) (al.getD k default).to).set (pos al k true) (al.getD k default).fr) ((rs.set (pos al k false) (pos al k true)).set (pos al k true) (pos al k false))
      ((cs.set (pos al k false) (al.getD k default).cap).set (pos al k true) 0) ((aa.set (pos al k false) k).set (pos al k true) k) ((bs.set (pos al k false) false).set (pos al k true) true) (k + 1) := by
  have hp : pos al k false < Z2d al n := pos_lt hk hne he
  have hq : pos al k true < Z2d al n := pos_lt hk hne he
  have hpq : pos al k false ≠ pos al k true := fun e => by have := (Zeq he hk hk hne hne e).2; cases this
  intro i hi hni s
  have hil : i < al.length := by omega
  rw [set2 (by omega) (by omega) hpq, set2 (by omega) (by omega) hpq, set2 (by omega) (by omega) hpq, set2 (by omega) (by omega) hpq, set2 (by omega) (by omega) hpq]
  by_cases hik : i = k
  · subst hik
    cases s
    · simp [vtx]
    · simp [vtx, hpq.symm]
  · have h1 : pos al i s ≠ pos al k false := fun e => hik (Zeq he hil hk hni hne e).1
    have h2 : pos al i s ≠ pos al k true := fun e => hik (Zeq he hil hk hni hne e).1
    simp only [if_neg h1, if_neg h2]
    exact h i (by omega) hni s
def Counted (al : List Arc) (m k : Nat) (fs : List Int) : Prop := fs.length = m + 1 ∧ fs.getD 0 0 = 0 ∧ ∀ v : Int, 0 ≤ v → v < m → fs.getD (v + 1).toNat 0 = cnt al v.toNat k
def Summed (al : List Arc) (m k : Nat) (fs : List Int) : Prop := fs.length = m + 1 ∧ (∀ u, u ≤ k → fs.getD u 0 = Z2d al u) ∧ ∀ u, k ≤ u → u < m → fs.getD (u + 1) 0 = cnt al u al.length
theorem Counted.skip {al : List Arc} {m k : Nat} {fs : List Int} (h : Counted al m k fs) (e : (al.getD k default).fr = (al.getD k default).to) : Counted al m (k + 1) fs :=
 ⟨h.1, h.2.1, fun v h0 h1 => by rw [h.2.2 v h0 h1]; simp only [cnt, hit, if_pos e, Nat.add_zero]⟩
theorem Counted.put {al : List Arc} {m k : Nat} {fs : List Int} (h : Counted al m k fs) (he : Z85 m al) (hk : k < al.length) (hne : (al.getD k default).fr ≠ (al.getD k default).to) :
    Counted al m (k + 1) ((fs.set ((al.getD k default).fr + 1).toNat (fs.getD ((al.getD k default).fr + 1).toNat 0 + 1)).set ((al.getD k default).to + 1).toNat
      ((fs.set ((al.getD k default).fr + 1).toNat (fs.getD ((al.getD k default).fr + 1).toNat 0 + 1)).getD ((al.getD k default).to + 1).toNat 0 + 1)) := by
  have e0 := he k hk false
  have e1 := he k hk true
  simp only [vtx, Bool.false_eq_true, if_false, if_true] at e0 e1
  obtain ⟨hl, hz, hv⟩ := h
  refine ⟨by simpa using hl, ?_, ?_⟩
  · rw [Z3s (by omega), Z3s (by omega)]; exact hz
  · intro v h0 h1
    have hvv := hv v h0 h1
    rw [Z3s (i := ((al.getD k default).fr + 1).toNat) (j := ((al.getD k default).to + 1).toNat) (by omega), set2 (by omega) (by omega) (by omega)]
    simp only [cnt, hit, if_neg hne]
    by_cases a1 : v = (al.getD k default).fr
    · rw [if_pos (by omega), if_pos (by omega), ← a1, hvv]; omega
    · rw [if_neg (by omega)]
      by_cases a2 : v = (al.getD k default).to
      · rw [if_pos (by omega), if_pos (by omega), ← a2, hvv]; omega
      · rw [if_neg (by omega), if_neg (by omega), hvv]; omega
theorem Summed.put {al : List Arc} {m k : Nat} {fs : List Int} (h : Summed al m k fs) (hk : k < m) {i : Nat} (hi : i = k + 1) : Summed al m (k + 1) (fs.set i (fs.getD i 0 + fs.getD k 0)) := by
 subst hi
 obtain ⟨hl, h1, h2⟩ := h
 refine ⟨by simpa using hl, fun u hu => ?_, fun u h3 h4 => ?_⟩
 ·
  by_cases e : u = k + 1
  · subst e; rw [Z6m (by omega), h1 k (Nat.le_refl _), h2 k (Nat.le_refl _) hk]; simp [Z2d]; omega
  · rw [Z3s (by omega)]; exact h1 u (by omega)
 · rw [Z3s (by omega)]; exact h2 u (by omega) h4
theorem Z8i {N S T : Int} {al : List Arc} (h : Zba N S T al = 0) : (2 ≤ N ∧ N ≤ 4096) ∧ (al.length : Int) ≤ 16384 ∧ (Z4l N S = true ∧ Z4l N T = true ∧ S ≠ T) ∧ al.all (Z9v N) = true ∧ al.all capB = true ∧ (Zds 4611686018427387904 al).isSome = true := by
 unfold Zba at h
 split at h
 · omega
 ·
  rename_i h1
  split at h
  · omega
  ·
   rename_i h2
   split at h
   · omega
   ·
    rename_i h3
    split at h
    · omega
    ·
     rename_i h4
     split at h
     · omega
     ·
      rename_i h5
      split at h
      · omega
      ·
       rename_i h6
       refine ⟨Classical.not_not.1 h1, Classical.not_not.1 h2, Classical.not_not.1 h3, by simpa using h4, by simpa using h5, ?_⟩
       cases e : Zds 4611686018427387904 al <;> simp_all
theorem Ze3 {m : Nat} {al : List Arc} (h : al.all (Z9v (m : Int)) = true) : Z85 m al := by
 intro i hi s
 have h1 := List.all_eq_true.1 h _ (Zbh hi default)
 simp only [Z9v, Z4l, Bool.and_eq_true, decide_eq_true_eq] at h1
 cases s
 · simp only [vtx, Bool.false_eq_true, if_false]; exact h1.1
 · simp only [vtx, if_true]; exact h1.2
def MakeAt (al : List Arc) (m k : Nat) (nx hs rs cs aa : List Int) (bs : List Bool) : Prop :=
  (nx.length = m + 1 ∧ hs.length = Z2d al m ∧ rs.length = Z2d al m ∧ cs.length = Z2d al m ∧ aa.length = Z2d al m ∧ bs.length = Z2d al m) ∧
  CsrAt al hs rs cs aa bs k ∧ ∀ v : Int, 0 ≤ v → v < m → nx.getD v.toNat 0 = Z2d al v.toNat + cnt al v.toNat k
theorem MakeAt.skip {al : List Arc} {m k : Nat} {nx hs rs cs aa : List Int} {bs : List Bool} (h : MakeAt al m k nx hs rs cs aa bs) (e : (al.getD k default).fr = (al.getD k default).to) : MakeAt al m (k + 1) nx hs rs cs aa bs :=
 ⟨h.1, h.2.1.skip e, fun v h0 h1 => by rw [h.2.2 v h0 h1]; simp only [cnt, hit, if_pos e, Nat.add_zero]⟩
theorem MakeAt.at {al : List Arc} {m k : Nat} {nx hs rs cs aa : List Int} {bs : List Bool} (h : MakeAt al m k nx hs rs cs aa bs) (he : Z85 m al) (hk : k < al.length) (s : Bool) : nx.getD (vtx (al.getD k default) s).toNat 0 = (pos al k s : Nat) := by
 rw [h.2.2 _ (he k hk s).1 (he k hk s).2]; simp only [pos]; omega
theorem MakeAt.put {al : List Arc} {m k : Nat} {nx hs rs cs aa : List Int} {bs : List Bool} (h : MakeAt al m k nx hs rs cs aa bs) (he : Z85 m al) (hk : k < al.length) (hne : (al.getD k default).fr ≠ (al.getD k default).to) :
    MakeAt al m (k + 1) ((nx.set (al.getD k default).fr.toNat ((pos al k false : Nat) + 1)).set (al.getD k default).to.toNat ((pos al k true : Nat) + 1))
      ((hs.set (pos al k false) (al.getD k default).to).set (pos al k true) (al.getD k default).fr) ((rs.set (pos al k false) (pos al k true)).set (pos al k true) (pos al k false))
      ((cs.set (pos al k false) (al.getD k default).cap).set (pos al k true) 0) ((aa.set (pos al k false) k).set (pos al k true) k) ((bs.set (pos al k false) false).set (pos al k true) true) := by
  have g0 := h.at he hk false
  have g1 := h.at he hk true
  obtain ⟨⟨l0, l1, l2, l3, l4, l5⟩, hA, hv⟩ := h
  have e0 := he k hk false
  have e1 := he k hk true
  simp only [vtx, Bool.false_eq_true, if_false, if_true] at e0 e1 g0 g1
  refine ⟨⟨by simpa using l0, by simpa using l1, by simpa using l2, by simpa using l3, by simpa using l4, by simpa using l5⟩, hA.put he hk hne l1 l2 l3 l4 l5, fun v h0 h1 => ?_⟩
  have hvv := hv v h0 h1
  rw [set2 (by omega) (by omega) (by omega)]
  simp only [cnt, hit, if_neg hne]
  by_cases a1 : v = (al.getD k default).fr
  · rw [if_pos (by omega), if_pos (by omega), ← g0, ← a1, hvv]; omega
  · rw [if_neg (by omega)]
    by_cases a2 : v = (al.getD k default).to
    · rw [if_pos (by omega), if_pos (by omega), ← g1, ← a2, hvv]; omega
    · rw [if_neg (by omega), if_neg (by omega), hvv]; omega
theorem MakeAt.done {al : List Arc} {m : Nat} {fs nx hs rs cs aa : List Int} {bs : List Bool} (h : MakeAt al m al.length nx hs rs cs aa bs) (hl : fs.length = m + 1) (hf : ∀ u, u ≤ m → fs.getD u 0 = Z2d al u) : CsrOK al m fs hs rs cs aa bs :=
 ⟨hl, h.1.2.1, h.1.2.2.1, h.1.2.2.2.1, h.1.2.2.2.2.1, h.1.2.2.2.2.2, hf, h.2.1⟩
end Go.Acq
namespace Go.Acq
open Go
def SomeAt (m : Nat) (ol : List Arc) : Prop := ∀ a, a ∈ ol → Z9v m a = true ∧ 0 ≤ a.cap ∧ a.cap < 1125899906842624
theorem SomeAt.put {m : Nat} {ol : List Arc} {a : Arc} (h : SomeAt m ol) (h1 : 0 ≤ a.fr ∧ a.fr < m) (h2 : 0 ≤ a.to ∧ a.to < m) (h3 : 0 ≤ a.cap ∧ a.cap < 1125899906842624) : SomeAt m (ol ++ [a]) := by
 intro b hb
 rcases List.mem_append.1 hb with hb | hb
 · exact h b hb
 ·
  simp only [List.mem_singleton] at hb
  subst hb
  exact ⟨by simp [Z9v, Z4l, h1, h2], h3⟩
def WithinAt (al : List Arc) (n k : Nat) (fl : List Int) : Prop := fl.length = n ∧
  (∀ i, i < k → 0 ≤ fl.getD i 0 ∧ fl.getD i 0 ≤ (al.getD i default).cap ∧ ((al.getD i default).fr = (al.getD i default).to → fl.getD i 0 = 0)) ∧ ∀ i, k ≤ i → fl.getD i 0 = 0
theorem WithinAt.skip {al : List Arc} {n k : Nat} {fl : List Int} (h : WithinAt al n k fl) (hc : 0 ≤ (al.getD k default).cap) : WithinAt al n (k + 1) fl := by
 refine ⟨h.1, fun i hi => ?_, fun i hi => h.2.2 i (by omega)⟩
 rcases Nat.lt_succ_iff_lt_or_eq.1 hi with h1 | h1
 · exact h.2.1 i h1
 · subst h1; have := h.2.2 i (Nat.le_refl _); rw [this]; exact ⟨Int.le_refl _, hc, fun _ => rfl⟩
theorem WithinAt.put {al : List Arc} {n k : Nat} {fl : List Int} {v : Int} (h : WithinAt al n k fl) (hk : k < n) (h0 : 0 ≤ v) (h1 : v ≤ (al.getD k default).cap) (hne : (al.getD k default).fr ≠ (al.getD k default).to) : WithinAt al n (k + 1) (fl.set k v) := by
 refine ⟨by simpa using h.1, fun i hi => ?_, fun i hi => by rw [Z3s (by omega)]; exact h.2.2 i (by omega)⟩
 by_cases e : i = k
 · subst e; rw [Z6m (by rw [h.1]; exact hk)]; exact ⟨h0, h1, fun e => absurd e hne⟩
 · rw [Z3s (by omega)]; exact h.2.1 i (by omega)
def resOK (aa cs : List Int) (bs : List Bool) (fl : List Int) (j : Nat) : Prop := aa.getD j 0 < fl.length ∧ (bs.getD j false = true ∨ (0 ≤ fl.getD (aa.getD j 0).toNat 0 ∧ fl.getD (aa.getD j 0).toNat 0 ≤ cs.getD j 0))
def resV (aa cs : List Int) (bs : List Bool) (fl : List Int) (j : Nat) : Int := if bs.getD j false = true then fl.getD (aa.getD j 0).toNat 0 else cs.getD j 0 - fl.getD (aa.getD j 0).toNat 0
def ResAt (aa cs : List Int) (bs : List Bool) (fl : List Int) (L k : Nat) (rl : List Int) : Prop := rl.length = L ∧ ∀ j, j < k → resOK aa cs bs fl j ∧ rl.getD j 0 = resV aa cs bs fl j
theorem ResAt.put {aa cs : List Int} {bs : List Bool} {fl : List Int} {L k : Nat} {rl : List Int} {v : Int} (h : ResAt aa cs bs fl L k rl) (hk : k < L) (h1 : resOK aa cs bs fl k) (h2 : v = resV aa cs bs fl k) : ResAt aa cs bs fl L (k + 1) (rl.set k v) := by
 refine ⟨by simpa using h.1, fun j hj => ?_⟩
 by_cases e : j = k
 · subst e; rw [Z6m (by rw [h.1]; exact hk)]; exact ⟨h1, h2⟩
 · rw [Z3s (by omega)]; exact h.2 j (by omega)
end Go.Acq
namespace Go.Acq
open Go
theorem CsrOK.place {al : List Arc} {m : Nat} {fs hs rs cs aa : List Int} {bs : List Bool} (h : CsrOK al m fs hs rs cs aa bs) {j : Nat} (hj : j < Z2d al m) :
    ∃ i s, i < al.length ∧ (al.getD i default).fr ≠ (al.getD i default).to ∧ pos al i s = j ∧ hs.getD j 0 = vtx (al.getD i default) (!s) ∧ rs.getD j 0 = pos al i (!s) ∧ cs.getD j 0 = (if s then 0 else (al.getD i default).cap) ∧ aa.getD j 0 = i ∧ bs.getD j false = s := by
  obtain ⟨i, s, hi, hne, hp, _⟩ := pos_surj hj
  have := h.hat i hi hne s
  rw [hp] at this
  exact ⟨i, s, hi, hne, hp, this⟩
end Go.Acq
namespace Go.Acq
open Go
theorem Zer {α : Type} {m : Option α} {v : α} (h : Ok m (fun a => a = v)) : m = some v := by obtain ⟨a, h1, h2⟩ := h; rw [h1, h2]
theorem Zbs {α : Type} {m : Option α} {v : α} {Q : α → Prop} (h : m = some v) (q : Q v) : Ok m Q := ⟨v, h, q⟩
abbrev lenok (n : Nat) : Prop := n ≤ 9223372036854775807
theorem Zgt {x n : Int} (h1 : n ≤ 4611686018427387904) : Z36 x n = some (Zh5 x n) := by
 unfold Z36 Zh5
 by_cases h : n < 1
 · rw [if_pos h, if_pos h]
 ·
  have a1 := Int.tmod_lt_of_pos x (show 0 < n by omega)
  have a2 := Zbt x (show 0 < n by omega)
  rw [if_neg h, if_neg h, Zf5 (by omega), Zf5 (by constructor <;> omega), Zf5 (by omega)]
theorem Zgs {a b : List Int} (h : lenok a.length) : Z2p a b = some (decide (a = b)) := by
 refine Zer ?_
 unfold Z2p
 refine Ok.ite.2 ⟨fun hl => Ok.some.2 (decide_eq_false ?_).symm, fun hl => ?_⟩
 · rintro rfl; exact hl rfl
 ·
  refine Ok.bind.2 (Zca (fun x => 0 ≤ x ∧ x ≤ a.length ∧ ∀ i, i < x.toNat → a.getD i 0 = b.getD i 0) (fun x => (a.length - x).toNat) ⟨by omega, by omega, fun i hi => by omega⟩ (by unfold Z51; omega) ?_)
  rintro x ⟨h0, h1, h2⟩
  unfold Z30
  refine Ok.ite.2 ⟨fun hx => ?_, fun hx => ?_⟩
  ·
   refine Ok.gd.2 ⟨(by omega), Ok.gd.2 ⟨(by omega), Ok.ite.2 ⟨fun hne => ?_, fun hne => ?_⟩⟩⟩
   ·
    refine Ok.some.2 (Ok.some.2 (decide_eq_false ?_).symm)
    rintro rfl; exact hne rfl
   ·
    refine Ok.gd.2 ⟨(by omega), Ok.some.2 ⟨⟨by omega, by omega, fun i hi => ?_⟩, by omega⟩⟩
    rcases Nat.lt_or_ge i x.toNat with h3 | h3
    · exact h2 i h3
    · rw [show i = x.toNat by omega]; exact Classical.not_not.1 hne
  ·
   refine Ok.some.2 (Ok.some.2 (decide_eq_true ?_).symm)
   exact Zcn 0 (by omega) (fun i hi => h2 i (by omega))
theorem Zbg (n : Net) (v : Int) : Z4d n v = some (Z4l n.N v) := by
 unfold Z4d Z4l
 by_cases h : 0 ≤ v <;> simp [h]
theorem s_rules4 (n : Net) (a : Arc) : Z64 n a = some (Z9v n.N a) := by
 unfold Z64 Z9v
 rw [Zbg, Zbg]
 simp only [Option.bind_some]
 cases Z4l n.N a.fr <;> simp
theorem s_of4 (n : Net) (h : lenok n.Arcs.length) : Z3v n = some (n.Arcs.all (Z9v n.N)) := by
 refine Zer ?_
 unfold Z3v Z19 Z1l
 refine Ok.bind.2 (Ok.bind.2 (Ok.bind.2 (Zca (fun x => 0 ≤ x ∧ x ≤ n.Arcs.length ∧ ∀ i, i < x.toNat → Z9v n.N (n.Arcs.getD i default) = true) (fun x => (n.Arcs.length - x).toNat) ⟨by omega, by omega, fun i hi => by omega⟩ (by unfold Z51; omega) ?_)))
 rintro x ⟨h0, h1, h2⟩
 unfold Z0z Z43
 refine Ok.ite.2 ⟨fun hx => ?_, fun hx => ?_⟩
 ·
  refine Ok.gd.2 ⟨(by omega), Ok.bind.2 (Ok.bind.2 (Zbs (s_rules4 _ _) (Ok.some.2 (Ok.ite.2 ⟨fun hb => ?_, fun hb => ?_⟩))))⟩
  ·
   refine Ok.some.2 (Ok.some.2 (Ok.some.2 (Ok.some.2 ?_)))
   simp only [h0, decide_true, Bool.not_true]
   refine Eq.symm (Bool.eq_false_iff.2 fun hall => ?_)
   have := List.all_eq_true.1 hall _ (Zbh (show x.toNat < n.Arcs.length by omega) default)
   rw [this] at hb; cases hb
  ·
   refine Ok.gd.2 ⟨(by omega), Ok.some.2 ⟨⟨by omega, by omega, fun i hi => ?_⟩, by omega⟩⟩
   rcases Nat.lt_or_ge i x.toNat with h3 | h3
   · exact h2 i h3
   · rw [show i = x.toNat by omega]; simpa using hb
 ·
  refine Ok.some.2 (Ok.some.2 (Ok.some.2 (Ok.some.2 ?_)))
  refine Eq.symm (List.all_eq_true.2 fun a ha => ?_)
  obtain ⟨i, hi, rfl⟩ := List.getElem_of_mem ha
  have := h2 i (by omega)
  rwa [List.getD_eq_getElem?_getD, List.getElem?_eq_getElem hi] at this
theorem s_of5 (n : Net) (h : lenok n.Arcs.length) : Z3u n = some (n.Arcs.all capB) := by
 refine Zer ?_
 unfold Z3u Z18 Z1k
 refine Ok.bind.2 (Ok.bind.2 (Ok.bind.2 (Zca (fun x => 0 ≤ x ∧ x ≤ n.Arcs.length ∧ ∀ i, i < x.toNat → capB (n.Arcs.getD i default) = true) (fun x => (n.Arcs.length - x).toNat) ⟨by omega, by omega, fun i hi => by omega⟩ (by unfold Z51; omega) ?_)))
 rintro x ⟨h0, h1, h2⟩
 unfold Z0y Z42 Z6s
 refine Ok.ite.2 ⟨fun hx => ?_, fun hx => ?_⟩
 ·
  refine Ok.gd.2 ⟨(by omega), Ok.bind.2 (Ok.bind.2 (Ok.some.2 (Ok.some.2 (Ok.ite.2 ⟨fun hb => ?_, fun hb => ?_⟩))))⟩
  ·
   refine Ok.some.2 (Ok.some.2 (Ok.some.2 (Ok.some.2 ?_)))
   simp only [h0, decide_true, Bool.not_true]
   refine Eq.symm (Bool.eq_false_iff.2 fun hall => ?_)
   have := List.all_eq_true.1 hall _ (Zbh (show x.toNat < n.Arcs.length by omega) default)
   simp only [capB] at this
   rw [this] at hb; cases hb
  ·
   refine Ok.gd.2 ⟨(by omega), Ok.some.2 ⟨⟨by omega, by omega, fun i hi => ?_⟩, by omega⟩⟩
   rcases Nat.lt_or_ge i x.toNat with h3 | h3
   · exact h2 i h3
   · rw [show i = x.toNat by omega]; simpa [capB] using hb
 ·
  refine Ok.some.2 (Ok.some.2 (Ok.some.2 (Ok.some.2 ?_)))
  refine Eq.symm (List.all_eq_true.2 fun a ha => ?_)
  obtain ⟨i, hi, rfl⟩ := List.getElem_of_mem ha
  have := h2 i (by omega)
  rwa [List.getD_eq_getElem?_getD, List.getElem?_eq_getElem hi] at this
theorem s_Sum (n : Net) (h : lenok n.Arcs.length) : Z8y n = some (match Zds 4611686018427387904 n.Arcs with | some l => (4611686018427387904 - l, true) | none => (0, false)) := by
 refine Zer ?_
 unfold Z8y
 refine Ok.bind.2 (Zca (fun s => 0 ≤ s.2 ∧ s.2 ≤ n.Arcs.length ∧ 0 ≤ s.1 ∧ s.1 ≤ 4611686018427387904 ∧ Zds 4611686018427387904 n.Arcs = Zds s.1 (n.Arcs.drop s.2.toNat)) (fun s => (n.Arcs.length - s.2).toNat) ⟨by simp, by simp, by simp, by simp, by simp⟩ (by unfold Z51; simp; omega) ?_)
 rintro ⟨left, x⟩ ⟨h0, h1, h2, h3, h4⟩
 simp only at h0 h1 h2 h3 h4 ⊢
 unfold Z6i Z6j
 refine Ok.ite.2 ⟨fun hx => ?_, fun hx => ?_⟩
 ·
  rw [Zdr (by omega)] at h4
  refine Ok.gd.2 ⟨(by omega), Ok.ite.2 ⟨fun hb => ?_, fun hb => ?_⟩⟩
  ·
   rw [if_pos rfl]
   refine Ok.some.2 (Ok.some.2 ?_)
   rw [h4, if_pos (.inl hb)]
  ·
   by_cases hc : left < (n.Arcs.getD x.toNat default).cap
   ·
    rw [if_pos (decide_eq_true hc)]
    refine Ok.some.2 (Ok.some.2 ?_)
    rw [h4, if_pos (.inr hc)]
   ·
    rw [if_neg (by simpa using hc)]
    refine Ok.gd.2 ⟨(by omega), Ok.gd.2 ⟨(by omega), Ok.some.2 ⟨⟨by simp only; omega, by simp only; omega, by simp only; omega, by simp only; omega, ?_⟩, by simp only; omega⟩⟩⟩
    rw [h4, if_neg (by omega)]
    simp only
    rw [show (x + 1).toNat = x.toNat + 1 by omega]
 ·
  unfold Z7p
  refine Ok.some.2 (Ok.gd.2 ⟨(by omega), Ok.some.2 ?_⟩)
  rw [h4, List.drop_eq_nil_of_le (by omega)]
  rfl
theorem s_Check (n : Net) (h : lenok n.Arcs.length) : Z78 n = some (Zba n.N n.S n.T n.Arcs) := by
 unfold Z78 Z8h Z5m Z5l Z6v Z6u Z6t Z6r Z6f
 rw [Zbg, Zbg, s_of4 n h, s_of5 n h, s_Sum n h]
 unfold Zba
 simp only [Option.bind_some]
 by_cases h1 : 2 ≤ n.N ∧ n.N ≤ 4096
 ·
  rw [if_pos h1.1, if_neg (not_not_intro h1)]
  simp only [Option.bind_some, decide_eq_true h1.2, Bool.not_true, Bool.false_eq_true, if_false]
  by_cases h2 : (n.Arcs.length : Int) ≤ 16384
  ·
   rw [if_neg (by simp [h2]), if_neg (not_not_intro h2)]
   by_cases h3 : Z4l n.N n.S = true ∧ Z4l n.N n.T = true ∧ n.S ≠ n.T
   ·
    rw [if_pos h3.1, if_pos h3.2.1, if_neg (not_not_intro h3)]
    simp only [Option.bind_some, decide_eq_true h3.2.2, Bool.not_true, Bool.false_eq_true, if_false]
    cases h4 : n.Arcs.all (Z9v n.N)
    · simp
    ·
     cases h5 : n.Arcs.all capB
     · simp
     · cases h6 : Zds 4611686018427387904 n.Arcs <;> simp
   ·
    rw [if_pos h3]
    by_cases a1 : Z4l n.N n.S = true
    ·
     by_cases a2 : Z4l n.N n.T = true
     ·
      have a3 : ¬ n.S ≠ n.T := fun e => h3 ⟨a1, a2, e⟩
      simp [a1, a2, a3]
     · simp [a1, a2]
    · simp [a1]
  · rw [if_pos (by simp [h2]), if_pos h2]
 ·
  rw [if_pos h1]
  by_cases a1 : 2 ≤ n.N
  ·
   have a2 : ¬ n.N ≤ 4096 := fun e => h1 ⟨a1, e⟩
   simp [a1, a2]
  · simp [a1]
end Go.Acq
namespace Go.Acq
open Go
set_option linter.unusedSimpArgs false
structure RowIn (l : List Int) : Prop where
  row : ∀ x, x ∈ l → i64ok x
  len : l.length ≤ 9223372036854775807
end Go.Acq
namespace Go.Acq
open Go
set_option linter.unusedSimpArgs false
def ex (al : List Arc) (f : List Int) (v : Int) : Nat → Int
  | 0 => 0
  | k + 1 => ex al f v k - (if (al.getD k default).fr = v then f.getD k 0 else 0) + (if (al.getD k default).to = v then f.getD k 0 else 0)
def tot (f : List Int) : Nat → Int
  | 0 => 0
  | k + 1 => tot f k + f.getD k 0
def part (al : List Arc) (f : List Int) (j : Int) : Nat → Int
  | 0 => 0
  | k + 1 => part al f j k - (if (al.getD k default).fr < j then f.getD k 0 else 0) + (if (al.getD k default).to < j then f.getD k 0 else 0)
theorem ex_le {al : List Arc} {f : List Int} (v : Int) {n : Nat} (h : ∀ i, i < n → 0 ≤ f.getD i 0) : ∀ k, k ≤ n → -tot f k ≤ ex al f v k ∧ ex al f v k ≤ tot f k
 | 0, _ => by simp [ex, tot]
 | k + 1, hk => by
  have ih := ex_le (al := al) v h k (by omega)
  have := h k hk
  simp only [ex, tot]
  split <;> split <;> omega
theorem Zd6 {f : List Int} {n : Nat} (h : ∀ i, i < n → 0 ≤ f.getD i 0) : ∀ j k, j ≤ k → k ≤ n → tot f j ≤ tot f k
  | j, 0, hj, _ => by have : j = 0 := by omega
                      subst this; exact Int.le_refl _
  | j, k + 1, hj, hk => by
    rcases Nat.lt_or_ge j (k + 1) with h1 | h1
    · have := Zd6 h j k (by omega) (by omega)
      have := h k hk
      simp only [tot]; omega
    · rw [show j = k + 1 by omega]; exact Int.le_refl _
theorem sumL_tot {f : List Int} : ∀ (al : List Arc) (left : Int) (k : Nat), (Zds left (al.drop k)).isSome = true → 0 ≤ left → k ≤ al.length → (∀ i, i < al.length → 0 ≤ f.getD i 0 ∧ f.getD i 0 ≤ (al.getD i default).cap) → tot f al.length - tot f k ≤ left := by
 intro al left k
 induction hn : al.length - k generalizing left k with
 | zero =>
  intro _ h0 hk _
  rw [show k = al.length by omega]; omega
 | succ n ih =>
  intro hs h0 hk hf
  have hkl : k < al.length := by omega
  rw [Zdr hkl] at hs
  by_cases hc : (al.getD k default).cap < 0 ∨ left < (al.getD k default).cap
  · rw [if_pos hc] at hs; cases hs
  ·
   rw [if_neg hc] at hs
   have := ih (left - (al.getD k default).cap) (k + 1) (by omega) hs (by omega) (by omega) hf
   have hfk := hf k hkl
   simp only [tot] at this
   omega
def FwithinP (n : Net) (f : List Int) : Prop := Zba n.N n.S n.T n.Arcs = 0 ∧ f.length = n.Arcs.length ∧ ∀ i, i < n.Arcs.length → 0 ≤ f.getD i 0 ∧ f.getD i 0 ≤ (n.Arcs.getD i default).cap
theorem FwithinP.tot {n : Net} {f : List Int} (h : FwithinP n f) : ∀ k, k ≤ n.Arcs.length → 0 ≤ tot f k ∧ tot f k ≤ 4611686018427387904 := by
 intro k hk
 have hz := Z8i h.1
 have h1 := sumL_tot (f := f) n.Arcs 4611686018427387904 0 (by simpa using hz.2.2.2.2.2) (by omega) (by omega) h.2.2
 have h2 := Zd6 (fun i hi => (h.2.2 i hi).1) k n.Arcs.length hk (Nat.le_refl _)
 have h3 := Zd6 (fun i hi => (h.2.2 i hi).1) 0 k (by omega) hk
 simp only [Acq.tot] at h1 h3
 omega
theorem Zbp {n : Net} {f : List Int} (hl : lenok n.Arcs.length) : Ok (Z3w n f) (fun b => b = true ↔ FwithinP n f) := by
 unfold Z3w
 refine Ok.bind.2 (Zbs (s_Check n hl) (Ok.ite.2 ⟨fun h => Ok.some.2 ⟨fun h2 => (by cases h2), fun h2 => absurd h2.1 h⟩, fun h1 => Ok.ite.2 ⟨fun h => Ok.some.2 ⟨fun h2 => (by cases h2), fun h2 => absurd h2.2.1 (by omega)⟩, fun h2 => Ok.bind.2 ?_⟩⟩))
 have hz := Z8i (Classical.not_not.1 h1)
 refine Zb8 (fun x => ∃ k : Nat, x = k ∧ k ≤ n.Arcs.length ∧ ∀ i, i < k → 0 ≤ f.getD i 0 ∧ f.getD i 0 ≤ (n.Arcs.getD i default).cap) (fun x => (n.Arcs.length - x).toNat) ⟨0, rfl, by omega, fun i hi => by omega⟩ (by unfold Z51; omega) ?_
 rintro x ⟨k, rfl, hk, h3⟩ P next exit
 unfold Z4f
 simp only [Int.toNat_natCast]
 refine Ok.ite.2 ⟨fun hx => ?_, fun hx => ?_⟩
 ·
  refine Ok.gd.2 ⟨(by omega), Ok.gd.2 ⟨(by omega), Ok.ite.2 ⟨fun h => Ok.some.2 (exit _ (Ok.some.2 ⟨fun h2 => (by cases h2), fun h2 => by have := h2.2.2 k (by omega); omega⟩)), fun h4 => Ok.gd.2 ⟨(by omega), Ok.ite.2 ⟨fun h => Ok.some.2 (exit _ (Ok.some.2 ⟨fun h2 => (by cases h2), fun h2 => by have := h2.2.2 k (by omega); omega⟩)), fun h5 => Ok.gd.2 ⟨(by omega), Ok.some.2 (next _ ⟨k + 1, by simp, by omega, fun i hi => ?_⟩ (by omega))⟩⟩⟩⟩⟩⟩
  rcases Nat.lt_or_ge i k with h | h
  · exact h3 i h
  · rw [show i = k by omega]; omega
 ·
  refine Ok.some.2 (exit _ ?_)
  unfold Z5n
  exact Ok.some.2 ⟨fun _ => ⟨Classical.not_not.1 h1, by omega, fun i hi => h3 i (by omega)⟩, fun _ => rfl⟩
theorem Zf0 {n : Net} {f : List Int} (hl : lenok n.Arcs.length) : Ok (Z54 n f) (fun r => (FwithinP n f ∧ r.2 = 0 ∧ r.1.length = n.N.toNat ∧ ∀ v : Nat, v < n.N.toNat → r.1.getD v 0 = ex n.Arcs f v n.Arcs.length) ∨ (¬ FwithinP n f ∧ r = ([], 20))) := by
 unfold Z54
 refine Ok.bind.2 (Ok.mono (Zbp hl) fun b hb => Ok.ite.2 ⟨fun h => Ok.some.2 (.inr ⟨fun h2 => (by rw [hb.2 h2] at h; cases h), rfl⟩), fun h => ?_⟩)
 have hw : FwithinP n f := hb.1 (by cases b; exact absurd rfl h; rfl)
 have hz := Z8i hw.1
 obtain ⟨m, hm⟩ : ∃ m : Nat, n.N = m := ⟨n.N.toNat, by omega⟩
 have he : Z85 m n.Arcs := Ze3 (by rw [← hm]; exact hz.2.2.2.1)
 have hfl := hw.2.1
 refine Ok.gd.2 ⟨(by omega), Ok.bind.2 ?_⟩
 rw [hm]
 simp only [Int.toNat_natCast]
 refine Zb8 (fun s => ∃ k : Nat, s.2 = k ∧ k ≤ n.Arcs.length ∧ s.1.length = m ∧ ∀ v : Nat, v < m → s.1.getD v 0 = ex n.Arcs f v k) (fun s => (n.Arcs.length - s.2).toNat) ⟨0, rfl, by omega, List.length_replicate, fun v _ => by rw [Z4j]; rfl⟩ (by unfold Z51; simp only; omega) ?_
 rintro ⟨xs, x⟩ ⟨k, h1, hk, h3, h4⟩ P next exit
 simp only at h1 h3 h4 next ⊢
 subst h1
 unfold Z4g
 simp only [Int.toNat_natCast]
 refine Ok.ite.2 ⟨fun hx => ?_, fun hx => ?_⟩
 ·
  have hkl : k < n.Arcs.length := by omega
  have e0 := he k hkl false
  have e1 := he k hkl true
  simp only [vtx, Bool.false_eq_true, if_false, if_true] at e0 e1
  obtain ⟨p, hp⟩ : ∃ p : Nat, (n.Arcs.getD k default).fr = p := ⟨(n.Arcs.getD k default).fr.toNat, by omega⟩
  obtain ⟨q, hq⟩ : ∃ q : Nat, (n.Arcs.getD k default).to = q := ⟨(n.Arcs.getD k default).to.toNat, by omega⟩
  have hfk := hw.2.2 k hkl
  have b0 := ex_le (al := n.Arcs) (f := f) (p : Int) (fun i hi => (hw.2.2 i hi).1) k hk
  have b1 := ex_le (al := n.Arcs) (f := f) (q : Int) (fun i hi => (hw.2.2 i hi).1) k hk
  have t0 := hw.tot k hk
  have t1 := hw.tot (k + 1) hkl
  simp only [tot] at t1
  rw [hp] at e0
  rw [hq] at e1
  have v0 := h4 p (by omega)
  have v1 := h4 q (by omega)
  simp only [hp, hq, Int.toNat_natCast, v0, Zem, List.length_set, h3]
  refine Ok.gd.2 ⟨(by omega), Ok.gd.2 ⟨(by omega), Ok.gd.2 ⟨(by omega), Ok.gd.2 ⟨(by omega), Ok.gd.2 ⟨(by omega), Ok.gd.2 ⟨(by omega), Ok.gd.2 ⟨(by omega), Ok.gd.2 ⟨by split <;> constructor <;> omega, Ok.gd.2 ⟨(by omega), Ok.gd.2 ⟨(by omega), Ok.some.2 (next _ ⟨k + 1, by simp, by omega, by simp [h3], fun v hv => ?_⟩ (by simp only; omega))⟩⟩⟩⟩⟩⟩⟩⟩⟩⟩
  simp only [Zem, List.length_set, h3, ex, hp, hq]
  rw [h4 v hv]
  by_cases c1 : p = v
  ·
   subst c1
   by_cases c2 : q = p
   ·
    subst c2
    simp only [true_and, if_true]
    rw [if_pos (by omega)]; simp [show q < m by omega]
   · rw [if_neg (fun h => c2 h.1), if_pos ⟨rfl, by omega⟩, if_pos rfl, if_neg (by omega)]; omega
  ·
   by_cases c2 : q = v
   ·
    subst c2
    rw [if_pos ⟨rfl, by omega⟩, if_neg (fun h => c1 h.1), if_neg (by omega), if_pos rfl, v1]; omega
   · rw [if_neg (fun h => c2 h.1), if_neg (fun h => c1 h.1), if_neg (by omega), if_neg (by omega)]; omega
 ·
  refine Ok.some.2 (exit _ ?_)
  unfold Z5o
  rw [show k = n.Arcs.length by omega] at h4
  exact Ok.some.2 (.inl ⟨hw, rfl, h3, h4⟩)
end Go.Acq
namespace Go.Acq
open Go
set_option linter.unusedSimpArgs false
set_option linter.unusedVariables false
theorem aw22 : Z45 = some true := by decide +kernel
def outK (al : List Arc) (f : List Int) (v : Nat) : Nat → List Int
  | 0 => []
  | k + 1 => outK al f v k ++ (if 0 < f.getD k 0 ∧ (al.getD k default).fr = (v : Int) then [(k : Int)] else [])
def OutIs (n : Net) (m : Nat) (f : List Int) (out : List (List Int)) : Prop := out.length = m ∧ ∀ v, v < m → out.getD v [] = outK n.Arcs f v n.Arcs.length
theorem outK_mem {al : List Arc} {f : List Int} {v : Nat} {x : Int} : ∀ {k : Nat}, x ∈ outK al f v k ↔ ∃ i : Nat, i < k ∧ x = i ∧ 0 < f.getD i 0 ∧ (al.getD i default).fr = (v : Int)
 | 0 => by simp [outK]
 | k + 1 => by
  rw [outK, List.mem_append, outK_mem (k := k)]
  constructor
  ·
   rintro (⟨i, h1, h2⟩ | h)
   · exact ⟨i, by omega, h2⟩
   ·
    split at h
    · rename_i h2; rw [List.mem_singleton] at h; exact ⟨k, by omega, h, h2⟩
    · cases h
  ·
   rintro ⟨i, h1, h2, h3⟩
   rcases Nat.lt_or_ge i k with h | h
   · exact .inl ⟨i, h, h2, h3⟩
   ·
    have e : i = k := by omega
    subst e
    exact .inr (by rw [if_pos h3, h2]; exact .head _)
theorem Zdb {al : List Arc} {f : List Int} {v : Nat} : ∀ k, (outK al f v k).length ≤ k
 | 0 => Nat.le_refl _
 | k + 1 => by
  have := Zdb (al := al) (f := f) (v := v) k
  rw [outK, List.length_append]
  split <;> simp <;> omega
theorem OutIs.at {n : Net} {m : Nat} {f : List Int} {out : List (List Int)} (h : OutIs n m f out) {v q : Nat} (hv : v < m) (hq : q < (out.getD v []).length) :
    ∃ k : Nat, (out.getD v []).getD q 0 = k ∧ k < n.Arcs.length ∧ 0 < f.getD k 0 ∧ (n.Arcs.getD k default).fr = (v : Int) := by
  have := Zbh hq 0
  rw [h.2 v hv] at this
  obtain ⟨i, h1, h2, h3, h4⟩ := outK_mem.1 this
  exact ⟨i, by rw [h.2 v hv]; exact h2, h1, h3, h4⟩
theorem OutIs.in {n : Net} {m : Nat} {f : List Int} {out : List (List Int)} (h : OutIs n m f out) {v k : Nat} (hv : v < m) (hk : k < n.Arcs.length) (hf : 0 < f.getD k 0) (he : (n.Arcs.getD k default).fr = (v : Int)) :
    ∃ q, q < (out.getD v []).length ∧ (out.getD v []).getD q 0 = k := by
  have : (k : Int) ∈ out.getD v [] := by rw [h.2 v hv]; exact outK_mem.2 ⟨k, hk, rfl, hf, he⟩
  obtain ⟨q, hq, e⟩ := List.getElem_of_mem this
  exact ⟨q, hq, by rw [List.getD_eq_getElem?_getD, List.getElem?_eq_getElem hq]; exact e⟩
theorem OutIs.len {n : Net} {m : Nat} {f : List Int} {out : List (List Int)} (h : OutIs n m f out) {v : Nat} (hv : v < m) : (out.getD v []).length ≤ n.Arcs.length := by
 rw [h.2 v hv]; exact Zdb _
def Zgl (n : Net) (f : List Int) : Prop := ∃ ρ : Nat → Nat, ∀ k, k < n.Arcs.length → 0 < f.getD k 0 → ρ (n.Arcs.getD k default).to.toNat < ρ (n.Arcs.getD k default).fr.toNat
def Cyc (n : Net) (f : List Int) (c : List Int) : Prop := 0 < c.length ∧
  (∀ j, j < c.length → ∃ k : Nat, c.getD j 0 = k ∧ k < n.Arcs.length ∧ 0 < f.getD k 0 ∧ (n.Arcs.getD k default).to = (n.Arcs.getD (c.getD ((j + 1) % c.length) 0).toNat default).fr) ∧
  ∀ i j, i < c.length → j < c.length → (n.Arcs.getD (c.getD i 0).toNat default).fr = (n.Arcs.getD (c.getD j 0).toNat default).fr → i = j
theorem Cyc.not {n : Net} {f c : List Int} (h : Cyc n f c) : ¬ Zgl n f := by
 rintro ⟨ρ, hρ⟩
 obtain ⟨h0, h1, -⟩ := h
 let g : Nat → Nat := fun j => ρ (n.Arcs.getD (c.getD j 0).toNat default).fr.toNat
 have hs : ∀ j, j < c.length → g ((j + 1) % c.length) < g j := by
  intro j hj
  obtain ⟨k, e1, e2, e3, e4⟩ := h1 j hj
  have := hρ k e2 e3
  rw [e4] at this
  show ρ _ < ρ (n.Arcs.getD (c.getD j 0).toNat default).fr.toNat
  rw [e1, Int.toNat_natCast]
  exact this
 have key : ∀ j, j < c.length → g j + j ≤ g 0 := by
  intro j
  induction j with
  | zero => intro _; omega
  | succ j ih =>
   intro hj
   have h2 := ih (by omega)
   have h3 := hs j (by omega)
   rw [Nat.mod_eq_of_lt hj] at h3
   omega
 have h2 := key (c.length - 1) (by omega)
 have h3 := hs (c.length - 1) (by omega)
 rw [show c.length - 1 + 1 = c.length by omega, Nat.mod_self] at h3
 omega
theorem s_begin {n : Net} {m : Nat} {f : List Int} (hm : n.N = m) (hm2 : m ≤ 4096) (he : Z85 m n.Arcs) (hl : n.Arcs.length ≤ 16384) (hf : f.length = n.Arcs.length) :
    Ok (Z4i n f) (fun s => ∃ out, s = CyclesSearch.mk n out (List.replicate m 0) (List.replicate m false) (List.replicate m false) [] ∧ OutIs n m f out) := by
  unfold Z4i
  rw [hm]
  refine Ok.gd.2 ⟨(by omega), Ok.gd.2 ⟨(by omega), Ok.gd.2 ⟨(by omega), Ok.gd.2 ⟨(by omega), Ok.bind.2 ?_⟩⟩⟩⟩
  simp only [Int.toNat_natCast]
  refine Zb8 (fun s => ∃ k : Nat, s.2 = k ∧ k ≤ n.Arcs.length ∧ s.1.length = m ∧ ∀ v, v < m → s.1.getD v [] = outK n.Arcs f v k) (fun s => (n.Arcs.length - s.2).toNat) ⟨0, rfl, by omega, List.length_replicate, fun v _ => by rw [Z4j]; rfl⟩ (by unfold Z51; simp only; omega) ?_
  rintro ⟨xs, x⟩ ⟨k, h1, hk, h3, h4⟩ P next exit
  simp only at h1 h3 h4 next ⊢
  subst h1
  unfold Z47
  simp only [Int.toNat_natCast]
  refine Ok.ite.2 ⟨fun hx => ?_, fun hx => ?_⟩
  · have hkl : k < n.Arcs.length := by omega
    have e0 := he k hkl false
    simp only [vtx, Bool.false_eq_true, if_false] at e0
    obtain ⟨p, hp⟩ : ∃ p : Nat, (n.Arcs.getD k default).fr = p := ⟨(n.Arcs.getD k default).fr.toNat, by omega⟩
    rw [hp] at e0
    refine Ok.gd.2 ⟨(by constructor <;> omega), Ok.gd.2 ⟨(by constructor <;> omega), Ok.ite.2 ⟨fun hp0 => ?_, fun hp0 => Ok.gd.2 ⟨(by constructor <;> omega), Ok.some.2 (next _ ⟨k + 1, by simp, by omega, h3, fun v hv => ?_⟩ (by simp only; omega))⟩⟩⟩⟩
    · simp only [hp, Int.toNat_natCast]
      have h5 := h4 p (by omega)
      have h6 := Zdb (al := n.Arcs) (f := f) (v := p) k
      refine Ok.gd.2 ⟨(by constructor <;> omega), Ok.gd.2 ⟨?_, Ok.gd.2 ⟨(by constructor <;> omega), Ok.some.2 (next _ ⟨k + 1, by simp, by omega, by simp [h3], fun v hv => ?_⟩ (by simp only; omega))⟩⟩⟩
      · rw [List.length_append, h5]; simp only [List.length_singleton]; constructor <;> omega
      · rw [Zem, h3, h5, outK]
        by_cases e : p = v
        · subst e; rw [if_pos ⟨rfl, by omega⟩, if_pos ⟨hp0, hp⟩]
        · rw [if_neg (fun h => e h.1), if_neg (fun h => by have := h.2; rw [hp] at this; omega), List.append_nil]; exact h4 v hv
    · rw [outK, if_neg (fun h => hp0 h.1), List.append_nil]; exact h4 v hv
  · refine Ok.some.2 (exit _ ?_)
    unfold Z56
    simp only [hm, Int.toNat_natCast]
    exact Ok.some.2 ⟨xs, rfl, h3, fun v hv => by rw [h4 v hv, show k = n.Arcs.length by omega]⟩
end Go.Acq
namespace Go.Acq
open Go
set_option linter.unusedSimpArgs false
set_option linter.unusedVariables false
section dfs
variable {n : Net} {m : Nat} {f : List Int} {out : List (List Int)}
def past (n : Net) (out : List (List Int)) (dn : List Bool) (u q : Nat) : Prop := ∀ j, j < q → dn.getD (n.Arcs.getD ((out.getD u []).getD j 0).toNat default).to.toNat false = true
inductive Chain (n : Net) (f : List Int) (out : List (List Int)) (at_ : List Int) (dn : List Bool) : List Nat → List Nat → Prop
  | root (r : Nat) : Chain n f out at_ dn [r] []
  | step {v u e : Nat} {ps es : List Nat} (h1 : e < n.Arcs.length) (h2 : 0 < f.getD e 0) (h3 : (n.Arcs.getD e default).fr = (u : Int)) (h4 : (n.Arcs.getD e default).to = (v : Int))
      (h5 : ∃ q : Nat, at_.getD u 0 = ((q + 1 : Nat) : Int) ∧ (out.getD u []).getD q 0 = (e : Int) ∧ past n out dn u q) (h6 : Chain n f out at_ dn (u :: ps) es) : Chain n f out at_ dn (v :: u :: ps) (e :: es)
theorem past.mono {dn dn' : List Bool} {u q : Nat} (h : past n out dn u q) (hd : ∀ x, dn.getD x false = true → dn'.getD x false = true) : past n out dn' u q := fun j hj => hd _ (h j hj)
theorem Chain.mono {at_ at' : List Int} {dn dn' : List Bool} {pv es : List Nat} (h : Chain n f out at_ dn pv es) (hd : ∀ x, dn.getD x false = true → dn'.getD x false = true) (ha : ∀ x, x ∈ pv.tail → at'.getD x 0 = at_.getD x 0) : Chain n f out at' dn' pv es := by
 induction h with
 | root r => exact .root r
 | step h1 h2 h3 h4 h5 h6 ih =>
  obtain ⟨q, q1, q2, q3⟩ := h5
  refine .step h1 h2 h3 h4 ⟨q, by rw [ha _ (.head _)]; exact q1, q2, q3.mono hd⟩ (ih fun x hx => ha x ?_)
  exact .tail _ hx
theorem Chain.len {at_ : List Int} {dn : List Bool} {pv es : List Nat} (h : Chain n f out at_ dn pv es) : pv.length = es.length + 1 := by
 induction h with
 | root r => rfl
 | step _ _ _ _ _ _ ih => simp only [List.length_cons] at ih ⊢; omega
theorem Chain.at {at_ : List Int} {dn : List Bool} {pv es : List Nat} (h : Chain n f out at_ dn pv es) : ∀ i, i < es.length → es.getD i 0 < n.Arcs.length ∧ 0 < f.getD (es.getD i 0) 0 ∧ (n.Arcs.getD (es.getD i 0) default).fr = (pv.getD (i + 1) 0 : Int) ∧ (n.Arcs.getD (es.getD i 0) default).to = (pv.getD i 0 : Int) := by
 induction h with
 | root r => intro i hi; simp at hi
 | step h1 h2 h3 h4 h5 h6 ih =>
  intro i hi
  cases i with
  | zero => exact ⟨h1, h2, h3, h4⟩
  | succ i =>
   have := ih i (by simpa using hi)
   simpa using this
structure DI (n : Net) (m : Nat) (f : List Int) (out : List (List Int)) (at_ : List Int) (dn : List Bool) : Prop where
  la : at_.length = m
  ld : dn.length = m
  lo : ∀ u, u < m → 0 ≤ at_.getD u 0 ∧ at_.getD u 0 ≤ ((out.getD u []).length : Int)
  rank : ∃ (ρ : Nat → Nat) (c : Nat), ∀ u, u < m → dn.getD u false = true → ρ u < c ∧ ∀ k, k < n.Arcs.length → 0 < f.getD k 0 → (n.Arcs.getD k default).fr = (u : Int) → dn.getD (n.Arcs.getD k default).to.toNat false = true ∧ ρ (n.Arcs.getD k default).to.toNat < ρ u
structure WI (n : Net) (m : Nat) (f : List Int) (out : List (List Int)) (r v : Nat) (pv es : List Nat) (at_ : List Int) (dn on : List Bool) (way : List Int) : Prop where
  di : DI n m f out at_ dn
  ch : Chain n f out at_ dn (v :: pv) es
  nd : (v :: pv).Nodup
  lt : ∀ u, u ∈ v :: pv → u < m
  way : way = es.reverse.map fun e : Nat => (e : Int)
  lon : on.length = m
  on : ∀ u, u < m → (on.getD u false = true ↔ u ∈ v :: pv)
  open_ : ∀ u, u ∈ v :: pv → dn.getD u false = false
  pst : past n out dn v (at_.getD v 0).toNat
  fresh : ∀ u, u < m → dn.getD u false = false → u ∉ v :: pv → at_.getD u 0 = 0
  root : ∃ pre, v :: pv = pre ++ [r]
structure EI (n : Net) (m : Nat) (f : List Int) (out : List (List Int)) (at_ : List Int) (dn on : List Bool) (way : List Int) : Prop where
  di : DI n m f out at_ dn
  way : way = []
  lon : on.length = m
  on : ∀ u, u < m → on.getD u false = false
  fresh : ∀ u, u < m → dn.getD u false = false → at_.getD u 0 = 0
theorem WI.begin {at_ : List Int} {dn on : List Bool} {way : List Int} {v : Nat} (h : EI n m f out at_ dn on way) (hv : v < m) (hd : dn.getD v false = false) : WI n m f out v v [] [] at_ dn (on.set v true) way := by
 refine ⟨h.di, .root v, by simp, fun u hu => ?_, h.way, by rw [List.length_set]; exact h.lon, fun u hu => ?_, fun u hu => ?_, fun j hj => ?_, fun u hu hdu _ => h.fresh u hu hdu, [], rfl⟩
 · rw [List.mem_singleton] at hu; subst hu; exact hv
 ·
  rw [Zem, h.lon, List.mem_singleton]
  by_cases e : v = u
  · rw [if_pos ⟨e, hv⟩]; exact ⟨fun _ => e.symm, fun _ => rfl⟩
  · rw [if_neg (fun h => e h.1), h.on u hu]; exact ⟨fun h => (by cases h), fun h => absurd h.symm e⟩
 · rw [List.mem_singleton] at hu; subst hu; exact hd
 · rw [h.fresh v hv hd] at hj; simp at hj
theorem WI.skip {r v q : Nat} {pv es : List Nat} {at_ : List Int} {dn on : List Bool} {way : List Int} (h : WI n m f out r v pv es at_ dn on way) (hq : at_.getD v 0 = (q : Int)) (hl : q < (out.getD v []).length)
    (hd : dn.getD (n.Arcs.getD ((out.getD v []).getD q 0).toNat default).to.toNat false = true) : WI n m f out r v pv es (at_.set v ((q : Int) + 1)) dn on way := by
  have hv := h.lt v (.head _)
  have hne : ∀ u, u ∈ pv → v ≠ u := fun u hu e => by subst e; exact (List.nodup_cons.1 h.nd).1 hu
  refine ⟨⟨by rw [List.length_set]; exact h.di.la, h.di.ld, fun u hu => ?_, h.di.rank⟩, h.ch.mono (fun _ h => h) (fun x hx => Z3s (hne x hx)), h.nd, h.lt, h.way, h.lon, h.on, h.open_, ?_, fun u hu hdu hup => ?_, h.root⟩
  · have := h.di.lo u hu
    rw [Zem, h.di.la]
    split
    · rename_i e; rw [← e.1]; omega
    · exact this
  · rw [Z6m (by rw [h.di.la]; exact hv)]
    intro j hj
    rcases Nat.lt_or_ge j q with h1 | h1
    · exact h.pst j (by rw [hq]; omega)
    · rw [show j = q by omega]; exact hd
  · have h1 : v ≠ u := fun e => hup (by rw [← e]; exact .head _)
    rw [Z3s h1]; exact h.fresh u hu hdu hup
theorem WI.push {r v q w k : Nat} {pv es : List Nat} {at_ : List Int} {dn on : List Bool} {way : List Int} (h : WI n m f out r v pv es at_ dn on way) (hq : at_.getD v 0 = (q : Int)) (hl : q < (out.getD v []).length)
    (hk : (out.getD v []).getD q 0 = (k : Int)) (hkl : k < n.Arcs.length) (hf : 0 < f.getD k 0) (hfr : (n.Arcs.getD k default).fr = (v : Int)) (hto : (n.Arcs.getD k default).to = (w : Int)) (hw : w < m) (hon : on.getD w false = false) (hd : dn.getD w false = false) :
    WI n m f out r w (v :: pv) (k :: es) (at_.set v ((q : Int) + 1)) dn (on.set w true) (way ++ [(k : Int)]) := by
  have hv := h.lt v (.head _)
  have hwn : w ∉ v :: pv := fun hm => by have := (h.on w hw).2 hm; rw [hon] at this; cases this
  have hvw : v ≠ w := fun e => hwn (e ▸ .head _)
  have hne : ∀ u, u ∈ pv → v ≠ u := fun u hu e => by subst e; exact (List.nodup_cons.1 h.nd).1 hu
  have hw0 := h.fresh w hw hd hwn
  refine ⟨⟨by rw [List.length_set]; exact h.di.la, h.di.ld, fun u hu => ?_, h.di.rank⟩, .step hkl hf hfr hto ⟨q, by rw [Z6m (by rw [h.di.la]; exact hv)]; omega, hk, fun j hj => h.pst j (by rw [hq]; omega)⟩ (h.ch.mono (fun _ h => h) (fun x hx => Z3s (hne x hx))), List.nodup_cons.2 ⟨hwn, h.nd⟩, fun u hu => ?_, ?_, by rw [List.length_set]; exact h.lon, fun u hu => ?_, fun u hu => ?_, ?_, fun u hu hdu hup => ?_, (by obtain ⟨pre, e⟩ := h.root; exact ⟨w :: pre, by rw [e]; rfl⟩)⟩
  · have := h.di.lo u hu
    rw [Zem, h.di.la]
    split
    · rename_i e; rw [← e.1]; omega
    · exact this
  · rcases List.mem_cons.1 hu with rfl | hu
    · exact hw
    · exact h.lt u hu
  · rw [h.way, List.reverse_cons, List.map_append]; rfl
  · rw [Zem, h.lon]
    by_cases e : w = u
    · rw [if_pos ⟨e, hw⟩]; exact ⟨fun _ => e ▸ .head _, fun _ => rfl⟩
    · rw [if_neg (fun h => e h.1), h.on u hu]
      exact ⟨fun h => .tail _ h, fun h => by rcases List.mem_cons.1 h with h | h; (exact absurd h.symm e); exact h⟩
  · rcases List.mem_cons.1 hu with rfl | hu
    · exact hd
    · exact h.open_ u hu
  · rw [Z3s hvw, hw0]; intro j hj; simp at hj
  · have h1 : v ≠ u := fun e => hup (e ▸ .tail _ (.head _))
    rw [Z3s h1]; exact h.fresh u hu hdu (fun hm => hup (.tail _ hm))
theorem WI.fin {r v : Nat} {pv es : List Nat} {at_ : List Int} {dn on : List Bool} {way : List Int} (ho : OutIs n m f out) (h : WI n m f out r v pv es at_ dn on way) (hq : at_.getD v 0 = ((out.getD v []).length : Int)) :
    DI n m f out at_ (dn.set v true) := by
  have hv := h.lt v (.head _)
  have hdv := h.open_ v (.head _)
  obtain ⟨ρ, c, hρ⟩ := h.di.rank
  refine ⟨h.di.la, by rw [List.length_set]; exact h.di.ld, h.di.lo, fun x => if x = v then c else ρ x, c + 1, fun u hu hd => ?_⟩
  rw [Zem, h.di.ld] at hd
  by_cases e : v = u
  · subst e
    simp only [if_true]
    refine ⟨by omega, fun k hk hf hfr => ?_⟩
    obtain ⟨q, hq1, hq2⟩ := ho.in hv hk hf hfr
    have h1 := h.pst q (by rw [hq]; omega)
    rw [hq2, Int.toNat_natCast] at h1
    have h2 : (n.Arcs.getD k default).to.toNat ≠ v := fun e => by rw [e, hdv] at h1; cases h1
    have hlt : (n.Arcs.getD k default).to.toNat < m := by
      rcases Nat.lt_or_ge (n.Arcs.getD k default).to.toNat m with h3 | h3
      · exact h3
      · rw [List.getD_eq_getElem?_getD, List.getElem?_eq_none (by rw [h.di.ld]; exact h3)] at h1; cases h1
    rw [if_neg h2]
    exact ⟨by rw [Z3s (Ne.symm h2)]; exact h1, (hρ _ hlt h1).1⟩
  · rw [if_neg (fun h => e h.1)] at hd
    obtain ⟨h1, h2⟩ := hρ u hu hd
    simp only [if_neg (show ¬ u = v from fun h => e h.symm)]
    refine ⟨by omega, fun k hk hf hfr => ?_⟩
    obtain ⟨h3, h4⟩ := h2 k hk hf hfr
    have h5 : (n.Arcs.getD k default).to.toNat ≠ v := fun e => by rw [e, hdv] at h3; cases h3
    rw [if_neg h5]
    exact ⟨by rw [Z3s (Ne.symm h5)]; exact h3, h4⟩
theorem Zh2 {dn : List Bool} {v : Nat} : ∀ x, dn.getD x false = true → (dn.set v true).getD x false = true := by
 intro x hx
 rw [Zem]; split
 · rfl
 · exact hx
theorem WI.pop {r v u e : Nat} {ps es : List Nat} {at_ : List Int} {dn on : List Bool} {way : List Int} (ho : OutIs n m f out) (h : WI n m f out r v (u :: ps) (e :: es) at_ dn on way) (hq : at_.getD v 0 = ((out.getD v []).length : Int)) :
    WI n m f out r u ps es at_ (dn.set v true) (on.set v false) (es.reverse.map fun e : Nat => (e : Int)) ∧ (n.Arcs.getD e default).fr = (u : Int) ∧ e < n.Arcs.length := by
  have hv := h.lt v (.head _)
  have hfin := h.fin ho hq
  have hnd := List.nodup_cons.1 h.nd
  cases h.ch with
  | step h1 h2 h3 h4 h5 h6 =>
  obtain ⟨q, q1, q2, q3⟩ := h5
  refine ⟨⟨hfin, h6.mono Zh2 (fun _ _ => rfl), hnd.2, fun x hx => h.lt x (.tail _ hx), rfl, by rw [List.length_set]; exact h.lon, fun x hx => ?_, fun x hx => ?_, ?_, fun x hx hdx hup => ?_, ?_⟩, h3, h1⟩
  · rw [Zem, h.lon]
    by_cases e : v = x
    · subst e; rw [if_pos ⟨rfl, hv⟩]; exact ⟨fun h => (by cases h), fun hm => absurd hm hnd.1⟩
    · rw [if_neg (fun h => e h.1), h.on x hx]
      exact ⟨fun h => by rcases List.mem_cons.1 h with h | h; (exact absurd h.symm e); exact h, fun h => .tail _ h⟩
  · have h1 : v ≠ x := fun e => hnd.1 (by rw [e]; exact hx)
    rw [Z3s h1]; exact h.open_ x (.tail _ hx)
  · rw [q1, Int.toNat_natCast]
    intro j hj
    rcases Nat.lt_or_ge j q with h7 | h7
    · exact Zh2 _ (q3 j h7)
    · rw [show j = q by omega, q2, Int.toNat_natCast, h4, Int.toNat_natCast]
      exact Z6m (by rw [h.di.ld]; exact hv)
  · have hxv : v ≠ x := fun e => by subst e; rw [Z6m (by rw [h.di.ld]; exact hv)] at hdx; cases hdx
    rw [Z3s hxv] at hdx
    exact h.fresh x hx hdx (fun hm => by rcases List.mem_cons.1 hm with h | h; (exact hxv h.symm); exact hup h)
  · obtain ⟨pre, e⟩ := h.root
    cases pre with
    | nil => simp at e
    | cons x pre => exact ⟨pre, by simpa using (List.cons.inj e).2⟩
theorem WI.last {r v : Nat} {at_ : List Int} {dn on : List Bool} {way : List Int} (ho : OutIs n m f out) (h : WI n m f out r v [] [] at_ dn on way) (hq : at_.getD v 0 = ((out.getD v []).length : Int)) :
    EI n m f out at_ (dn.set v true) (on.set v false) way ∧ (dn.set v true).getD r false = true := by
  have hv := h.lt v (.head _)
  have hrv : r = v := by
    obtain ⟨pre, e⟩ := h.root
    cases pre with
    | nil => simpa using e.symm
    | cons x pre => simp at e
  refine ⟨⟨h.fin ho hq, by rw [h.way]; rfl, by rw [List.length_set]; exact h.lon, fun u hu => ?_, fun u hu hd => ?_⟩, by rw [hrv]; exact Z6m (by rw [h.di.ld]; exact hv)⟩
  · rw [Zem, h.lon]
    by_cases e : v = u
    · rw [if_pos ⟨e, hv⟩]
    · rw [if_neg (fun h => e h.1), Bool.eq_false_iff]
      intro h1
      have := (h.on u hu).1 h1
      rw [List.mem_singleton] at this; exact e this.symm
  · have hxv : v ≠ u := fun e => by subst e; rw [Z6m (by rw [h.di.ld]; exact hv)] at hd; cases hd
    rw [Z3s hxv] at hd
    exact h.fresh u hu hd (by rw [List.mem_singleton]; exact fun e => hxv e.symm)
end dfs
end Go.Acq
namespace Go.Acq
open Go
set_option linter.unusedSimpArgs false
set_option linter.unusedVariables false
theorem appR {α : Type} {xs ys : List α} {i : Nat} {d : α} (h : xs.length ≤ i) : (xs ++ ys).getD i d = ys.getD (i - xs.length) d := by
 rw [List.getD_eq_getElem?_getD, List.getElem?_append_right h, ← List.getD_eq_getElem?_getD]
theorem appL {α : Type} {xs ys : List α} {i : Nat} {d : α} (h : i < xs.length) : (xs ++ ys).getD i d = xs.getD i d := by
 rw [List.getD_eq_getElem?_getD, List.getElem?_append_left h, ← List.getD_eq_getElem?_getD]
def smI : List Int → Int
  | [] => 0
  | x :: xs => x + smI xs
def cT : List Bool → Nat
  | [] => 0
  | b :: bs => (if b = true then 1 else 0) + cT bs
theorem Zep : ∀ {xs : List Int} {i : Nat} {y : Int}, i < xs.length → smI (xs.set i y) = smI xs - xs.getD i 0 + y
 | [], i, y, h => by simp at h
 | x :: xs, 0, y, _ => by simp [smI]; omega
 | x :: xs, i + 1, y, h => by
  have := Zep (xs := xs) (i := i) (y := y) (by simpa using h)
  simp only [List.set_cons_succ, smI, this, List.getD_cons_succ]; omega
theorem smI_le {B : Nat} : ∀ {xs : List Int}, (∀ i, i < xs.length → 0 ≤ xs.getD i 0 ∧ xs.getD i 0 ≤ B) → 0 ≤ smI xs ∧ smI xs ≤ (xs.length * B : Nat)
 | [], _ => by simp [smI]
 | x :: xs, h => by
  have h1 := smI_le (B := B) (xs := xs) (fun i hi => by have := h (i + 1) (by simpa using hi); simpa using this)
  have h2 := h 0 (by simp)
  simp only [List.getD_cons_zero] at h2
  simp only [smI, List.length_cons, Nat.add_mul, Nat.one_mul]
  omega
theorem cT_le : ∀ bs : List Bool, cT bs ≤ bs.length
 | [] => Nat.le_refl _
 | b :: bs => by have := cT_le bs; simp only [cT, List.length_cons]; split <;> omega
theorem cT_set : ∀ {bs : List Bool} {i : Nat}, i < bs.length → bs.getD i false = false → cT (bs.set i true) = cT bs + 1
 | [], i, h, _ => by simp at h
 | b :: bs, 0, _, h => by simp only [List.getD_cons_zero] at h; subst h; simp [cT]; omega
 | b :: bs, i + 1, h, hb => by
  have := cT_set (bs := bs) (i := i) (by simpa using h) (by simpa using hb)
  simp only [List.set_cons_succ, cT, this]; omega
section
variable {n : Net} {m : Nat} {f : List Int} {out : List (List Int)}
theorem s_closes {way at_ : List Int} {dn on : List Bool} {w : Int} {k : Int} (hl : way.length ≤ 4096) (hin : ∀ j, j < (way ++ [k]).length → ∃ a : Nat, (way ++ [k]).getD j 0 = a ∧ a < n.Arcs.length)
    (hex : ∃ j, j < (way ++ [k]).length ∧ (n.Arcs.getD ((way ++ [k]).getD j 0).toNat default).fr = w) :
    Ok (Z2u (CyclesSearch.mk n out at_ dn on way) w k) (fun c => ∃ i, i < (way ++ [k]).length ∧ c = (way ++ [k]).drop i ∧ (n.Arcs.getD ((way ++ [k]).getD i 0).toNat default).fr = w) := by
  have hl2 : (way ++ [k]).length = way.length + 1 := by simp
  unfold Z2u
  have hc : Z3t way = some way := by
    refine Zer ?_
    unfold Z3t
    exact Ok.gd.2 ⟨by constructor <;> omega, Ok.some.2 rfl⟩
  refine Ok.bind.2 (Zbs hc (Ok.gd.2 ⟨by rw [hl2]; constructor <;> omega, Ok.bind.2 ?_⟩))
  generalize hws : way ++ [k] = ws at *
  unfold Z1h
  refine Ok.bind.2 (Zb8 (fun x => ∃ i : Nat, x = i ∧ i ≤ ws.length ∧ ∀ j, j < i → (n.Arcs.getD (ws.getD j 0).toNat default).fr ≠ w) (fun x => (ws.length - x).toNat) ⟨0, rfl, by omega, fun j hj => by omega⟩ (by unfold Z51; omega) ?_)
  rintro x ⟨i, rfl, hi, hno⟩ P next exit
  unfold Z0v
  simp only [Int.toNat_natCast]
  refine Ok.ite.2 ⟨fun hx => ?_, fun hx => ?_⟩
  · obtain ⟨a, ha, hal⟩ := hin i (by omega)
    refine Ok.gd.2 ⟨(by constructor <;> omega), Ok.bind.2 ?_⟩
    unfold Z33
    rw [ha]
    refine Ok.gd.2 ⟨by show inb (a : Int) n.Arcs.length; constructor <;> omega, Ok.some.2 ?_⟩
    simp only [Int.toNat_natCast]
    refine Ok.ite.2 ⟨fun h => Ok.some.2 (exit _ ?_), fun h => Ok.gd.2 ⟨(by constructor <;> omega), Ok.some.2 (next _ ⟨i + 1, by simp, by omega, fun j hj => ?_⟩ (by omega))⟩⟩
    · have h := of_decide_eq_true h
      refine Ok.some.2 (Ok.gd.2 ⟨(by constructor <;> omega), Ok.some.2 ?_⟩)
      rw [Int.toNat_natCast]
      exact ⟨i, by omega, rfl, by rw [ha, Int.toNat_natCast]; exact h⟩
    · rcases Nat.lt_or_ge j i with h1 | h1
      · exact hno j h1
      · rw [show j = i by omega, ha, Int.toNat_natCast]; exact fun e => h (decide_eq_true e)
  · obtain ⟨j, hj, e⟩ := hex
    exact absurd e (hno j (by omega))
theorem WI.cyc {r v k w i : Nat} {pv es : List Nat} {at_ : List Int} {dn on : List Bool} {way : List Int} (h : WI n m f out r v pv es at_ dn on way) (hkl : k < n.Arcs.length) (hf : 0 < f.getD k 0) (hfr : (n.Arcs.getD k default).fr = (v : Int)) (hto : (n.Arcs.getD k default).to = (w : Int)) (hw : w < m) (hon : on.getD w false = true) :
    (∀ j, j < (way ++ [(k : Int)]).length → ∃ a : Nat, (way ++ [(k : Int)]).getD j 0 = a ∧ a < n.Arcs.length) ∧
    (∃ j, j < (way ++ [(k : Int)]).length ∧ (n.Arcs.getD ((way ++ [(k : Int)]).getD j 0).toNat default).fr = (w : Int)) ∧
    (i < (way ++ [(k : Int)]).length → (n.Arcs.getD ((way ++ [(k : Int)]).getD i 0).toNat default).fr = (w : Int) → Cyc n f ((way ++ [(k : Int)]).drop i)) := by
  have hlen := h.ch.len
  simp only [List.length_cons] at hlen
  have hat := h.ch.at
  have hwl : way.length = es.length := by rw [h.way]; simp
  have hwsl : (way ++ [(k : Int)]).length = es.length + 1 := by simp [hwl]
  have key : ∀ j, j < es.length + 1 → ∃ a : Nat, (way ++ [(k : Int)]).getD j 0 = a ∧ a < n.Arcs.length ∧ 0 < f.getD a 0 ∧ (n.Arcs.getD a default).fr = ((v :: pv).getD (es.length - j) 0 : Int) ∧ (n.Arcs.getD a default).to = (if j = es.length then (w : Int) else ((v :: pv).getD (es.length - (j + 1)) 0 : Int)) := by
    intro j hj
    by_cases e : j = es.length
    · refine ⟨k, by rw [appR (by omega), hwl, e]; simp, hkl, hf, ?_, by rw [if_pos e]; exact hto⟩
      rw [e, Nat.sub_self]; exact hfr
    · obtain ⟨h1, h2, h3, h4⟩ := hat (es.length - (j + 1)) (by omega)
      refine ⟨es.getD (es.length - (j + 1)) 0, ?_, h1, h2, ?_, by rw [if_neg e]; exact h4⟩
      · rw [appL (by omega), h.way, List.getD_eq_getElem?_getD, List.getElem?_map, List.getElem?_reverse (by omega), List.getD_eq_getElem?_getD, show es.length - 1 - j = es.length - (j + 1) by omega, List.getElem?_eq_getElem (by omega)]
        rfl
      · rw [h3, show es.length - (j + 1) + 1 = es.length - j by omega]
  have hinj : ∀ a b, a < es.length + 1 → b < es.length + 1 → (v :: pv).getD a 0 = (v :: pv).getD b 0 → a = b := by
    intro a b ha hb e
    have hl : (v :: pv).length = es.length + 1 := by simp [hlen]
    rw [List.getD_eq_getElem?_getD, List.getD_eq_getElem?_getD, List.getElem?_eq_getElem (by omega), List.getElem?_eq_getElem (by omega)] at e
    exact (List.getElem_inj h.nd).1 e
  refine ⟨fun j hj => ?_, ?_, fun hi hfi => ?_⟩
  · obtain ⟨a, h1, h2, -⟩ := key j (by omega)
    exact ⟨a, h1, h2⟩
  · obtain ⟨p, hp, e⟩ := List.getElem_of_mem ((h.on w hw).1 hon)
    have hp2 : p < es.length + 1 := by simp at hp; omega
    refine ⟨es.length - p, by omega, ?_⟩
    obtain ⟨a, h1, h2, h3, h4, -⟩ := key (es.length - p) (by omega)
    rw [h1, Int.toNat_natCast, h4, show es.length - (es.length - p) = p by omega, List.getD_eq_getElem?_getD, List.getElem?_eq_getElem hp, e]; rfl
  · have hdl : ((way ++ [(k : Int)]).drop i).length = es.length + 1 - i := by rw [List.length_drop, hwsl]
    have hdg : ∀ j, ((way ++ [(k : Int)]).drop i).getD j 0 = (way ++ [(k : Int)]).getD (i + j) 0 := fun j => by
      rw [List.getD_eq_getElem?_getD, List.getElem?_drop, ← List.getD_eq_getElem?_getD]
    refine ⟨by omega, fun j hj => ?_, fun a b ha hb e => ?_⟩
    · rw [hdl] at hj ⊢
      obtain ⟨a, h1, h2, h3, h4, h5⟩ := key (i + j) (by omega)
      refine ⟨a, by rw [hdg]; exact h1, h2, h3, ?_⟩
      rw [h5, hdg]
      by_cases hj2 : j + 1 = es.length + 1 - i
      · rw [if_pos (by omega), hj2, Nat.mod_self, Nat.add_zero]; exact hfi.symm
      · rw [if_neg (by omega), Nat.mod_eq_of_lt (by omega)]
        obtain ⟨b, g1, g2, g3, g4, -⟩ := key (i + (j + 1)) (by omega)
        rw [g1, Int.toNat_natCast, g4]
        congr 2
    · rw [hdl] at ha hb
      rw [hdg, hdg] at e
      obtain ⟨x, h1, h2, h3, h4, -⟩ := key (i + a) (by omega)
      obtain ⟨y, g1, g2, g3, g4, -⟩ := key (i + b) (by omega)
      rw [h1, g1, Int.toNat_natCast, Int.toNat_natCast, h4, g4] at e
      have := hinj _ _ (by omega) (by omega) (Int.natCast_inj.1 e)
      omega
end
end Go.Acq
namespace Go.Acq
open Go
set_option linter.unusedSimpArgs false
set_option linter.unusedVariables false
section
variable {n : Net} {m : Nat} {f : List Int} {out : List (List Int)}
theorem DI.sm {at_ : List Int} {dn : List Bool} (ho : OutIs n m f out) (h : DI n m f out at_ dn) : 0 ≤ smI at_ ∧ smI at_ ≤ ((m * n.Arcs.length : Nat) : Int) := by
 have := smI_le (B := n.Arcs.length) (xs := at_) (fun i hi => by
  rw [h.la] at hi
  have h1 := h.lo i hi
  have h2 := ho.len hi
  omega)
 rw [h.la] at this
 exact this
theorem s_inner {A : List Int} {D O : List Bool} {W : List Int} (hm2 : m ≤ 4096) (hl : n.Arcs.length ≤ 16384) (he : Z85 m n.Arcs) (ho : OutIs n m f out) {r v : Nat} {pv es : List Nat} {at0 : List Int} {dn on : List Bool} {way : List Int} (h : WI n m f out r v pv es at0 dn on way) :
    Ok (Z2k (fun s => Z2a (CyclesSearch.mk n out A D O W) (v : Int) dn on way s) Z51 at0) (fun o => match o with
      | .inl (c, _) => Cyc n f c
      | .inr (.inl (w, at', dn', on', way')) => ∃ w' k : Nat, w = w' ∧ dn' = dn ∧ WI n m f out r w' (v :: pv) (k :: es) at' dn on' way' ∧ smI at0 < smI at'
      | .inr (.inr at') => WI n m f out r v pv es at' dn on way ∧ at'.getD v 0 = ((out.getD v []).length : Int) ∧ smI at0 ≤ smI at') := by
  have hv := h.lt v (.head _)
  have hlo := ho.len hv
  have h1 := h.ch.len
  have hwl : way.length = es.length := by rw [h.way]; simp
  have hpl : es.length + 1 ≤ m := by
    have := List.Nodup.length_le_of_subset h.nd (l₂ := List.range m) (fun u hu => List.mem_range.2 (h.lt u hu))
    rw [h1, List.length_range] at this; exact this
  refine Zb8 (fun a => WI n m f out r v pv es a dn on way ∧ smI at0 ≤ smI a) (fun a => ((out.getD v []).length - a.getD v 0).toNat) ⟨h, Int.le_refl _⟩ (by
    have := (h.di.lo v hv).1
    unfold Z51; omega) ?_
  rintro a ⟨hW, hs⟩ P next exit
  unfold Z2a
  have hal := hW.di.la
  have hdl := hW.di.ld
  have hol := hW.lon
  have hoo := ho.1
  obtain ⟨q, hq⟩ : ∃ q : Nat, a.getD v 0 = (q : Int) := ⟨(a.getD v 0).toNat, (Int.toNat_of_nonneg (hW.di.lo v hv).1).symm⟩
  simp only [Int.toNat_natCast, hq]
  refine Ok.gd.2 ⟨(by constructor <;> omega), Ok.gd.2 ⟨(by constructor <;> omega), Ok.ite.2 ⟨fun hx => ?_, fun hx => ?_⟩⟩⟩
  · have hql : q < (out.getD v []).length := by omega
    obtain ⟨k, hk, hkl, hf, hfr⟩ := ho.at hv hql
    have e1 := he k hkl true
    simp only [vtx, if_true] at e1
    obtain ⟨w, hto⟩ : ∃ w : Nat, (n.Arcs.getD k default).to = (w : Int) := ⟨(n.Arcs.getD k default).to.toNat, by omega⟩
    have hw : w < m := by omega
    simp only [hk, hto, Int.toNat_natCast]
    refine Ok.gd.2 ⟨(by constructor <;> omega), Ok.gd.2 ⟨(by constructor <;> omega), Ok.gd.2 ⟨(by constructor <;> omega), Ok.gd.2 ⟨(by constructor <;> omega), Ok.gd.2 ⟨(by constructor <;> omega), Ok.gd.2 ⟨(by constructor <;> omega), Ok.gd.2 ⟨(by constructor <;> omega), Ok.gd.2 ⟨(by constructor <;> omega), Ok.ite.2 ⟨fun hon => ?_, fun hon => Ok.gd.2 ⟨(by constructor <;> omega), Ok.ite.2 ⟨fun hd => ?_, fun hd => ?_⟩⟩⟩⟩⟩⟩⟩⟩⟩⟩⟩
    · obtain ⟨c1, c2, c3⟩ := hW.cyc (i := 0) hkl hf hfr hto hw hon
      refine Ok.bind.2 (Ok.mono (s_closes (by omega) c1 c2) ?_)
      rintro c ⟨i, hi, rfl, hfi⟩
      exact Ok.some.2 (exit _ ((hW.cyc (i := i) hkl hf hfr hto hw hon).2.2 hi hfi))
    · have hdw : dn.getD w false = false := by simpa using hd
      have hp := hW.push hq hql hk hkl hf hfr hto hw (Bool.eq_false_iff.2 hon) hdw
      refine Ok.gd.2 ⟨by simp only [List.length_append, List.length_singleton]; constructor <;> omega, Ok.gd.2 ⟨(by constructor <;> omega), Ok.some.2 (exit _ ⟨w, k, rfl, rfl, hp, ?_⟩)⟩⟩
      rw [Zep (by omega), hq]; omega
    · have hdw : dn.getD w false = true := by simpa using hd
      have hp := hW.skip hq hql (by rw [hk, Int.toNat_natCast, hto, Int.toNat_natCast]; exact hdw)
      refine Ok.some.2 (next _ ⟨hp, ?_⟩ ?_)
      · rw [Zep (by omega), hq]; omega
      · rw [Z6m (by omega), hq]; omega
  · have := hW.di.lo v hv
    exact Ok.some.2 (exit _ ⟨hW, by omega, hs⟩)
theorem s_from (hm2 : m ≤ 4096) (hl : n.Arcs.length ≤ 16384) (he : Z85 m n.Arcs) (ho : OutIs n m f out) {v : Nat} {at0 : List Int} {dn0 on0 : List Bool} {way0 : List Int} (h : EI n m f out at0 dn0 on0 way0) (hv : v < m) (hd : dn0.getD v false = false) :
    Ok (Z3a (CyclesSearch.mk n out at0 dn0 on0 way0) v) (fun r => Cyc n f r.1 ∨ (r.1 = [] ∧ ∃ at' dn' on', r.2 = CyclesSearch.mk n out at' dn' on' [] ∧ EI n m f out at' dn' on' [] ∧ dn'.getD v false = true ∧ ∀ u, dn0.getD u false = true → dn'.getD u false = true)) := by
  have hlon := h.lon
  have hML : m * n.Arcs.length ≤ 4096 * 16384 := Nat.mul_le_mul hm2 hl
  unfold Z3a
  refine Ok.gd.2 ⟨by show inb (v : Int) on0.length; constructor <;> omega, Ok.bind.2 ?_⟩
  simp only [Int.toNat_natCast]
  refine Zb8 (fun s => (∀ u, dn0.getD u false = true → s.2.2.1.getD u false = true) ∧ ((∃ (w : Nat) (pv es : List Nat), s.1 = w ∧ WI n m f out v w pv es s.2.1 s.2.2.1 s.2.2.2.1 s.2.2.2.2) ∨ (s.1 = -1 ∧ EI n m f out s.2.1 s.2.2.1 s.2.2.2.1 s.2.2.2.2 ∧ s.2.2.1.getD v false = true)))
    (fun s => (((m * n.Arcs.length : Nat) : Int) - smI s.2.1).toNat + (m - cT s.2.2.1)) ⟨fun u hu => hu, .inl ⟨v, [], [], rfl, WI.begin h hv hd⟩⟩ (by
      have := h.di.sm ho
      unfold Z51; simp only; omega) ?_
  rintro ⟨x, a, dn, on, way⟩ ⟨hmo, hI⟩ P next exit
  simp only at hmo hI next ⊢
  unfold Z2o
  rcases hI with ⟨w, pv, es, rfl, hW⟩ | ⟨rfl, hE, hdv⟩
  · refine Ok.ite.2 ⟨fun _ => ?_, fun hx => absurd (Int.natCast_nonneg w) hx⟩
    refine Ok.bind.2 (Ok.mono (s_inner hm2 hl he ho hW) ?_)
    have hsm := hW.di.sm ho
    rintro (⟨c, st⟩ | ⟨w2, at', dn', on', way'⟩ | at') hr
    · exact Ok.some.2 (exit _ (Ok.some.2 (.inl hr)))
    · obtain ⟨w', k, rfl, rfl, hW', hlt⟩ := hr
      have hsm' := hW'.di.sm ho
      exact Ok.some.2 (next _ ⟨hmo, .inl ⟨w', w :: pv, k :: es, rfl, hW'⟩⟩ (by simp only; omega))
    · obtain ⟨hW', hfull, hle⟩ := hr
      have hsm' := hW'.di.sm ho
      have hwm := hW'.lt w (.head _)
      have hdw := hW'.open_ w (.head _)
      have hdl := hW'.di.ld
      have hol := hW'.lon
      have hcs := cT_set (bs := dn) (i := w) (by omega) hdw
      have hcl := cT_le (dn.set w true)
      rw [List.length_set, hdl] at hcl
      have hmo' : ∀ u, dn0.getD u false = true → (dn.set w true).getD u false = true := fun u hu => Zh2 u (hmo u hu)
      have hway := hW'.way
      have hch := hW'.ch.len
      unfold Z3e Z3r
      simp only [Int.toNat_natCast]
      cases es with
      | nil =>
        have hpv : pv = [] := by simpa using hch
        subst hpv
        obtain ⟨hE, hdr⟩ := hW'.last ho hfull
        refine Ok.bind.2 (Ok.gd.2 ⟨(by constructor <;> omega), Ok.gd.2 ⟨(by constructor <;> omega), Ok.ite.2 ⟨fun _ => Ok.some.2 ?_, fun hx => absurd (by rw [hway]; rfl) hx⟩⟩⟩)
        exact Ok.some.2 (next _ ⟨hmo', .inr ⟨rfl, hE, hdr⟩⟩ (by simp only; omega))
      | cons e es =>
        cases pv with
        | nil => simp at hch
        | cons u ps =>
          obtain ⟨hW2, hfr, hel⟩ := hW'.pop ho hfull
          have hwl : way.length = es.length + 1 := by rw [hway]; simp
          have hpl := List.Nodup.length_le_of_subset hW'.nd (l₂ := List.range m) (fun u hu => List.mem_range.2 (hW'.lt u hu))
          rw [hch, List.length_range, List.length_cons] at hpl
          have hlast : way.getD es.length 0 = (e : Int) := by
            rw [hway, List.getD_eq_getElem?_getD, List.getElem?_map, List.reverse_cons, List.getElem?_append_right (by simp)]
            simp
          have htake : way.take es.length = es.reverse.map fun e : Nat => (e : Int) := by
            rw [hway, List.reverse_cons, List.map_append, List.take_left' (by simp)]
          have hi : ((way.length : Int) - 1).toNat = es.length := by omega
          refine Ok.bind.2 (Ok.gd.2 ⟨(by constructor <;> omega), Ok.gd.2 ⟨(by constructor <;> omega), Ok.ite.2 ⟨fun hx => absurd hx (by omega), fun _ => ?_⟩⟩⟩)
          simp only [hi, hlast, Int.toNat_natCast, htake, hfr]
          refine Ok.gd.2 ⟨(by constructor <;> omega), Ok.gd.2 ⟨(by constructor <;> omega), Ok.gd.2 ⟨(by constructor <;> omega), Ok.gd.2 ⟨(by constructor <;> omega), Ok.gd.2 ⟨by show inb (e : Int) n.Arcs.length; constructor <;> omega, Ok.some.2 ?_⟩⟩⟩⟩⟩
          exact Ok.some.2 (next _ ⟨hmo', .inl ⟨u, ps, es, rfl, hW2⟩⟩ (by simp only; omega))
  · refine Ok.ite.2 ⟨fun hx => absurd hx (by omega), fun _ => Ok.some.2 (exit _ ?_)⟩
    unfold Z3d
    have := hE.way
    subst this
    exact Ok.some.2 (.inr ⟨rfl, a, dn, on, rfl, hE, hdv, hmo⟩)
theorem Zgr (hm : n.N = m) (hm2 : m ≤ 4096) (hl : n.Arcs.length ≤ 16384) (he : Z85 m n.Arcs) (hf : f.length = n.Arcs.length) :
    Ok (Z3j n f) (fun r => Cyc n f r ∨ (r = [] ∧ Zgl n f)) := by
  unfold Z3j
  refine Ok.bind.2 (Ok.mono (s_begin hm hm2 he hl hf) ?_)
  rintro s ⟨out, rfl, ho⟩
  simp only
  refine Ok.bind.2 (Zb8 (fun s => ∃ k : Nat, s.2.2.2.2 = k ∧ k ≤ m ∧ EI n m f out s.1 s.2.1 s.2.2.1 s.2.2.2.1 ∧ ∀ u, u < k → s.2.1.getD u false = true) (fun s => (m - s.2.2.2.2).toNat)
    ⟨0, rfl, by omega, ⟨⟨List.length_replicate, List.length_replicate, fun u hu => by rw [Z4j]; omega, fun _ => 0, 0, fun u hu hd => (by rw [Z4j] at hd; cases hd)⟩, rfl, List.length_replicate, fun u _ => Z4j .., fun u _ _ => Z4j ..⟩, fun u hu => by omega⟩ (by unfold Z51; simp only; omega) ?_)
  rintro ⟨a, dn, on, way, x⟩ ⟨k, h1, hk, hE, hdn⟩ P next exit
  simp only at h1 hE hdn next ⊢
  subst h1
  have hdl := hE.di.ld
  unfold Z46
  simp only [Int.toNat_natCast]
  refine Ok.ite.2 ⟨fun hx => ?_, fun hx => ?_⟩
  · refine Ok.gd.2 ⟨(by constructor <;> omega), Ok.ite.2 ⟨fun hd => ?_, fun hd => ?_⟩⟩
    · refine Ok.gd.2 ⟨(by constructor <;> omega), Ok.some.2 (next _ ⟨k + 1, by simp, by omega, hE, fun u hu => ?_⟩ (by simp only; omega))⟩
      rcases Nat.lt_or_ge u k with h | h
      · exact hdn u h
      · rw [show u = k by omega]; exact hd
    · have hw := hE.way
      subst hw
      refine Ok.bind.2 (Ok.mono (s_from (v := k) hm2 hl he ho hE (by omega) (Bool.eq_false_iff.2 hd)) ?_)
      rintro ⟨c, st⟩ (hc | ⟨h1, a', dn', on', h2, hE', hd', hmo⟩)
      · simp only at hc ⊢
        exact Ok.ite.2 ⟨fun _ => Ok.some.2 (exit _ (Ok.some.2 (.inl hc))), fun h => absurd (by have := hc.1; omega) h⟩
      · simp only at h1 h2 ⊢
        subst h1; subst h2
        refine Ok.ite.2 ⟨fun h => absurd h (by simp), fun _ => Ok.gd.2 ⟨(by constructor <;> omega), Ok.some.2 (next _ ⟨k + 1, by simp, by omega, hE', fun u hu => ?_⟩ (by simp only; omega))⟩⟩
        rcases Nat.lt_or_ge u k with h | h
        · exact hmo u (hdn u h)
        · rw [show u = k by omega]; exact hd'
  · refine Ok.some.2 (exit _ ?_)
    unfold Z55
    refine Ok.some.2 (.inr ⟨rfl, ?_⟩)
    obtain ⟨ρ, c, hρ⟩ := hE.di.rank
    refine ⟨ρ, fun j hj hfj => ?_⟩
    have e0 := he j hj false
    simp only [vtx, Bool.false_eq_true, if_false] at e0
    have hu : (n.Arcs.getD j default).fr.toNat < m := by omega
    exact ((hρ _ hu (hdn _ (by omega))).2 j hj hfj (by omega)).2
theorem FwithinP.vert {n : Net} {f : List Int} (h : FwithinP n f) : ∃ m : Nat, n.N = m ∧ 2 ≤ m ∧ m ≤ 4096 ∧ n.Arcs.length ≤ 16384 ∧ Z85 m n.Arcs ∧ f.length = n.Arcs.length := by
 have hz := Z8i h.1
 obtain ⟨m, hm⟩ : ∃ m : Nat, n.N = m := ⟨n.N.toNat, by omega⟩
 exact ⟨m, hm, by omega, by omega, by omega, Ze3 (by rw [← hm]; exact hz.2.2.2.1), h.2.1⟩
theorem s_Find {n : Net} {f : List Int} (hl : lenok n.Arcs.length) : Ok (Z5c n f) (fun r => (¬ FwithinP n f ∧ r = ([], 20)) ∨ (FwithinP n f ∧ r.2 = 0 ∧ Z3j n f = some r.1 ∧ (Cyc n f r.1 ∨ (r.1 = [] ∧ Zgl n f)))) := by
 unfold Z5c
 refine Ok.bind.2 (Ok.mono (Zbp hl) fun b hb => Ok.ite.2 ⟨fun h => Ok.some.2 (.inl ⟨fun h2 => (by rw [hb.2 h2] at h; cases h), rfl⟩), fun h => ?_⟩)
 have hw : FwithinP n f := hb.1 (by cases b; exact absurd rfl h; rfl)
 obtain ⟨m, hm, -, hm2, hl2, he, hfl⟩ := hw.vert
 obtain ⟨c, hc, hc2⟩ := Zgr hm hm2 hl2 he hfl
 exact Ok.bind.2 (Zbs hc (Ok.some.2 (.inr ⟨hw, rfl, hc, hc2⟩)))
end
end Go.Acq
namespace Go.Acq
open Go
set_option linter.unusedSimpArgs false
set_option linter.unusedVariables false
def Zf3 (f : List Int) : Nat → Nat
  | 0 => 0
  | k + 1 => Zf3 f k + (if 0 < f.getD k 0 then 1 else 0)
theorem Zgy (f : List Int) : ∀ k, Zf3 f k ≤ k
 | 0 => Nat.le_refl _
 | k + 1 => by have := Zgy f k; simp only [Zf3]; split <;> omega
theorem Zdw {f g : List Int} : ∀ {k : Nat}, (∀ i, i < k → g.getD i 0 ≤ f.getD i 0) → Zf3 g k ≤ Zf3 f k
 | 0, _ => Nat.le_refl _
 | k + 1, h => by
  have := Zdw (k := k) fun i hi => h i (by omega)
  have := h k (by omega)
  simp only [Zf3]; split <;> split <;> omega
theorem Zgx {f g : List Int} {a : Nat} : ∀ {k : Nat}, (∀ i, i < k → g.getD i 0 ≤ f.getD i 0) → a < k → 0 < f.getD a 0 → g.getD a 0 ≤ 0 → Zf3 g k < Zf3 f k
 | 0, _, h, _, _ => by omega
 | k + 1, h, ha, hf, hg => by
  by_cases e : a = k
  ·
   subst e
   have := Zdw (k := a) fun i hi => h i (by omega)
   simp only [Zf3]
   rw [if_neg (show ¬ 0 < g.getD a 0 by omega), if_pos hf]; omega
  ·
   have := Zgx (k := k) (fun i hi => h i (by omega)) (by omega) hf hg
   have := h k (by omega)
   simp only [Zf3]; split <;> split <;> omega
theorem Zh1 {al : List Arc} {f : List Int} {i : Nat} {y : Int} (hi : i < f.length) (v : Int) : ∀ k, ex al (f.set i y) v k = ex al f v k + if i < k then ((if (al.getD i default).to = v then y - f.getD i 0 else 0) - (if (al.getD i default).fr = v then y - f.getD i 0 else 0)) else 0
 | 0 => by simp [ex]
 | k + 1 => by
  have ih := Zh1 (al := al) hi v (y := y) k
  simp only [ex]
  rw [ih]
  by_cases e : i = k
  ·
   subst e
   rw [if_neg (show ¬ i < i by omega), if_pos (show i < i + 1 by omega), Z6m hi]
   split <;> split <;> omega
  ·
   rw [Z3s e]
   by_cases e2 : i < k
   · rw [if_pos e2, if_pos (show i < k + 1 by omega)]; omega
   · rw [if_neg e2, if_neg (show ¬ i < k + 1 by omega)]; omega
structure Canc (n : Net) (f g : List Int) : Prop where
  len : g.length = n.Arcs.length
  le : ∀ i, i < n.Arcs.length → 0 ≤ g.getD i 0 ∧ g.getD i 0 ≤ f.getD i 0
  ex : ∀ v, ex n.Arcs g v n.Arcs.length = ex n.Arcs f v n.Arcs.length
  all : ∀ a, a < n.Arcs.length → (∀ f' c, (∀ i, i < n.Arcs.length → f'.getD i 0 ≤ f.getD i 0) → Cyc n f' c → ∃ j, j < c.length ∧ c.getD j 0 = (a : Int)) → ∀ b, b < n.Arcs.length → f.getD b 0 - g.getD b 0 ≤ f.getD a 0 - g.getD a 0
theorem Canc.refl {n : Net} {f : List Int} (hl : f.length = n.Arcs.length) (h : ∀ i, i < n.Arcs.length → 0 ≤ f.getD i 0) : Canc n f f := ⟨hl, fun i hi => ⟨h i hi, Int.le_refl _⟩, fun _ => rfl, fun a _ _ b _ => by omega⟩
theorem Canc.trans {n : Net} {f g h : List Int} (h1 : Canc n f g) (h2 : Canc n g h) : Canc n f h :=
 ⟨h2.len, fun i hi => by have := h1.le i hi; have := h2.le i hi; omega, fun v => (h2.ex v).trans (h1.ex v), fun a ha hc b hb => by
  have e1 := h1.all a ha hc b hb
  have e2 := h2.all a ha (fun f' c hf' hcy => hc f' c (fun i hi => by have := hf' i hi; have := h1.le i hi; omega) hcy) b hb
  omega⟩
theorem Canc.within {n : Net} {f g : List Int} (h : Canc n f g) (hw : FwithinP n f) : FwithinP n g := ⟨hw.1, h.len, fun i hi => by have := h.le i hi; have := hw.2.2 i hi; omega⟩
section
variable {n : Net} {f c : List Int}
theorem s_least (hc : Cyc n f c) (hf : f.length = n.Arcs.length) (hl : n.Arcs.length ≤ 16384) (hcl : c.length ≤ n.Arcs.length) :
    Ok (Z2k (fun s => Z35 f c s.1 s.2) Z51 (f.getD (c.getD 0 0).toNat 0, 0)) (fun d => (∀ j, j < c.length → d ≤ f.getD (c.getD j 0).toNat 0) ∧ ∃ j, j < c.length ∧ d = f.getD (c.getD j 0).toNat 0) := by
  refine Zb8 (fun s => ∃ j : Nat, s.2 = j ∧ j ≤ c.length ∧ (∀ i, i < j → s.1 ≤ f.getD (c.getD i 0).toNat 0) ∧ ∃ i, i < c.length ∧ s.1 = f.getD (c.getD i 0).toNat 0) (fun s => (c.length - s.2).toNat) ⟨0, rfl, by omega, fun i hi => by omega, 0, hc.1, rfl⟩ (by unfold Z51; simp only; omega) ?_
  rintro ⟨d, x⟩ ⟨j, h1, hj, h2, h3⟩ P next exit
  simp only at h1 h2 h3 next ⊢
  subst h1
  unfold Z35
  simp only [Int.toNat_natCast]
  refine Ok.ite.2 ⟨fun hx => ?_, fun hx => Ok.some.2 (exit _ ⟨fun i hi => h2 i (by omega), h3⟩)⟩
  obtain ⟨k, hk, hkl, hfk, -⟩ := hc.2.1 j (by omega)
  simp only [hk]
  refine Ok.gd.2 ⟨(by constructor <;> omega), Ok.gd.2 ⟨(by constructor <;> omega), Ok.gd.2 ⟨(by constructor <;> omega), Ok.some.2 (next _ ⟨j + 1, by simp, by omega, fun i hi => ?_, ?_⟩ (by simp only; omega))⟩⟩⟩
  · simp only [Int.toNat_natCast]
    rcases Nat.lt_or_ge i j with h | h
    · have := h2 i h; omega
    · rw [show i = j by omega, hk, Int.toNat_natCast]; omega
  · simp only [Int.toNat_natCast]
    obtain ⟨i, hi, e⟩ := h3
    by_cases hle : d ≤ f.getD k 0
    · exact ⟨i, hi, by rw [Int.min_eq_left hle]; exact e⟩
    · exact ⟨j, by omega, by rw [Int.min_eq_right (by omega), hk, Int.toNat_natCast]⟩
theorem Cyc.arc_inj (hc : Cyc n f c) {i j : Nat} (hi : i < c.length) (hj : j < c.length) (h : c.getD i 0 = c.getD j 0) : i = j := hc.2.2 i j hi hj (by rw [h])
theorem Cyc.len (hc : Cyc n f c) : c.length ≤ n.Arcs.length := by
 have hnd : (c.map Int.toNat).Nodup := by
  refine List.pairwise_iff_getElem.2 fun i j hi hj hij h => ?_
  rw [List.length_map] at hi hj
  rw [List.getElem_map, List.getElem_map] at h
  obtain ⟨a, ha, -⟩ := hc.2.1 i (by omega)
  obtain ⟨b, hb, -⟩ := hc.2.1 j hj
  have e1 : c.getD i 0 = c[i] := by rw [List.getD_eq_getElem?_getD, List.getElem?_eq_getElem (by omega)]; rfl
  have e2 : c.getD j 0 = c[j] := by rw [List.getD_eq_getElem?_getD, List.getElem?_eq_getElem hj]; rfl
  have := hc.arc_inj (i := i) (j := j) (by omega) hj (by rw [ha, hb]; rw [← e1, ← e2, ha, hb, Int.toNat_natCast, Int.toNat_natCast] at h; rw [h])
  omega
 have := List.Nodup.length_le_of_subset hnd (l₂ := List.range n.Arcs.length) (fun u hu => by
  obtain ⟨x, hx, rfl⟩ := List.mem_map.1 hu
  obtain ⟨i, hi, rfl⟩ := List.getElem_of_mem hx
  obtain ⟨a, ha, hal, -⟩ := hc.2.1 i hi
  have e1 : c.getD i 0 = c[i] := by rw [List.getD_eq_getElem?_getD, List.getElem?_eq_getElem hi]; rfl
  rw [← e1, ha, Int.toNat_natCast]
  exact List.mem_range.2 hal)
 rw [List.length_map, List.length_range] at this
 exact this
theorem s_take {d : Int} (hc : Cyc n f c) (hw : FwithinP n f) (hl : n.Arcs.length ≤ 16384) (hd0 : 0 < d) (hd : ∀ j, j < c.length → d ≤ f.getD (c.getD j 0).toNat 0) :
    Ok (Z2k (fun s => Z34 c d s.1 s.2) Z51 (f, 0)) (fun g => Canc n f g ∧ ∀ j, j < c.length → g.getD (c.getD j 0).toNat 0 = f.getD (c.getD j 0).toNat 0 - d) := by
  have hcl := hc.len
  have hfl := hw.2.1
  refine Zb8 (fun s => ∃ j : Nat, s.2 = j ∧ j ≤ c.length ∧ s.1.length = n.Arcs.length ∧ (∀ i, i < n.Arcs.length → (s.1.getD i 0 = f.getD i 0 ∧ ∀ p, p < j → c.getD p 0 ≠ (i : Int)) ∨ (s.1.getD i 0 = f.getD i 0 - d ∧ ∃ p, p < j ∧ c.getD p 0 = (i : Int))) ∧
    ∀ v, ex n.Arcs s.1 v n.Arcs.length = ex n.Arcs f v n.Arcs.length + (if (n.Arcs.getD (c.getD 0 0).toNat default).fr = v then d else 0) - (if (n.Arcs.getD (c.getD (j % c.length) 0).toNat default).fr = v then d else 0))
    (fun s => (c.length - s.2).toNat) ⟨0, rfl, by omega, hfl, fun i hi => .inl ⟨rfl, fun p hp => by omega⟩, fun v => by rw [Nat.zero_mod]; simp only; omega⟩ (by unfold Z51; simp only; omega) ?_
  rintro ⟨xs, x⟩ ⟨j, h1, hj, hxl, hxs, hex⟩ P next exit
  simp only at h1 hxl hxs hex next ⊢
  subst h1
  unfold Z34
  simp only [Int.toNat_natCast]
  refine Ok.ite.2 ⟨fun hx => ?_, fun hx => ?_⟩
  · have hjl : j < c.length := by omega
    obtain ⟨k, hk, hkl, hfk, hto⟩ := hc.2.1 j hjl
    have hdk := hd j hjl
    rw [hk, Int.toNat_natCast] at hdk
    have hwk := hw.2.2 k hkl
    have ht1 := hw.tot (k + 1) (by omega)
    have ht0 := hw.tot k (by omega)
    simp only [tot] at ht1
    have hxk : xs.getD k 0 = f.getD k 0 := by
      rcases hxs k hkl with h | ⟨-, p, hp, e⟩
      · exact h.1
      · have := hc.arc_inj (i := p) (j := j) (by omega) hjl (by rw [e, hk]); omega
    simp only [hk, Int.toNat_natCast, hxk]
    refine Ok.gd.2 ⟨(by constructor <;> omega), Ok.gd.2 ⟨(by constructor <;> omega), Ok.gd.2 ⟨(by constructor <;> omega), Ok.gd.2 ⟨(by constructor <;> omega), Ok.gd.2 ⟨(by constructor <;> omega), Ok.some.2 (next _ ⟨j + 1, by simp, by omega, by simp [hxl], fun i hi => ?_, fun v => ?_⟩ (by simp only; omega))⟩⟩⟩⟩⟩
    · by_cases e : k = i
      · subst e
        exact .inr ⟨Z6m (by omega), j, by omega, hk⟩
      · simp only [Z3s e]
        rcases hxs i hi with ⟨h, h2⟩ | ⟨h, p, hp, h2⟩
        · refine .inl ⟨h, fun p hp => ?_⟩
          rcases Nat.lt_or_ge p j with h3 | h3
          · exact h2 p h3
          · rw [show p = j by omega, hk]; omega
        · exact .inr ⟨h, p, by omega, h2⟩
    · simp only
      rw [Zh1 (by omega), if_pos hkl, hex v, hxk, Nat.mod_eq_of_lt hjl, hk, Int.toNat_natCast, hto]
      split <;> split <;> split <;> omega
  · have e : j = c.length := by omega
    subst e
    refine Ok.some.2 (exit _ ⟨⟨hxl, fun i hi => ?_, fun v => ?_, fun a ha hca b hb => ?_⟩, fun p hp => ?_⟩)
    · have := hw.2.2 i hi
      rcases hxs i hi with ⟨h, -⟩ | ⟨h, p, hp, h2⟩
      · omega
      · have := hd p hp
        rw [h2, Int.toNat_natCast] at this; omega
    · rw [hex v, Nat.mod_self]; omega
    · obtain ⟨p, hp, h2⟩ := hca f c (fun i _ => Int.le_refl _) hc
      have ea : xs.getD a 0 = f.getD a 0 - d := by
        rcases hxs a ha with ⟨-, h⟩ | ⟨h, -⟩
        · exact absurd h2 (h p hp)
        · exact h
      rcases hxs b hb with ⟨h, -⟩ | ⟨h, -⟩ <;> omega
    · obtain ⟨k, hk, hkl, -⟩ := hc.2.1 p hp
      rw [hk, Int.toNat_natCast]
      rcases hxs k hkl with ⟨-, h⟩ | ⟨h, -⟩
      · exact absurd hk (h p hp)
      · exact h
theorem s_Cancel (hl : lenok n.Arcs.length) : Ok (Z48 n f) (fun r => (¬ FwithinP n f ∧ r = ([], 0, 20)) ∨
    (FwithinP n f ∧ r.2.2 = 0 ∧ Canc n f r.1 ∧ Zgl n r.1 ∧ Z3j n r.1 = some [] ∧ 0 ≤ r.2.1 ∧ r.2.1 ≤ Zf3 f n.Arcs.length ∧ (Zgl n f → r.1 = f ∧ r.2.1 = 0) ∧ (¬ Zgl n f → 0 < r.2.1))) := by
  unfold Z48
  refine Ok.bind.2 (Ok.mono (Zbp hl) fun b hb => Ok.ite.2 ⟨fun h => Ok.some.2 (.inl ⟨fun h2 => (by rw [hb.2 h2] at h; cases h), rfl⟩), fun h => ?_⟩)
  have hw : FwithinP n f := hb.1 (by cases b; exact absurd rfl h; rfl)
  obtain ⟨m, hm, -, hm2, hl2, he, hfl⟩ := hw.vert
  have hcl : Z39 f = some f := by
    refine Zer ?_
    unfold Z39
    exact Ok.gd.2 ⟨by constructor <;> omega, Ok.some.2 rfl⟩
  refine Ok.bind.2 (Zbs hcl (Ok.bind.2 ?_))
  have hpl := Zgy f n.Arcs.length
  refine Zb8 (fun s => Canc n f s.1 ∧ 0 ≤ s.2 ∧ s.2 + Zf3 s.1 n.Arcs.length ≤ Zf3 f n.Arcs.length ∧ (Zgl n f → s.1 = f ∧ s.2 = 0) ∧ (¬ Zgl n f → (s.1 = f ∧ s.2 = 0) ∨ 0 < s.2)) (fun s => Zf3 s.1 n.Arcs.length) ⟨Canc.refl hfl fun i hi => (hw.2.2 i hi).1, by simp only; omega, by simp only; omega, fun _ => ⟨rfl, rfl⟩, fun _ => .inl ⟨rfl, rfl⟩⟩ (by unfold Z51; simp only; omega) ?_
  rintro ⟨g, k⟩ ⟨hC, hk0, hk, hA, hB⟩ P next exit
  simp only at hC hk0 hk hA hB next ⊢
  have hwg := hC.within hw
  unfold Z3x
  obtain ⟨c, hc1, hc2⟩ := Zgr hm hm2 hl2 he hC.len
  refine Ok.bind.2 (Zbs hc1 (Ok.ite.2 ⟨fun hx => ?_, fun hx => ?_⟩))
  · have hcn : c = [] := List.eq_nil_of_length_eq_zero (by omega)
    subst hcn
    have hacy : Zgl n g := by
      rcases hc2 with h | h
      · have := h.1; simp at this
      · exact h.2
    refine Ok.some.2 (exit _ (Ok.some.2 (.inr ⟨hw, rfl, hC, hacy, hc1, hk0, (by show k ≤ _; omega), hA, fun h => ?_⟩)))
    rcases hB h with ⟨h1, -⟩ | h1
    · subst h1; exact absurd hacy h
    · exact h1
  · have hcy : Cyc n g c := by
      rcases hc2 with h | h
      · exact h
      · rw [h.1] at hx; exact absurd rfl hx
    have hnA : ¬ Zgl n f := fun h => by
      have := (hA h).1
      subst this
      exact hcy.not h
    have hcl := hcy.len
    obtain ⟨k0, hk0', hk0l, hk0f, -⟩ := hcy.2.1 0 hcy.1
    have hgl := hC.len
    simp only [show (0 : Int).toNat = 0 from rfl]
    refine Ok.gd.2 ⟨by have := hcy.1; constructor <;> omega, Ok.gd.2 ⟨by simp only [hk0']; constructor <;> omega, Ok.bind.2 (Ok.mono (s_least hcy hC.len hl2 hcl) ?_)⟩⟩
    rintro d ⟨hd1, p, hp, hd2⟩
    unfold Z4p
    obtain ⟨a, ha, hal, haf, -⟩ := hcy.2.1 p hp
    rw [ha, Int.toNat_natCast] at hd2
    refine Ok.bind.2 (Ok.mono (s_take hcy hwg hl2 (by omega) hd1) ?_)
    rintro g2 ⟨hC2, hg2⟩
    unfold Z4o
    have h0 := hg2 p hp
    rw [ha, Int.toNat_natCast] at h0
    have hlt := Zgx (f := g) (g := g2) (a := a) (k := n.Arcs.length) (fun i hi => (hC2.le i hi).2) hal haf (by omega)
    exact Ok.gd.2 ⟨by constructor <;> omega, Ok.some.2 (next _ ⟨hC.trans hC2, by simp only; omega, by simp only; omega, fun h => absurd h hnA, fun _ => .inr (by simp only; omega)⟩ hlt)⟩
end
end Go.Acq
namespace Go.Acq
open Go
set_option linter.unusedSimpArgs false
set_option linter.unusedVariables false
def ArcsIn (al : List Arc) : Prop := (∀ a, a ∈ al → i64ok a.fr ∧ i64ok a.to ∧ i64ok a.cap) ∧ al.length ≤ 9223372036854775807
theorem band40 (v : Int) : 0 ≤ Zh4 .i64 v 1099511627775 ∧ Zh4 .i64 v 1099511627775 ≤ 1099511627775 := by
 have h : (BitVec.ofInt (IntKind.i64.bits) v &&& BitVec.ofInt (IntKind.i64.bits) 1099511627775).toNat ≤ 1099511627775 := by
  rw [BitVec.toNat_and]
  refine Nat.le_trans Nat.and_le_right ?_
  decide
 unfold Zh4
 rw [IntKind.wrap_i64]
 omega
theorem sumL_B3 {ol : List Arc} {left : Int} (h : ∀ a, a ∈ ol → 0 ≤ a.cap ∧ a.cap ≤ 4503599627370496) (hl : (ol.length : Int) * 4503599627370496 ≤ left) : (Zds left ol).isSome = true := by
 induction ol generalizing left with
 | nil => simp [Zds]
 | cons a ol ih =>
  have ha := h a (.head _)
  simp only [List.length_cons] at hl
  simp only [Zds]
  rw [if_neg (by omega)]
  exact ih (fun b hb => h b (.tail _ hb)) (by omega)
theorem Zh3 {m : Nat} {S T : Int} {ol : List Arc} (hm : 2 ≤ m) (hm2 : m ≤ 4096) (hS : 0 ≤ S ∧ S < m) (hT : 0 ≤ T ∧ T < m) (hST : S ≠ T) (h : ∀ a, a ∈ ol → Z9v m a = true ∧ 0 ≤ a.cap ∧ a.cap ≤ 4503599627370496) (hl : ol.length ≤ 1000) : Zba m S T ol = 0 := by
 have h1 : ol.all (Z9v m) = true := List.all_eq_true.2 fun a ha => (h a ha).1
 have h2 : ol.all capB = true := List.all_eq_true.2 fun a ha => by simp [capB, (h a ha).2.1]
 have h3 : (Zds 4611686018427387904 ol).isSome = true := sumL_B3 (fun a ha => (h a ha).2) (by omega)
 unfold Zba
 rw [if_neg (by omega), if_neg (by omega), if_neg (by simp [Z4l, hS, hT, hST]), if_neg (by simp [h1]), if_neg (by simp [h2]), if_neg (by
  cases e : Zds 4611686018427387904 ol with
  | none => rw [e] at h3; cases h3
  | some x => simp)]
def UpA (k : Nat) (A : List Arc) : Prop := ∀ i, i < A.length → 0 ≤ (A.getD i default).fr ∧ (A.getD i default).fr ≤ (A.getD i default).to ∧ (A.getD i default).to < k ∧ (A.getD i default).cap = 1099511627776
def UpF (A : List Arc) (up : List Int) : Prop := up.length = A.length ∧ ∀ i, i < A.length → 0 ≤ up.getD i 0 ∧ up.getD i 0 ≤ 1099511627775 ∧ ((A.getD i default).fr = (A.getD i default).to → up.getD i 0 = 0)
structure RingA (k : Nat) (A B : List Arc) (j : Nat) : Prop where
  len : B.length = A.length + j
  old : ∀ i, i < A.length → B.getD i default = A.getD i default
  new : ∀ v, v < j → B.getD (A.length + v) default = Arc.mk (v : Int) (((v + 1) % k : Nat) : Int) 1099511627776
theorem tmodR (j l : Nat) (hl : 0 < l) : ((j : Int) + 1).tmod (l : Int) = (((j + 1) % l : Nat) : Int) := by
 rw [Int.tmod_eq_emod_of_nonneg (by omega)]
 simp
section
variable {k : Nat} {A B : List Arc} {up : List Int} {d : Int}
theorem ex_ring (hk : 2 ≤ k) (hB : RingA k A B k) (hu : up.length = A.length) {v : Nat} (hv : v < k) :
    ex B (up ++ List.replicate k d) v B.length = ex B (up ++ List.replicate k 0) v B.length := by
  have h0 : ∀ i, i ≤ A.length → ex B (up ++ List.replicate k d) v i = ex B (up ++ List.replicate k 0) v i := by
    intro i
    induction i with
    | zero => intro _; rfl
    | succ i ih =>
      intro hi
      have e1 : (up ++ List.replicate k d).getD i 0 = (up ++ List.replicate k 0).getD i 0 := by
        rw [List.getD_eq_getElem?_getD, List.getElem?_append_left (by omega), List.getD_eq_getElem?_getD, List.getElem?_append_left (by omega)]
      simp only [ex, ih (by omega), e1]
  have h1 : ∀ j, j ≤ k → ex B (up ++ List.replicate k d) v (A.length + j) = ex B (up ++ List.replicate k 0) v (A.length + j) + ((if (1 ≤ v ∧ v ≤ j) ∨ (v = 0 ∧ j = k) then d else 0) - (if v < j then d else 0)) := by
    intro j
    induction j with
    | zero =>
      intro _
      rw [if_neg (by omega), if_neg (by omega), Nat.add_zero, h0 _ (Nat.le_refl _)]; omega
    | succ j ih =>
      intro hj
      have e1 : ∀ x : Int, (up ++ List.replicate k x).getD (A.length + j) 0 = x := fun x => by
        rw [List.getD_eq_getElem?_getD, List.getElem?_append_right (by omega), hu, Nat.add_sub_cancel_left, List.getElem?_replicate, if_pos (by omega)]; rfl
      rw [← Nat.add_assoc]
      simp only [ex, ih (by omega), e1, hB.new j (by omega)]
      have e2 : ((j : Int) = (v : Int)) ↔ v = j := by omega
      by_cases hjk : j + 1 = k
      · have e3 : ((j + 1) % k : Nat) = 0 := by rw [hjk, Nat.mod_self]
        rw [e3]
        by_cases c1 : v = 0
        · subst c1
          rw [if_pos (show (((0 : Nat) : Int) = ((0 : Nat) : Int)) from rfl), if_neg (show ¬((j : Int) = ((0 : Nat) : Int)) by omega), if_neg (show ¬((1 ≤ 0 ∧ 0 ≤ j) ∨ ((0 : Nat) = 0 ∧ j = k)) by omega), if_pos (show (1 ≤ 0 ∧ 0 ≤ j + 1) ∨ ((0 : Nat) = 0 ∧ j + 1 = k) by omega)]
          simp only [if_pos (show (((0 : Nat) : Int) = ((0 : Nat) : Int)) from rfl)]
          rw [if_pos (show 0 < j by omega), if_pos (show 0 < j + 1 by omega)]
          simp; omega
        · rw [if_neg (show ¬(((0 : Nat) : Int) = (v : Int)) by omega), if_neg (show ¬(((0 : Nat) : Int) = (v : Int)) by omega)]
          by_cases c2 : v = j
          · subst c2
            rw [if_pos rfl, if_pos rfl, if_pos (show (1 ≤ v ∧ v ≤ v) ∨ (v = 0 ∧ v = k) by omega), if_pos (show (1 ≤ v ∧ v ≤ v + 1) ∨ (v = 0 ∧ v + 1 = k) by omega), if_neg (show ¬ v < v by omega), if_pos (show v < v + 1 by omega)]
            omega
          · rw [if_neg (show ¬((j : Int) = (v : Int)) by omega), if_neg (show ¬((j : Int) = (v : Int)) by omega), if_pos (show (1 ≤ v ∧ v ≤ j) ∨ (v = 0 ∧ j = k) by omega), if_pos (show (1 ≤ v ∧ v ≤ j + 1) ∨ (v = 0 ∧ j + 1 = k) by omega), if_pos (show v < j by omega), if_pos (show v < j + 1 by omega)]
            omega
      · have e3 : ((j + 1) % k : Nat) = j + 1 := Nat.mod_eq_of_lt (by omega)
        rw [e3]
        by_cases c1 : v = j + 1
        · subst c1
          rw [if_pos rfl, if_pos rfl, if_neg (show ¬((j : Int) = ((j + 1 : Nat) : Int)) by omega), if_neg (show ¬((j : Int) = ((j + 1 : Nat) : Int)) by omega), if_neg (show ¬((1 ≤ j + 1 ∧ j + 1 ≤ j) ∨ (j + 1 = 0 ∧ j = k)) by omega), if_pos (show (1 ≤ j + 1 ∧ j + 1 ≤ j + 1) ∨ (j + 1 = 0 ∧ j + 1 = k) by omega), if_neg (show ¬ j + 1 < j by omega), if_neg (show ¬ j + 1 < j + 1 by omega)]
          omega
        · rw [if_neg (show ¬(((j + 1 : Nat) : Int) = (v : Int)) by omega), if_neg (show ¬(((j + 1 : Nat) : Int) = (v : Int)) by omega)]
          by_cases c2 : v = j
          · subst c2
            rw [if_pos rfl, if_pos rfl]
            by_cases c3 : v = 0
            · subst c3
              rw [if_neg (show ¬((1 ≤ 0 ∧ 0 ≤ 0) ∨ ((0 : Nat) = 0 ∧ 0 = k)) by omega), if_neg (show ¬((1 ≤ 0 ∧ 0 ≤ 0 + 1) ∨ ((0 : Nat) = 0 ∧ 0 + 1 = k)) by omega), if_neg (show ¬ 0 < 0 by omega), if_pos (show 0 < 0 + 1 by omega)]
              omega
            · rw [if_pos (show (1 ≤ v ∧ v ≤ v) ∨ (v = 0 ∧ v = k) by omega), if_pos (show (1 ≤ v ∧ v ≤ v + 1) ∨ (v = 0 ∧ v + 1 = k) by omega), if_neg (show ¬ v < v by omega), if_pos (show v < v + 1 by omega)]
              omega
          · rw [if_neg (show ¬((j : Int) = (v : Int)) by omega), if_neg (show ¬((j : Int) = (v : Int)) by omega)]
            have c4 : ((1 ≤ v ∧ v ≤ j) ∨ (v = 0 ∧ j = k)) ↔ ((1 ≤ v ∧ v ≤ j + 1) ∨ (v = 0 ∧ j + 1 = k)) := by omega
            have c5 : v < j ↔ v < j + 1 := by omega
            simp only [c4, c5]; omega
  have h2 := h1 k (Nat.le_refl _)
  rw [hB.len, h2, if_pos (by omega), if_pos hv]
  omega
theorem Zgp (hk : 2 ≤ k) (hA : UpA k A) (hu : UpF A up) (hB : RingA k A B k) {i : Nat} (hi : i < B.length) (hl : i ≠ A.length + (k - 1)) (hf : 0 < (up ++ List.replicate k d).getD i 0) :
    0 ≤ (B.getD i default).fr ∧ (B.getD i default).fr < (B.getD i default).to ∧ (B.getD i default).to < k := by
  have hBl := hB.len
  rcases Nat.lt_or_ge i A.length with h | h
  · rw [List.getD_eq_getElem?_getD, List.getElem?_append_left (by rw [hu.1]; exact h), ← List.getD_eq_getElem?_getD] at hf
    have h1 := hA i h
    have h2 := (hu.2 i h).2.2
    rw [hB.old i h]
    refine ⟨h1.1, ?_, h1.2.2.1⟩
    rcases Int.lt_or_eq_of_le h1.2.1 with h3 | h3
    · exact h3
    · have := h2 h3; omega
  · obtain ⟨v, rfl⟩ : ∃ v, i = A.length + v := ⟨i - A.length, by omega⟩
    rw [hB.new v (by omega), Nat.mod_eq_of_lt (show v + 1 < k by omega)]
    simp only
    omega
theorem Zgv {N : Net} {f' c : List Int} (hN : N.Arcs = B) (hk : 2 ≤ k) (hA : UpA k A) (hu : UpF A up) (hB : RingA k A B k) (hle : ∀ i, i < N.Arcs.length → f'.getD i 0 ≤ (up ++ List.replicate k d).getD i 0) (hc : Cyc N f' c) :
    ∃ j, j < c.length ∧ c.getD j 0 = ((A.length + (k - 1) : Nat) : Int) := by
  apply Classical.byContradiction
  intro hno
  have hBl := hB.len
  have hac : Zgl N (f'.set (A.length + (k - 1)) 0) := by
    refine ⟨fun v => k - v, fun i hi hf => ?_⟩
    have hne : i ≠ A.length + (k - 1) := by
      rintro rfl
      rw [Zem] at hf
      split at hf
      · omega
      · rename_i h
        have hf' : f'.getD (A.length + (k - 1)) 0 = 0 := by
          rw [List.getD_eq_getElem?_getD, List.getElem?_eq_none (by
            rcases Nat.lt_or_ge (A.length + (k - 1)) f'.length with h2 | h2
            · exact absurd ⟨rfl, h2⟩ h
            · exact h2)]; rfl
        omega
    rw [Z3s (Ne.symm hne)] at hf
    have h1 := hle i hi
    rw [hN] at hi ⊢
    have h2 := Zgp (d := d) hk hA hu hB hi hne (by omega)
    show k - (B.getD i default).to.toNat < k - (B.getD i default).fr.toNat
    omega
  refine Cyc.not (c := c) ⟨hc.1, fun j hj => ?_, hc.2.2⟩ hac
  obtain ⟨i, h1, h2, h3, h4⟩ := hc.2.1 j hj
  refine ⟨i, h1, h2, ?_, h4⟩
  rw [Z3s (fun e => hno ⟨j, hj, by rw [h1, e]⟩)]
  exact h3
theorem Zf2 {N : Net} {g : List Int} (hN : N.Arcs = B) (hk : 2 ≤ k) (hB : RingA k A B k) (hg : ∀ v, v < k → 0 < g.getD (A.length + v) 0) : ¬ Zgl N g := by
 rintro ⟨ρ, hρ⟩
 have hBl := hB.len
 have hs : ∀ v, v < k → ρ ((v + 1) % k) < ρ v := fun v hv => by
  have := hρ (A.length + v) (by rw [hN]; omega) (hg v hv)
  rw [hN, hB.new v hv] at this
  simp only [Int.toNat_natCast] at this
  exact this
 have key : ∀ v, v < k → ρ v + v ≤ ρ 0 := by
  intro v
  induction v with
  | zero => intro _; omega
  | succ v ih =>
   intro hv
   have h1 := ih (by omega)
   have h2 := hs v (by omega)
   rw [Nat.mod_eq_of_lt hv] at h2
   omega
 have h1 := key (k - 1) (by omega)
 have h2 := hs (k - 1) (by omega)
 rw [show k - 1 + 1 = k by omega, Nat.mod_self] at h2
 omega
theorem s_arcs {arcs : List Arc} {many : Int} (hm : 3 + many.tmod 10 = (k : Int)) (hk : k ≤ 12) (hk3 : 3 ≤ k) (ha : ArcsIn arcs) :
    Ok (Z2k (fun s => Z1e many arcs s.1 s.2) Z51 ([], 0)) (fun A => UpA k A ∧ A.length ≤ 20) := by
  have hl : (arcs.take (min (arcs.length : Int) 20).toNat).length ≤ 20 := by rw [List.length_take]; omega
  refine Zb8 (fun s => ∃ i : Nat, s.2 = i ∧ i ≤ (arcs.take (min (arcs.length : Int) 20).toNat).length ∧ s.1.length = i ∧ UpA k s.1) (fun s => ((arcs.take (min (arcs.length : Int) 20).toNat).length - s.2).toNat) ⟨0, rfl, by omega, rfl, fun i hi => by simp at hi⟩ (by unfold Z51; simp only; omega) ?_
  rintro ⟨A, x⟩ ⟨i, h1, hi, hAl, hA⟩ P next exit
  simp only at h1 hAl hA next ⊢
  subst h1
  unfold Z1e
  rw [hm]
  refine Ok.ite.2 ⟨fun hx => ?_, fun hx => Ok.some.2 (exit _ ⟨hA, by omega⟩)⟩
  refine Ok.gd.2 ⟨(by constructor <;> omega), Ok.bind.2 (Zbs (Zgt (by omega)) (Ok.bind.2 (Zbs (Zgt (by omega)) ?_)))⟩
  generalize hu : ((arcs.take (min (arcs.length : Int) 20).toNat).getD (i : Int).toNat default).fr = u
  generalize hv : ((arcs.take (min (arcs.length : Int) 20).toNat).getD (i : Int).toNat default).to = v
  have r1 := Zby (x := u) (n := (k : Int)) (by omega)
  have r2 := Zby (x := v) (n := (k : Int)) (by omega)
  refine Ok.gd.2 ⟨by rw [List.length_append]; simp only [List.length_singleton]; constructor <;> omega, Ok.gd.2 ⟨(by constructor <;> omega), Ok.some.2 (next _ ⟨i + 1, by simp, by omega, by simp [hAl], fun q hq => ?_⟩ (by simp only; omega))⟩⟩
  simp only [List.length_append, List.length_singleton] at hq
  rcases Nat.lt_or_ge q A.length with h | h
  · simp only [appL h]; exact hA q h
  · simp only [appR h, show q - A.length = 0 by omega, List.getD_cons_zero]
    refine ⟨by omega, by omega, by omega, trivial⟩
theorem s_up {l : List Int} (hl : RowIn l) (hA : A.length ≤ 20) : Ok (Z2k (fun s => Z1d l A s.1 s.2) Z51 ([], 0)) (fun up => UpF A up) := by
 refine Zb8 (fun s => ∃ i : Nat, s.2 = i ∧ i ≤ A.length ∧ s.1.length = i ∧ ∀ q, q < i → 0 ≤ s.1.getD q 0 ∧ s.1.getD q 0 ≤ 1099511627775 ∧ ((A.getD q default).fr = (A.getD q default).to → s.1.getD q 0 = 0)) (fun s => (A.length - s.2).toNat) ⟨0, rfl, by omega, rfl, fun i hi => by omega⟩ (by unfold Z51; simp only; omega) ?_
 rintro ⟨up, x⟩ ⟨i, h1, hi, hul, hu⟩ P next exit
 simp only at h1 hul hu next ⊢
 subst h1
 unfold Z1d
 refine Ok.ite.2 ⟨fun hx => ?_, fun hx => Ok.some.2 (exit _ ⟨by omega, fun q hq => hu q (by omega)⟩)⟩
 have hput : ∀ y : Int, 0 ≤ y → y ≤ 1099511627775 → ((A.getD i default).fr = (A.getD i default).to → y = 0) → P (.inl (up ++ [y], (i : Int) + 1)) := fun y y0 y1 y2 => by
  refine next _ ⟨i + 1, by simp, by omega, by simp [hul], fun q hq => ?_⟩ (by simp only; omega)
  rcases Nat.lt_or_ge q i with h | h
  · simp only [appL (show q < up.length by omega)]; exact hu q h
  ·
   have : q = i := by omega
   subst this
   simp only [appR (show up.length ≤ q by omega), show q - up.length = 0 by omega, List.getD_cons_zero]
   exact ⟨y0, y1, y2⟩
 have hj : ∀ b : Bool, (b = true → (i : Int) < l.length ∧ (A.getD i default).fr ≠ (A.getD i default).to) → Ok (Z1f l up i b) P := fun b hb => by
  unfold Z1f
  simp only [Int.toNat_natCast]
  refine Ok.ite.2 ⟨fun h => ?_, fun h => ?_⟩
  ·
   obtain ⟨b1, b2⟩ := hb h
   have := band40 (l.getD i 0)
   exact Ok.gd.2 ⟨(by constructor <;> omega), Ok.gd.2 ⟨by rw [List.length_append]; simp only [List.length_singleton]; constructor <;> omega, Ok.gd.2 ⟨(by constructor <;> omega), Ok.some.2 (hput _ this.1 this.2 (fun e => absurd e b2))⟩⟩⟩
  · exact Ok.gd.2 ⟨by rw [List.length_append]; simp only [List.length_singleton]; constructor <;> omega, Ok.gd.2 ⟨(by constructor <;> omega), Ok.some.2 (hput _ (Int.le_refl _) (by omega) (fun _ => rfl))⟩⟩
 refine Ok.gd.2 ⟨(by constructor <;> omega), Ok.ite.2 ⟨fun h => hj _ (fun hb => ⟨h, by rw [Int.toNat_natCast] at hb; exact of_decide_eq_true hb⟩), fun h => hj _ (fun hb => by cases hb)⟩⟩
theorem s_ring {many : Int} (hm : 3 + many.tmod 10 = (k : Int)) (hk : k ≤ 12) (hk3 : 3 ≤ k) (hA : A.length ≤ 20) (hu : up.length = A.length) (hd : u32ok d) :
    Ok (Z2k (fun s => Z1c many d s.1 s.2.1 s.2.2) Z51 (A, up, 0)) (fun r => RingA k A r.1 k ∧ r.2 = up ++ List.replicate k d) := by
  refine Zb8 (fun s => ∃ j : Nat, s.2.2 = j ∧ j ≤ k ∧ RingA k A s.1 j ∧ s.2.1 = up ++ List.replicate j d) (fun s => (k - s.2.2).toNat) ⟨0, rfl, by omega, ⟨rfl, fun _ _ => rfl, fun v hv => by omega⟩, by simp⟩ (by unfold Z51; simp only; omega) ?_
  rintro ⟨B, f, x⟩ ⟨j, h1, hj, hB, hf⟩ P next exit
  simp only at h1 hB hf next ⊢
  subst h1; subst hf
  have hBl := hB.len
  have hd0 : 0 ≤ d ∧ d ≤ 4294967295 := hd
  unfold Z1c
  simp only [hm, tmodR j k (by omega)]
  refine Ok.ite.2 ⟨fun hx => ?_, fun hx => Ok.some.2 (exit _ ⟨by rw [show k = j by omega] at hB ⊢; exact hB, by rw [show j = k by omega]⟩)⟩
  refine Ok.gd.2 ⟨(by constructor <;> omega), Ok.gd.2 ⟨(by omega), Ok.gd.2 ⟨by rw [List.length_append]; simp only [List.length_singleton]; constructor <;> omega, Ok.gd.2 ⟨(by constructor <;> omega), Ok.gd.2 ⟨by simp only [List.length_append, List.length_replicate, List.length_singleton]; constructor <;> omega, Ok.gd.2 ⟨(by constructor <;> omega), Ok.some.2 (next _ ⟨j + 1, by simp, by omega, ⟨by simp only [List.length_append, List.length_singleton]; omega, fun i hi => ?_, fun v hv => ?_⟩, ?_⟩ (by simp only; omega))⟩⟩⟩⟩⟩⟩
  · simp only [appL (show i < B.length by omega)]; exact hB.old i hi
  · rcases Nat.lt_or_ge v j with h | h
    · simp only [appL (show A.length + v < B.length by omega)]; exact hB.new v h
    · have : v = j := by omega
      subst this
      simp only [appR (show B.length ≤ A.length + v by omega), show A.length + v - B.length = 0 by omega, List.getD_cons_zero]
  · rw [List.replicate_succ', List.append_assoc]
end
theorem p_CyclesRound {many : Int} {arcs : List Arc} {l : List Int} {d : Int} (hm : u8ok many) (ha : ArcsIn arcs) (hl : RowIn l) (hd : u32ok d) : Z2s many arcs l d = some true := by
 refine Zer ?_
 have hm0 : 0 ≤ many ∧ many ≤ 255 := hm
 have hd0 : 0 ≤ d ∧ d ≤ 4294967295 := hd
 have hmod : many.tmod 10 = many % 10 := Int.tmod_eq_emod_of_nonneg hm0.1
 obtain ⟨k, hk⟩ : ∃ k : Nat, 3 + many.tmod 10 = (k : Int) := ⟨(3 + many.tmod 10).toNat, by omega⟩
 have hk3 : 3 ≤ k := by omega
 have hk12 : k ≤ 12 := by omega
 unfold Z2s
 refine Ok.gd.2 ⟨by constructor <;> omega, Ok.gd.2 ⟨by constructor <;> omega, Ok.gd.2 ⟨by constructor <;> omega, Ok.gd.2 ⟨by omega, Ok.bind.2 (Ok.mono (s_arcs hk hk12 hk3 ha) ?_)⟩⟩⟩⟩
 rintro A ⟨hA, hA20⟩
 unfold Z2g
 refine Ok.bind.2 (Ok.mono (s_up hl hA20) fun up hu => ?_)
 have hul := hu.1
 unfold Z2f
 refine Ok.gd.2 ⟨by constructor <;> omega, Ok.bind.2 (Ok.mono (s_ring hk hk12 hk3 hA20 hul hd) ?_)⟩
 rintro ⟨B, F⟩ ⟨hB, hF⟩
 simp only at hB hF ⊢
 have hBl := hB.len
 unfold Z2e
 obtain ⟨N, hN⟩ : ∃ N : Net, N = Net.mk (3 + many.tmod 10) 0 ((3 + many.tmod 10) - 1) B := ⟨_, rfl⟩
 rw [← hN]
 have hNA : N.Arcs = B := by rw [hN]
 have hNN : N.N = k := by rw [hN]; exact hk
 have hFl : F.length = A.length + k := by rw [hF, List.length_append, List.length_replicate, hul]
 have hchk : Zba N.N N.S N.T N.Arcs = 0 := by
  rw [hN]
  simp only
  rw [hk]
  refine Zh3 (by omega) (by omega) (by omega) (by omega) (by omega) (fun b hb => ?_) (by omega)
  obtain ⟨i, hi, e⟩ := List.getElem_of_mem hb
  have e : B.getD i default = b := by rw [List.getD_eq_getElem?_getD, List.getElem?_eq_getElem hi]; exact e
  rcases Nat.lt_or_ge i A.length with h | h
  ·
   have h1 := hA i h
   rw [hB.old i h] at e
   rw [e] at h1
   refine ⟨by simp [Z9v, Z4l]; omega, by omega, by omega⟩
  ·
   rw [show i = A.length + (i - A.length) by omega, hB.new (i - A.length) (by omega)] at e
   have := Nat.mod_lt (i - A.length + 1) (show 0 < k by omega)
   subst e
   refine ⟨by simp only [Z9v, Z4l, Bool.and_eq_true, decide_eq_true_eq]; omega, by show (0 : Int) ≤ 1099511627776; omega, by show (1099511627776 : Int) ≤ _; omega⟩
 have hcap : ∀ i, i < N.Arcs.length → (N.Arcs.getD i default).cap = 1099511627776 := fun i hi => by
  rw [hNA] at hi ⊢
  rcases Nat.lt_or_ge i A.length with h | h
  · rw [hB.old i h]; exact (hA i h).2.2.2
  · rw [show i = A.length + (i - A.length) by omega, hB.new (i - A.length) (by omega)]
 have hwith : ∀ y : Int, 0 ≤ y → y ≤ 4294967295 → FwithinP N (up ++ List.replicate k y) := fun y y0 y1 => by
  refine ⟨hchk, by rw [List.length_append, List.length_replicate, hul, hNA, hBl], fun i hi => ?_⟩
  rw [hcap i hi]
  rw [hNA] at hi
  rcases Nat.lt_or_ge i A.length with h | h
  ·
   rw [appL (by omega)]
   have := hu.2 i h
   omega
  ·
   rw [appR (by omega), List.getD_eq_getElem?_getD, List.getElem?_replicate, if_pos (by omega)]
   simp only [Option.getD_some]; omega
 have hFw : FwithinP N F := by rw [hF]; exact hwith d hd0.1 hd0.2
 have hUw := hwith 0 (by omega) (by omega)
 have hll : lenok N.Arcs.length := by rw [hNA]; omega
 have hFring : ∀ v, v < k → F.getD (A.length + v) 0 = d := fun v hv => by
  rw [hF, appR (by omega), List.getD_eq_getElem?_getD, List.getElem?_replicate, if_pos (by omega)]; rfl
 have hacy : Zgl N F ↔ ¬ 0 < d := by
  constructor
  ·
   intro h hd1
   exact Zf2 hNA (by omega) hB (fun v hv => by rw [hFring v hv]; exact hd1) h
  ·
   intro hd1
   refine ⟨fun v => k - v, fun i hi hf => ?_⟩
   rw [hNA] at hi ⊢
   have hne : i ≠ A.length + (k - 1) := by
    rintro rfl
    rw [hFring (k - 1) (by omega)] at hf
    exact hd1 hf
   rw [hF] at hf
   have h2 := Zgp (d := d) (by omega) hA hu hB hi hne hf
   show k - (B.getD i default).to.toNat < k - (B.getD i default).fr.toNat
   omega
 refine Ok.bind.2 (Ok.mono (s_Find hll) ?_)
 rintro ⟨c, e1⟩ (⟨h, -⟩ | ⟨-, h1, -, h2⟩)
 · exact absurd hFw h
 simp only at h1 h2 ⊢
 subst h1
 refine Ok.bind.2 (Ok.mono (s_Cancel hll) ?_)
 rintro ⟨g, times, e2⟩ (⟨h, -⟩ | ⟨-, h3, hC, hAg, -, ht0, -, h4, h5⟩)
 · exact absurd hFw h
 simp only at h3 hC hAg ht0 h4 h5 ⊢
 subst h3
 have hgl := hC.len
 rw [hNA] at hgl
 have hgw := hC.within hFw
 have hcd : decide (0 < (c.length : Int)) = decide (0 < d) := by
  rcases h2 with h | ⟨h, hA2⟩
  ·
   have := h.1
   have : 0 < d := Classical.byContradiction fun hn => h.not (hacy.2 hn)
   rw [decide_eq_true (by omega), decide_eq_true this]
  ·
   subst h
   rw [decide_eq_false (by simp), decide_eq_false (hacy.1 hA2)]
 have htd : decide (0 < times) = decide (0 < d) := by
  by_cases hd1 : 0 < d
  · rw [decide_eq_true (h5 fun h => hacy.1 h hd1), decide_eq_true hd1]
  ·
   have := (h4 (hacy.2 hd1)).2
   rw [decide_eq_false (by omega), decide_eq_false hd1]
 have hglast : g.getD (A.length + (k - 1)) 0 = 0 := by
  apply Classical.byContradiction
  intro hne
  have hla : A.length + (k - 1) < N.Arcs.length := by rw [hNA]; omega
  have h6 := hC.le _ hla
  refine Zf2 hNA (by omega) hB (fun v hv => ?_) hAg
  have h7 := hC.all _ hla (fun f' c hle hcy => Zgv (d := d) hNA (by omega) hA hu hB (fun i hi => by rw [← hF]; exact hle i hi) hcy) (A.length + v) (by rw [hNA]; omega)
  rw [hFring v hv, hFring (k - 1) (by omega)] at h7
  omega
 refine Ok.ite.2 ⟨fun h => absurd rfl h, fun _ => ?_⟩
 unfold Z1y
 refine Ok.ite.2 ⟨fun h => by simp at h, fun _ => ?_⟩
 unfold Z1x
 refine Ok.ite.2 ⟨fun h => (by rw [hcd] at h; simp at h), fun _ => ?_⟩
 unfold Z1v
 refine Ok.ite.2 ⟨fun h => (by rw [htd] at h; simp at h), fun _ => ?_⟩
 unfold Z1u
 rw [← hN]
 refine Ok.ite.2 ⟨fun h => absurd (show (g.length : Int) = F.length by omega) (of_decide_eq_true h), fun _ => Ok.gd.2 ⟨by constructor <;> omega, Ok.gd.2 ⟨by rw [hk]; constructor; omega; constructor <;> omega, ?_⟩⟩⟩
 rw [hk, Int.toNat_natCast]
 refine Ok.bind.2 (Ok.mono (Zf0 hll) ?_)
 rintro ⟨xs, e3⟩ (⟨-, h6, hxl, hx⟩ | ⟨h, -⟩)
 rotate_left
 · exact absurd hUw h
 refine Ok.bind.2 (Ok.mono (Zf0 hll) ?_)
 rintro ⟨ys, e4⟩ (⟨-, h7, hyl, hy⟩ | ⟨h, -⟩)
 rotate_left
 · exact absurd hgw h
 simp only at h6 hxl hx h7 hyl hy ⊢
 subst h6; subst h7
 rw [hNN, Int.toNat_natCast] at hxl hx hyl hy
 have hxy : xs = ys := Zcn 0 (by rw [hxl, hyl]) fun i hi => by
  rw [hxl] at hi
  rw [hx i hi, hy i hi, hC.ex, hNA, hF]
  exact (ex_ring (by omega) hB hul hi).symm
 subst hxy
 refine Ok.ite.2 ⟨fun _ => ?_, fun h => absurd rfl h⟩
 unfold Z1t
 refine Ok.ite.2 ⟨fun _ => Ok.bind.2 (Zbs (Zgs (by omega)) ?_), fun h => absurd (by simp) h⟩
 unfold Z1s
 refine Ok.ite.2 ⟨fun _ => ?_, fun h => absurd (by simp) h⟩
 have hgi : ((g.length : Int) - 1).toNat = A.length + (k - 1) := by omega
 simp only [hgi, hglast]
 refine Ok.gd.2 ⟨by constructor <;> omega, Ok.gd.2 ⟨by constructor <;> omega, ?_⟩⟩
 have hend : ∀ b, b = true → Ok (Z17 b) (fun b => b = true) := by
  rintro _ rfl
  unfold Z17 Z1q
  refine Ok.ite.2 ⟨fun _ => Ok.bind.2 (Zbs aw22 ?_), fun h => absurd rfl h⟩
  unfold Z1p
  exact Ok.some.2 rfl
 unfold Z1r
 refine Ok.ite.2 ⟨fun _ => Ok.ite.2 ⟨fun _ => hend _ rfl, fun hd1 => Ok.bind.2 (Zbs (Zgs (by omega)) (hend _ ?_))⟩, fun h => absurd (by simp) h⟩
 rw [(h4 (hacy.2 hd1)).1]; simp
end Go.Acq
