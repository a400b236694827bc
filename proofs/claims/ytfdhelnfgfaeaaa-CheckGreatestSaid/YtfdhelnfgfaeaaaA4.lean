/- Texts of this claim, one behind the other. -/
import Derived.Test.YtfdhelnfgfaeaaaA1
import Derived.Test.YtfdhelnfgfaeaaaA2
import Derived.Test.YtfdhelnfgfaeaaaA3
set_option linter.unusedVariables false
set_option linter.unusedSimpArgs false
namespace Go.Proofs.Ytfdhelnfgfaeaaa.Ax
open Go Go.Acq Go.RowKit Go.Proofs
set_option linter.unusedVariables false
set_option linter.unusedSimpArgs false
set_option maxHeartbeats 8000000
set_option maxRecDepth 20000
theorem Z9g : Zdq Try.prog 139 2 = true := by kernel_rfl
theorem Z1k : Zdq Try.prog 24 4 = true := by kernel_rfl
theorem Ze9 : Zdq Try.prog 35 3 = true := by kernel_rfl
theorem Zhf : Zdq Try.prog 64 9 = true := by kernel_rfl
theorem Zk1 : Z7k Try.prog 2 = some 8 := by kernel_rfl
theorem Z98 : Z0t Try.prog 18 = true := by kernel_rfl
theorem Z3g : Z0t Try.prog 19 = true := by kernel_rfl
theorem Znv : Z0t Try.prog 32 = true := by kernel_rfl
theorem Znu : Z0t Try.prog 34 = true := by kernel_rfl
theorem Znt : Z0t Try.prog 42 = true := by kernel_rfl
theorem Zns : Z0t Try.prog 48 = true := by kernel_rfl
theorem Zhe : Z0t Try.prog 52 = true := by kernel_rfl
theorem Znr : Z0t Try.prog 72 = true := by kernel_rfl
theorem Znq : Z0t Try.prog 86 = true := by kernel_rfl
theorem Znp : Z0t Try.prog 87 = true := by kernel_rfl
theorem Zno : Z0t Try.prog 88 = true := by kernel_rfl
theorem Znn : Z0t Try.prog 89 = true := by kernel_rfl
theorem Znm : Z0t Try.prog 90 = true := by kernel_rfl
theorem Z7o : Z1h Try.prog 139 0 = some 0 := by kernel_rfl
theorem Z7n : Z1h Try.prog 139 1 = some 1 := by kernel_rfl
theorem Zep : Z1h Try.prog 24 0 = some 0 := by kernel_rfl
theorem Z68 : Z1h Try.prog 24 1 = some 1 := by kernel_rfl
theorem Zc4 : Z1h Try.prog 24 2 = some 2 := by kernel_rfl
theorem Z8k : Z1h Try.prog 24 3 = some 3 := by kernel_rfl
theorem Zc3 : Z1h Try.prog 35 0 = some 0 := by kernel_rfl
theorem Zeo : Z1h Try.prog 35 1 = some 1 := by kernel_rfl
theorem Zen : Z1h Try.prog 35 2 = some 2 := by kernel_rfl
theorem Zem : Z1h Try.prog 64 7 = some 7 := by kernel_rfl
theorem Zk0 : Z1h Try.prog 64 8 = some 8 := by kernel_rfl
theorem Z2j : Z1h Try.prog 96 0 = some 0 := by kernel_rfl
theorem Z67 : Z1h Try.prog 96 1 = some 4 := by kernel_rfl
theorem Z66 : Z1h Try.prog 96 2 = some 5 := by kernel_rfl
theorem Z7a : Z1h Try.prog 96 3 = some 6 := by kernel_rfl
theorem Z70 : Z1s Try.prog 140 = some 139 := by kernel_rfl
theorem Z6h : Z1s Try.prog 22 = some 35 := by kernel_rfl
theorem Z0y : Z1s Try.prog 26 = some 2 := by kernel_rfl
theorem Z56 : Z1s Try.prog 29 = some 4 := by kernel_rfl
theorem Z97 : Z1s Try.prog 40 = some 3 := by kernel_rfl
theorem Z4j : Z1u Try.prog 139 = some 2 := by kernel_rfl
theorem Z13 : Z1u Try.prog 2 = some 1 := by kernel_rfl
theorem Znl : Z1u Try.prog 24 = some 4 := by kernel_rfl
theorem Znk : Z1u Try.prog 26 = some 1 := by kernel_rfl
theorem Zdv : Z1u Try.prog 3 = some 1 := by kernel_rfl
theorem Z83 : Z1u Try.prog 35 = some 3 := by kernel_rfl
theorem Z6n : Z1u Try.prog 4 = some 1 := by kernel_rfl
theorem Znj : Z1u Try.prog 64 = some 9 := by kernel_rfl
theorem Z4i : Z31 Try.prog 2 = true := by kernel_rfl
theorem Zal : Z31 Try.prog 22 = true := by kernel_rfl
theorem Z4n : Z31 Try.prog 26 = true := by kernel_rfl
theorem Z79 : Z31 Try.prog 29 = true := by kernel_rfl
theorem Z2v : Z31 Try.prog 3 = true := by kernel_rfl
theorem Zak : Z31 Try.prog 30 = true := by kernel_rfl
theorem Zaj : Z31 Try.prog 37 = true := by kernel_rfl
theorem Z9f : Z31 Try.prog 4 = true := by kernel_rfl
theorem Zhd : Z31 Try.prog 40 = true := by kernel_rfl
theorem Z82 : Z4k Try.prog 139 = some (.agg #[.nilFunc, .int .i64 0]) := by kernel_rfl
theorem Z2c : Z4k Try.prog 2 = some (.int .i64 0) := by kernel_rfl
theorem Zni : Z4k Try.prog 24 = some (.agg #[.int .i64 0, .int .i64 0, .int .i64 0, .slice none 0 0]) := by kernel_rfl
theorem Zcg : Z4k Try.prog 35 = some (.agg #[.int .i64 0, .int .i64 0, .int .i64 0]) := by kernel_rfl
theorem Zg1 : Z4k Try.prog 4 = some (.bool false) := by kernel_rfl
theorem Znh : Z4k Try.prog 64 = some (.agg #[.int .i64 0, .int .i64 0, .int .i64 0, .slice none 0 0, .slice none 0 0, .slice none 0 0, .slice none 0 0, .slice none 0 0, .slice none 0 0]) := by kernel_rfl
theorem Zng : ElemT Try.prog 26 2 1 8 (.int .i64 0) := ⟨Z0y, Z13, Zk1, Z2c, rfl⟩
theorem Zcz {a0 : CheckAnswer} {a0_k : Nat} {a0f0f3_b : Option Addr} {a0f0f3_n : Nat} {a0f0f3_c : Nat} {a0f1_b : Option Addr} {a0f1_n : Nat} {a0f1_c : Nat} {a0f2_b : Option Addr} {a0f2_n : Nat} {a0f2_c : Nat} {a0f3_b : Option Addr} {a0f3_n : Nat} {a0f3_c : Nat} (w : World) (h_a0f0f3 : RS w [] Z4g 3 a0f0f3_b a0f0f3_n a0f0f3_c a0.Net.Arcs) (h_a0f1 : RS w [] (intC .i64) 1 a0f1_b a0f1_n a0f1_c a0.f) (h_a0f2 : RS w [] boolC 1 a0f2_b a0f2_n a0f2_c a0.s) (h_a0f3 : RS w [] (intC .i64) 1 a0f3_b a0f3_n a0f3_c a0.out) (h_a0_k : HB w [] a0_k [.int .i64 a0.Net.N, .int .i64 a0.Net.S, .int .i64 a0.Net.T, .slice a0f0f3_b a0f0f3_n a0f0f3_c, .slice a0f1_b a0f1_n a0f1_c, .slice a0f2_b a0f2_n a0f2_c, .slice a0f3_b a0f3_n a0f3_c]) {r0 : Bool} (H : Z5d a0 = some r0) : Fnc Try.prog 86 #[.pointer (some ⟨a0_k, 0, none⟩)] w [] (fun v N => v = .bool r0 ∧ N = []) := by
 unfold Z5d at H; refine Fnc.enter (vs := [.pointer (some ⟨a0_k, 0, none⟩)]) Try.func86 rfl rfl (Inv.refl w) ?_; refine Z0b ?_; refine Z03 (ll := [0]) rfl ?_; refine Z06 rfl rfl rfl rfl ?_; refine Z02 ?_; refine Z01 ?_; refine Z0b ?_; rcases Z0g H with ⟨g1, H⟩ | ⟨g1, H⟩
 · refine Z3q 23 [0, 1, 2, 3, 4, 5, 6, 7, 8, 9, 10, 11, 12, 13, 14, 15, 16, 17, 18, 19, 20, 21, 22] rfl Z4y (by kernel_rfl) (by kernel_rfl) rfl (by kernel_rfl) ?_; refine TQ.move rfl rfl rfl rfl ?_; refine TQ.nilCheck rfl rfl rfl rfl ?_; refine Z0i rfl rfl rfl rfl Z67 ?_; refine Z42 h_a0_k rfl rfl rfl rfl rfl Z4n ?_; refine Zg3 (xs := a0.f) h_a0f1.len rfl rfl rfl rfl rfl Z0y ?_; refine TQ.move rfl rfl rfl rfl ?_; refine TQ.nilCheck rfl rfl rfl rfl ?_; refine Z0i rfl rfl rfl rfl Z2j ?_; refine Z0i rfl rfl rfl rfl Z8k ?_; refine Z42 h_a0_k rfl rfl rfl rfl rfl Zal ?_; refine Zg3 (xs := a0.Net.Arcs) h_a0f0f3.len rfl rfl rfl rfl rfl Z6h ?_; refine Z9x rfl rfl rfl rfl rfl rfl ?_; refine TQ.move rfl rfl rfl rfl ?_; refine Z4x (t := 15) (b' := true) rfl (decide_eq_true g1) ?_; refine TQ.move rfl rfl rfl rfl ?_; refine TQ.nilCheck rfl rfl rfl rfl ?_; refine Z0i rfl rfl rfl rfl Z66 ?_; refine Z42 h_a0_k rfl rfl rfl rfl rfl Z79 ?_; refine Zg3 (xs := a0.s) h_a0f2.len rfl rfl rfl rfl rfl Z56 ?_; refine TQ.move rfl rfl rfl rfl ?_; refine TQ.nilCheck rfl rfl rfl rfl ?_; refine Z0i rfl rfl rfl rfl Z2j ?_; refine Z0i rfl rfl rfl rfl Zep ?_; refine Z42 h_a0_k rfl rfl rfl rfl rfl Z2v ?_; refine TQ.tail [23, 24, 25] rfl rfl ?_; refine Z0r rfl rfl rfl rfl rfl rfl ?_; refine Z0w rfl rfl rfl rfl rfl ?_; refine Z06 rfl rfl rfl rfl ?_; refine Z02 ?_; refine Z01 ?_; refine Z0k (Z00 (t := 2) rfl Z08) ?_; refine T.ret ?_; obtain rfl := ret1 H; exact Z10 rfl rfl rfl rfl (Res.tmp rfl) Z09 ⟨rfl, rfl⟩
 · refine Z3q 23 [0, 1, 2, 3, 4, 5, 6, 7, 8, 9, 10, 11, 12, 13, 14, 15, 16, 17, 18, 19, 20, 21, 22] rfl Z4y (by kernel_rfl) (by kernel_rfl) rfl (by kernel_rfl) ?_; refine TQ.move rfl rfl rfl rfl ?_; refine TQ.nilCheck rfl rfl rfl rfl ?_; refine Z0i rfl rfl rfl rfl Z67 ?_; refine Z42 h_a0_k rfl rfl rfl rfl rfl Z4n ?_; refine Zg3 (xs := a0.f) h_a0f1.len rfl rfl rfl rfl rfl Z0y ?_; refine TQ.move rfl rfl rfl rfl ?_; refine TQ.nilCheck rfl rfl rfl rfl ?_; refine Z0i rfl rfl rfl rfl Z2j ?_; refine Z0i rfl rfl rfl rfl Z8k ?_; refine Z42 h_a0_k rfl rfl rfl rfl rfl Zal ?_; refine Zg3 (xs := a0.Net.Arcs) h_a0f0f3.len rfl rfl rfl rfl rfl Z6h ?_; refine Z9x rfl rfl rfl rfl rfl rfl ?_; refine TQ.move rfl rfl rfl rfl ?_; refine Z4x (t := 15) (b' := false) rfl (decide_eq_false g1) ?_; refine Z11 rfl rfl rfl rfl ?_; refine Z11 rfl rfl rfl rfl ?_; refine Z11 rfl rfl rfl rfl ?_; refine Z11 rfl rfl rfl rfl ?_; refine Z11 rfl rfl rfl rfl ?_; refine Z11 rfl rfl rfl rfl ?_; refine Z11 rfl rfl rfl rfl ?_; refine Z11 rfl rfl rfl rfl ?_; refine Z11 rfl rfl rfl rfl ?_; refine Z11 rfl rfl rfl rfl ?_; refine TQ.tail [23, 24, 25] rfl rfl ?_; refine Z0c rfl rfl rfl rfl ?_; refine Z0z rfl rfl rfl rfl rfl ?_; refine Z06 rfl rfl rfl rfl ?_; refine Z02 ?_; refine Z01 ?_; refine Z0k (Z00 (t := 2) rfl Z08) ?_; refine T.ret ?_; obtain rfl := ret1 H; exact Z10 rfl rfl rfl rfl (Res.tmp rfl) Z09 ⟨rfl, rfl⟩
theorem Zbc {a0 : CheckAnswer} {a0_k : Nat} {a0f0f3_b : Option Addr} {a0f0f3_n : Nat} {a0f0f3_c : Nat} {a0f1_b : Option Addr} {a0f1_n : Nat} {a0f1_c : Nat} {a0f2_b : Option Addr} {a0f2_n : Nat} {a0f2_c : Nat} {a0f3_b : Option Addr} {a0f3_n : Nat} {a0f3_c : Nat} (w : World) (h_a0f0f3 : RS w [] Z4g 3 a0f0f3_b a0f0f3_n a0f0f3_c a0.Net.Arcs) (h_a0f1 : RS w [] (intC .i64) 1 a0f1_b a0f1_n a0f1_c a0.f) (h_a0f2 : RS w [] boolC 1 a0f2_b a0f2_n a0f2_c a0.s) (h_a0f3 : RS w [] (intC .i64) 1 a0f3_b a0f3_n a0f3_c a0.out) (h_a0_k : HB w [] a0_k [.int .i64 a0.Net.N, .int .i64 a0.Net.S, .int .i64 a0.Net.T, .slice a0f0f3_b a0f0f3_n a0f0f3_c, .slice a0f1_b a0f1_n a0f1_c, .slice a0f2_b a0f2_n a0f2_c, .slice a0f3_b a0f3_n a0f3_c]) {r0 : Bool} (H : Z2x a0 = some r0) : Fnc Try.prog 87 #[.pointer (some ⟨a0_k, 0, none⟩)] w [] (fun v N => v = .bool r0 ∧ N = []) := by
 unfold Z2x at H; refine Fnc.enter (vs := [.pointer (some ⟨a0_k, 0, none⟩)]) Try.func87 rfl rfl (Inv.refl w) ?_; refine Z0b ?_; refine Z03 (ll := [0]) rfl ?_; refine Z06 rfl rfl rfl rfl ?_; refine Z02 ?_; refine Z01 ?_; refine Z0b ?_; refine Z0b ?_; refine Z03 (ll := [0, 1, 2, 3, 4, 5, 6]) rfl ?_; refine Z05 rfl rfl rfl rfl ?_; refine TO.nilCheck rfl rfl rfl rfl ?_; refine Z07 rfl rfl rfl rfl Z2j ?_; refine Z07 rfl rfl rfl rfl Z8k ?_; refine Zb6 h_a0_k rfl rfl rfl rfl rfl Zal ?_; refine Z26 (xs := a0.Net.Arcs) h_a0f0f3.len rfl rfl rfl rfl rfl Z6h ?_; refine Z05 rfl rfl rfl rfl ?_; refine Z02 ?_; refine Z01 ?_; refine Z1l (fun (a4 : Unit) => Z53 = some r0) (fun (a4 : Unit) => []) (fun (a4 : Unit) => []) ?_ ?_
 ·
  refine T.block ?_; obtain ⟨a6, a7, a5⟩ := Z0l H; refine Z9y (fun (a2 : Nat) (x1 : Int) => Z28 (fun s => Z2w a0 s) a2 x1 = some a6) (fun (a2 : Nat) (x1 : Int) => [(0, .pointer (some ⟨a0_k, 0, none⟩)), (9, .slice a0f0f3_b a0f0f3_n a0f0f3_c), (10, .int .i64 (a0.Net.Arcs.length : Int)), (11, .int .i64 x1)]) (fun (a2 : Nat) (x1 : Int) => []) (fun (a2 : Nat) (x1 : Int) => a2) Z4d 0 a7 (Z00 rfl (Z00 rfl (Z00 rfl (Z00 rfl Z08)))) Z09 ?_; rintro a2 x1 H; obtain ⟨a8, a9, rfl, H, a3⟩ := Z1c H; have H : Z2w a0 x1 = some a9 := H; unfold Z2w at H; refine Z0b ?_; refine Z03 (ll := [0]) rfl ?_; refine Z0r rfl rfl rfl rfl rfl rfl ?_; refine Z02 ?_; refine Z01 ?_; refine Z0b ?_; rcases Z0g H with ⟨g2, H⟩ | ⟨g2, H⟩
  ·
   refine Z14 rfl g2 ?_; refine T.skip ?_; refine Z01 ?_; refine Z0b ?_; refine T.block ?_; refine Z0b ?_; obtain ⟨g3, H⟩ := Z0d H; refine Z03 (ll := [0, 1, 2, 3, 4, 5]) rfl ?_; refine Z05 rfl rfl rfl rfl ?_; refine Z2k h_a0f0f3 g3 rfl rfl rfl rfl rfl Z6h Z83 ?_; refine Z8o (cs := [.int .i64 ((a0.Net.Arcs.getD x1.toNat default).fr), .int .i64 ((a0.Net.Arcs.getD x1.toNat default).to), .int .i64 ((a0.Net.Arcs.getD x1.toNat default).cap)]) default h_a0f0f3 g3 rfl rfl rfl rfl rfl Ze9 ?_; refine Z1i rfl rfl rfl Zcg ?_; intro b4; refine Z06 rfl rfl rfl rfl ?_; refine Z1b rfl rfl rfl rfl tk0 Z83 rfl rfl rfl ?_; refine Z02 ?_; refine Z01 ?_; refine Z0b ?_; obtain ⟨g6, H⟩ := Z0d H; rcases Z0g H with ⟨g7, H⟩ | ⟨g7, H⟩
   · refine Z3q 18 [0, 1, 2, 3, 4, 5, 6, 7, 8, 9, 10, 11, 12, 13, 14, 15, 16, 17] rfl Z4y (by kernel_rfl) (by kernel_rfl) rfl (by kernel_rfl) ?_; refine TQ.move rfl rfl rfl rfl ?_; refine TQ.nilCheck rfl rfl rfl rfl ?_; refine Z0i rfl rfl rfl rfl Z67 ?_; refine Z42 h_a0_k rfl rfl rfl rfl rfl Z4n ?_; refine TQ.move rfl rfl rfl rfl ?_; refine Z7q h_a0f1 g6 rfl rfl rfl rfl rfl Z0y Z13 ?_; refine Z7p h_a0f1 g6 rfl rfl rfl rfl Z4i ?_; refine Z9x rfl rfl rfl rfl rfl rfl ?_; refine TQ.move rfl rfl rfl rfl ?_; refine Z4x (t := 24) (b' := true) rfl (decide_eq_true g7) ?_; refine Z11 rfl rfl rfl rfl ?_; refine Z11 rfl rfl rfl rfl ?_; refine Z11 rfl rfl rfl rfl ?_; refine Z11 rfl rfl rfl rfl ?_; refine Z11 rfl rfl rfl rfl ?_; refine Z11 rfl rfl rfl rfl ?_; refine Z11 rfl rfl rfl rfl ?_; refine Z11 rfl rfl rfl rfl ?_; refine Z11 rfl rfl rfl rfl ?_; refine TQ.tail [18, 19] rfl rfl ?_; refine Z0c rfl rfl rfl rfl ?_; refine Z0w rfl rfl rfl rfl rfl ?_; refine Z02 ?_; refine Z01 ?_; refine Z0k (Z00 (t := 0) rfl (Z00 (t := 9) rfl (Z00 (t := 10) rfl (Z00 (t := 11) rfl (Z00 (t := 25) rfl (Z00 (t := 26) rfl (Z00 (t := 27) rfl (Z00 (t := 28) rfl (Z00 (t := 29) rfl (Z00 (t := 30) rfl (Z00 (t := 31) rfl (Z00 (t := 32) rfl (Z00 (t := 33) rfl (Z00 (t := 34) rfl (Z00 (t := 35) rfl Z08))))))))))))))) ?_; refine Z1d rfl rfl ?_; refine Z0b ?_; refine Z03 (ll := [0]) rfl ?_; refine Z06 rfl rfl rfl rfl ?_; refine Z02 ?_; refine Z01 ?_; refine Z0k (Z00 (t := 2) rfl Z08) ?_; refine T.ret ?_; refine Z0o ?_; refine Z0f ?_; have H := Z0v H a3 ▸ a5; refine Z0f ?_; refine Z0o ?_; refine Z0f ?_; obtain rfl := ret1 H; exact Z10 rfl rfl rfl rfl (Res.tmp rfl) Z09 ⟨rfl, rfl⟩
   ·
    obtain ⟨g8, H⟩ := Z0d H; refine Z3q 18 [0, 1, 2, 3, 4, 5, 6, 7, 8, 9, 10, 11, 12, 13, 14, 15, 16, 17] rfl Z4y (by kernel_rfl) (by kernel_rfl) rfl (by kernel_rfl) ?_; refine TQ.move rfl rfl rfl rfl ?_; refine TQ.nilCheck rfl rfl rfl rfl ?_; refine Z0i rfl rfl rfl rfl Z67 ?_; refine Z42 h_a0_k rfl rfl rfl rfl rfl Z4n ?_; refine TQ.move rfl rfl rfl rfl ?_; refine Z7q h_a0f1 g6 rfl rfl rfl rfl rfl Z0y Z13 ?_; refine Z7p h_a0f1 g6 rfl rfl rfl rfl Z4i ?_; refine Z9x rfl rfl rfl rfl rfl rfl ?_; refine TQ.move rfl rfl rfl rfl ?_; refine Z4x (t := 24) (b' := false) rfl (decide_eq_false g7) ?_; refine TQ.move rfl rfl rfl rfl ?_; refine TQ.nilCheck rfl rfl rfl rfl ?_; refine Z0i rfl rfl rfl rfl Z67 ?_; refine Z42 h_a0_k rfl rfl rfl rfl rfl Z4n ?_; refine TQ.move rfl rfl rfl rfl ?_; refine Z7q h_a0f1 g8 rfl rfl rfl rfl rfl Z0y Z13 ?_; refine Z7p h_a0f1 g8 rfl rfl rfl rfl Z4i ?_; refine Z0i rfl rfl rfl rfl Zen ?_; refine Z2e rfl rfl rfl rfl Z4i mm0 rfl ?_; refine TQ.tail [18, 19] rfl rfl ?_; refine Z0r rfl rfl rfl rfl rfl rfl ?_; refine Z0z rfl rfl rfl rfl rfl ?_; refine Z02 ?_; refine Z01 ?_; refine Z0k (Z00 (t := 0) rfl (Z00 (t := 9) rfl (Z00 (t := 10) rfl (Z00 (t := 11) rfl (Z00 (t := 25) rfl (Z00 (t := 26) rfl (Z00 (t := 27) rfl (Z00 (t := 28) rfl (Z00 (t := 29) rfl (Z00 (t := 30) rfl (Z00 (t := 31) rfl (Z00 (t := 32) rfl (Z00 (t := 33) rfl (Z00 (t := 34) rfl (Z00 (t := 35) rfl Z08))))))))))))))) ?_; rcases Z0g H with ⟨g9, H⟩ | ⟨g9, H⟩
    · refine Z14 rfl g9 ?_; refine Z0b ?_; refine Z03 (ll := [0]) rfl ?_; refine Z06 rfl rfl rfl rfl ?_; refine Z02 ?_; refine Z01 ?_; refine Z0k (Z00 (t := 2) rfl Z08) ?_; refine T.ret ?_; refine Z0o ?_; refine Z0f ?_; have H := Z0v H a3 ▸ a5; refine Z0f ?_; refine Z0o ?_; refine Z0f ?_; obtain rfl := ret1 H; exact Z10 rfl rfl rfl rfl (Res.tmp rfl) Z09 ⟨rfl, rfl⟩
    · refine Z15 rfl g9 ?_; refine T.skip ?_; refine Z0h ?_; refine Z01 ?_; obtain ⟨b0, H⟩ := Z0d H; refine Z03 (ll := [0, 1]) rfl ?_; refine Z18 b0 rfl rfl rfl rfl rfl ?_; refine Z05 rfl rfl rfl rfl ?_; refine Z02 ?_; have H := Z16 H a3; exact Z62 a8 (x1 + 1) H (Nat.lt_succ_self _) (Z00 rfl (Z00 rfl (Z00 rfl (Z00 rfl Z08)))) Z09
  · refine Z15 rfl g2 ?_; refine T.exit ?_; refine Z0j ?_; have H := Z0v H a3 ▸ a5; refine Z0j ?_; refine Z0x ?_; exact Z24 () H Z08 Z09
 · rintro a4 H; unfold Z53 at H; refine Z0b ?_; refine Z03 (ll := [0]) rfl ?_; refine Z06 rfl rfl rfl rfl ?_; refine Z02 ?_; refine Z01 ?_; refine T.ret ?_; obtain rfl := ret1 H; exact Z10 rfl rfl rfl rfl (Res.tmp rfl) Z09 ⟨rfl, rfl⟩
theorem Zco {a0 : CheckAnswer} {a0_k : Nat} {a0f0f3_b : Option Addr} {a0f0f3_n : Nat} {a0f0f3_c : Nat} {a0f1_b : Option Addr} {a0f1_n : Nat} {a0f1_c : Nat} {a0f2_b : Option Addr} {a0f2_n : Nat} {a0f2_c : Nat} {a0f3_b : Option Addr} {a0f3_n : Nat} {a0f3_c : Nat} (w : World) (hin : Inv w (([(some a0_k, .cells #[.int .i64 a0.Net.N, .int .i64 a0.Net.S, .int .i64 a0.Net.T, .slice a0f0f3_b a0f0f3_n a0f0f3_c, .slice a0f1_b a0f1_n a0f1_c, .slice a0f2_b a0f2_n a0f2_c, .slice a0f3_b a0f3_n a0f3_c] 96 (0, 0))] : Heap).filterMap Prod.fst) w [(some a0_k, .cells #[.int .i64 a0.Net.N, .int .i64 a0.Net.S, .int .i64 a0.Net.T, .slice a0f0f3_b a0f0f3_n a0f0f3_c, .slice a0f1_b a0f1_n a0f1_c, .slice a0f2_b a0f2_n a0f2_c, .slice a0f3_b a0f3_n a0f3_c] 96 (0, 0))]) (h_a0f0f3 : RS w (([(some a0_k, .cells #[.int .i64 a0.Net.N, .int .i64 a0.Net.S, .int .i64 a0.Net.T, .slice a0f0f3_b a0f0f3_n a0f0f3_c, .slice a0f1_b a0f1_n a0f1_c, .slice a0f2_b a0f2_n a0f2_c, .slice a0f3_b a0f3_n a0f3_c] 96 (0, 0))] : Heap).filterMap Prod.fst) Z4g 3 a0f0f3_b a0f0f3_n a0f0f3_c a0.Net.Arcs) (h_a0f1 : RS w (([(some a0_k, .cells #[.int .i64 a0.Net.N, .int .i64 a0.Net.S, .int .i64 a0.Net.T, .slice a0f0f3_b a0f0f3_n a0f0f3_c, .slice a0f1_b a0f1_n a0f1_c, .slice a0f2_b a0f2_n a0f2_c, .slice a0f3_b a0f3_n a0f3_c] 96 (0, 0))] : Heap).filterMap Prod.fst) (intC .i64) 1 a0f1_b a0f1_n a0f1_c a0.f) (h_a0f2 : RS w (([(some a0_k, .cells #[.int .i64 a0.Net.N, .int .i64 a0.Net.S, .int .i64 a0.Net.T, .slice a0f0f3_b a0f0f3_n a0f0f3_c, .slice a0f1_b a0f1_n a0f1_c, .slice a0f2_b a0f2_n a0f2_c, .slice a0f3_b a0f3_n a0f3_c] 96 (0, 0))] : Heap).filterMap Prod.fst) boolC 1 a0f2_b a0f2_n a0f2_c a0.s) (h_a0f3 : RS w (([(some a0_k, .cells #[.int .i64 a0.Net.N, .int .i64 a0.Net.S, .int .i64 a0.Net.T, .slice a0f0f3_b a0f0f3_n a0f0f3_c, .slice a0f1_b a0f1_n a0f1_c, .slice a0f2_b a0f2_n a0f2_c, .slice a0f3_b a0f3_n a0f3_c] 96 (0, 0))] : Heap).filterMap Prod.fst) (intC .i64) 1 a0f3_b a0f3_n a0f3_c a0.out) {r0 : Bool} {o0 : CheckAnswer} (H : Z3d a0 = some (r0, o0)) : Fnc Try.prog 88 #[.pointer (some ⟨a0_k, 0, none⟩)] w (([(some a0_k, .cells #[.int .i64 a0.Net.N, .int .i64 a0.Net.S, .int .i64 a0.Net.T, .slice a0f0f3_b a0f0f3_n a0f0f3_c, .slice a0f1_b a0f1_n a0f1_c, .slice a0f2_b a0f2_n a0f2_c, .slice a0f3_b a0f3_n a0f3_c] 96 (0, 0))] : Heap).filterMap Prod.fst) (fun v N => ∃ (a6 : Option Nat) (b1 : Nat) (b5 : Nat) (c4 : List Value), v = .bool r0 ∧ N = [(some a0_k, .cells #[.int .i64 a0.Net.N, .int .i64 a0.Net.S, .int .i64 a0.Net.T, .slice a0f0f3_b a0f0f3_n a0f0f3_c, .slice a0f1_b a0f1_n a0f1_c, .slice a0f2_b a0f2_n a0f2_c, .slice (sb a6) b1 b5] 96 (0, 0)), (a6, .cells (arr (intC .i64) o0.out c4).toArray 2 (0, 0))] ∧ o0.out.length = b1 ∧ b1 ≤ b5 ∧ c4.length = (b5 - b1) * 1 ∧ (a6 = none → b5 = 0)) := by
 unfold Z3d at H; refine Fnc.enter (vs := [.pointer (some ⟨a0_k, 0, none⟩)]) Try.func88 rfl rfl hin ?_; refine Z0b ?_; refine Z03 (ll := [0]) rfl ?_; refine Z06 rfl rfl rfl rfl ?_; refine Z02 ?_; refine Z01 ?_; refine Z0b ?_; obtain ⟨g2, H⟩ := Z0d H; refine Z03 (ll := [0, 1, 2, 3, 4, 5, 6, 7, 8, 9]) rfl ?_; refine Z05 rfl rfl rfl rfl ?_; refine Z05 rfl rfl rfl rfl ?_; refine TO.nilCheck rfl rfl rfl rfl ?_; refine Z07 rfl rfl rfl rfl Z2j ?_; refine Z07 rfl rfl rfl rfl Zep ?_; refine Z0e rfl rfl rfl rfl Z2v mm0 rfl ?_; refine Zcx g2 rfl rfl rfl rfl rfl Z0y Z13 Z2c Zk1 rfl ?_; intro b3; refine TO.nilCheck rfl rfl rfl rfl ?_; refine Z07 rfl rfl rfl rfl Z7a ?_; refine Z2h (cs' := [.int .i64 a0.Net.N, .int .i64 a0.Net.S, .int .i64 a0.Net.T, .slice a0f0f3_b a0f0f3_n a0f0f3_c, .slice a0f1_b a0f1_n a0f1_c, .slice a0f2_b a0f2_n a0f2_c, .slice (some ⟨b3, 0, none⟩) a0.Net.N.toNat a0.Net.N.toNat]) rfl rfl rfl rfl tk1 Znk rfl rfl rfl ?_; refine Z02 ?_; refine Z01 ?_; refine Z0k (Z00 (t := 0) rfl Z08) ?_; refine Z0b ?_; refine Z0b ?_; refine Z03 (ll := [0, 1, 2, 3, 4, 5, 6]) rfl ?_; refine Z05 rfl rfl rfl rfl ?_; refine TO.nilCheck rfl rfl rfl rfl ?_; refine Z07 rfl rfl rfl rfl Z2j ?_; refine Z07 rfl rfl rfl rfl Z8k ?_; refine Z0e rfl rfl rfl rfl Zal mm0 rfl ?_; refine Z26 (xs := a0.Net.Arcs) h_a0f0f3.len rfl rfl rfl rfl rfl Z6h ?_; refine Z05 rfl rfl rfl rfl ?_; refine Z02 ?_; refine Z01 ?_; refine Z1l (fun (a2 : List Int) => Z4b a0 a2 = some (r0, o0) ∧ a2.length = a0.Net.N.toNat) (fun (a2 : List Int) => [(0, .pointer (some ⟨a0_k, 0, none⟩))]) (fun (a2 : List Int) => [(some a0_k, .cells #[.int .i64 a0.Net.N, .int .i64 a0.Net.S, .int .i64 a0.Net.T, .slice a0f0f3_b a0f0f3_n a0f0f3_c, .slice a0f1_b a0f1_n a0f1_c, .slice a0f2_b a0f2_n a0f2_c, .slice (some ⟨b3, 0, none⟩) a0.Net.N.toNat a0.Net.N.toNat] 96 (0, 0)), (some b3, .cells (arr (intC .i64) a2 ([])).toArray 2 (0, 0))]) ?_ ?_
 ·
  refine T.block ?_; obtain ⟨d7, d8, d9⟩ := Z0l H; refine Z7r (fun (a7 : Nat) (a3 : List Int) (x7 : Int) => Z28 (fun s => Z36 a0 s.1 s.2) a7 (a3, x7) = some d7 ∧ a3.length = a0.Net.N.toNat) (fun (a7 : Nat) (a3 : List Int) (x7 : Int) => [(0, .pointer (some ⟨a0_k, 0, none⟩)), (20, .slice a0f0f3_b a0f0f3_n a0f0f3_c), (21, .int .i64 (a0.Net.Arcs.length : Int)), (22, .int .i64 x7)]) (fun (a7 : Nat) (a3 : List Int) (x7 : Int) => [(some a0_k, .cells #[.int .i64 a0.Net.N, .int .i64 a0.Net.S, .int .i64 a0.Net.T, .slice a0f0f3_b a0f0f3_n a0f0f3_c, .slice a0f1_b a0f1_n a0f1_c, .slice a0f2_b a0f2_n a0f2_c, .slice (some ⟨b3, 0, none⟩) a0.Net.N.toNat a0.Net.N.toNat] 96 (0, 0)), (some b3, .cells (arr (intC .i64) a3 ([])).toArray 2 (0, 0))]) (fun (a7 : Nat) (a3 : List Int) (x7 : Int) => a7) Z4d (List.replicate a0.Net.N.toNat (0 : Int)) 0 ⟨d8, List.length_replicate⟩ (Z00 rfl (Z00 rfl (Z00 rfl (Z00 rfl Z08)))) (Z04 tk0 (Z04 tk0 Z09)) ?_; rintro a7 a3 x7 ⟨H, a8⟩; obtain ⟨e0, e1, rfl, H, c7⟩ := Z1c H; have H : Z36 a0 a3 x7 = some e1 := H; unfold Z36 at H; refine Z0b ?_; refine Z03 (ll := [0]) rfl ?_; refine Z0r rfl rfl rfl rfl rfl rfl ?_; refine Z02 ?_; refine Z01 ?_; refine Z0b ?_; rcases Z0g H with ⟨g8, H⟩ | ⟨g8, H⟩
  · refine Z14 rfl g8 ?_; refine T.skip ?_; refine Z01 ?_; refine Z0b ?_; refine T.block ?_; refine Z0b ?_; obtain ⟨g9, H⟩ := Z0d H; refine Z03 (ll := [0, 1, 2, 3, 4, 5]) rfl ?_; refine Z05 rfl rfl rfl rfl ?_; refine Z2k h_a0f0f3 g9 rfl rfl rfl rfl rfl Z6h Z83 ?_; refine Z8o (cs := [.int .i64 ((a0.Net.Arcs.getD x7.toNat default).fr), .int .i64 ((a0.Net.Arcs.getD x7.toNat default).to), .int .i64 ((a0.Net.Arcs.getD x7.toNat default).cap)]) default h_a0f0f3 g9 rfl rfl rfl rfl rfl Ze9 ?_; refine Z1i rfl rfl rfl Zcg ?_; intro f2; refine Z06 rfl rfl rfl rfl ?_; refine Z1b rfl rfl rfl rfl tk0 Z83 rfl rfl rfl ?_; refine Z02 ?_; refine Z01 ?_; refine Z0b ?_; obtain ⟨c8, H⟩ := Z0d H; obtain ⟨c9, H⟩ := Z0d H; obtain ⟨e2, H⟩ := Z0d H; obtain ⟨d0, H⟩ := Z0d H; refine Z3q 15 [0, 1, 2, 3, 4, 5, 6, 7, 8, 9, 10, 11, 12, 13, 14] rfl Z4y (by kernel_rfl) (by kernel_rfl) rfl (by kernel_rfl) ?_; refine TQ.move rfl rfl rfl rfl ?_; refine TQ.nilCheck rfl rfl rfl rfl ?_; refine Z0i rfl rfl rfl rfl Z7a ?_; refine Z2e rfl rfl rfl rfl Z4n mm1 rfl ?_; refine Z0i rfl rfl rfl rfl Zc3 ?_; refine Z2e rfl rfl rfl rfl Z2v mm0 rfl ?_; refine TQ.ix1 a8 c8 rfl rfl rfl rfl rfl Z0y Z13 ?_; refine Zkz c8 rfl rfl rfl rfl Z4i mm2 ?_; refine TQ.move rfl rfl rfl rfl ?_; refine TQ.nilCheck rfl rfl rfl rfl ?_; refine Z0i rfl rfl rfl rfl Z67 ?_; refine Z2e rfl rfl rfl rfl Z4n mm1 rfl ?_; refine TQ.move rfl rfl rfl rfl ?_; refine Z7q h_a0f1 c9 rfl rfl rfl rfl rfl Z0y Z13 ?_; refine Z7p h_a0f1 c9 rfl rfl rfl rfl Z4i ?_; refine TQ.tail [15, 16, 17] rfl rfl ?_; refine Z18 e2 rfl rfl rfl rfl rfl ?_; refine Z7b a8 d0 rfl rfl rfl rfl rfl Z0y Z13 ?_; refine Z8n d0 rfl rfl rfl rfl tk2 Z13 ?_; refine Z02 ?_; refine Z01 ?_; refine Z0k (Z00 (t := 0) rfl (Z00 (t := 20) rfl (Z00 (t := 21) rfl (Z00 (t := 22) rfl (Z00 (t := 4) rfl (Z00 (t := 3) rfl Z08)))))) ?_; obtain ⟨d1, H⟩ := Z0d H; obtain ⟨d3, H⟩ := Z0d H; obtain ⟨e3, H⟩ := Z0d H; obtain ⟨d4, H⟩ := Z0d H; refine Z3q 15 [0, 1, 2, 3, 4, 5, 6, 7, 8, 9, 10, 11, 12, 13, 14] rfl Z4y (by kernel_rfl) (by kernel_rfl) rfl (by kernel_rfl) ?_; refine TQ.move rfl rfl rfl rfl ?_; refine TQ.nilCheck rfl rfl rfl rfl ?_; refine Z0i rfl rfl rfl rfl Z7a ?_; refine Z2e rfl rfl rfl rfl Z4n mm2 rfl ?_; refine Z0i rfl rfl rfl rfl Zeo ?_; refine Z2e rfl rfl rfl rfl Z2v mm1 rfl ?_; refine TQ.ix1 (List.length_set.trans a8) d1 rfl rfl rfl rfl rfl Z0y Z13 ?_; refine Zkz d1 rfl rfl rfl rfl Z4i mm0 ?_; refine TQ.move rfl rfl rfl rfl ?_; refine TQ.nilCheck rfl rfl rfl rfl ?_; refine Z0i rfl rfl rfl rfl Z67 ?_; refine Z2e rfl rfl rfl rfl Z4n mm2 rfl ?_; refine TQ.move rfl rfl rfl rfl ?_; refine Z7q h_a0f1 d3 rfl rfl rfl rfl rfl Z0y Z13 ?_; refine Z7p h_a0f1 d3 rfl rfl rfl rfl Z4i ?_; refine TQ.tail [15, 16, 17] rfl rfl ?_; refine Zc5 e3 rfl rfl rfl rfl rfl ?_; refine Z7b (List.length_set.trans a8) d4 rfl rfl rfl rfl rfl Z0y Z13 ?_; refine Z8n d4 rfl rfl rfl rfl tk0 Z13 ?_; refine Z02 ?_; refine Z0h ?_; refine Z01 ?_; refine Z0k (Z00 (t := 0) rfl (Z00 (t := 20) rfl (Z00 (t := 21) rfl (Z00 (t := 22) rfl Z08)))) ?_; obtain ⟨e4, H⟩ := Z0d H; refine Z03 (ll := [0, 1]) rfl ?_; refine Z18 e4 rfl rfl rfl rfl rfl ?_; refine Z05 rfl rfl rfl rfl ?_; refine Z02 ?_; have H := Z16 H c7; exact Z4h e0 ((a3.set ((a0.Net.Arcs.getD x7.toNat default).fr).toNat ((a3.getD ((a0.Net.Arcs.getD x7.toNat default).fr).toNat 0) + (a0.f.getD x7.toNat 0))).set ((a0.Net.Arcs.getD x7.toNat default).to).toNat (((a3.set ((a0.Net.Arcs.getD x7.toNat default).fr).toNat ((a3.getD ((a0.Net.Arcs.getD x7.toNat default).fr).toNat 0) + (a0.f.getD x7.toNat 0))).getD ((a0.Net.Arcs.getD x7.toNat default).to).toNat 0) - (a0.f.getD x7.toNat 0))) (x7 + 1) ⟨H, (List.length_set.trans (List.length_set.trans a8))⟩ (Nat.lt_succ_self _) (Z00 rfl (Z00 rfl (Z00 rfl (Z00 rfl Z08)))) (Z04 tk2 (Z04 tk0 Z09))
  · refine Z15 rfl g8 ?_; refine T.exit ?_; refine Z0j ?_; have H := Z0v H c7 ▸ d9; refine Z0j ?_; refine Z0x ?_; exact Z24 a3 ⟨H, a8⟩ (Z00 rfl Z08) (Z04 tk0 (Z04 tk0 Z09))
 ·
  rintro a2 ⟨H, a5⟩; unfold Z4b at H; refine Z0b ?_; refine Z0b ?_; refine Z03 (ll := [0, 1, 2, 3, 4, 5]) rfl ?_; refine Z05 rfl rfl rfl rfl ?_; refine TO.nilCheck rfl rfl rfl rfl ?_; refine Z07 rfl rfl rfl rfl Z7a ?_; refine Z0e rfl rfl rfl rfl Z4n mm0 rfl ?_; refine Z26 (xs := a2) a5 rfl rfl rfl rfl rfl Z0y ?_; refine Z05 rfl rfl rfl rfl ?_; refine Z02 ?_; refine Z01 ?_; refine Z1l (fun (u32 : Unit) => Z4a a0 a2 = some (r0, o0)) (fun (u32 : Unit) => []) (fun (u32 : Unit) => [(some a0_k, .cells #[.int .i64 a0.Net.N, .int .i64 a0.Net.S, .int .i64 a0.Net.T, .slice a0f0f3_b a0f0f3_n a0f0f3_c, .slice a0f1_b a0f1_n a0f1_c, .slice a0f2_b a0f2_n a0f2_c, .slice (some ⟨b3, 0, none⟩) a0.Net.N.toNat a0.Net.N.toNat] 96 (0, 0)), (some b3, .cells (arr (intC .i64) a2 ([])).toArray 2 (0, 0))]) ?_ ?_
  ·
   refine T.block ?_; obtain ⟨e5, e6, d5⟩ := Z0l H; refine Z9y (fun (a9 : Nat) (a4 : Int) => Z28 (fun s => Z35 a0 a2 s) a9 a4 = some e5) (fun (a9 : Nat) (a4 : Int) => [(0, .pointer (some ⟨a0_k, 0, none⟩)), (65, .slice (some ⟨b3, 0, none⟩) a0.Net.N.toNat a0.Net.N.toNat), (66, .int .i64 (a2.length : Int)), (67, .int .i64 a4)]) (fun (a9 : Nat) (a4 : Int) => [(some a0_k, .cells #[.int .i64 a0.Net.N, .int .i64 a0.Net.S, .int .i64 a0.Net.T, .slice a0f0f3_b a0f0f3_n a0f0f3_c, .slice a0f1_b a0f1_n a0f1_c, .slice a0f2_b a0f2_n a0f2_c, .slice (some ⟨b3, 0, none⟩) a0.Net.N.toNat a0.Net.N.toNat] 96 (0, 0)), (some b3, .cells (arr (intC .i64) a2 ([])).toArray 2 (0, 0))]) (fun (a9 : Nat) (a4 : Int) => a9) Z4d 0 e6 (Z00 rfl (Z00 rfl (Z00 rfl (Z00 rfl Z08)))) (Z04 tk0 (Z04 tk0 Z09)) ?_; rintro a9 a4 H; obtain ⟨b7, e7, rfl, H, b0⟩ := Z1c H; have H : Z35 a0 a2 a4 = some e7 := H; unfold Z35 at H; refine Z0b ?_; refine Z03 (ll := [0]) rfl ?_; refine Z0r rfl rfl rfl rfl rfl rfl ?_; refine Z02 ?_; refine Z01 ?_; refine Z0b ?_; rcases Z0g H with ⟨b8, H⟩ | ⟨b8, H⟩
   ·
    refine Z14 rfl b8 ?_; refine T.skip ?_; refine Z01 ?_; refine Z0b ?_; refine T.block ?_; refine Z0b ?_; obtain ⟨d6, H⟩ := Z0d H; refine Z03 (ll := [0, 1, 2, 3, 4]) rfl ?_; refine Z05 rfl rfl rfl rfl ?_; refine Z7b a5 d6 rfl rfl rfl rfl rfl Z0y Z13 ?_; refine Zc7 d6 rfl rfl rfl rfl Z4i mm1 ?_; refine Z06 rfl rfl rfl rfl ?_; refine Z06 rfl rfl rfl rfl ?_; refine Z02 ?_; refine Z01 ?_; refine Z0b ?_; rcases Z0g H with ⟨b6, H⟩ | ⟨b6, H⟩
    ·
     rcases Z0g H with ⟨b9, H⟩ | ⟨b9, H⟩
     ·
      refine Z03 (ll := [0, 1, 2, 3, 4, 5, 6, 7, 8, 9, 10, 11, 12, 13, 14, 15, 16, 17, 18, 19]) rfl ?_; refine Z05 rfl rfl rfl rfl ?_; refine Z0r rfl rfl rfl rfl rfl rfl ?_; refine Z05 rfl rfl rfl rfl ?_; refine Z0u (t := 74) (b' := true) rfl (decide_eq_true b6) ?_; refine Z05 rfl rfl rfl rfl ?_; refine Z05 rfl rfl rfl rfl ?_; refine TO.nilCheck rfl rfl rfl rfl ?_; refine Z07 rfl rfl rfl rfl Z2j ?_; refine Z07 rfl rfl rfl rfl Z68 ?_; refine Z0e rfl rfl rfl rfl Z2v mm0 rfl ?_; refine Z0r rfl rfl rfl rfl rfl rfl ?_; refine Z0w rfl rfl rfl rfl rfl ?_; refine Z05 rfl rfl rfl rfl ?_; refine Z0u (t := 83) (b' := true) rfl (decide_eq_true b9) ?_; refine Z05 rfl rfl rfl rfl ?_; refine Z05 rfl rfl rfl rfl ?_; refine TO.nilCheck rfl rfl rfl rfl ?_; refine Z07 rfl rfl rfl rfl Z2j ?_; refine Z07 rfl rfl rfl rfl Zc4 ?_; refine Z0e rfl rfl rfl rfl Z2v mm0 rfl ?_; refine Z0r rfl rfl rfl rfl rfl rfl ?_; refine Z0w rfl rfl rfl rfl rfl ?_; refine Z02 ?_; refine Z01 ?_; refine Z0k (Z00 (t := 0) rfl (Z00 (t := 65) rfl (Z00 (t := 66) rfl (Z00 (t := 67) rfl (Z00 (t := 75) rfl (Z00 (t := 76) rfl (Z00 (t := 77) rfl (Z00 (t := 78) rfl (Z00 (t := 79) rfl (Z00 (t := 80) rfl (Z00 (t := 81) rfl (Z00 (t := 84) rfl (Z00 (t := 85) rfl (Z00 (t := 86) rfl (Z00 (t := 87) rfl (Z00 (t := 88) rfl (Z00 (t := 89) rfl (Z00 (t := 90) rfl (Z00 (t := 91) rfl Z08))))))))))))))))))) ?_; rcases Z0g H with ⟨c3, H⟩ | ⟨c3, H⟩
      · refine Z14 rfl c3 ?_; refine Z0b ?_; refine Z03 (ll := [0]) rfl ?_; refine Z06 rfl rfl rfl rfl ?_; refine Z02 ?_; refine Z01 ?_; refine Z0k (Z00 (t := 2) rfl Z08) ?_; refine T.ret ?_; refine Z0o ?_; refine Z0f ?_; have H := Z0v H b0 ▸ d5; refine Z0f ?_; refine Z0o ?_; refine Z0f ?_; obtain ⟨rfl, rfl⟩ := ret2 H; exact Z10 rfl rfl rfl rfl (Res.tmp rfl) (Z04 tk0 (Z04 tk0 Z09)) ⟨(some b3), a0.Net.N.toNat, a0.Net.N.toNat, ([]), rfl, rfl, a5, (Nat.le_refl _), (Z33 _ _), Z1e⟩
      · refine Z15 rfl c3 ?_; refine T.skip ?_; refine Z0h ?_; refine Z01 ?_; obtain ⟨e8, H⟩ := Z0d H; refine Z03 (ll := [0, 1]) rfl ?_; refine Z18 e8 rfl rfl rfl rfl rfl ?_; refine Z05 rfl rfl rfl rfl ?_; refine Z02 ?_; have H := Z16 H b0; exact Z62 b7 (a4 + 1) H (Nat.lt_succ_self _) (Z00 rfl (Z00 rfl (Z00 rfl (Z00 rfl Z08)))) (Z04 tk0 (Z04 tk0 Z09))
     · refine Z03 (ll := [0, 1, 2, 3, 4, 5, 6, 7, 8, 9, 10, 11, 12, 13, 14, 15, 16, 17, 18, 19]) rfl ?_; refine Z05 rfl rfl rfl rfl ?_; refine Z0r rfl rfl rfl rfl rfl rfl ?_; refine Z05 rfl rfl rfl rfl ?_; refine Z0u (t := 74) (b' := true) rfl (decide_eq_true b6) ?_; refine Z05 rfl rfl rfl rfl ?_; refine Z05 rfl rfl rfl rfl ?_; refine TO.nilCheck rfl rfl rfl rfl ?_; refine Z07 rfl rfl rfl rfl Z2j ?_; refine Z07 rfl rfl rfl rfl Z68 ?_; refine Z0e rfl rfl rfl rfl Z2v mm0 rfl ?_; refine Z0r rfl rfl rfl rfl rfl rfl ?_; refine Z0w rfl rfl rfl rfl rfl ?_; refine Z05 rfl rfl rfl rfl ?_; refine Z0u (t := 83) (b' := false) rfl (decide_eq_false b9) ?_; refine Z0c rfl rfl rfl rfl ?_; refine Z0c rfl rfl rfl rfl ?_; refine Z0c rfl rfl rfl rfl ?_; refine Z0c rfl rfl rfl rfl ?_; refine Z0c rfl rfl rfl rfl ?_; refine Z0c rfl rfl rfl rfl ?_; refine Z0c rfl rfl rfl rfl ?_; refine Z0z rfl rfl rfl rfl rfl ?_; refine Z02 ?_; refine Z01 ?_; refine Z0k (Z00 (t := 0) rfl (Z00 (t := 65) rfl (Z00 (t := 66) rfl (Z00 (t := 67) rfl (Z00 (t := 75) rfl (Z00 (t := 76) rfl (Z00 (t := 77) rfl (Z00 (t := 78) rfl (Z00 (t := 79) rfl (Z00 (t := 80) rfl (Z00 (t := 81) rfl (Z00 (t := 84) rfl (Z00 (t := 85) rfl (Z00 (t := 86) rfl (Z00 (t := 87) rfl (Z00 (t := 88) rfl (Z00 (t := 89) rfl (Z00 (t := 90) rfl (Z00 (t := 91) rfl Z08))))))))))))))))))) ?_; refine Z1r rfl rfl ?_; refine T.skip ?_; refine Z0h ?_; refine Z01 ?_; obtain ⟨e9, H⟩ := Z0d H; refine Z03 (ll := [0, 1]) rfl ?_; refine Z18 e9 rfl rfl rfl rfl rfl ?_; refine Z05 rfl rfl rfl rfl ?_; refine Z02 ?_; have H := Z16 H b0; exact Z62 b7 (a4 + 1) H (Nat.lt_succ_self _) (Z00 rfl (Z00 rfl (Z00 rfl (Z00 rfl Z08)))) (Z04 tk0 (Z04 tk0 Z09))
    · refine Z03 (ll := [0, 1, 2, 3, 4, 5, 6, 7, 8, 9, 10, 11, 12, 13, 14, 15, 16, 17, 18, 19]) rfl ?_; refine Z05 rfl rfl rfl rfl ?_; refine Z0r rfl rfl rfl rfl rfl rfl ?_; refine Z05 rfl rfl rfl rfl ?_; refine Z0u (t := 74) (b' := false) rfl (decide_eq_false b6) ?_; refine Z0c rfl rfl rfl rfl ?_; refine Z0c rfl rfl rfl rfl ?_; refine Z0c rfl rfl rfl rfl ?_; refine Z0c rfl rfl rfl rfl ?_; refine Z0c rfl rfl rfl rfl ?_; refine Z0c rfl rfl rfl rfl ?_; refine Z0c rfl rfl rfl rfl ?_; refine Z0z rfl rfl rfl rfl rfl ?_; refine Z05 rfl rfl rfl rfl ?_; refine Z0c rfl rfl rfl rfl ?_; refine Z0c rfl rfl rfl rfl ?_; refine Z0c rfl rfl rfl rfl ?_; refine Z0c rfl rfl rfl rfl ?_; refine Z0c rfl rfl rfl rfl ?_; refine Z0c rfl rfl rfl rfl ?_; refine Z0c rfl rfl rfl rfl ?_; refine Z0z rfl rfl rfl rfl rfl ?_; refine Z02 ?_; refine Z01 ?_; refine Z0k (Z00 (t := 0) rfl (Z00 (t := 65) rfl (Z00 (t := 66) rfl (Z00 (t := 67) rfl (Z00 (t := 75) rfl (Z00 (t := 76) rfl (Z00 (t := 77) rfl (Z00 (t := 78) rfl (Z00 (t := 79) rfl (Z00 (t := 80) rfl (Z00 (t := 81) rfl (Z00 (t := 84) rfl (Z00 (t := 85) rfl (Z00 (t := 86) rfl (Z00 (t := 87) rfl (Z00 (t := 88) rfl (Z00 (t := 89) rfl (Z00 (t := 90) rfl (Z00 (t := 91) rfl Z08))))))))))))))))))) ?_; refine Z1r rfl rfl ?_; refine T.skip ?_; refine Z0h ?_; refine Z01 ?_; obtain ⟨f0, H⟩ := Z0d H; refine Z03 (ll := [0, 1]) rfl ?_; refine Z18 f0 rfl rfl rfl rfl rfl ?_; refine Z05 rfl rfl rfl rfl ?_; refine Z02 ?_; have H := Z16 H b0; exact Z62 b7 (a4 + 1) H (Nat.lt_succ_self _) (Z00 rfl (Z00 rfl (Z00 rfl (Z00 rfl Z08)))) (Z04 tk0 (Z04 tk0 Z09))
   · refine Z15 rfl b8 ?_; refine T.exit ?_; refine Z0j ?_; have H := Z0v H b0 ▸ d5; refine Z0j ?_; refine Z0x ?_; exact Z24 () H Z08 (Z04 tk0 (Z04 tk0 Z09))
  · rintro u32 H; unfold Z4a at H; refine Z0b ?_; refine Z03 (ll := [0]) rfl ?_; refine Z06 rfl rfl rfl rfl ?_; refine Z02 ?_; refine Z01 ?_; refine T.ret ?_; obtain ⟨rfl, rfl⟩ := ret2 H; exact Z10 rfl rfl rfl rfl (Res.tmp rfl) (Z04 tk0 (Z04 tk0 Z09)) ⟨(some b3), a0.Net.N.toNat, a0.Net.N.toNat, ([]), rfl, rfl, a5, (Nat.le_refl _), (Z33 _ _), Z1e⟩
theorem Zcn {a0 : CheckAnswer} {a0_k : Nat} {a0f0f3_b : Option Addr} {a0f0f3_n : Nat} {a0f0f3_c : Nat} {a0f1_b : Option Addr} {a0f1_n : Nat} {a0f1_c : Nat} {a0f2_b : Option Addr} {a0f2_n : Nat} {a0f2_c : Nat} {a0f3_b : Option Addr} {a0f3_n : Nat} {a0f3_c : Nat} (w : World) (h_a0f0f3 : RS w [] Z4g 3 a0f0f3_b a0f0f3_n a0f0f3_c a0.Net.Arcs) (h_a0f1 : RS w [] (intC .i64) 1 a0f1_b a0f1_n a0f1_c a0.f) (h_a0f2 : RS w [] boolC 1 a0f2_b a0f2_n a0f2_c a0.s) (h_a0f3 : RS w [] (intC .i64) 1 a0f3_b a0f3_n a0f3_c a0.out) (h_a0_k : HB w [] a0_k [.int .i64 a0.Net.N, .int .i64 a0.Net.S, .int .i64 a0.Net.T, .slice a0f0f3_b a0f0f3_n a0f0f3_c, .slice a0f1_b a0f1_n a0f1_c, .slice a0f2_b a0f2_n a0f2_c, .slice a0f3_b a0f3_n a0f3_c]) {r0 : Bool} (H : Z3c a0 = some r0) : Fnc Try.prog 89 #[.pointer (some ⟨a0_k, 0, none⟩)] w [] (fun v N => v = .bool r0 ∧ N = []) := by
 unfold Z3c at H; refine Fnc.enter (vs := [.pointer (some ⟨a0_k, 0, none⟩)]) Try.func89 rfl rfl (Inv.refl w) ?_; refine Z0b ?_; refine Z03 (ll := [0]) rfl ?_; refine Z06 rfl rfl rfl rfl ?_; refine Z02 ?_; refine Z01 ?_; refine Z0b ?_; obtain ⟨g1, H⟩ := Z0d H; rcases Z0g H with ⟨g2, H⟩ | ⟨g2, H⟩
 · obtain ⟨g3, H⟩ := Z0d H; refine Z3q 21 [0, 1, 2, 3, 4, 5, 6, 7, 8, 9, 10, 11, 12, 13, 14, 15, 16, 17, 18, 19, 20] rfl Z4y (by kernel_rfl) (by kernel_rfl) rfl (by kernel_rfl) ?_; refine TQ.move rfl rfl rfl rfl ?_; refine TQ.nilCheck rfl rfl rfl rfl ?_; refine Z0i rfl rfl rfl rfl Z66 ?_; refine Z42 h_a0_k rfl rfl rfl rfl rfl Z79 ?_; refine TQ.move rfl rfl rfl rfl ?_; refine TQ.nilCheck rfl rfl rfl rfl ?_; refine Z0i rfl rfl rfl rfl Z2j ?_; refine Z0i rfl rfl rfl rfl Z68 ?_; refine Z42 h_a0_k rfl rfl rfl rfl rfl Z2v ?_; refine Z7q h_a0f2 g1 rfl rfl rfl rfl rfl Z56 Z6n ?_; refine Zie h_a0f2 g1 rfl rfl rfl rfl Z9f ?_; refine TQ.move rfl rfl rfl rfl ?_; refine Z4x (t := 14) (b' := true) rfl g2 ?_; refine TQ.move rfl rfl rfl rfl ?_; refine TQ.nilCheck rfl rfl rfl rfl ?_; refine Z0i rfl rfl rfl rfl Z66 ?_; refine Z42 h_a0_k rfl rfl rfl rfl rfl Z79 ?_; refine TQ.move rfl rfl rfl rfl ?_; refine TQ.nilCheck rfl rfl rfl rfl ?_; refine Z0i rfl rfl rfl rfl Z2j ?_; refine Z0i rfl rfl rfl rfl Zc4 ?_; refine Z42 h_a0_k rfl rfl rfl rfl rfl Z2v ?_; refine TQ.tail [21, 22, 23, 24, 25] rfl rfl ?_; refine Z2k h_a0f2 g3 rfl rfl rfl rfl rfl Z56 Z6n ?_; refine Zdb h_a0f2 g3 rfl rfl rfl rfl Z9f ?_; refine TO.not rfl rfl rfl rfl ?_; refine Z0w rfl rfl rfl rfl rfl ?_; refine Z06 rfl rfl rfl rfl ?_; refine Z02 ?_; refine Z01 ?_; refine Z0k (Z00 (t := 2) rfl Z08) ?_; refine T.ret ?_; obtain rfl := ret1 H; exact Z10 rfl rfl rfl rfl (Res.tmp rfl) Z09 ⟨rfl, rfl⟩
 · refine Z3q 21 [0, 1, 2, 3, 4, 5, 6, 7, 8, 9, 10, 11, 12, 13, 14, 15, 16, 17, 18, 19, 20] rfl Z4y (by kernel_rfl) (by kernel_rfl) rfl (by kernel_rfl) ?_; refine TQ.move rfl rfl rfl rfl ?_; refine TQ.nilCheck rfl rfl rfl rfl ?_; refine Z0i rfl rfl rfl rfl Z66 ?_; refine Z42 h_a0_k rfl rfl rfl rfl rfl Z79 ?_; refine TQ.move rfl rfl rfl rfl ?_; refine TQ.nilCheck rfl rfl rfl rfl ?_; refine Z0i rfl rfl rfl rfl Z2j ?_; refine Z0i rfl rfl rfl rfl Z68 ?_; refine Z42 h_a0_k rfl rfl rfl rfl rfl Z2v ?_; refine Z7q h_a0f2 g1 rfl rfl rfl rfl rfl Z56 Z6n ?_; refine Zie h_a0f2 g1 rfl rfl rfl rfl Z9f ?_; refine TQ.move rfl rfl rfl rfl ?_; refine Z4x (t := 14) (b' := false) rfl (Bool.eq_false_iff.2 g2) ?_; refine Z11 rfl rfl rfl rfl ?_; refine Z11 rfl rfl rfl rfl ?_; refine Z11 rfl rfl rfl rfl ?_; refine Z11 rfl rfl rfl rfl ?_; refine Z11 rfl rfl rfl rfl ?_; refine Z11 rfl rfl rfl rfl ?_; refine Z11 rfl rfl rfl rfl ?_; refine Z11 rfl rfl rfl rfl ?_; refine Z11 rfl rfl rfl rfl ?_; refine TQ.tail [21, 22, 23, 24, 25] rfl rfl ?_; refine Z0c rfl rfl rfl rfl ?_; refine Z0c rfl rfl rfl rfl ?_; refine Z0c rfl rfl rfl rfl ?_; refine Z0z rfl rfl rfl rfl rfl ?_; refine Z06 rfl rfl rfl rfl ?_; refine Z02 ?_; refine Z01 ?_; refine Z0k (Z00 (t := 2) rfl Z08) ?_; refine T.ret ?_; obtain rfl := ret1 H; exact Z10 rfl rfl rfl rfl (Res.tmp rfl) Z09 ⟨rfl, rfl⟩
theorem Zcm {a0 : CheckAnswer} {a0_k : Nat} {a0f0f3_b : Option Addr} {a0f0f3_n : Nat} {a0f0f3_c : Nat} {a0f1_b : Option Addr} {a0f1_n : Nat} {a0f1_c : Nat} {a0f2_b : Option Addr} {a0f2_n : Nat} {a0f2_c : Nat} {a0f3_b : Option Addr} {a0f3_n : Nat} {a0f3_c : Nat} (w : World) (h_a0f0f3 : RS w [] Z4g 3 a0f0f3_b a0f0f3_n a0f0f3_c a0.Net.Arcs) (h_a0f1 : RS w [] (intC .i64) 1 a0f1_b a0f1_n a0f1_c a0.f) (h_a0f2 : RS w [] boolC 1 a0f2_b a0f2_n a0f2_c a0.s) (h_a0f3 : RS w [] (intC .i64) 1 a0f3_b a0f3_n a0f3_c a0.out) (h_a0_k : HB w [] a0_k [.int .i64 a0.Net.N, .int .i64 a0.Net.S, .int .i64 a0.Net.T, .slice a0f0f3_b a0f0f3_n a0f0f3_c, .slice a0f1_b a0f1_n a0f1_c, .slice a0f2_b a0f2_n a0f2_c, .slice a0f3_b a0f3_n a0f3_c]) {r0 : Bool} (H : Z3b a0 = some r0) : Fnc Try.prog 90 #[.pointer (some ⟨a0_k, 0, none⟩)] w [] (fun v N => v = .bool r0 ∧ N = []) := by
 unfold Z3b at H; refine Fnc.enter (vs := [.pointer (some ⟨a0_k, 0, none⟩)]) Try.func90 rfl rfl (Inv.refl w) ?_; refine Z0b ?_; refine Z03 (ll := [0]) rfl ?_; refine Z06 rfl rfl rfl rfl ?_; refine Z02 ?_; refine Z01 ?_; refine Z0b ?_; obtain ⟨g1, H⟩ := Z0d H; refine Z3q 9 [0, 1, 2, 3, 4, 5, 6, 7, 8] rfl Z4y (by kernel_rfl) (by kernel_rfl) rfl (by kernel_rfl) ?_; refine TQ.move rfl rfl rfl rfl ?_; refine TQ.nilCheck rfl rfl rfl rfl ?_; refine Z0i rfl rfl rfl rfl Z7a ?_; refine Z42 h_a0_k rfl rfl rfl rfl rfl Z4n ?_; refine TQ.move rfl rfl rfl rfl ?_; refine TQ.nilCheck rfl rfl rfl rfl ?_; refine Z0i rfl rfl rfl rfl Z2j ?_; refine Z0i rfl rfl rfl rfl Z68 ?_; refine Z42 h_a0_k rfl rfl rfl rfl rfl Z2v ?_; refine TQ.tail [9, 10, 11] rfl rfl ?_; refine Z2k h_a0f3 g1 rfl rfl rfl rfl rfl Z0y Z13 ?_; refine Z3h h_a0f3 g1 rfl rfl rfl rfl Z4i ?_; refine Z06 rfl rfl rfl rfl ?_; refine Z02 ?_; refine Z01 ?_; refine Z0k (Z00 (t := 0) rfl (Z00 (t := 3) rfl Z08)) ?_; refine Z0b ?_; refine Z0b ?_; refine Z03 (ll := [0, 1, 2, 3, 4, 5, 6]) rfl ?_; refine Z05 rfl rfl rfl rfl ?_; refine TO.nilCheck rfl rfl rfl rfl ?_; refine Z07 rfl rfl rfl rfl Z2j ?_; refine Z07 rfl rfl rfl rfl Z8k ?_; refine Zb6 h_a0_k rfl rfl rfl rfl rfl Zal ?_; refine Z26 (xs := a0.Net.Arcs) h_a0f0f3.len rfl rfl rfl rfl rfl Z6h ?_; refine Z05 rfl rfl rfl rfl ?_; refine Z02 ?_; refine Z01 ?_; refine Z1l (fun (a3 : Int) => Z49 a3 = some r0) (fun (a3 : Int) => [(3, .int .i64 a3)]) (fun (a3 : Int) => []) ?_ ?_
 ·
  refine T.block ?_; obtain ⟨b1, b5, b7⟩ := Z0l H; refine Z7r (fun (a4 : Nat) (a2 : Int) (x3 : Int) => Z28 (fun s => Z34 a0 s.1 s.2) a4 (a2, x3) = some b1) (fun (a4 : Nat) (a2 : Int) (x3 : Int) => [(0, .pointer (some ⟨a0_k, 0, none⟩)), (3, .int .i64 a2), (21, .slice a0f0f3_b a0f0f3_n a0f0f3_c), (22, .int .i64 (a0.Net.Arcs.length : Int)), (23, .int .i64 x3)]) (fun (a4 : Nat) (a2 : Int) (x3 : Int) => []) (fun (a4 : Nat) (a2 : Int) (x3 : Int) => a4) Z4d (a0.out.getD a0.Net.S.toNat 0) 0 b5 (Z00 rfl (Z00 rfl (Z00 rfl (Z00 rfl (Z00 rfl Z08))))) Z09 ?_; rintro a4 a2 x3 H; obtain ⟨a8, a9, rfl, H, a6⟩ := Z1c H; have H : Z34 a0 a2 x3 = some a9 := H; unfold Z34 at H; refine Z0b ?_; refine Z03 (ll := [0]) rfl ?_; refine Z0r rfl rfl rfl rfl rfl rfl ?_; refine Z02 ?_; refine Z01 ?_; refine Z0b ?_; rcases Z0g H with ⟨g4, H⟩ | ⟨g4, H⟩
  ·
   refine Z14 rfl g4 ?_; refine T.skip ?_; refine Z01 ?_; refine Z0b ?_; refine T.block ?_; refine Z0b ?_; obtain ⟨g5, H⟩ := Z0d H; refine Z03 (ll := [0, 1, 2, 3]) rfl ?_; refine Z2k h_a0f0f3 g5 rfl rfl rfl rfl rfl Z6h Z83 ?_; refine Z8o (cs := [.int .i64 ((a0.Net.Arcs.getD x3.toNat default).fr), .int .i64 ((a0.Net.Arcs.getD x3.toNat default).to), .int .i64 ((a0.Net.Arcs.getD x3.toNat default).cap)]) default h_a0f0f3 g5 rfl rfl rfl rfl rfl Ze9 ?_; refine Z1i rfl rfl rfl Zcg ?_; intro b6; refine Z1b rfl rfl rfl rfl tk0 Z83 rfl rfl rfl ?_; refine Z02 ?_; refine Z01 ?_; refine Z0b ?_; refine Z1l (fun (a5 : Bool) => Z2m a0 a2 x3 a5 = some a9) (fun (a5 : Bool) => [(0, .pointer (some ⟨a0_k, 0, none⟩)), (3, .int .i64 a2), (5, .pointer (some ⟨b6, 0, none⟩)), (21, .slice a0f0f3_b a0f0f3_n a0f0f3_c), (22, .int .i64 (a0.Net.Arcs.length : Int)), (23, .int .i64 x3), (45, .bool a5)]) (fun (a5 : Bool) => [(some b6, .cells #[.int .i64 ((a0.Net.Arcs.getD x3.toNat default).fr), .int .i64 ((a0.Net.Arcs.getD x3.toNat default).to), .int .i64 ((a0.Net.Arcs.getD x3.toNat default).cap)] 35 (0, 0))]) ?_ ?_
   ·
    obtain ⟨g8, H⟩ := Z0d H; rcases Z0g H with ⟨g9, H⟩ | ⟨g9, H⟩
    · obtain ⟨b0, H⟩ := Z0d H; refine Z3q 15 [0, 1, 2, 3, 4, 5, 6, 7, 8, 9, 10, 11, 12, 13, 14] rfl Z4y (by kernel_rfl) (by kernel_rfl) rfl (by kernel_rfl) ?_; refine TQ.move rfl rfl rfl rfl ?_; refine TQ.nilCheck rfl rfl rfl rfl ?_; refine Z0i rfl rfl rfl rfl Z66 ?_; refine Z42 h_a0_k rfl rfl rfl rfl rfl Z79 ?_; refine Z0i rfl rfl rfl rfl Zc3 ?_; refine Z2e rfl rfl rfl rfl Z2v mm0 rfl ?_; refine Z7q h_a0f2 g8 rfl rfl rfl rfl rfl Z56 Z6n ?_; refine Zie h_a0f2 g8 rfl rfl rfl rfl Z9f ?_; refine TQ.move rfl rfl rfl rfl ?_; refine Z4x (t := 35) (b' := true) rfl g9 ?_; refine TQ.move rfl rfl rfl rfl ?_; refine TQ.nilCheck rfl rfl rfl rfl ?_; refine Z0i rfl rfl rfl rfl Z66 ?_; refine Z42 h_a0_k rfl rfl rfl rfl rfl Z79 ?_; refine Z0i rfl rfl rfl rfl Zeo ?_; refine Z2e rfl rfl rfl rfl Z2v mm0 rfl ?_; refine TQ.tail [15, 16, 17, 18] rfl rfl ?_; refine Z2k h_a0f2 b0 rfl rfl rfl rfl rfl Z56 Z6n ?_; refine Zdb h_a0f2 b0 rfl rfl rfl rfl Z9f ?_; refine TO.not rfl rfl rfl rfl ?_; refine Z0w rfl rfl rfl rfl rfl ?_; refine Z02 ?_; exact Z24 (!(a0.s.getD ((a0.Net.Arcs.getD x3.toNat default).to).toNat false)) H (Z00 rfl (Z00 rfl (Z00 rfl (Z00 rfl (Z00 rfl (Z00 rfl (Z00 rfl Z08))))))) (Z04 tk0 Z09)
    · refine Z3q 15 [0, 1, 2, 3, 4, 5, 6, 7, 8, 9, 10, 11, 12, 13, 14] rfl Z4y (by kernel_rfl) (by kernel_rfl) rfl (by kernel_rfl) ?_; refine TQ.move rfl rfl rfl rfl ?_; refine TQ.nilCheck rfl rfl rfl rfl ?_; refine Z0i rfl rfl rfl rfl Z66 ?_; refine Z42 h_a0_k rfl rfl rfl rfl rfl Z79 ?_; refine Z0i rfl rfl rfl rfl Zc3 ?_; refine Z2e rfl rfl rfl rfl Z2v mm0 rfl ?_; refine Z7q h_a0f2 g8 rfl rfl rfl rfl rfl Z56 Z6n ?_; refine Zie h_a0f2 g8 rfl rfl rfl rfl Z9f ?_; refine TQ.move rfl rfl rfl rfl ?_; refine Z4x (t := 35) (b' := false) rfl (Bool.eq_false_iff.2 g9) ?_; refine Z11 rfl rfl rfl rfl ?_; refine Z11 rfl rfl rfl rfl ?_; refine Z11 rfl rfl rfl rfl ?_; refine Z11 rfl rfl rfl rfl ?_; refine Z11 rfl rfl rfl rfl ?_; refine Z11 rfl rfl rfl rfl ?_; refine TQ.tail [15, 16, 17, 18] rfl rfl ?_; refine Z0c rfl rfl rfl rfl ?_; refine Z0c rfl rfl rfl rfl ?_; refine Z0c rfl rfl rfl rfl ?_; refine Z0z rfl rfl rfl rfl rfl ?_; refine Z02 ?_; exact Z24 false H (Z00 rfl (Z00 rfl (Z00 rfl (Z00 rfl (Z00 rfl (Z00 rfl (Z00 rfl Z08))))))) (Z04 tk0 Z09)
   ·
    rintro a5 H; unfold Z2m at H; rcases Z0g H with ⟨a7, H⟩ | ⟨a7, H⟩
    · refine Z1d rfl a7 ?_; obtain ⟨b8, H⟩ := Z0d H; refine Z03 (ll := [0, 1, 2, 3, 4]) rfl ?_; refine Z05 rfl rfl rfl rfl ?_; refine Z07 rfl rfl rfl rfl Zen ?_; refine Z0e rfl rfl rfl rfl Z4i mm0 rfl ?_; refine Zc5 b8 rfl rfl rfl rfl rfl ?_; refine Z06 rfl rfl rfl rfl ?_; refine Z02 ?_; refine Z0h ?_; refine Z01 ?_; obtain ⟨b9, H⟩ := Z0d H; refine Z03 (ll := [0, 1]) rfl ?_; refine Z18 b9 rfl rfl rfl rfl rfl ?_; refine Z05 rfl rfl rfl rfl ?_; refine Z02 ?_; have H := Z16 H a6; exact Z4h a8 (a2 - ((a0.Net.Arcs.getD x3.toNat default).cap)) (x3 + 1) H (Nat.lt_succ_self _) (Z00 rfl (Z00 rfl (Z00 rfl (Z00 rfl (Z00 rfl Z08))))) Z09
    · refine Z1r rfl (Bool.eq_false_iff.2 a7) ?_; refine T.skip ?_; refine Z0h ?_; refine Z01 ?_; obtain ⟨c3, H⟩ := Z0d H; refine Z03 (ll := [0, 1]) rfl ?_; refine Z18 c3 rfl rfl rfl rfl rfl ?_; refine Z05 rfl rfl rfl rfl ?_; refine Z02 ?_; have H := Z16 H a6; exact Z4h a8 a2 (x3 + 1) H (Nat.lt_succ_self _) (Z00 rfl (Z00 rfl (Z00 rfl (Z00 rfl (Z00 rfl Z08))))) Z09
  · refine Z15 rfl g4 ?_; refine T.exit ?_; refine Z0j ?_; have H := Z0v H a6 ▸ b7; refine Z0j ?_; refine Z0x ?_; exact Z24 a2 H (Z00 rfl Z08) Z09
 · rintro a3 H; unfold Z49 at H; refine Z0b ?_; refine Z03 (ll := [0, 1, 2]) rfl ?_; refine Z05 rfl rfl rfl rfl ?_; refine Z0r rfl rfl rfl rfl rfl rfl ?_; refine Z06 rfl rfl rfl rfl ?_; refine Z02 ?_; refine Z01 ?_; refine T.ret ?_; obtain rfl := ret1 H; exact Z10 rfl rfl rfl rfl (Res.tmp rfl) Z09 ⟨rfl, rfl⟩
theorem Z9k {a0 : CheckAnswer} {a0_k : Nat} {a0f0f3_b : Option Addr} {a0f0f3_n : Nat} {a0f0f3_c : Nat} {a0f1_b : Option Addr} {a0f1_n : Nat} {a0f1_c : Nat} {a0f2_b : Option Addr} {a0f2_n : Nat} {a0f2_c : Nat} {a0f3_o : Option Nat} {a0f3_n : Nat} {a0f3_c : Nat} {a0f3_j : List Value} (w : World) (hin : Inv w (([(some a0_k, .cells #[.int .i64 a0.Net.N, .int .i64 a0.Net.S, .int .i64 a0.Net.T, .slice a0f0f3_b a0f0f3_n a0f0f3_c, .slice a0f1_b a0f1_n a0f1_c, .slice a0f2_b a0f2_n a0f2_c, .slice (sb a0f3_o) a0f3_n a0f3_c] 96 (0, 0)), (a0f3_o, .cells (arr (intC .i64) a0.out a0f3_j).toArray 2 (0, 0))] : Heap).filterMap Prod.fst) w [(some a0_k, .cells #[.int .i64 a0.Net.N, .int .i64 a0.Net.S, .int .i64 a0.Net.T, .slice a0f0f3_b a0f0f3_n a0f0f3_c, .slice a0f1_b a0f1_n a0f1_c, .slice a0f2_b a0f2_n a0f2_c, .slice (sb a0f3_o) a0f3_n a0f3_c] 96 (0, 0)), (a0f3_o, .cells (arr (intC .i64) a0.out a0f3_j).toArray 2 (0, 0))]) (h_a0f0f3 : RS w (([(some a0_k, .cells #[.int .i64 a0.Net.N, .int .i64 a0.Net.S, .int .i64 a0.Net.T, .slice a0f0f3_b a0f0f3_n a0f0f3_c, .slice a0f1_b a0f1_n a0f1_c, .slice a0f2_b a0f2_n a0f2_c, .slice (sb a0f3_o) a0f3_n a0f3_c] 96 (0, 0)), (a0f3_o, .cells (arr (intC .i64) a0.out a0f3_j).toArray 2 (0, 0))] : Heap).filterMap Prod.fst) Z4g 3 a0f0f3_b a0f0f3_n a0f0f3_c a0.Net.Arcs) (h_a0f1 : RS w (([(some a0_k, .cells #[.int .i64 a0.Net.N, .int .i64 a0.Net.S, .int .i64 a0.Net.T, .slice a0f0f3_b a0f0f3_n a0f0f3_c, .slice a0f1_b a0f1_n a0f1_c, .slice a0f2_b a0f2_n a0f2_c, .slice (sb a0f3_o) a0f3_n a0f3_c] 96 (0, 0)), (a0f3_o, .cells (arr (intC .i64) a0.out a0f3_j).toArray 2 (0, 0))] : Heap).filterMap Prod.fst) (intC .i64) 1 a0f1_b a0f1_n a0f1_c a0.f) (h_a0f2 : RS w (([(some a0_k, .cells #[.int .i64 a0.Net.N, .int .i64 a0.Net.S, .int .i64 a0.Net.T, .slice a0f0f3_b a0f0f3_n a0f0f3_c, .slice a0f1_b a0f1_n a0f1_c, .slice a0f2_b a0f2_n a0f2_c, .slice (sb a0f3_o) a0f3_n a0f3_c] 96 (0, 0)), (a0f3_o, .cells (arr (intC .i64) a0.out a0f3_j).toArray 2 (0, 0))] : Heap).filterMap Prod.fst) boolC 1 a0f2_b a0f2_n a0f2_c a0.s) (h_a0f3_l : a0.out.length = a0f3_n) (h_a0f3_c : a0f3_n ≤ a0f3_c) (h_a0f3_j : a0f3_j.length = (a0f3_c - a0f3_n) * 1) (h_a0f3_z : (a0f3_o = none → a0f3_c = 0)) {r0 : Int} {o0 : CheckAnswer} (H : Z3y a0 = some (r0, o0)) : Fnc Try.prog 52 #[.pointer (some ⟨a0_k, 0, none⟩)] w (([(some a0_k, .cells #[.int .i64 a0.Net.N, .int .i64 a0.Net.S, .int .i64 a0.Net.T, .slice a0f0f3_b a0f0f3_n a0f0f3_c, .slice a0f1_b a0f1_n a0f1_c, .slice a0f2_b a0f2_n a0f2_c, .slice (sb a0f3_o) a0f3_n a0f3_c] 96 (0, 0)), (a0f3_o, .cells (arr (intC .i64) a0.out a0f3_j).toArray 2 (0, 0))] : Heap).filterMap Prod.fst) (fun v N => ∃ (b1 : Option Nat) (c4 : Nat) (c7 : Nat) (d8 : List Value), v = .int .i64 r0 ∧ N = [(some a0_k, .cells #[.int .i64 a0.Net.N, .int .i64 a0.Net.S, .int .i64 a0.Net.T, .slice a0f0f3_b a0f0f3_n a0f0f3_c, .slice a0f1_b a0f1_n a0f1_c, .slice a0f2_b a0f2_n a0f2_c, .slice (sb b1) c4 c7] 96 (0, 0)), (b1, .cells (arr (intC .i64) o0.out d8).toArray 2 (0, 0))] ∧ o0.out.length = c4 ∧ c4 ≤ c7 ∧ d8.length = (c7 - c4) * 1 ∧ (b1 = none → c7 = 0)) := by
 unfold Z3y at H; refine Fnc.enter (vs := [.pointer (some ⟨a0_k, 0, none⟩)]) Try.func52 rfl rfl hin ?_; refine Z0b ?_; refine Z03 (ll := [0]) rfl ?_; refine Z06 rfl rfl rfl rfl ?_; refine Z02 ?_; refine Z01 ?_; refine Z0b ?_; refine Z0b ?_; obtain ⟨r3, e4, H⟩ := Z0l H; refine Z03 (ll := [0, 1, 2, 3, 4, 5]) rfl ?_; refine Z05 rfl rfl rfl rfl ?_; refine TO.nilCheck rfl rfl rfl rfl ?_; refine Z07 rfl rfl rfl rfl Z2j ?_; refine Zci (vs := [.int .i64 a0.Net.N, .int .i64 a0.Net.S, .int .i64 a0.Net.T, .slice a0f0f3_b a0f0f3_n a0f0f3_c]) rfl rfl rfl rfl Z1k mm0 rfl rfl ?_; refine Z0n Znr rfl rfl rfl rfl (fun wc hwc => Z5w (n0 := a0.Net) wc (h_a0f0f3.mono hwc) e4) ?_; rintro _ _ ⟨rfl, rfl⟩; refine Z06 rfl rfl rfl rfl ?_; refine Z02 ?_; refine Z01 ?_; refine Z0b ?_; refine Z03 (ll := [0, 1]) rfl ?_; refine Z05 rfl rfl rfl rfl ?_; refine Z0r rfl rfl rfl rfl rfl rfl ?_; refine Z02 ?_; refine Z01 ?_; rcases Z0g H with ⟨g5, H⟩ | ⟨g5, H⟩
 · refine Z14 rfl g5 ?_; refine Z0b ?_; refine Z03 (ll := [0, 1]) rfl ?_; refine Z05 rfl rfl rfl rfl ?_; refine Z06 rfl rfl rfl rfl ?_; refine Z02 ?_; refine Z01 ?_; refine Z0k (Z00 (t := 2) rfl Z08) ?_; refine T.ret ?_; refine Z0f ?_; obtain ⟨rfl, rfl⟩ := ret2 H; exact Z10 rfl rfl rfl rfl (Res.tmp rfl) (Z04 tk0 (Z04 tk0 Z09)) ⟨a0f3_o, a0f3_n, a0f3_c, a0f3_j, rfl, rfl, h_a0f3_l, h_a0f3_c, h_a0f3_j, h_a0f3_z⟩
 ·
  refine Z15 rfl g5 ?_; refine T.skip ?_; refine Z01 ?_; refine Z0k (Z00 (t := 0) rfl Z08) ?_; refine Z0b ?_; refine Z0b ?_; refine Z03 (ll := [0, 1, 2, 3, 4, 5, 6, 7, 8, 9, 10, 11, 12, 13, 14, 15, 16, 17]) rfl ?_; refine Z05 rfl rfl rfl rfl ?_; refine TO.makeFunc rfl rfl rfl rfl rfl ?_; refine Z2l (t := 139) [.nilFunc, .int .i64 0] [0, 1] rfl rfl rfl rfl (by simp only [Z1m, setCells, Value.cells, List.toList_toArray, List.getD_cons_zero, List.getD_cons_succ, List.set_cons_zero, List.set_cons_succ]; rfl) (by kernel_rfl) ?_; refine Z05 rfl rfl rfl rfl ?_; refine TO.makeFunc rfl rfl rfl rfl rfl ?_; refine Z2l (t := 139) [.nilFunc, .int .i64 0] [0, 1] rfl rfl rfl rfl (by simp only [Z1m, setCells, Value.cells, List.toList_toArray, List.getD_cons_zero, List.getD_cons_succ, List.set_cons_zero, List.set_cons_succ]; rfl) (by kernel_rfl) ?_; refine Z05 rfl rfl rfl rfl ?_; refine TO.makeFunc rfl rfl rfl rfl rfl ?_; refine Z2l (t := 139) [.nilFunc, .int .i64 0] [0, 1] rfl rfl rfl rfl (by simp only [Z1m, setCells, Value.cells, List.toList_toArray, List.getD_cons_zero, List.getD_cons_succ, List.set_cons_zero, List.set_cons_succ]; rfl) (by kernel_rfl) ?_; refine Z05 rfl rfl rfl rfl ?_; refine TO.makeFunc rfl rfl rfl rfl rfl ?_; refine Z2l (t := 139) [.nilFunc, .int .i64 0] [0, 1] rfl rfl rfl rfl (by simp only [Z1m, setCells, Value.cells, List.toList_toArray, List.getD_cons_zero, List.getD_cons_succ, List.set_cons_zero, List.set_cons_succ]; rfl) (by kernel_rfl) ?_; refine Z05 rfl rfl rfl rfl ?_; refine TO.makeFunc rfl rfl rfl rfl rfl ?_; refine Z2l (t := 139) [.nilFunc, .int .i64 0] [0, 1] rfl rfl rfl rfl (by simp only [Z1m, setCells, Value.cells, List.toList_toArray, List.getD_cons_zero, List.getD_cons_succ, List.set_cons_zero, List.set_cons_succ]; rfl) (by kernel_rfl) ?_; refine Z0s [.nilFunc, .int .i64 0, .nilFunc, .int .i64 0, .nilFunc, .int .i64 0, .nilFunc, .int .i64 0, .nilFunc, .int .i64 0] [0, 2, 4, 6, 8] rfl rfl rfl rfl Z70 Z4j Z82 rfl rfl (by simp only [Z1m, setCells, Value.cells, List.toList_toArray, List.getD_cons_zero, List.getD_cons_succ, List.set_cons_zero, List.set_cons_succ]; rfl) (by kernel_rfl) ?_; intro b6; refine Z26 (xs := [(), (), (), (), ()]) (n := 5) rfl rfl rfl rfl rfl rfl Z70 ?_; refine Z05 rfl rfl rfl rfl ?_; refine Z02 ?_; refine Z01 ?_; refine Z0k (Z00 (t := 29) rfl (Z00 (t := 30) rfl (Z00 (t := 31) rfl Z08))) ?_; refine Zc8 (fun (a2 : List Int) (a9 : Nat) (b0 : Nat) (a3 : Option Nat) (b5 : List Value) => Z3u a0 a2 = some (r0, o0) ∧ a2.length = a9 ∧ a9 ≤ b0 ∧ b5.length = (b0 - a9) * 1 ∧ (a3 = none → b0 = 0)) (fun (a2 : List Int) (a9 : Nat) (b0 : Nat) (a3 : Option Nat) (b5 : List Value) => []) (fun (a2 : List Int) (a9 : Nat) (b0 : Nat) (a3 : Option Nat) (b5 : List Value) => [(some a0_k, .cells #[.int .i64 a0.Net.N, .int .i64 a0.Net.S, .int .i64 a0.Net.T, .slice a0f0f3_b a0f0f3_n a0f0f3_c, .slice a0f1_b a0f1_n a0f1_c, .slice a0f2_b a0f2_n a0f2_c, .slice (sb a3) a9 b0] 96 (0, 0)), (a3, .cells (arr (intC .i64) a2 b5).toArray 2 (0, 0))]) ?_ ?_
  ·
   refine T.block ?_; refine Zq1 ?_; refine Z6i ?_; refine Z0b ?_; refine Z03 (ll := [0]) rfl ?_; refine Z84 (b := true) rfl rfl rfl rfl rfl rfl (by first | decide | rfl) ?_; refine Z02 ?_; refine Z01 ?_; refine Z0b ?_; refine Z1d rfl rfl ?_; refine T.skip ?_; refine Z01 ?_; refine Z0b ?_; refine T.block ?_; refine Z0b ?_; refine Z03 (ll := [0, 1, 2, 3]) rfl ?_; refine Zhh (xs := [(), (), (), (), ()]) (n := 5) rfl (Zj7 (k := 0) rfl) rfl rfl rfl rfl rfl Z70 Z4j ?_; refine Zci (vs := [.func (.func 86) #[.pointer (some ⟨a0_k, 0, none⟩)] #[], .int .i64 60]) rfl rfl rfl rfl Z9g mm0 rfl rfl ?_; refine Z1i rfl rfl rfl Z82 ?_; intro b8; refine Z1b rfl rfl rfl rfl tk0 Z4j rfl rfl rfl ?_; refine Z02 ?_; refine Z01 ?_; refine Z0b ?_; obtain ⟨e5, d9, H⟩ := Z0l H; refine Z03 (ll := [0, 1, 2, 3]) rfl ?_; refine Z07 rfl rfl rfl rfl Z7o ?_; refine Z0e rfl rfl rfl rfl Zaj mm0 rfl ?_; refine Z3a Znq rfl rfl rfl rfl rfl (fun wc hwc => Zcz (a0 := a0) wc (h_a0f0f3.mono hwc) (h_a0f1.mono hwc) (h_a0f2.mono hwc) (hwc.rs (f := (intC .i64)) (s := 1) (xs := a0.out) (j := a0f3_j) (fun _ => rfl) mm3 h_a0f3_l h_a0f3_c h_a0f3_z) (hwc.hb (cs := [.int .i64 a0.Net.N, .int .i64 a0.Net.S, .int .i64 a0.Net.T, .slice a0f0f3_b a0f0f3_n a0f0f3_c, .slice a0f1_b a0f1_n a0f1_c, .slice a0f2_b a0f2_n a0f2_c, .slice (sb a0f3_o) a0f3_n a0f3_c]) mm2) d9) ?_; rintro _ _ ⟨rfl, rfl⟩; refine TO.not rfl rfl rfl rfl ?_; refine Z02 ?_; refine Z01 ?_; rcases Z0g H with ⟨c8, H⟩ | ⟨c8, H⟩
   · refine Z1d rfl c8 ?_; refine Z0b ?_; refine Z03 (ll := [0, 1, 2]) rfl ?_; refine Z07 rfl rfl rfl rfl Z7n ?_; refine Z0e rfl rfl rfl rfl Zak mm0 rfl ?_; refine Z06 rfl rfl rfl rfl ?_; refine Z02 ?_; refine Z01 ?_; refine Z0k (Z00 (t := 2) rfl Z08) ?_; refine T.ret ?_; refine Z0o ?_; refine Z0f ?_; refine Z0f ?_; refine Z0o ?_; refine Z0f ?_; obtain ⟨rfl, rfl⟩ := ret2 H; exact Z10 rfl rfl rfl rfl (Res.tmp rfl) (Z04 tk2 (Z04 tk2 Z09)) ⟨a0f3_o, a0f3_n, a0f3_c, a0f3_j, rfl, rfl, h_a0f3_l, h_a0f3_c, h_a0f3_j, h_a0f3_z⟩
   ·
    refine Z1r rfl (Bool.eq_false_iff.2 c8) ?_; refine T.skip ?_; refine Z0h ?_; refine Z01 ?_; refine Z0k (Z00 (t := 29) rfl (Z00 (t := 30) rfl (Z00 (t := 31) rfl Z08))) ?_; refine Z03 (ll := [0, 1]) rfl ?_; refine Z9i (r := 1) (by decide) rfl rfl rfl rfl rfl ?_; refine Z05 rfl rfl rfl rfl ?_; refine Z02 ?_; refine Z9e ?_; refine Z6i ?_; refine Z0b ?_; refine Z03 (ll := [0]) rfl ?_; refine Z84 (b := true) rfl rfl rfl rfl rfl rfl (by first | decide | rfl) ?_; refine Z02 ?_; refine Z01 ?_; refine Z0b ?_; refine Z1d rfl rfl ?_; refine T.skip ?_; refine Z01 ?_; refine Z0b ?_; refine T.block ?_; refine Z0b ?_; refine Z03 (ll := [0, 1, 2, 3]) rfl ?_; refine Zhh (xs := [(), (), (), (), ()]) (n := 5) rfl (Zj7 (k := 1) rfl) rfl rfl rfl rfl rfl Z70 Z4j ?_; refine Zci (vs := [.func (.func 87) #[.pointer (some ⟨a0_k, 0, none⟩)] #[], .int .i64 61]) rfl rfl rfl rfl Z9g mm1 rfl rfl ?_; refine Z1i rfl rfl rfl Z82 ?_; intro e6; refine Z1b rfl rfl rfl rfl tk0 Z4j rfl rfl rfl ?_; refine Z02 ?_; refine Z01 ?_; refine Z0b ?_; obtain ⟨e7, e0, H⟩ := Z0l H; refine Z03 (ll := [0, 1, 2, 3]) rfl ?_; refine Z07 rfl rfl rfl rfl Z7o ?_; refine Z0e rfl rfl rfl rfl Zaj mm0 rfl ?_; refine Z3a Znp rfl rfl rfl rfl rfl (fun wc hwc => Zbc (a0 := a0) wc (h_a0f0f3.mono hwc) (h_a0f1.mono hwc) (h_a0f2.mono hwc) (hwc.rs (f := (intC .i64)) (s := 1) (xs := a0.out) (j := a0f3_j) (fun _ => rfl) mm4 h_a0f3_l h_a0f3_c h_a0f3_z) (hwc.hb (cs := [.int .i64 a0.Net.N, .int .i64 a0.Net.S, .int .i64 a0.Net.T, .slice a0f0f3_b a0f0f3_n a0f0f3_c, .slice a0f1_b a0f1_n a0f1_c, .slice a0f2_b a0f2_n a0f2_c, .slice (sb a0f3_o) a0f3_n a0f3_c]) mm3) e0) ?_; rintro _ _ ⟨rfl, rfl⟩; refine TO.not rfl rfl rfl rfl ?_; refine Z02 ?_; refine Z01 ?_; rcases Z0g H with ⟨c9, H⟩ | ⟨c9, H⟩
    · refine Z1d rfl c9 ?_; refine Z0b ?_; refine Z03 (ll := [0, 1, 2]) rfl ?_; refine Z07 rfl rfl rfl rfl Z7n ?_; refine Z0e rfl rfl rfl rfl Zak mm0 rfl ?_; refine Z06 rfl rfl rfl rfl ?_; refine Z02 ?_; refine Z01 ?_; refine Z0k (Z00 (t := 2) rfl Z08) ?_; refine T.ret ?_; refine Z0o ?_; refine Z0f ?_; refine Z0f ?_; refine Z0o ?_; refine Z0f ?_; obtain ⟨rfl, rfl⟩ := ret2 H; exact Z10 rfl rfl rfl rfl (Res.tmp rfl) (Z04 tk3 (Z04 tk3 Z09)) ⟨a0f3_o, a0f3_n, a0f3_c, a0f3_j, rfl, rfl, h_a0f3_l, h_a0f3_c, h_a0f3_j, h_a0f3_z⟩
    ·
     refine Z1r rfl (Bool.eq_false_iff.2 c9) ?_; refine T.skip ?_; refine Z0h ?_; refine Z01 ?_; refine Z0k (Z00 (t := 29) rfl (Z00 (t := 30) rfl (Z00 (t := 31) rfl Z08))) ?_; refine Z03 (ll := [0, 1]) rfl ?_; refine Z9i (r := 2) (by decide) rfl rfl rfl rfl rfl ?_; refine Z05 rfl rfl rfl rfl ?_; refine Z02 ?_; refine Z9e ?_; refine Z6i ?_; refine Z0b ?_; refine Z03 (ll := [0]) rfl ?_; refine Z84 (b := true) rfl rfl rfl rfl rfl rfl (by first | decide | rfl) ?_; refine Z02 ?_; refine Z01 ?_; refine Z0b ?_; refine Z1d rfl rfl ?_; refine T.skip ?_; refine Z01 ?_; refine Z0b ?_; refine T.block ?_; refine Z0b ?_; refine Z03 (ll := [0, 1, 2, 3]) rfl ?_; refine Zhh (xs := [(), (), (), (), ()]) (n := 5) rfl (Zj7 (k := 2) rfl) rfl rfl rfl rfl rfl Z70 Z4j ?_; refine Zci (vs := [.func (.func 88) #[.pointer (some ⟨a0_k, 0, none⟩)] #[], .int .i64 62]) rfl rfl rfl rfl Z9g mm2 rfl rfl ?_; refine Z1i rfl rfl rfl Z82 ?_; intro e8; refine Z1b rfl rfl rfl rfl tk0 Z4j rfl rfl rfl ?_; refine Z02 ?_; refine Z01 ?_; refine Z0b ?_; obtain ⟨⟨e9, c3⟩, e1, H⟩ := Z0l H; refine Z03 (ll := [0, 1, 2, 3]) rfl ?_; refine Z07 rfl rfl rfl rfl Z7o ?_; refine Z0e rfl rfl rfl rfl Zaj mm0 rfl ?_; refine Zao Zno rfl rfl rfl rfl rfl (Z0p tk4 (Gone.refl _)) rfl (fun wc hwc => Zco (a0 := a0) wc (hwc.self (Z04 tk4 Z09) rfl) (h_a0f0f3.monoM (by decide) hwc (Z0p tk4 (Gone.refl _)) rfl) (h_a0f1.monoM (by decide) hwc (Z0p tk4 (Gone.refl _)) rfl) (h_a0f2.monoM (by decide) hwc (Z0p tk4 (Gone.refl _)) rfl) (hwc.rsM (f := (intC .i64)) (s := 1) (xs := a0.out) (j := a0f3_j) (fun _ => rfl) (Z0p tk4 (Gone.refl _)) rfl mm4 h_a0f3_l h_a0f3_c h_a0f3_z) e1) ?_; rintro _ _ ⟨a4, n24, b7, b9, rfl, rfl, a5, a6, a8, a7⟩; refine TO.not rfl rfl rfl rfl ?_; refine Z02 ?_; refine Z01 ?_; rcases Z0g H with ⟨d0, H⟩ | ⟨d0, H⟩
     · refine Z1d rfl d0 ?_; refine Z0b ?_; refine Z03 (ll := [0, 1, 2]) rfl ?_; refine Z07 rfl rfl rfl rfl Z7n ?_; refine Z0e rfl rfl rfl rfl Zak mm2 rfl ?_; refine Z06 rfl rfl rfl rfl ?_; refine Z02 ?_; refine Z01 ?_; refine Z0k (Z00 (t := 2) rfl Z08) ?_; refine T.ret ?_; refine Z0o ?_; refine Z0f ?_; refine Z0f ?_; refine Z0o ?_; refine Z0f ?_; obtain ⟨rfl, rfl⟩ := ret2 H; exact Z10 rfl rfl rfl rfl (Res.tmp rfl) (Z04 tk0 (Z04 tk0 Z09)) ⟨a4, n24, b7, b9, rfl, rfl, a5, a6, a8, a7⟩
     ·
      refine Z1r rfl (Bool.eq_false_iff.2 d0) ?_; refine T.skip ?_; refine Z0h ?_; refine Z01 ?_; refine Z0k (Z00 (t := 29) rfl (Z00 (t := 30) rfl (Z00 (t := 31) rfl Z08))) ?_; refine Z03 (ll := [0, 1]) rfl ?_; refine Z9i (r := 3) (by decide) rfl rfl rfl rfl rfl ?_; refine Z05 rfl rfl rfl rfl ?_; refine Z02 ?_; refine Z9e ?_; refine Z6i ?_; refine Z0b ?_; refine Z03 (ll := [0]) rfl ?_; refine Z84 (b := true) rfl rfl rfl rfl rfl rfl (by first | decide | rfl) ?_; refine Z02 ?_; refine Z01 ?_; refine Z0b ?_; refine Z1d rfl rfl ?_; refine T.skip ?_; refine Z01 ?_; refine Z0b ?_; refine T.block ?_; refine Z0b ?_; refine Z03 (ll := [0, 1, 2, 3]) rfl ?_; refine Zhh (xs := [(), (), (), (), ()]) (n := 5) rfl (Zj7 (k := 3) rfl) rfl rfl rfl rfl rfl Z70 Z4j ?_; refine Zci (vs := [.func (.func 89) #[.pointer (some ⟨a0_k, 0, none⟩)] #[], .int .i64 63]) rfl rfl rfl rfl Z9g mm5 rfl rfl ?_; refine Z1i rfl rfl rfl Z82 ?_; intro f0; refine Z1b rfl rfl rfl rfl tk0 Z4j rfl rfl rfl ?_; refine Z02 ?_; refine Z01 ?_; refine Z0b ?_; obtain ⟨f2, e2, H⟩ := Z0l H; refine Z03 (ll := [0, 1, 2, 3]) rfl ?_; refine Z07 rfl rfl rfl rfl Z7o ?_; refine Z0e rfl rfl rfl rfl Zaj mm0 rfl ?_; refine Z3a Znn rfl rfl rfl rfl rfl (fun wc hwc => Zcn (a0 := (CheckAnswer.mk a0.Net a0.f a0.s c3.out)) wc (h_a0f0f3.mono hwc) (h_a0f1.mono hwc) (h_a0f2.mono hwc) (hwc.rs (f := (intC .i64)) (s := 1) (xs := c3.out) (j := b9) (fun _ => rfl) mm2 a5 a6 a7) (hwc.hb (cs := [.int .i64 a0.Net.N, .int .i64 a0.Net.S, .int .i64 a0.Net.T, .slice a0f0f3_b a0f0f3_n a0f0f3_c, .slice a0f1_b a0f1_n a0f1_c, .slice a0f2_b a0f2_n a0f2_c, .slice (sb a4) n24 b7]) mm1) e2) ?_; rintro _ _ ⟨rfl, rfl⟩; refine TO.not rfl rfl rfl rfl ?_; refine Z02 ?_; refine Z01 ?_; rcases Z0g H with ⟨d1, H⟩ | ⟨d1, H⟩
      · refine Z1d rfl d1 ?_; refine Z0b ?_; refine Z03 (ll := [0, 1, 2]) rfl ?_; refine Z07 rfl rfl rfl rfl Z7n ?_; refine Z0e rfl rfl rfl rfl Zak mm0 rfl ?_; refine Z06 rfl rfl rfl rfl ?_; refine Z02 ?_; refine Z01 ?_; refine Z0k (Z00 (t := 2) rfl Z08) ?_; refine T.ret ?_; refine Z0o ?_; refine Z0f ?_; refine Z0f ?_; refine Z0o ?_; refine Z0f ?_; obtain ⟨rfl, rfl⟩ := ret2 H; exact Z10 rfl rfl rfl rfl (Res.tmp rfl) (Z04 tk1 (Z04 tk1 Z09)) ⟨a4, n24, b7, b9, rfl, rfl, a5, a6, a8, a7⟩
      ·
       refine Z1r rfl (Bool.eq_false_iff.2 d1) ?_; refine T.skip ?_; refine Z0h ?_; refine Z01 ?_; refine Z0k (Z00 (t := 29) rfl (Z00 (t := 30) rfl (Z00 (t := 31) rfl Z08))) ?_; refine Z03 (ll := [0, 1]) rfl ?_; refine Z9i (r := 4) (by decide) rfl rfl rfl rfl rfl ?_; refine Z05 rfl rfl rfl rfl ?_; refine Z02 ?_; refine Z9e ?_; refine Z6i ?_; refine Z0b ?_; refine Z03 (ll := [0]) rfl ?_; refine Z84 (b := true) rfl rfl rfl rfl rfl rfl (by first | decide | rfl) ?_; refine Z02 ?_; refine Z01 ?_; refine Z0b ?_; refine Z1d rfl rfl ?_; refine T.skip ?_; refine Z01 ?_; refine Z0b ?_; refine T.block ?_; refine Z0b ?_; refine Z03 (ll := [0, 1, 2, 3]) rfl ?_; refine Zhh (xs := [(), (), (), (), ()]) (n := 5) rfl (Zj7 (k := 4) rfl) rfl rfl rfl rfl rfl Z70 Z4j ?_; refine Zci (vs := [.func (.func 90) #[.pointer (some ⟨a0_k, 0, none⟩)] #[], .int .i64 64]) rfl rfl rfl rfl Z9g mm6 rfl rfl ?_; refine Z1i rfl rfl rfl Z82 ?_; intro f3; refine Z1b rfl rfl rfl rfl tk0 Z4j rfl rfl rfl ?_; refine Z02 ?_; refine Z01 ?_; refine Z0b ?_; obtain ⟨f4, e3, H⟩ := Z0l H; refine Z03 (ll := [0, 1, 2, 3]) rfl ?_; refine Z07 rfl rfl rfl rfl Z7o ?_; refine Z0e rfl rfl rfl rfl Zaj mm0 rfl ?_; refine Z3a Znm rfl rfl rfl rfl rfl (fun wc hwc => Zcm (a0 := (CheckAnswer.mk a0.Net a0.f a0.s c3.out)) wc (h_a0f0f3.mono hwc) (h_a0f1.mono hwc) (h_a0f2.mono hwc) (hwc.rs (f := (intC .i64)) (s := 1) (xs := c3.out) (j := b9) (fun _ => rfl) mm3 a5 a6 a7) (hwc.hb (cs := [.int .i64 a0.Net.N, .int .i64 a0.Net.S, .int .i64 a0.Net.T, .slice a0f0f3_b a0f0f3_n a0f0f3_c, .slice a0f1_b a0f1_n a0f1_c, .slice a0f2_b a0f2_n a0f2_c, .slice (sb a4) n24 b7]) mm2) e3) ?_; rintro _ _ ⟨rfl, rfl⟩; refine TO.not rfl rfl rfl rfl ?_; refine Z02 ?_; refine Z01 ?_; rcases Z0g H with ⟨d3, H⟩ | ⟨d3, H⟩
       · refine Z1d rfl d3 ?_; refine Z0b ?_; refine Z03 (ll := [0, 1, 2]) rfl ?_; refine Z07 rfl rfl rfl rfl Z7n ?_; refine Z0e rfl rfl rfl rfl Zak mm0 rfl ?_; refine Z06 rfl rfl rfl rfl ?_; refine Z02 ?_; refine Z01 ?_; refine Z0k (Z00 (t := 2) rfl Z08) ?_; refine T.ret ?_; refine Z0o ?_; refine Z0f ?_; refine Z0f ?_; refine Z0o ?_; refine Z0f ?_; obtain ⟨rfl, rfl⟩ := ret2 H; exact Z10 rfl rfl rfl rfl (Res.tmp rfl) (Z04 tk2 (Z04 tk2 Z09)) ⟨a4, n24, b7, b9, rfl, rfl, a5, a6, a8, a7⟩
       · refine Z1r rfl (Bool.eq_false_iff.2 d3) ?_; refine T.skip ?_; refine Z0h ?_; refine Z01 ?_; refine Z0k (Z00 (t := 29) rfl (Z00 (t := 30) rfl (Z00 (t := 31) rfl Z08))) ?_; refine Z03 (ll := [0, 1]) rfl ?_; refine Z9i (r := 5) (by decide) rfl rfl rfl rfl rfl ?_; refine Z05 rfl rfl rfl rfl ?_; refine Z02 ?_; refine Z9e ?_; refine Z6i ?_; refine Z0b ?_; refine Z03 (ll := [0]) rfl ?_; refine Z84 (b := false) rfl rfl rfl rfl rfl rfl (by first | decide | rfl) ?_; refine Z02 ?_; refine Z01 ?_; refine Z0b ?_; refine Z1r rfl rfl ?_; refine T.exit ?_; refine Z0j ?_; refine Z0j ?_; refine Z0x ?_; exact Zfs c3.out n24 b7 a4 b9 ⟨H, a5, a6, a8, a7⟩ Z08 (Z04 tk2 (Z04 tk2 Z09))
  · rintro a2 a9 b0 a3 b5 ⟨H, d4, d5, d6, d7⟩; unfold Z3u at H; refine Z0b ?_; refine Z03 (ll := [0]) rfl ?_; refine Z06 rfl rfl rfl rfl ?_; refine Z02 ?_; refine Z01 ?_; refine T.ret ?_; obtain ⟨rfl, rfl⟩ := ret2 H; exact Z10 rfl rfl rfl rfl (Res.tmp rfl) (Z04 tk0 (Z04 tk0 Z09)) ⟨a3, a9, b0, b5, rfl, rfl, d4, d5, d6, d7⟩
theorem Z2s {n0 : Net} {f1 : List Int} {s2 : List Bool} {n0f3_b : Option Addr} {n0f3_n : Nat} {n0f3_c : Nat} {f1_b : Option Addr} {f1_n : Nat} {f1_c : Nat} {s2_b : Option Addr} {s2_n : Nat} {s2_c : Nat} (w : World) (h_n0f3 : RS w [] Z4g 3 n0f3_b n0f3_n n0f3_c n0.Arcs) (a2 : RS w [] (intC .i64) 1 f1_b f1_n f1_c f1) (a3 : RS w [] boolC 1 s2_b s2_n s2_c s2) {r0 : Int} (H : Z5y n0 f1 s2 = some r0) : Fnc Try.prog 19 #[.agg #[.int .i64 n0.N, .int .i64 n0.S, .int .i64 n0.T, .slice n0f3_b n0f3_n n0f3_c], .slice f1_b f1_n f1_c, .slice s2_b s2_n s2_c] w [] (fun v N => v = .int .i64 r0 ∧ N = []) := by
 unfold Z5y at H; refine Fnc.enter (vs := [.agg #[.int .i64 n0.N, .int .i64 n0.S, .int .i64 n0.T, .slice n0f3_b n0f3_n n0f3_c], .slice f1_b f1_n f1_c, .slice s2_b s2_n s2_c]) Try.func19 rfl rfl (Inv.refl w) ?_; refine Z0b ?_; refine Z03 (ll := [0, 1]) rfl ?_; refine Z1p rfl rfl rfl rfl ?_; intro b1; refine Z06 rfl rfl rfl rfl ?_; refine Z02 ?_; refine Z01 ?_; refine Z0b ?_; obtain ⟨⟨r6, r7⟩, e8, H⟩ := Z0l H; refine Z03 (ll := [0, 1, 2, 3, 4, 5, 6]) rfl ?_; refine Z0q rfl rfl rfl rfl Z1k mm0 rfl ?_; refine Z05 rfl rfl rfl rfl ?_; refine Z05 rfl rfl rfl rfl ?_; refine Z2l (t := 96) [.int .i64 0, .int .i64 0, .int .i64 0, .slice none 0 0, .slice none 0 0, .slice none 0 0, .slice none 0 0] [0, 4, 5, 6] rfl rfl rfl rfl (by simp only [Z1m, setCells, Value.cells, List.toList_toArray, List.getD_cons_zero, List.getD_cons_succ, List.set_cons_zero, List.set_cons_succ]; rfl) (by kernel_rfl) ?_; refine Z1p rfl rfl rfl rfl ?_; intro b3; refine TO.addNone (.cells (arr (intC .i64) ([] : List Int) []).toArray 2 (0, 0)) ?_; refine Z2z (H := [(none, .cells (arr (intC .i64) ([] : List Int) ([])).toArray 2 (0, 0)), (some b3, .cells #[.int .i64 n0.N, .int .i64 n0.S, .int .i64 n0.T, .slice n0f3_b n0f3_n n0f3_c, .slice f1_b f1_n f1_c, .slice s2_b s2_n s2_c, .slice (sb none) 0 0] 96 (0, 0)), (some b1, .cells #[.int .i64 n0.N, .int .i64 n0.S, .int .i64 n0.T, .slice n0f3_b n0f3_n n0f3_c] 24 (0, 0))]) rfl ?_; refine Zg8 Zhe rfl rfl rfl rfl (Z0p tk1 (Z0p tk0 (Gone.refl _))) rfl (fun wc hwc => Z9k (a0 := (CheckAnswer.mk n0 f1 s2 ([] : List Int))) wc (hwc.self (Z04 tk1 (Z04 tk0 Z09)) rfl) (h_n0f3.monoM (by decide) hwc (Z0p tk1 (Z0p tk0 (Gone.refl _))) rfl) (a2.monoM (by decide) hwc (Z0p tk1 (Z0p tk0 (Gone.refl _))) rfl) (a3.monoM (by decide) hwc (Z0p tk1 (Z0p tk0 (Gone.refl _))) rfl) rfl (Nat.le_refl _) (Z33 0 _) (fun _ => rfl) e8) ?_; rintro _ _ ⟨a8, a9, b0, b5, rfl, rfl, a4, a5, a6, a7⟩; refine Z06 rfl rfl rfl rfl ?_; refine Z02 ?_; refine Z01 ?_; refine Z0k (Z00 (t := 6) rfl Z08) ?_; refine T.ret ?_; obtain rfl := ret1 H; exact Z10 rfl rfl rfl rfl (Res.tmp rfl) Z09 ⟨rfl, rfl⟩
theorem Z6b {n0 : Net} {f1 : List Int} {s2 : List Bool} {n0f3_b : Option Addr} {n0f3_n : Nat} {n0f3_c : Nat} {f1_b : Option Addr} {f1_n : Nat} {f1_c : Nat} {s2_b : Option Addr} {s2_n : Nat} {s2_c : Nat} (w : World) (h_n0f3 : RS w [] Z4g 3 n0f3_b n0f3_n n0f3_c n0.Arcs) (a2 : RS w [] (intC .i64) 1 f1_b f1_n f1_c f1) (a3 : RS w [] boolC 1 s2_b s2_n s2_c s2) {r0 : Bool} (H : Zay n0 f1 s2 = some r0) : Fnc Try.prog 18 #[.agg #[.int .i64 n0.N, .int .i64 n0.S, .int .i64 n0.T, .slice n0f3_b n0f3_n n0f3_c], .slice f1_b f1_n f1_c, .slice s2_b s2_n s2_c] w [] (fun v N => v = .bool r0 ∧ N = []) := by
 unfold Zay at H; refine Fnc.enter (vs := [.agg #[.int .i64 n0.N, .int .i64 n0.S, .int .i64 n0.T, .slice n0f3_b n0f3_n n0f3_c], .slice f1_b f1_n f1_c, .slice s2_b s2_n s2_c]) Try.func18 rfl rfl (Inv.refl w) ?_; refine Z0b ?_; refine Z03 (ll := [0, 1]) rfl ?_; refine Z1p rfl rfl rfl rfl ?_; intro b1; refine Z06 rfl rfl rfl rfl ?_; refine Z02 ?_; refine Z01 ?_; refine Z0b ?_; obtain ⟨r3, e4, H⟩ := Z0l H; refine Z03 (ll := [0, 1, 2, 3, 4, 5]) rfl ?_; refine Z0q rfl rfl rfl rfl Z1k mm0 rfl ?_; refine Z05 rfl rfl rfl rfl ?_; refine Z05 rfl rfl rfl rfl ?_; refine Z0n Z3g rfl rfl rfl rfl (fun wc hwc => Z2s (n0 := n0) (f1 := f1) (s2 := s2) wc (h_n0f3.mono hwc) (a2.mono hwc) (a3.mono hwc) e4) ?_; rintro _ _ ⟨rfl, rfl⟩; refine Z0r rfl rfl rfl rfl rfl rfl ?_; refine Z06 rfl rfl rfl rfl ?_; refine Z02 ?_; refine Z01 ?_; refine Z0k (Z00 (t := 6) rfl Z08) ?_; refine T.ret ?_; obtain rfl := ret1 H; exact Z10 rfl rfl rfl rfl (Res.tmp rfl) Z09 ⟨rfl, rfl⟩
theorem Zaq {n0 : Net} {f1 : List Int} {s2 : List Bool} {n0f3_b : Option Addr} {n0f3_n : Nat} {n0f3_c : Nat} {f1_b : Option Addr} {f1_n : Nat} {f1_c : Nat} {s2_b : Option Addr} {s2_n : Nat} {s2_c : Nat} (w : World) (h_n0f3 : RS w [] Z4g 3 n0f3_b n0f3_n n0f3_c n0.Arcs) (a5 : RS w [] (intC .i64) 1 f1_b f1_n f1_c f1) (a6 : RS w [] boolC 1 s2_b s2_n s2_c s2) {r0 : Int} {r1 : Bool} (H : Z5e n0 f1 s2 = some (r0, r1)) : Fnc Try.prog 32 #[.agg #[.int .i64 n0.N, .int .i64 n0.S, .int .i64 n0.T, .slice n0f3_b n0f3_n n0f3_c], .slice f1_b f1_n f1_c, .slice s2_b s2_n s2_c] w [] (fun v N => v = .tuple #[.int .i64 r0, .bool r1] ∧ N = []) := by
 unfold Z5e at H; refine Fnc.enter (vs := [.agg #[.int .i64 n0.N, .int .i64 n0.S, .int .i64 n0.T, .slice n0f3_b n0f3_n n0f3_c], .slice f1_b f1_n f1_c, .slice s2_b s2_n s2_c]) Try.func32 rfl rfl (Inv.refl w) ?_; refine Z0b ?_; refine Z03 (ll := [0, 1, 2]) rfl ?_; refine Z1p rfl rfl rfl rfl ?_; intro b1; refine Z06 rfl rfl rfl rfl ?_; refine Z06 rfl rfl rfl rfl ?_; refine Z02 ?_; refine Z01 ?_; refine Z0b ?_; refine Z03 (ll := [0, 1, 2, 3, 4, 5]) rfl ?_; refine Z0q rfl rfl rfl rfl Z1k mm0 rfl ?_; refine Z05 rfl rfl rfl rfl ?_; refine Z05 rfl rfl rfl rfl ?_; refine Z2l (t := 96) [.int .i64 0, .int .i64 0, .int .i64 0, .slice none 0 0, .slice none 0 0, .slice none 0 0, .slice none 0 0] [0, 4, 5, 6] rfl rfl rfl rfl (by simp only [Z1m, setCells, Value.cells, List.toList_toArray, List.getD_cons_zero, List.getD_cons_succ, List.set_cons_zero, List.set_cons_succ]; rfl) (by kernel_rfl) ?_; refine Z1p rfl rfl rfl rfl ?_; intro b3; refine Z06 rfl rfl rfl rfl ?_; refine Z02 ?_; refine Z01 ?_; refine Z0k (Z00 (t := 3) rfl (Z00 (t := 8) rfl Z08)) ?_; refine Z0b ?_; refine Z0b ?_; obtain ⟨⟨r6, r7⟩, e8, H⟩ := Z0l H; refine Z03 (ll := [0, 1, 2]) rfl ?_; refine Z05 rfl rfl rfl rfl ?_; refine TO.addNone (.cells (arr (intC .i64) ([] : List Int) []).toArray 2 (0, 0)) ?_; refine Z2z (H := [(none, .cells (arr (intC .i64) ([] : List Int) ([])).toArray 2 (0, 0)), (some b3, .cells #[.int .i64 n0.N, .int .i64 n0.S, .int .i64 n0.T, .slice n0f3_b n0f3_n n0f3_c, .slice f1_b f1_n f1_c, .slice s2_b s2_n s2_c, .slice (sb none) 0 0] 96 (0, 0)), (some b1, .cells #[.int .i64 n0.N, .int .i64 n0.S, .int .i64 n0.T, .slice n0f3_b n0f3_n n0f3_c] 24 (0, 0))]) rfl ?_; refine Zg8 Zhe rfl rfl rfl rfl (Z0p tk1 (Z0p tk0 (Gone.refl _))) rfl (fun wc hwc => Z9k (a0 := (CheckAnswer.mk n0 f1 s2 ([] : List Int))) wc (hwc.self (Z04 tk1 (Z04 tk0 Z09)) rfl) (h_n0f3.monoM (by decide) hwc (Z0p tk1 (Z0p tk0 (Gone.refl _))) rfl) (a5.monoM (by decide) hwc (Z0p tk1 (Z0p tk0 (Gone.refl _))) rfl) (a6.monoM (by decide) hwc (Z0p tk1 (Z0p tk0 (Gone.refl _))) rfl) rfl (Nat.le_refl _) (Z33 0 _) (fun _ => rfl) e8) ?_; rintro _ _ ⟨b0, b5, b6, b7, rfl, rfl, a2, a3, a9, a4⟩; refine Z0r rfl rfl rfl rfl rfl rfl ?_; refine Z02 ?_; refine Z01 ?_; rcases Z0g H with ⟨a7, H⟩ | ⟨a7, H⟩
 · refine Z14 rfl a7 ?_; refine Z0b ?_; refine Z03 (ll := [0, 1]) rfl ?_; refine Z06 rfl rfl rfl rfl ?_; refine Z06 rfl rfl rfl rfl ?_; refine Z02 ?_; refine Z01 ?_; refine T.ret ?_; refine Z0f ?_; obtain ⟨rfl, rfl⟩ := ret2 H; exact Z59 rfl rfl rfl rfl (Res.tmp rfl) (Res.tmp rfl) Z09 ⟨rfl, rfl⟩
 · refine Z15 rfl a7 ?_; refine T.skip ?_; refine Z01 ?_; refine Z0b ?_; obtain ⟨a8, H⟩ := Z0d H; refine Z3q 6 [0, 1, 2, 3, 4, 5] rfl Z4y (by kernel_rfl) (by kernel_rfl) rfl (by kernel_rfl) ?_; refine TQ.move rfl rfl rfl rfl ?_; refine TQ.nilCheck rfl rfl rfl rfl ?_; refine Z0i rfl rfl rfl rfl Z7a ?_; refine Z2e rfl rfl rfl rfl Z4n mm0 rfl ?_; refine Z0i rfl rfl rfl rfl Z68 ?_; refine Z2e rfl rfl rfl rfl Z2v mm2 rfl ?_; refine TQ.tail [6, 7, 8, 9] rfl rfl ?_; refine Z4u a4 a3 a2 a8 rfl rfl rfl rfl rfl Z0y Z13 ?_; refine Z71 a4 a3 a2 a8 rfl rfl rfl rfl Z4i mm1 ?_; refine Z06 rfl rfl rfl rfl ?_; refine Z06 rfl rfl rfl rfl ?_; refine Z02 ?_; refine Z01 ?_; refine Z0k (Z00 (t := 6) rfl (Z00 (t := 7) rfl Z08)) ?_; refine T.ret ?_; obtain ⟨rfl, rfl⟩ := ret2 H; exact Z59 rfl rfl rfl rfl (Res.tmp rfl) (Res.tmp rfl) Z09 ⟨rfl, rfl⟩
theorem Zcp (w : World) {r0 : Bool} (H : Z45 = some r0) : Fnc Try.prog 20 #[] w [] (fun v N => v = .bool r0 ∧ N = []) := by
 unfold Z45 at H; refine Fnc.enter (vs := []) Try.func20 rfl rfl (Inv.refl w) ?_; refine Z0b ?_; refine Z03 (ll := [0]) rfl ?_; refine Z06 rfl rfl rfl rfl ?_; refine Z02 ?_; refine Z01 ?_; refine Z0b ?_; refine Z03 (ll := [0, 1, 2, 3, 4, 5]) rfl ?_; refine Z2l (t := 35) [.int .i64 0, .int .i64 0, .int .i64 0] [0, 1, 2] rfl rfl rfl rfl (by simp only [Z1m, setCells, Value.cells, List.toList_toArray, List.getD_cons_zero, List.getD_cons_succ, List.set_cons_zero, List.set_cons_succ]; rfl) (by kernel_rfl) ?_; refine Z2l (t := 35) [.int .i64 0, .int .i64 0, .int .i64 0] [0, 1, 2] rfl rfl rfl rfl (by simp only [Z1m, setCells, Value.cells, List.toList_toArray, List.getD_cons_zero, List.getD_cons_succ, List.set_cons_zero, List.set_cons_succ]; rfl) (by kernel_rfl) ?_; refine Z0s [.int .i64 0, .int .i64 0, .int .i64 0, .int .i64 0, .int .i64 0, .int .i64 0] [0, 3] rfl rfl rfl rfl Z6h Z83 Zcg rfl rfl (by simp only [Z1m, setCells, Value.cells, List.toList_toArray, List.getD_cons_zero, List.getD_cons_succ, List.set_cons_zero, List.set_cons_succ]; rfl) (by kernel_rfl) ?_; intro b1; refine Z2l (t := 24) [.int .i64 0, .int .i64 0, .int .i64 0, .slice none 0 0] [0, 1, 2, 3] rfl rfl rfl rfl (by simp only [Z1m, setCells, Value.cells, List.toList_toArray, List.getD_cons_zero, List.getD_cons_succ, List.set_cons_zero, List.set_cons_succ]; rfl) (by kernel_rfl) ?_; refine Z1i rfl rfl rfl Zni ?_; intro b3; refine Z1b rfl rfl rfl rfl tk0 Znl rfl rfl rfl ?_; refine Z02 ?_; refine Z01 ?_; refine Z0b ?_; refine Z03 (ll := [0, 1, 2, 3, 4, 5]) rfl ?_; refine Z0s [.bool false, .bool false, .bool false] [0, 1, 2] rfl rfl rfl rfl Z56 Z6n Zg1 rfl rfl (by simp only [Z1m, setCells, Value.cells, List.toList_toArray, List.getD_cons_zero, List.getD_cons_succ, List.set_cons_zero, List.set_cons_succ]; rfl) (by kernel_rfl) ?_; intro b5; refine Z0s [.bool false, .bool false, .bool false] [0, 1, 2] rfl rfl rfl rfl Z56 Z6n Zg1 rfl rfl (by simp only [Z1m, setCells, Value.cells, List.toList_toArray, List.getD_cons_zero, List.getD_cons_succ, List.set_cons_zero, List.set_cons_succ]; rfl) (by kernel_rfl) ?_; intro b7; refine Z0s [.bool false, .bool false, .bool false] [0, 1, 2] rfl rfl rfl rfl Z56 Z6n Zg1 rfl rfl (by simp only [Z1m, setCells, Value.cells, List.toList_toArray, List.getD_cons_zero, List.getD_cons_succ, List.set_cons_zero, List.set_cons_succ]; rfl) (by kernel_rfl) ?_; intro b9; refine Z06 rfl rfl rfl rfl ?_; refine Z06 rfl rfl rfl rfl ?_; refine Z06 rfl rfl rfl rfl ?_; refine Z02 ?_; refine Z01 ?_; refine Z0k (Z00 (t := 1) rfl (Z00 (t := 2) rfl (Z00 (t := 3) rfl (Z00 (t := 4) rfl Z08)))) ?_; refine Z0b ?_; obtain ⟨⟨d1, d6⟩, d3, H⟩ := Z0l H; refine Z03 (ll := [0, 1, 2, 3, 4, 5, 6, 7, 8]) rfl ?_; refine Z0q rfl rfl rfl rfl Z1k mm3 rfl ?_; refine Z0s [.int .i64 0, .int .i64 0] [0, 1] rfl rfl rfl rfl Z0y Z13 Z2c rfl rfl (by simp only [Z1m, setCells, Value.cells, List.toList_toArray, List.getD_cons_zero, List.getD_cons_succ, List.set_cons_zero, List.set_cons_succ]; rfl) (by kernel_rfl) ?_; intro d7; refine Z05 rfl rfl rfl rfl ?_; refine Z0n Znv rfl rfl rfl rfl (fun wc hwc => Zaq (n0 := (Net.mk 3 0 2 ([(Arc.mk 0 1 3), (Arc.mk 1 2 2)]))) (f1 := [2, 2]) (s2 := [true, true, false]) wc (hwc.rs (f := Z4g) (s := 3) (xs := [(Arc.mk 0 1 3), (Arc.mk 1 2 2)]) (j := ([])) (fun _ => rfl) mm5 rfl (Nat.le_refl _) Z1e) (hwc.rs (f := (intC .i64)) (s := 1) (xs := [2, 2]) (j := ([])) (fun _ => rfl) mm0 rfl (Nat.le_refl _) Z1e) (hwc.rs (f := boolC) (s := 1) (xs := [true, true, false]) (j := ([])) (fun _ => rfl) mm3 rfl (Nat.le_refl _) Z1e) d3) ?_; rintro _ _ ⟨rfl, rfl⟩; refine Z05 rfl rfl rfl rfl ?_; refine TO.extract rfl rfl rfl rfl rfl ?_; refine TO.extract rfl rfl rfl rfl rfl ?_; refine Z06 rfl rfl rfl rfl ?_; refine Z06 rfl rfl rfl rfl ?_; refine Z02 ?_; refine Z01 ?_; refine Z0b ?_; refine Z03 (ll := [0, 1, 2, 3, 4, 5, 6, 7, 8, 9, 10, 11, 12, 13, 14, 15, 16, 17, 18, 19, 20, 21, 22, 23, 24, 25, 26, 27, 28, 29, 30, 31, 32, 33, 34, 35, 36, 37, 38, 39, 40, 41, 42, 43, 44, 45, 46]) rfl ?_; refine Z05 rfl rfl rfl rfl ?_; refine Z05 rfl rfl rfl rfl ?_; refine TO.join [2, 3, 4] [5, 6, 7, 8, 9, 10, 11, 12, 13, 14, 15, 16, 17, 18, 19, 20, 21, 22, 23, 24, 25, 26, 27, 28, 29, 30, 31, 32, 33, 34, 35, 36, 37, 38, 39, 40, 41, 42, 43, 44, 45, 46] rfl 25 (fun c8 => Z4c c8 = some r0) [(1, .pointer (some ⟨b3, 0, none⟩)), (2, .slice (some ⟨b5, 0, none⟩) 3 3), (3, .slice (some ⟨b7, 0, none⟩) 3 3), (4, .slice (some ⟨b9, 0, none⟩) 3 3)] ?_ ?_
 ·
  rcases Z0g H with ⟨b8, H⟩ | ⟨b8, H⟩
  · refine Z0u (t := 22) (b' := true) rfl b8 ?_; refine Z05 rfl rfl rfl rfl ?_; refine Z0r rfl rfl rfl rfl rfl rfl ?_; refine Z0w rfl rfl rfl rfl rfl ?_; refine Z02 ?_; exact Zke (b := (decide (d1 = 2))) H (Z00 rfl (Z00 rfl (Z00 rfl (Z00 rfl (Z00 rfl Z08)))))
  · refine Z0u (t := 22) (b' := false) rfl (Bool.eq_false_iff.2 b8) ?_; refine Z0c rfl rfl rfl rfl ?_; refine Z0c rfl rfl rfl rfl ?_; refine Z0z rfl rfl rfl rfl rfl ?_; refine Z02 ?_; exact Zke (b := false) H (Z00 rfl (Z00 rfl (Z00 rfl (Z00 rfl (Z00 rfl Z08)))))
 ·
  rintro c8 H; unfold Z4c at H; rcases Z0g H with ⟨a2, H⟩ | ⟨a2, H⟩
  ·
   obtain ⟨d8, a4, H⟩ := Z0l H; rcases Z0g H with ⟨a3, H⟩ | ⟨a3, H⟩
   ·
    obtain ⟨d9, a6, H⟩ := Z0l H; rcases Z0g H with ⟨a5, H⟩ | ⟨a5, H⟩
    ·
     obtain ⟨e0, a9, H⟩ := Z0l H; rcases Z0g H with ⟨a7, H⟩ | ⟨a7, H⟩
     ·
      obtain ⟨e1, c3, H⟩ := Z0l H; rcases Z0g H with ⟨b0, H⟩ | ⟨b0, H⟩
      ·
       obtain ⟨e2, c9, H⟩ := Z0l H; rcases Z0g H with ⟨c4, H⟩ | ⟨c4, H⟩
       · obtain ⟨e3, d4, H⟩ := Z0l H; refine Z05 rfl rfl rfl rfl ?_; refine Z0u (t := 26) (b' := true) rfl a2 ?_; refine Z0q rfl rfl rfl rfl Z1k mm4 rfl ?_; refine Z0s [.int .i64 0, .int .i64 0] [0, 1] rfl rfl rfl rfl Z0y Z13 Z2c rfl rfl (by simp only [Z1m, setCells, Value.cells, List.toList_toArray, List.getD_cons_zero, List.getD_cons_succ, List.set_cons_zero, List.set_cons_succ]; rfl) (by kernel_rfl) ?_; intro a8; refine Z05 rfl rfl rfl rfl ?_; refine Z0n Z98 rfl rfl rfl rfl (fun wc hwc => Z6b (n0 := (Net.mk 3 0 2 ([(Arc.mk 0 1 3), (Arc.mk 1 2 2)]))) (f1 := [2, 2]) (s2 := [true, true, false]) wc (hwc.rs (f := Z4g) (s := 3) (xs := [(Arc.mk 0 1 3), (Arc.mk 1 2 2)]) (j := ([])) (fun _ => rfl) mm6 rfl (Nat.le_refl _) Z1e) (hwc.rs (f := (intC .i64)) (s := 1) (xs := [2, 2]) (j := ([])) (fun _ => rfl) mm0 rfl (Nat.le_refl _) Z1e) (hwc.rs (f := boolC) (s := 1) (xs := [true, true, false]) (j := ([])) (fun _ => rfl) mm4 rfl (Nat.le_refl _) Z1e) a4) ?_; rintro _ _ ⟨rfl, rfl⟩; refine Z0w rfl rfl rfl rfl rfl ?_; refine Z05 rfl rfl rfl rfl ?_; refine Z0u (t := 32) (b' := true) rfl a3 ?_; refine Z0q rfl rfl rfl rfl Z1k mm5 rfl ?_; refine Z0s [.int .i64 0, .int .i64 0] [0, 1] rfl rfl rfl rfl Z0y Z13 Z2c rfl rfl (by simp only [Z1m, setCells, Value.cells, List.toList_toArray, List.getD_cons_zero, List.getD_cons_succ, List.set_cons_zero, List.set_cons_succ]; rfl) (by kernel_rfl) ?_; intro b6; refine Z05 rfl rfl rfl rfl ?_; refine Z0n Z3g rfl rfl rfl rfl (fun wc hwc => Z2s (n0 := (Net.mk 3 0 2 ([(Arc.mk 0 1 3), (Arc.mk 1 2 2)]))) (f1 := [3, 3]) (s2 := [true, true, false]) wc (hwc.rs (f := Z4g) (s := 3) (xs := [(Arc.mk 0 1 3), (Arc.mk 1 2 2)]) (j := ([])) (fun _ => rfl) mm7 rfl (Nat.le_refl _) Z1e) (hwc.rs (f := (intC .i64)) (s := 1) (xs := [3, 3]) (j := ([])) (fun _ => rfl) mm0 rfl (Nat.le_refl _) Z1e) (hwc.rs (f := boolC) (s := 1) (xs := [true, true, false]) (j := ([])) (fun _ => rfl) mm5 rfl (Nat.le_refl _) Z1e) a6) ?_; rintro _ _ ⟨rfl, rfl⟩; refine Z0r rfl rfl rfl rfl rfl rfl ?_; refine Z0w rfl rfl rfl rfl rfl ?_; refine Z05 rfl rfl rfl rfl ?_; refine Z0u (t := 39) (b' := true) rfl (decide_eq_true a5) ?_; refine Z0q rfl rfl rfl rfl Z1k mm6 rfl ?_; refine Z0s [.int .i64 0, .int .i64 0] [0, 1] rfl rfl rfl rfl Z0y Z13 Z2c rfl rfl (by simp only [Z1m, setCells, Value.cells, List.toList_toArray, List.getD_cons_zero, List.getD_cons_succ, List.set_cons_zero, List.set_cons_succ]; rfl) (by kernel_rfl) ?_; intro c7; refine Z05 rfl rfl rfl rfl ?_; refine Z0n Z3g rfl rfl rfl rfl (fun wc hwc => Z2s (n0 := (Net.mk 3 0 2 ([(Arc.mk 0 1 3), (Arc.mk 1 2 2)]))) (f1 := [3, 2]) (s2 := [true, true, false]) wc (hwc.rs (f := Z4g) (s := 3) (xs := [(Arc.mk 0 1 3), (Arc.mk 1 2 2)]) (j := ([])) (fun _ => rfl) mm8 rfl (Nat.le_refl _) Z1e) (hwc.rs (f := (intC .i64)) (s := 1) (xs := [3, 2]) (j := ([])) (fun _ => rfl) mm0 rfl (Nat.le_refl _) Z1e) (hwc.rs (f := boolC) (s := 1) (xs := [true, true, false]) (j := ([])) (fun _ => rfl) mm6 rfl (Nat.le_refl _) Z1e) a9) ?_; rintro _ _ ⟨rfl, rfl⟩; refine Z0r rfl rfl rfl rfl rfl rfl ?_; refine Z0w rfl rfl rfl rfl rfl ?_; refine Z05 rfl rfl rfl rfl ?_; refine Z0u (t := 46) (b' := true) rfl (decide_eq_true a7) ?_; refine Z0q rfl rfl rfl rfl Z1k mm7 rfl ?_; refine Z0s [.int .i64 0, .int .i64 0] [0, 1] rfl rfl rfl rfl Z0y Z13 Z2c rfl rfl (by simp only [Z1m, setCells, Value.cells, List.toList_toArray, List.getD_cons_zero, List.getD_cons_succ, List.set_cons_zero, List.set_cons_succ]; rfl) (by kernel_rfl) ?_; intro d0; refine Z05 rfl rfl rfl rfl ?_; refine Z0n Z3g rfl rfl rfl rfl (fun wc hwc => Z2s (n0 := (Net.mk 3 0 2 ([(Arc.mk 0 1 3), (Arc.mk 1 2 2)]))) (f1 := [2, 2]) (s2 := [false, true, false]) wc (hwc.rs (f := Z4g) (s := 3) (xs := [(Arc.mk 0 1 3), (Arc.mk 1 2 2)]) (j := ([])) (fun _ => rfl) mm9 rfl (Nat.le_refl _) Z1e) (hwc.rs (f := (intC .i64)) (s := 1) (xs := [2, 2]) (j := ([])) (fun _ => rfl) mm0 rfl (Nat.le_refl _) Z1e) (hwc.rs (f := boolC) (s := 1) (xs := [false, true, false]) (j := ([])) (fun _ => rfl) mm5 rfl (Nat.le_refl _) Z1e) c3) ?_; rintro _ _ ⟨rfl, rfl⟩; refine Z0r rfl rfl rfl rfl rfl rfl ?_; refine Z0w rfl rfl rfl rfl rfl ?_; refine Z05 rfl rfl rfl rfl ?_; refine Z0u (t := 53) (b' := true) rfl (decide_eq_true b0) ?_; refine Z0q rfl rfl rfl rfl Z1k mm8 rfl ?_; refine Z0s [.int .i64 0, .int .i64 0] [0, 1] rfl rfl rfl rfl Z0y Z13 Z2c rfl rfl (by simp only [Z1m, setCells, Value.cells, List.toList_toArray, List.getD_cons_zero, List.getD_cons_succ, List.set_cons_zero, List.set_cons_succ]; rfl) (by kernel_rfl) ?_; intro d5; refine Z05 rfl rfl rfl rfl ?_; refine Z0n Z3g rfl rfl rfl rfl (fun wc hwc => Z2s (n0 := (Net.mk 3 0 2 ([(Arc.mk 0 1 3), (Arc.mk 1 2 2)]))) (f1 := [1, 1]) (s2 := [true, true, false]) wc (hwc.rs (f := Z4g) (s := 3) (xs := [(Arc.mk 0 1 3), (Arc.mk 1 2 2)]) (j := ([])) (fun _ => rfl) mm10 rfl (Nat.le_refl _) Z1e) (hwc.rs (f := (intC .i64)) (s := 1) (xs := [1, 1]) (j := ([])) (fun _ => rfl) mm0 rfl (Nat.le_refl _) Z1e) (hwc.rs (f := boolC) (s := 1) (xs := [true, true, false]) (j := ([])) (fun _ => rfl) mm8 rfl (Nat.le_refl _) Z1e) c9) ?_; rintro _ _ ⟨rfl, rfl⟩; refine Z0r rfl rfl rfl rfl rfl rfl ?_; refine Z0w rfl rfl rfl rfl rfl ?_; refine Z05 rfl rfl rfl rfl ?_; refine Z0u (t := 60) (b' := true) rfl (decide_eq_true c4) ?_; refine Z0q rfl rfl rfl rfl Z1k mm9 rfl ?_; refine Z0s [.int .i64 0, .int .i64 0] [0, 1] rfl rfl rfl rfl Z0y Z13 Z2c rfl rfl (by simp only [Z1m, setCells, Value.cells, List.toList_toArray, List.getD_cons_zero, List.getD_cons_succ, List.set_cons_zero, List.set_cons_succ]; rfl) (by kernel_rfl) ?_; intro e4; refine Z05 rfl rfl rfl rfl ?_; refine Z0n Z3g rfl rfl rfl rfl (fun wc hwc => Z2s (n0 := (Net.mk 3 0 2 ([(Arc.mk 0 1 3), (Arc.mk 1 2 2)]))) (f1 := [2, 2]) (s2 := [true, false, false]) wc (hwc.rs (f := Z4g) (s := 3) (xs := [(Arc.mk 0 1 3), (Arc.mk 1 2 2)]) (j := ([])) (fun _ => rfl) mm11 rfl (Nat.le_refl _) Z1e) (hwc.rs (f := (intC .i64)) (s := 1) (xs := [2, 2]) (j := ([])) (fun _ => rfl) mm0 rfl (Nat.le_refl _) Z1e) (hwc.rs (f := boolC) (s := 1) (xs := [true, false, false]) (j := ([])) (fun _ => rfl) mm8 rfl (Nat.le_refl _) Z1e) d4) ?_; rintro _ _ ⟨rfl, rfl⟩; refine Z0r rfl rfl rfl rfl rfl rfl ?_; refine Z0w rfl rfl rfl rfl rfl ?_; refine Z06 rfl rfl rfl rfl ?_; refine Z02 ?_; refine Z01 ?_; refine Z0k (Z00 (t := 0) rfl Z08) ?_; refine T.ret ?_; obtain rfl := ret1 H; exact Z10 rfl rfl rfl rfl (Res.tmp rfl) Z09 ⟨rfl, rfl⟩
       · refine Z05 rfl rfl rfl rfl ?_; refine Z0u (t := 26) (b' := true) rfl a2 ?_; refine Z0q rfl rfl rfl rfl Z1k mm4 rfl ?_; refine Z0s [.int .i64 0, .int .i64 0] [0, 1] rfl rfl rfl rfl Z0y Z13 Z2c rfl rfl (by simp only [Z1m, setCells, Value.cells, List.toList_toArray, List.getD_cons_zero, List.getD_cons_succ, List.set_cons_zero, List.set_cons_succ]; rfl) (by kernel_rfl) ?_; intro a8; refine Z05 rfl rfl rfl rfl ?_; refine Z0n Z98 rfl rfl rfl rfl (fun wc hwc => Z6b (n0 := (Net.mk 3 0 2 ([(Arc.mk 0 1 3), (Arc.mk 1 2 2)]))) (f1 := [2, 2]) (s2 := [true, true, false]) wc (hwc.rs (f := Z4g) (s := 3) (xs := [(Arc.mk 0 1 3), (Arc.mk 1 2 2)]) (j := ([])) (fun _ => rfl) mm6 rfl (Nat.le_refl _) Z1e) (hwc.rs (f := (intC .i64)) (s := 1) (xs := [2, 2]) (j := ([])) (fun _ => rfl) mm0 rfl (Nat.le_refl _) Z1e) (hwc.rs (f := boolC) (s := 1) (xs := [true, true, false]) (j := ([])) (fun _ => rfl) mm4 rfl (Nat.le_refl _) Z1e) a4) ?_; rintro _ _ ⟨rfl, rfl⟩; refine Z0w rfl rfl rfl rfl rfl ?_; refine Z05 rfl rfl rfl rfl ?_; refine Z0u (t := 32) (b' := true) rfl a3 ?_; refine Z0q rfl rfl rfl rfl Z1k mm5 rfl ?_; refine Z0s [.int .i64 0, .int .i64 0] [0, 1] rfl rfl rfl rfl Z0y Z13 Z2c rfl rfl (by simp only [Z1m, setCells, Value.cells, List.toList_toArray, List.getD_cons_zero, List.getD_cons_succ, List.set_cons_zero, List.set_cons_succ]; rfl) (by kernel_rfl) ?_; intro b6; refine Z05 rfl rfl rfl rfl ?_; refine Z0n Z3g rfl rfl rfl rfl (fun wc hwc => Z2s (n0 := (Net.mk 3 0 2 ([(Arc.mk 0 1 3), (Arc.mk 1 2 2)]))) (f1 := [3, 3]) (s2 := [true, true, false]) wc (hwc.rs (f := Z4g) (s := 3) (xs := [(Arc.mk 0 1 3), (Arc.mk 1 2 2)]) (j := ([])) (fun _ => rfl) mm7 rfl (Nat.le_refl _) Z1e) (hwc.rs (f := (intC .i64)) (s := 1) (xs := [3, 3]) (j := ([])) (fun _ => rfl) mm0 rfl (Nat.le_refl _) Z1e) (hwc.rs (f := boolC) (s := 1) (xs := [true, true, false]) (j := ([])) (fun _ => rfl) mm5 rfl (Nat.le_refl _) Z1e) a6) ?_; rintro _ _ ⟨rfl, rfl⟩; refine Z0r rfl rfl rfl rfl rfl rfl ?_; refine Z0w rfl rfl rfl rfl rfl ?_; refine Z05 rfl rfl rfl rfl ?_; refine Z0u (t := 39) (b' := true) rfl (decide_eq_true a5) ?_; refine Z0q rfl rfl rfl rfl Z1k mm6 rfl ?_; refine Z0s [.int .i64 0, .int .i64 0] [0, 1] rfl rfl rfl rfl Z0y Z13 Z2c rfl rfl (by simp only [Z1m, setCells, Value.cells, List.toList_toArray, List.getD_cons_zero, List.getD_cons_succ, List.set_cons_zero, List.set_cons_succ]; rfl) (by kernel_rfl) ?_; intro c7; refine Z05 rfl rfl rfl rfl ?_; refine Z0n Z3g rfl rfl rfl rfl (fun wc hwc => Z2s (n0 := (Net.mk 3 0 2 ([(Arc.mk 0 1 3), (Arc.mk 1 2 2)]))) (f1 := [3, 2]) (s2 := [true, true, false]) wc (hwc.rs (f := Z4g) (s := 3) (xs := [(Arc.mk 0 1 3), (Arc.mk 1 2 2)]) (j := ([])) (fun _ => rfl) mm8 rfl (Nat.le_refl _) Z1e) (hwc.rs (f := (intC .i64)) (s := 1) (xs := [3, 2]) (j := ([])) (fun _ => rfl) mm0 rfl (Nat.le_refl _) Z1e) (hwc.rs (f := boolC) (s := 1) (xs := [true, true, false]) (j := ([])) (fun _ => rfl) mm6 rfl (Nat.le_refl _) Z1e) a9) ?_; rintro _ _ ⟨rfl, rfl⟩; refine Z0r rfl rfl rfl rfl rfl rfl ?_; refine Z0w rfl rfl rfl rfl rfl ?_; refine Z05 rfl rfl rfl rfl ?_; refine Z0u (t := 46) (b' := true) rfl (decide_eq_true a7) ?_; refine Z0q rfl rfl rfl rfl Z1k mm7 rfl ?_; refine Z0s [.int .i64 0, .int .i64 0] [0, 1] rfl rfl rfl rfl Z0y Z13 Z2c rfl rfl (by simp only [Z1m, setCells, Value.cells, List.toList_toArray, List.getD_cons_zero, List.getD_cons_succ, List.set_cons_zero, List.set_cons_succ]; rfl) (by kernel_rfl) ?_; intro d0; refine Z05 rfl rfl rfl rfl ?_; refine Z0n Z3g rfl rfl rfl rfl (fun wc hwc => Z2s (n0 := (Net.mk 3 0 2 ([(Arc.mk 0 1 3), (Arc.mk 1 2 2)]))) (f1 := [2, 2]) (s2 := [false, true, false]) wc (hwc.rs (f := Z4g) (s := 3) (xs := [(Arc.mk 0 1 3), (Arc.mk 1 2 2)]) (j := ([])) (fun _ => rfl) mm9 rfl (Nat.le_refl _) Z1e) (hwc.rs (f := (intC .i64)) (s := 1) (xs := [2, 2]) (j := ([])) (fun _ => rfl) mm0 rfl (Nat.le_refl _) Z1e) (hwc.rs (f := boolC) (s := 1) (xs := [false, true, false]) (j := ([])) (fun _ => rfl) mm5 rfl (Nat.le_refl _) Z1e) c3) ?_; rintro _ _ ⟨rfl, rfl⟩; refine Z0r rfl rfl rfl rfl rfl rfl ?_; refine Z0w rfl rfl rfl rfl rfl ?_; refine Z05 rfl rfl rfl rfl ?_; refine Z0u (t := 53) (b' := true) rfl (decide_eq_true b0) ?_; refine Z0q rfl rfl rfl rfl Z1k mm8 rfl ?_; refine Z0s [.int .i64 0, .int .i64 0] [0, 1] rfl rfl rfl rfl Z0y Z13 Z2c rfl rfl (by simp only [Z1m, setCells, Value.cells, List.toList_toArray, List.getD_cons_zero, List.getD_cons_succ, List.set_cons_zero, List.set_cons_succ]; rfl) (by kernel_rfl) ?_; intro d5; refine Z05 rfl rfl rfl rfl ?_; refine Z0n Z3g rfl rfl rfl rfl (fun wc hwc => Z2s (n0 := (Net.mk 3 0 2 ([(Arc.mk 0 1 3), (Arc.mk 1 2 2)]))) (f1 := [1, 1]) (s2 := [true, true, false]) wc (hwc.rs (f := Z4g) (s := 3) (xs := [(Arc.mk 0 1 3), (Arc.mk 1 2 2)]) (j := ([])) (fun _ => rfl) mm10 rfl (Nat.le_refl _) Z1e) (hwc.rs (f := (intC .i64)) (s := 1) (xs := [1, 1]) (j := ([])) (fun _ => rfl) mm0 rfl (Nat.le_refl _) Z1e) (hwc.rs (f := boolC) (s := 1) (xs := [true, true, false]) (j := ([])) (fun _ => rfl) mm8 rfl (Nat.le_refl _) Z1e) c9) ?_; rintro _ _ ⟨rfl, rfl⟩; refine Z0r rfl rfl rfl rfl rfl rfl ?_; refine Z0w rfl rfl rfl rfl rfl ?_; refine Z05 rfl rfl rfl rfl ?_; refine Z0u (t := 60) (b' := false) rfl (decide_eq_false c4) ?_; refine Z0c rfl rfl rfl rfl ?_; refine Z0c rfl rfl rfl rfl ?_; refine Z0c rfl rfl rfl rfl ?_; refine Z0c rfl rfl rfl rfl ?_; refine Z0c rfl rfl rfl rfl ?_; refine Z0z rfl rfl rfl rfl rfl ?_; refine Z06 rfl rfl rfl rfl ?_; refine Z02 ?_; refine Z01 ?_; refine Z0k (Z00 (t := 0) rfl Z08) ?_; refine T.ret ?_; obtain rfl := ret1 H; exact Z10 rfl rfl rfl rfl (Res.tmp rfl) Z09 ⟨rfl, rfl⟩
      · refine Z05 rfl rfl rfl rfl ?_; refine Z0u (t := 26) (b' := true) rfl a2 ?_; refine Z0q rfl rfl rfl rfl Z1k mm4 rfl ?_; refine Z0s [.int .i64 0, .int .i64 0] [0, 1] rfl rfl rfl rfl Z0y Z13 Z2c rfl rfl (by simp only [Z1m, setCells, Value.cells, List.toList_toArray, List.getD_cons_zero, List.getD_cons_succ, List.set_cons_zero, List.set_cons_succ]; rfl) (by kernel_rfl) ?_; intro a8; refine Z05 rfl rfl rfl rfl ?_; refine Z0n Z98 rfl rfl rfl rfl (fun wc hwc => Z6b (n0 := (Net.mk 3 0 2 ([(Arc.mk 0 1 3), (Arc.mk 1 2 2)]))) (f1 := [2, 2]) (s2 := [true, true, false]) wc (hwc.rs (f := Z4g) (s := 3) (xs := [(Arc.mk 0 1 3), (Arc.mk 1 2 2)]) (j := ([])) (fun _ => rfl) mm6 rfl (Nat.le_refl _) Z1e) (hwc.rs (f := (intC .i64)) (s := 1) (xs := [2, 2]) (j := ([])) (fun _ => rfl) mm0 rfl (Nat.le_refl _) Z1e) (hwc.rs (f := boolC) (s := 1) (xs := [true, true, false]) (j := ([])) (fun _ => rfl) mm4 rfl (Nat.le_refl _) Z1e) a4) ?_; rintro _ _ ⟨rfl, rfl⟩; refine Z0w rfl rfl rfl rfl rfl ?_; refine Z05 rfl rfl rfl rfl ?_; refine Z0u (t := 32) (b' := true) rfl a3 ?_; refine Z0q rfl rfl rfl rfl Z1k mm5 rfl ?_; refine Z0s [.int .i64 0, .int .i64 0] [0, 1] rfl rfl rfl rfl Z0y Z13 Z2c rfl rfl (by simp only [Z1m, setCells, Value.cells, List.toList_toArray, List.getD_cons_zero, List.getD_cons_succ, List.set_cons_zero, List.set_cons_succ]; rfl) (by kernel_rfl) ?_; intro b6; refine Z05 rfl rfl rfl rfl ?_; refine Z0n Z3g rfl rfl rfl rfl (fun wc hwc => Z2s (n0 := (Net.mk 3 0 2 ([(Arc.mk 0 1 3), (Arc.mk 1 2 2)]))) (f1 := [3, 3]) (s2 := [true, true, false]) wc (hwc.rs (f := Z4g) (s := 3) (xs := [(Arc.mk 0 1 3), (Arc.mk 1 2 2)]) (j := ([])) (fun _ => rfl) mm7 rfl (Nat.le_refl _) Z1e) (hwc.rs (f := (intC .i64)) (s := 1) (xs := [3, 3]) (j := ([])) (fun _ => rfl) mm0 rfl (Nat.le_refl _) Z1e) (hwc.rs (f := boolC) (s := 1) (xs := [true, true, false]) (j := ([])) (fun _ => rfl) mm5 rfl (Nat.le_refl _) Z1e) a6) ?_; rintro _ _ ⟨rfl, rfl⟩; refine Z0r rfl rfl rfl rfl rfl rfl ?_; refine Z0w rfl rfl rfl rfl rfl ?_; refine Z05 rfl rfl rfl rfl ?_; refine Z0u (t := 39) (b' := true) rfl (decide_eq_true a5) ?_; refine Z0q rfl rfl rfl rfl Z1k mm6 rfl ?_; refine Z0s [.int .i64 0, .int .i64 0] [0, 1] rfl rfl rfl rfl Z0y Z13 Z2c rfl rfl (by simp only [Z1m, setCells, Value.cells, List.toList_toArray, List.getD_cons_zero, List.getD_cons_succ, List.set_cons_zero, List.set_cons_succ]; rfl) (by kernel_rfl) ?_; intro c7; refine Z05 rfl rfl rfl rfl ?_; refine Z0n Z3g rfl rfl rfl rfl (fun wc hwc => Z2s (n0 := (Net.mk 3 0 2 ([(Arc.mk 0 1 3), (Arc.mk 1 2 2)]))) (f1 := [3, 2]) (s2 := [true, true, false]) wc (hwc.rs (f := Z4g) (s := 3) (xs := [(Arc.mk 0 1 3), (Arc.mk 1 2 2)]) (j := ([])) (fun _ => rfl) mm8 rfl (Nat.le_refl _) Z1e) (hwc.rs (f := (intC .i64)) (s := 1) (xs := [3, 2]) (j := ([])) (fun _ => rfl) mm0 rfl (Nat.le_refl _) Z1e) (hwc.rs (f := boolC) (s := 1) (xs := [true, true, false]) (j := ([])) (fun _ => rfl) mm6 rfl (Nat.le_refl _) Z1e) a9) ?_; rintro _ _ ⟨rfl, rfl⟩; refine Z0r rfl rfl rfl rfl rfl rfl ?_; refine Z0w rfl rfl rfl rfl rfl ?_; refine Z05 rfl rfl rfl rfl ?_; refine Z0u (t := 46) (b' := true) rfl (decide_eq_true a7) ?_; refine Z0q rfl rfl rfl rfl Z1k mm7 rfl ?_; refine Z0s [.int .i64 0, .int .i64 0] [0, 1] rfl rfl rfl rfl Z0y Z13 Z2c rfl rfl (by simp only [Z1m, setCells, Value.cells, List.toList_toArray, List.getD_cons_zero, List.getD_cons_succ, List.set_cons_zero, List.set_cons_succ]; rfl) (by kernel_rfl) ?_; intro d0; refine Z05 rfl rfl rfl rfl ?_; refine Z0n Z3g rfl rfl rfl rfl (fun wc hwc => Z2s (n0 := (Net.mk 3 0 2 ([(Arc.mk 0 1 3), (Arc.mk 1 2 2)]))) (f1 := [2, 2]) (s2 := [false, true, false]) wc (hwc.rs (f := Z4g) (s := 3) (xs := [(Arc.mk 0 1 3), (Arc.mk 1 2 2)]) (j := ([])) (fun _ => rfl) mm9 rfl (Nat.le_refl _) Z1e) (hwc.rs (f := (intC .i64)) (s := 1) (xs := [2, 2]) (j := ([])) (fun _ => rfl) mm0 rfl (Nat.le_refl _) Z1e) (hwc.rs (f := boolC) (s := 1) (xs := [false, true, false]) (j := ([])) (fun _ => rfl) mm5 rfl (Nat.le_refl _) Z1e) c3) ?_; rintro _ _ ⟨rfl, rfl⟩; refine Z0r rfl rfl rfl rfl rfl rfl ?_; refine Z0w rfl rfl rfl rfl rfl ?_; refine Z05 rfl rfl rfl rfl ?_; refine Z0u (t := 53) (b' := false) rfl (decide_eq_false b0) ?_; refine Z0c rfl rfl rfl rfl ?_; refine Z0c rfl rfl rfl rfl ?_; refine Z0c rfl rfl rfl rfl ?_; refine Z0c rfl rfl rfl rfl ?_; refine Z0c rfl rfl rfl rfl ?_; refine Z0z rfl rfl rfl rfl rfl ?_; refine Z05 rfl rfl rfl rfl ?_; refine Z0c rfl rfl rfl rfl ?_; refine Z0c rfl rfl rfl rfl ?_; refine Z0c rfl rfl rfl rfl ?_; refine Z0c rfl rfl rfl rfl ?_; refine Z0c rfl rfl rfl rfl ?_; refine Z0z rfl rfl rfl rfl rfl ?_; refine Z06 rfl rfl rfl rfl ?_; refine Z02 ?_; refine Z01 ?_; refine Z0k (Z00 (t := 0) rfl Z08) ?_; refine T.ret ?_; obtain rfl := ret1 H; exact Z10 rfl rfl rfl rfl (Res.tmp rfl) Z09 ⟨rfl, rfl⟩
     · refine Z05 rfl rfl rfl rfl ?_; refine Z0u (t := 26) (b' := true) rfl a2 ?_; refine Z0q rfl rfl rfl rfl Z1k mm4 rfl ?_; refine Z0s [.int .i64 0, .int .i64 0] [0, 1] rfl rfl rfl rfl Z0y Z13 Z2c rfl rfl (by simp only [Z1m, setCells, Value.cells, List.toList_toArray, List.getD_cons_zero, List.getD_cons_succ, List.set_cons_zero, List.set_cons_succ]; rfl) (by kernel_rfl) ?_; intro a8; refine Z05 rfl rfl rfl rfl ?_; refine Z0n Z98 rfl rfl rfl rfl (fun wc hwc => Z6b (n0 := (Net.mk 3 0 2 ([(Arc.mk 0 1 3), (Arc.mk 1 2 2)]))) (f1 := [2, 2]) (s2 := [true, true, false]) wc (hwc.rs (f := Z4g) (s := 3) (xs := [(Arc.mk 0 1 3), (Arc.mk 1 2 2)]) (j := ([])) (fun _ => rfl) mm6 rfl (Nat.le_refl _) Z1e) (hwc.rs (f := (intC .i64)) (s := 1) (xs := [2, 2]) (j := ([])) (fun _ => rfl) mm0 rfl (Nat.le_refl _) Z1e) (hwc.rs (f := boolC) (s := 1) (xs := [true, true, false]) (j := ([])) (fun _ => rfl) mm4 rfl (Nat.le_refl _) Z1e) a4) ?_; rintro _ _ ⟨rfl, rfl⟩; refine Z0w rfl rfl rfl rfl rfl ?_; refine Z05 rfl rfl rfl rfl ?_; refine Z0u (t := 32) (b' := true) rfl a3 ?_; refine Z0q rfl rfl rfl rfl Z1k mm5 rfl ?_; refine Z0s [.int .i64 0, .int .i64 0] [0, 1] rfl rfl rfl rfl Z0y Z13 Z2c rfl rfl (by simp only [Z1m, setCells, Value.cells, List.toList_toArray, List.getD_cons_zero, List.getD_cons_succ, List.set_cons_zero, List.set_cons_succ]; rfl) (by kernel_rfl) ?_; intro b6; refine Z05 rfl rfl rfl rfl ?_; refine Z0n Z3g rfl rfl rfl rfl (fun wc hwc => Z2s (n0 := (Net.mk 3 0 2 ([(Arc.mk 0 1 3), (Arc.mk 1 2 2)]))) (f1 := [3, 3]) (s2 := [true, true, false]) wc (hwc.rs (f := Z4g) (s := 3) (xs := [(Arc.mk 0 1 3), (Arc.mk 1 2 2)]) (j := ([])) (fun _ => rfl) mm7 rfl (Nat.le_refl _) Z1e) (hwc.rs (f := (intC .i64)) (s := 1) (xs := [3, 3]) (j := ([])) (fun _ => rfl) mm0 rfl (Nat.le_refl _) Z1e) (hwc.rs (f := boolC) (s := 1) (xs := [true, true, false]) (j := ([])) (fun _ => rfl) mm5 rfl (Nat.le_refl _) Z1e) a6) ?_; rintro _ _ ⟨rfl, rfl⟩; refine Z0r rfl rfl rfl rfl rfl rfl ?_; refine Z0w rfl rfl rfl rfl rfl ?_; refine Z05 rfl rfl rfl rfl ?_; refine Z0u (t := 39) (b' := true) rfl (decide_eq_true a5) ?_; refine Z0q rfl rfl rfl rfl Z1k mm6 rfl ?_; refine Z0s [.int .i64 0, .int .i64 0] [0, 1] rfl rfl rfl rfl Z0y Z13 Z2c rfl rfl (by simp only [Z1m, setCells, Value.cells, List.toList_toArray, List.getD_cons_zero, List.getD_cons_succ, List.set_cons_zero, List.set_cons_succ]; rfl) (by kernel_rfl) ?_; intro c7; refine Z05 rfl rfl rfl rfl ?_; refine Z0n Z3g rfl rfl rfl rfl (fun wc hwc => Z2s (n0 := (Net.mk 3 0 2 ([(Arc.mk 0 1 3), (Arc.mk 1 2 2)]))) (f1 := [3, 2]) (s2 := [true, true, false]) wc (hwc.rs (f := Z4g) (s := 3) (xs := [(Arc.mk 0 1 3), (Arc.mk 1 2 2)]) (j := ([])) (fun _ => rfl) mm8 rfl (Nat.le_refl _) Z1e) (hwc.rs (f := (intC .i64)) (s := 1) (xs := [3, 2]) (j := ([])) (fun _ => rfl) mm0 rfl (Nat.le_refl _) Z1e) (hwc.rs (f := boolC) (s := 1) (xs := [true, true, false]) (j := ([])) (fun _ => rfl) mm6 rfl (Nat.le_refl _) Z1e) a9) ?_; rintro _ _ ⟨rfl, rfl⟩; refine Z0r rfl rfl rfl rfl rfl rfl ?_; refine Z0w rfl rfl rfl rfl rfl ?_; refine Z05 rfl rfl rfl rfl ?_; refine Z0u (t := 46) (b' := false) rfl (decide_eq_false a7) ?_; refine Z0c rfl rfl rfl rfl ?_; refine Z0c rfl rfl rfl rfl ?_; refine Z0c rfl rfl rfl rfl ?_; refine Z0c rfl rfl rfl rfl ?_; refine Z0c rfl rfl rfl rfl ?_; refine Z0z rfl rfl rfl rfl rfl ?_; refine Z05 rfl rfl rfl rfl ?_; refine Z0c rfl rfl rfl rfl ?_; refine Z0c rfl rfl rfl rfl ?_; refine Z0c rfl rfl rfl rfl ?_; refine Z0c rfl rfl rfl rfl ?_; refine Z0c rfl rfl rfl rfl ?_; refine Z0z rfl rfl rfl rfl rfl ?_; refine Z05 rfl rfl rfl rfl ?_; refine Z0c rfl rfl rfl rfl ?_; refine Z0c rfl rfl rfl rfl ?_; refine Z0c rfl rfl rfl rfl ?_; refine Z0c rfl rfl rfl rfl ?_; refine Z0c rfl rfl rfl rfl ?_; refine Z0z rfl rfl rfl rfl rfl ?_; refine Z06 rfl rfl rfl rfl ?_; refine Z02 ?_; refine Z01 ?_; refine Z0k (Z00 (t := 0) rfl Z08) ?_; refine T.ret ?_; obtain rfl := ret1 H; exact Z10 rfl rfl rfl rfl (Res.tmp rfl) Z09 ⟨rfl, rfl⟩
    · refine Z05 rfl rfl rfl rfl ?_; refine Z0u (t := 26) (b' := true) rfl a2 ?_; refine Z0q rfl rfl rfl rfl Z1k mm4 rfl ?_; refine Z0s [.int .i64 0, .int .i64 0] [0, 1] rfl rfl rfl rfl Z0y Z13 Z2c rfl rfl (by simp only [Z1m, setCells, Value.cells, List.toList_toArray, List.getD_cons_zero, List.getD_cons_succ, List.set_cons_zero, List.set_cons_succ]; rfl) (by kernel_rfl) ?_; intro a8; refine Z05 rfl rfl rfl rfl ?_; refine Z0n Z98 rfl rfl rfl rfl (fun wc hwc => Z6b (n0 := (Net.mk 3 0 2 ([(Arc.mk 0 1 3), (Arc.mk 1 2 2)]))) (f1 := [2, 2]) (s2 := [true, true, false]) wc (hwc.rs (f := Z4g) (s := 3) (xs := [(Arc.mk 0 1 3), (Arc.mk 1 2 2)]) (j := ([])) (fun _ => rfl) mm6 rfl (Nat.le_refl _) Z1e) (hwc.rs (f := (intC .i64)) (s := 1) (xs := [2, 2]) (j := ([])) (fun _ => rfl) mm0 rfl (Nat.le_refl _) Z1e) (hwc.rs (f := boolC) (s := 1) (xs := [true, true, false]) (j := ([])) (fun _ => rfl) mm4 rfl (Nat.le_refl _) Z1e) a4) ?_; rintro _ _ ⟨rfl, rfl⟩; refine Z0w rfl rfl rfl rfl rfl ?_; refine Z05 rfl rfl rfl rfl ?_; refine Z0u (t := 32) (b' := true) rfl a3 ?_; refine Z0q rfl rfl rfl rfl Z1k mm5 rfl ?_; refine Z0s [.int .i64 0, .int .i64 0] [0, 1] rfl rfl rfl rfl Z0y Z13 Z2c rfl rfl (by simp only [Z1m, setCells, Value.cells, List.toList_toArray, List.getD_cons_zero, List.getD_cons_succ, List.set_cons_zero, List.set_cons_succ]; rfl) (by kernel_rfl) ?_; intro b6; refine Z05 rfl rfl rfl rfl ?_; refine Z0n Z3g rfl rfl rfl rfl (fun wc hwc => Z2s (n0 := (Net.mk 3 0 2 ([(Arc.mk 0 1 3), (Arc.mk 1 2 2)]))) (f1 := [3, 3]) (s2 := [true, true, false]) wc (hwc.rs (f := Z4g) (s := 3) (xs := [(Arc.mk 0 1 3), (Arc.mk 1 2 2)]) (j := ([])) (fun _ => rfl) mm7 rfl (Nat.le_refl _) Z1e) (hwc.rs (f := (intC .i64)) (s := 1) (xs := [3, 3]) (j := ([])) (fun _ => rfl) mm0 rfl (Nat.le_refl _) Z1e) (hwc.rs (f := boolC) (s := 1) (xs := [true, true, false]) (j := ([])) (fun _ => rfl) mm5 rfl (Nat.le_refl _) Z1e) a6) ?_; rintro _ _ ⟨rfl, rfl⟩; refine Z0r rfl rfl rfl rfl rfl rfl ?_; refine Z0w rfl rfl rfl rfl rfl ?_; refine Z05 rfl rfl rfl rfl ?_; refine Z0u (t := 39) (b' := false) rfl (decide_eq_false a5) ?_; refine Z0c rfl rfl rfl rfl ?_; refine Z0c rfl rfl rfl rfl ?_; refine Z0c rfl rfl rfl rfl ?_; refine Z0c rfl rfl rfl rfl ?_; refine Z0c rfl rfl rfl rfl ?_; refine Z0z rfl rfl rfl rfl rfl ?_; refine Z05 rfl rfl rfl rfl ?_; refine Z0c rfl rfl rfl rfl ?_; refine Z0c rfl rfl rfl rfl ?_; refine Z0c rfl rfl rfl rfl ?_; refine Z0c rfl rfl rfl rfl ?_; refine Z0c rfl rfl rfl rfl ?_; refine Z0z rfl rfl rfl rfl rfl ?_; refine Z05 rfl rfl rfl rfl ?_; refine Z0c rfl rfl rfl rfl ?_; refine Z0c rfl rfl rfl rfl ?_; refine Z0c rfl rfl rfl rfl ?_; refine Z0c rfl rfl rfl rfl ?_; refine Z0c rfl rfl rfl rfl ?_; refine Z0z rfl rfl rfl rfl rfl ?_; refine Z05 rfl rfl rfl rfl ?_; refine Z0c rfl rfl rfl rfl ?_; refine Z0c rfl rfl rfl rfl ?_; refine Z0c rfl rfl rfl rfl ?_; refine Z0c rfl rfl rfl rfl ?_; refine Z0c rfl rfl rfl rfl ?_; refine Z0z rfl rfl rfl rfl rfl ?_; refine Z06 rfl rfl rfl rfl ?_; refine Z02 ?_; refine Z01 ?_; refine Z0k (Z00 (t := 0) rfl Z08) ?_; refine T.ret ?_; obtain rfl := ret1 H; exact Z10 rfl rfl rfl rfl (Res.tmp rfl) Z09 ⟨rfl, rfl⟩
   · refine Z05 rfl rfl rfl rfl ?_; refine Z0u (t := 26) (b' := true) rfl a2 ?_; refine Z0q rfl rfl rfl rfl Z1k mm4 rfl ?_; refine Z0s [.int .i64 0, .int .i64 0] [0, 1] rfl rfl rfl rfl Z0y Z13 Z2c rfl rfl (by simp only [Z1m, setCells, Value.cells, List.toList_toArray, List.getD_cons_zero, List.getD_cons_succ, List.set_cons_zero, List.set_cons_succ]; rfl) (by kernel_rfl) ?_; intro a8; refine Z05 rfl rfl rfl rfl ?_; refine Z0n Z98 rfl rfl rfl rfl (fun wc hwc => Z6b (n0 := (Net.mk 3 0 2 ([(Arc.mk 0 1 3), (Arc.mk 1 2 2)]))) (f1 := [2, 2]) (s2 := [true, true, false]) wc (hwc.rs (f := Z4g) (s := 3) (xs := [(Arc.mk 0 1 3), (Arc.mk 1 2 2)]) (j := ([])) (fun _ => rfl) mm6 rfl (Nat.le_refl _) Z1e) (hwc.rs (f := (intC .i64)) (s := 1) (xs := [2, 2]) (j := ([])) (fun _ => rfl) mm0 rfl (Nat.le_refl _) Z1e) (hwc.rs (f := boolC) (s := 1) (xs := [true, true, false]) (j := ([])) (fun _ => rfl) mm4 rfl (Nat.le_refl _) Z1e) a4) ?_; rintro _ _ ⟨rfl, rfl⟩; refine Z0w rfl rfl rfl rfl rfl ?_; refine Z05 rfl rfl rfl rfl ?_; refine Z0u (t := 32) (b' := false) rfl (Bool.eq_false_iff.2 a3) ?_; refine Z0c rfl rfl rfl rfl ?_; refine Z0c rfl rfl rfl rfl ?_; refine Z0c rfl rfl rfl rfl ?_; refine Z0c rfl rfl rfl rfl ?_; refine Z0c rfl rfl rfl rfl ?_; refine Z0z rfl rfl rfl rfl rfl ?_; refine Z05 rfl rfl rfl rfl ?_; refine Z0c rfl rfl rfl rfl ?_; refine Z0c rfl rfl rfl rfl ?_; refine Z0c rfl rfl rfl rfl ?_; refine Z0c rfl rfl rfl rfl ?_; refine Z0c rfl rfl rfl rfl ?_; refine Z0z rfl rfl rfl rfl rfl ?_; refine Z05 rfl rfl rfl rfl ?_; refine Z0c rfl rfl rfl rfl ?_; refine Z0c rfl rfl rfl rfl ?_; refine Z0c rfl rfl rfl rfl ?_; refine Z0c rfl rfl rfl rfl ?_; refine Z0c rfl rfl rfl rfl ?_; refine Z0z rfl rfl rfl rfl rfl ?_; refine Z05 rfl rfl rfl rfl ?_; refine Z0c rfl rfl rfl rfl ?_; refine Z0c rfl rfl rfl rfl ?_; refine Z0c rfl rfl rfl rfl ?_; refine Z0c rfl rfl rfl rfl ?_; refine Z0c rfl rfl rfl rfl ?_; refine Z0z rfl rfl rfl rfl rfl ?_; refine Z05 rfl rfl rfl rfl ?_; refine Z0c rfl rfl rfl rfl ?_; refine Z0c rfl rfl rfl rfl ?_; refine Z0c rfl rfl rfl rfl ?_; refine Z0c rfl rfl rfl rfl ?_; refine Z0c rfl rfl rfl rfl ?_; refine Z0z rfl rfl rfl rfl rfl ?_; refine Z06 rfl rfl rfl rfl ?_; refine Z02 ?_; refine Z01 ?_; refine Z0k (Z00 (t := 0) rfl Z08) ?_; refine T.ret ?_; obtain rfl := ret1 H; exact Z10 rfl rfl rfl rfl (Res.tmp rfl) Z09 ⟨rfl, rfl⟩
  · refine Z05 rfl rfl rfl rfl ?_; refine Z0u (t := 26) (b' := false) rfl (Bool.eq_false_iff.2 a2) ?_; refine Z0c rfl rfl rfl rfl ?_; refine Z0c rfl rfl rfl rfl ?_; refine Z0c rfl rfl rfl rfl ?_; refine Z0c rfl rfl rfl rfl ?_; refine Z0z rfl rfl rfl rfl rfl ?_; refine Z05 rfl rfl rfl rfl ?_; refine Z0c rfl rfl rfl rfl ?_; refine Z0c rfl rfl rfl rfl ?_; refine Z0c rfl rfl rfl rfl ?_; refine Z0c rfl rfl rfl rfl ?_; refine Z0c rfl rfl rfl rfl ?_; refine Z0z rfl rfl rfl rfl rfl ?_; refine Z05 rfl rfl rfl rfl ?_; refine Z0c rfl rfl rfl rfl ?_; refine Z0c rfl rfl rfl rfl ?_; refine Z0c rfl rfl rfl rfl ?_; refine Z0c rfl rfl rfl rfl ?_; refine Z0c rfl rfl rfl rfl ?_; refine Z0z rfl rfl rfl rfl rfl ?_; refine Z05 rfl rfl rfl rfl ?_; refine Z0c rfl rfl rfl rfl ?_; refine Z0c rfl rfl rfl rfl ?_; refine Z0c rfl rfl rfl rfl ?_; refine Z0c rfl rfl rfl rfl ?_; refine Z0c rfl rfl rfl rfl ?_; refine Z0z rfl rfl rfl rfl rfl ?_; refine Z05 rfl rfl rfl rfl ?_; refine Z0c rfl rfl rfl rfl ?_; refine Z0c rfl rfl rfl rfl ?_; refine Z0c rfl rfl rfl rfl ?_; refine Z0c rfl rfl rfl rfl ?_; refine Z0c rfl rfl rfl rfl ?_; refine Z0z rfl rfl rfl rfl rfl ?_; refine Z05 rfl rfl rfl rfl ?_; refine Z0c rfl rfl rfl rfl ?_; refine Z0c rfl rfl rfl rfl ?_; refine Z0c rfl rfl rfl rfl ?_; refine Z0c rfl rfl rfl rfl ?_; refine Z0c rfl rfl rfl rfl ?_; refine Z0z rfl rfl rfl rfl rfl ?_; refine Z06 rfl rfl rfl rfl ?_; refine Z02 ?_; refine Z01 ?_; refine Z0k (Z00 (t := 0) rfl Z08) ?_; refine T.ret ?_; obtain rfl := ret1 H; exact Z10 rfl rfl rfl rfl (Res.tmp rfl) Z09 ⟨rfl, rfl⟩
theorem Zar {n0 : Net} {f1 : List Int} {most2 : Int} {n0f3_b : Option Addr} {n0f3_n : Nat} {n0f3_c : Nat} {f1_o : Option Nat} {f1_n : Nat} {f1_c : Nat} {f1_j : List Value} (w : World) (hin : Inv w (([(f1_o, .cells (arr (intC .i64) f1 f1_j).toArray 2 (0, 0))] : Heap).filterMap Prod.fst) w [(f1_o, .cells (arr (intC .i64) f1 f1_j).toArray 2 (0, 0))]) (h_n0f3 : RS w (([(f1_o, .cells (arr (intC .i64) f1 f1_j).toArray 2 (0, 0))] : Heap).filterMap Prod.fst) Z4g 3 n0f3_b n0f3_n n0f3_c n0.Arcs) (h_f1_l : f1.length = f1_n) (h_f1_c : f1_n ≤ f1_c) (h_f1_j : f1_j.length = (f1_c - f1_n) * 1) (h_f1_z : (f1_o = none → f1_c = 0)) {r0 : List Int} {r1 : Bool} (H : Z37 n0 f1 most2 = some (r0, r1)) : Fnc Try.prog 16 #[.agg #[.int .i64 n0.N, .int .i64 n0.S, .int .i64 n0.T, .slice n0f3_b n0f3_n n0f3_c], .slice (sb f1_o) f1_n f1_c, .int .i64 most2] w (([(f1_o, .cells (arr (intC .i64) f1 f1_j).toArray 2 (0, 0))] : Heap).filterMap Prod.fst) (fun v N => ∃ (f0 : Option Nat) (l3 : Nat) (l4 : Nat) (o0 : List Value), v = .tuple #[.slice (sb f0) l3 l4, .bool r1] ∧ N = [(f0, .cells (arr (intC .i64) r0 o0).toArray 2 (0, 0))] ∧ r0.length = l3 ∧ l3 ≤ l4 ∧ o0.length = (l4 - l3) * 1 ∧ (f0 = none → l4 = 0)) := by
 unfold Z37 at H; refine Fnc.enter (vs := [.agg #[.int .i64 n0.N, .int .i64 n0.S, .int .i64 n0.T, .slice n0f3_b n0f3_n n0f3_c], .slice (sb f1_o) f1_n f1_c, .int .i64 most2]) Try.func16 rfl rfl hin ?_; refine Z0b ?_; refine Z03 (ll := [0, 1, 2]) rfl ?_; refine Z1p rfl rfl rfl rfl ?_; intro b2; refine Z06 rfl rfl rfl rfl ?_; refine Z06 rfl rfl rfl rfl ?_; refine Z02 ?_; refine Z01 ?_; refine Z0b ?_; obtain ⟨⟨r4, r5⟩, e6, H⟩ := Z0l H; refine Z03 (ll := [0, 1, 2, 3, 4, 5, 6, 7]) rfl ?_; refine Z0q rfl rfl rfl rfl Z1k mm0 rfl ?_; refine Z0n Znt rfl rfl rfl rfl (fun wc hwc => Zgj (n0 := n0) wc (h_n0f3.mono hwc) e6) ?_; rintro _ _ ⟨e1, n8, c9, f2, a9, h2, h3, f3, b0, h4, c17, f4, b1, h5, h6, f5, b5, n24, h7, f6, b6, h8, c29, f7, rfl, rfl, h9, i1, o5, i2, i4, i5, o6, i6, i7, i8, o7, i9, j0, j1, o8, j2, d3, d4, o9, d5, e3, e4, p0, e5⟩; refine Z05 rfl rfl rfl rfl ?_; refine TO.extract rfl rfl rfl rfl rfl ?_; refine TO.extract rfl rfl rfl rfl rfl ?_; refine Z1i rfl rfl rfl Znh ?_; intro e2; refine Z1b rfl rfl rfl rfl tk0 Znj rfl rfl rfl ?_; refine Z06 rfl rfl rfl rfl ?_; refine Z02 ?_; refine Z01 ?_; refine Z0k (Z00 (t := 1) rfl (Z00 (t := 2) rfl (Z00 (t := 3) rfl (Z00 (t := 8) rfl (Z00 (t := 9) rfl Z08))))) ?_; refine Z0b ?_; refine Z0b ?_; refine Z03 (ll := [0, 1]) rfl ?_; refine Z05 rfl rfl rfl rfl ?_; refine Z0r rfl rfl rfl rfl rfl rfl ?_; refine Z02 ?_; refine Z01 ?_; rcases Z0g H with ⟨l8, H⟩ | ⟨l8, H⟩
 · refine Z14 rfl l8 ?_; refine Z0b ?_; refine Z03 (ll := [0, 1]) rfl ?_; refine Z06 rfl rfl rfl rfl ?_; refine Z06 rfl rfl rfl rfl ?_; refine Z02 ?_; refine Z01 ?_; refine T.ret ?_; refine Z0f ?_; obtain ⟨rfl, rfl⟩ := ret2 H; exact Z59 rfl rfl rfl rfl (Res.tmp rfl) (Res.tmp rfl) (Pick.none Z09) ⟨none, 0, 0, ([]), rfl, rfl, rfl, (Nat.le_refl _), (Z33 0 _), (fun _ => rfl)⟩
 ·
  refine Z15 rfl l8 ?_; refine T.skip ?_; refine Z01 ?_; refine Z0b ?_; refine Z0b ?_; refine Z03 (ll := [0, 1]) rfl ?_; refine Z05 rfl rfl rfl rfl ?_; refine Z05 rfl rfl rfl rfl ?_; refine Z02 ?_; refine Z01 ?_; refine Z1l (fun (f8 : Unit) => Z4l = some (r0, r1)) (fun (f8 : Unit) => []) (fun (f8 : Unit) => []) ?_ ?_
  ·
   refine T.block ?_; obtain ⟨p1, p2, l9⟩ := Z0l H; refine Zig (fun (g8 : Nat) (f64 : List Int) (d0 : Nat) (d8 : Nat) (a7 : Option Nat) (d9 : List Value) (d1 : Int) => Z28 (fun s => Z2r n0 most2 r4 s.1 s.2) g8 (f64, d1) = some p1 ∧ f64.length = d0 ∧ d0 ≤ d8 ∧ d9.length = (d8 - d0) * 1 ∧ (a7 = none → d8 = 0)) (fun (g8 : Nat) (f64 : List Int) (d0 : Nat) (d8 : Nat) (a7 : Option Nat) (d9 : List Value) (d1 : Int) => [(1, .slice (sb a7) d0 d8), (3, .pointer (some ⟨b2, 0, none⟩)), (8, .pointer (some ⟨e2, 0, none⟩)), (26, .int .i64 most2), (27, .int .i64 d1)]) (fun (g8 : Nat) (f64 : List Int) (d0 : Nat) (d8 : Nat) (a7 : Option Nat) (d9 : List Value) (d1 : Int) => [(a7, .cells (arr (intC .i64) f64 d9).toArray 2 (0, 0)), (some b2, .cells #[.int .i64 n0.N, .int .i64 n0.S, .int .i64 n0.T, .slice n0f3_b n0f3_n n0f3_c] 24 (0, 0)), (some e2, .cells #[.int .i64 r4.N, .int .i64 r4.S, .int .i64 r4.T, .slice (sb e1) n8 c9, .slice (sb a9) h2 h3, .slice (sb b0) h4 c17, .slice (sb b1) h5 h6, .slice (sb b5) n24 h7, .slice (sb b6) h8 c29] 64 (0, 0)), (e1, .cells (arr (intC .i64) r4.First f2).toArray 3 (0, 0)), (a9, .cells (arr (intC .i64) r4.Head f3).toArray 3 (0, 0)), (b0, .cells (arr (intC .i64) r4.Rev f4).toArray 3 (0, 0)), (b1, .cells (arr (intC .i64) r4.Cap f5).toArray 2 (0, 0)), (b5, .cells (arr (intC .i64) r4.Arc f6).toArray 3 (0, 0)), (b6, .cells (arr boolC r4.Back f7).toArray 4 (0, 0))]) (fun (g8 : Nat) (f64 : List Int) (d0 : Nat) (d8 : Nat) (a7 : Option Nat) (d9 : List Value) (d1 : Int) => g8) Z4d f1 f1_n f1_c f1_o f1_j 0 ⟨p2, h_f1_l, h_f1_c, h_f1_j, h_f1_z⟩ (Z00 rfl (Z00 rfl (Z00 rfl (Z00 rfl (Z00 rfl Z08))))) (Z04 tk8 (Z04 tk7 (Z04 tk0 (Z04 tk0 (Z04 tk0 (Z04 tk0 (Z04 tk0 (Z04 tk0 (Z04 tk0 Z09))))))))) ?_; rintro g8 f64 d0 d8 a7 d9 d1 ⟨H, e7, f9, m0, g0⟩; obtain ⟨p3, m1, rfl, H, l5⟩ := Z1c H; have H : Z2r n0 most2 r4 f64 d1 = some m1 := H; unfold Z2r at H; refine Z0b ?_; refine Z03 (ll := [0]) rfl ?_; refine Z0r rfl rfl rfl rfl rfl rfl ?_; refine Z02 ?_; refine Z01 ?_; refine Z0b ?_; rcases Z0g H with ⟨m2, H⟩ | ⟨m2, H⟩
   ·
    refine Z14 rfl m2 ?_; refine T.skip ?_; refine Z01 ?_; refine Z0b ?_; refine Zc8 (fun (c7 : List Int) (c3 : Nat) (c138 : Nat) (a8 : Option Nat) (d6 : List Value) => Z3k d1 c7 = some m1 ∧ c7.length = c3 ∧ c3 ≤ c138 ∧ d6.length = (c138 - c3) * 1 ∧ (a8 = none → c138 = 0)) (fun (c7 : List Int) (c3 : Nat) (c138 : Nat) (a8 : Option Nat) (d6 : List Value) => [(1, .slice (sb a8) c3 c138), (3, .pointer (some ⟨b2, 0, none⟩)), (8, .pointer (some ⟨e2, 0, none⟩)), (26, .int .i64 most2), (27, .int .i64 d1)]) (fun (c7 : List Int) (c3 : Nat) (c138 : Nat) (a8 : Option Nat) (d6 : List Value) => [(a8, .cells (arr (intC .i64) c7 d6).toArray 2 (0, 0)), (some b2, .cells #[.int .i64 n0.N, .int .i64 n0.S, .int .i64 n0.T, .slice n0f3_b n0f3_n n0f3_c] 24 (0, 0)), (some e2, .cells #[.int .i64 r4.N, .int .i64 r4.S, .int .i64 r4.T, .slice (sb e1) n8 c9, .slice (sb a9) h2 h3, .slice (sb b0) h4 c17, .slice (sb b1) h5 h6, .slice (sb b5) n24 h7, .slice (sb b6) h8 c29] 64 (0, 0)), (e1, .cells (arr (intC .i64) r4.First f2).toArray 3 (0, 0)), (a9, .cells (arr (intC .i64) r4.Head f3).toArray 3 (0, 0)), (b0, .cells (arr (intC .i64) r4.Rev f4).toArray 3 (0, 0)), (b1, .cells (arr (intC .i64) r4.Cap f5).toArray 2 (0, 0)), (b5, .cells (arr (intC .i64) r4.Arc f6).toArray 3 (0, 0)), (b6, .cells (arr boolC r4.Back f7).toArray 4 (0, 0))]) ?_ ?_
    ·
     refine T.block ?_; refine Z0b ?_; obtain ⟨⟨g9, q9⟩, p4, H⟩ := Z0l H; refine Z03 (ll := [0, 1, 2, 3, 4, 5, 6, 7]) rfl ?_; refine Z0q rfl rfl rfl rfl Zhf mm2 rfl ?_; refine Z05 rfl rfl rfl rfl ?_; refine Z0n Zns rfl rfl rfl rfl (fun wc hwc => Zir (c0 := r4) (f1 := f64) wc (hwc.rs (f := (intC .i64)) (s := 1) (xs := r4.First) (j := f2) (fun _ => rfl) mm3 h9 i1 i2) (hwc.rs (f := (intC .i64)) (s := 1) (xs := r4.Head) (j := f3) (fun _ => rfl) mm4 i4 i5 i6) (hwc.rs (f := (intC .i64)) (s := 1) (xs := r4.Rev) (j := f4) (fun _ => rfl) mm5 i7 i8 i9) (hwc.rs (f := (intC .i64)) (s := 1) (xs := r4.Cap) (j := f5) (fun _ => rfl) mm6 j0 j1 j2) (hwc.rs (f := (intC .i64)) (s := 1) (xs := r4.Arc) (j := f6) (fun _ => rfl) mm7 d3 d4 d5) (hwc.rs (f := boolC) (s := 1) (xs := r4.Back) (j := f7) (fun _ => rfl) mm8 e3 e4 e5) (hwc.rs (f := (intC .i64)) (s := 1) (xs := f64) (j := d9) (fun _ => rfl) mm0 e7 f9 g0) p4) ?_; rintro _ _ ⟨j3, p5, p6, o1, rfl, rfl, g1, g2, p7, g3⟩; refine Z05 rfl rfl rfl rfl ?_; refine TO.extract rfl rfl rfl rfl rfl ?_; refine TO.extract rfl rfl rfl rfl rfl ?_; refine Z06 rfl rfl rfl rfl ?_; refine Z06 rfl rfl rfl rfl ?_; refine Z02 ?_; refine Z01 ?_; refine Z0b ?_; refine Z0b ?_; refine Z03 (ll := [0, 1]) rfl ?_; refine Z05 rfl rfl rfl rfl ?_; refine Z0r rfl rfl rfl rfl rfl rfl ?_; refine Z02 ?_; refine Z01 ?_; refine Z0k (Z00 (t := 1) rfl (Z00 (t := 3) rfl (Z00 (t := 8) rfl (Z00 (t := 26) rfl (Z00 (t := 27) rfl (Z00 (t := 10) rfl (Z00 (t := 36) rfl Z08))))))) ?_; rcases Z0g H with ⟨m3, H⟩ | ⟨m3, H⟩
     · refine Z14 rfl m3 ?_; refine Z0b ?_; refine Z03 (ll := [0, 1]) rfl ?_; refine Z06 rfl rfl rfl rfl ?_; refine Z06 rfl rfl rfl rfl ?_; refine Z02 ?_; refine Z01 ?_; refine T.ret ?_; refine Z0f ?_; refine Z0o ?_; refine Z0f ?_; have H := Z0v H l5 ▸ l9; refine Z0f ?_; refine Z0o ?_; refine Z0f ?_; obtain ⟨rfl, rfl⟩ := ret2 H; exact Z59 rfl rfl rfl rfl (Res.tmp rfl) (Res.tmp rfl) (Pick.none Z09) ⟨none, 0, 0, ([]), rfl, rfl, rfl, (Nat.le_refl _), (Z33 0 _), (fun _ => rfl)⟩
     ·
      refine Z15 rfl m3 ?_; refine T.skip ?_; refine Z01 ?_; refine Z0b ?_; obtain ⟨⟨c4, r2⟩, p8, H⟩ := Z0l H; refine Z03 (ll := [0, 1, 2, 3, 4, 5, 6, 7, 8, 9, 10, 11]) rfl ?_; refine Z0q rfl rfl rfl rfl Zhf mm3 rfl ?_; refine Z05 rfl rfl rfl rfl ?_; refine Z07 rfl rfl rfl rfl Z68 ?_; refine Z0e rfl rfl rfl rfl Z2v mm2 rfl ?_; refine Z07 rfl rfl rfl rfl Zc4 ?_; refine Z0e rfl rfl rfl rfl Z2v mm2 rfl ?_; refine Z0n Znu rfl rfl rfl rfl (fun wc hwc => Zlv (c0 := r4) (res1 := g9) (s2 := n0.S) (t3 := n0.T) wc (hwc.rs (f := (intC .i64)) (s := 1) (xs := r4.First) (j := f2) (fun _ => rfl) mm4 h9 i1 i2) (hwc.rs (f := (intC .i64)) (s := 1) (xs := r4.Head) (j := f3) (fun _ => rfl) mm5 i4 i5 i6) (hwc.rs (f := (intC .i64)) (s := 1) (xs := r4.Rev) (j := f4) (fun _ => rfl) mm6 i7 i8 i9) (hwc.rs (f := (intC .i64)) (s := 1) (xs := r4.Cap) (j := f5) (fun _ => rfl) mm7 j0 j1 j2) (hwc.rs (f := (intC .i64)) (s := 1) (xs := r4.Arc) (j := f6) (fun _ => rfl) mm8 d3 d4 d5) (hwc.rs (f := boolC) (s := 1) (xs := r4.Back) (j := f7) (fun _ => rfl) mm9 e3 e4 e5) (hwc.rs (f := (intC .i64)) (s := 1) (xs := g9) (j := o1) (fun _ => rfl) mm0 g1 g2 g3) p8) ?_; rintro _ _ ⟨c8, l6, l7, m4, rfl, rfl, d7, e8, p9, e9⟩; refine Z05 rfl rfl rfl rfl ?_; refine TO.extract rfl rfl rfl rfl rfl ?_; refine TO.extract rfl rfl rfl rfl rfl ?_; refine Z06 rfl rfl rfl rfl ?_; refine Z06 rfl rfl rfl rfl ?_; refine Z02 ?_; refine Z01 ?_; refine Z0k (Z00 (t := 1) rfl (Z00 (t := 3) rfl (Z00 (t := 8) rfl (Z00 (t := 26) rfl (Z00 (t := 27) rfl (Z00 (t := 10) rfl (Z00 (t := 12) rfl (Z00 (t := 13) rfl Z08)))))))) ?_; refine Z0b ?_; refine Z0b ?_; refine Z03 (ll := [0, 1]) rfl ?_; refine Z05 rfl rfl rfl rfl ?_; refine TO.not rfl rfl rfl rfl ?_; refine Z02 ?_; refine Z01 ?_; rcases Z0g H with ⟨g4, H⟩ | ⟨g4, H⟩
      · refine Z1d rfl g4 ?_; refine Z0b ?_; refine Z03 (ll := [0, 1, 2]) rfl ?_; refine Z05 rfl rfl rfl rfl ?_; refine Z06 rfl rfl rfl rfl ?_; refine Z06 rfl rfl rfl rfl ?_; refine Z02 ?_; refine Z01 ?_; refine Z0k (Z00 (t := 6) rfl (Z00 (t := 7) rfl Z08)) ?_; refine T.ret ?_; refine Z0f ?_; refine Z0o ?_; refine Z0f ?_; have H := Z0v H l5 ▸ l9; refine Z0f ?_; refine Z0o ?_; refine Z0f ?_; obtain ⟨rfl, rfl⟩ := ret2 H; exact Z59 rfl rfl rfl rfl (Res.tmp rfl) (Res.tmp rfl) (Z04 tk2 Z09) ⟨a7, d0, d8, d9, rfl, rfl, e7, f9, m0, g0⟩
      ·
       refine Z1r rfl (Bool.eq_false_iff.2 g4) ?_; refine T.skip ?_; refine Z01 ?_; refine Z0b ?_; refine Z03 (ll := [0]) rfl ?_; refine Z06 rfl rfl rfl rfl ?_; refine Z02 ?_; refine Z01 ?_; refine Z0b ?_; refine Z0b ?_; refine Z03 (ll := [0, 1, 2]) rfl ?_; refine Z05 rfl rfl rfl rfl ?_; refine Z26 (xs := c4) d7 rfl rfl rfl rfl rfl Z97 ?_; refine Z05 rfl rfl rfl rfl ?_; refine Z02 ?_; refine Z01 ?_; refine Z1l (fun (b7 : Int) => Z3l r4 f64 d1 c4 b7 = some m1) (fun (b7 : Int) => [(1, .slice (sb a7) d0 d8), (3, .pointer (some ⟨b2, 0, none⟩)), (8, .pointer (some ⟨e2, 0, none⟩)), (12, .slice (sb c8) l6 l7), (14, .int .i64 b7), (26, .int .i64 most2), (27, .int .i64 d1)]) (fun (b7 : Int) => [(a7, .cells (arr (intC .i64) f64 d9).toArray 2 (0, 0)), (some b2, .cells #[.int .i64 n0.N, .int .i64 n0.S, .int .i64 n0.T, .slice n0f3_b n0f3_n n0f3_c] 24 (0, 0)), (some e2, .cells #[.int .i64 r4.N, .int .i64 r4.S, .int .i64 r4.T, .slice (sb e1) n8 c9, .slice (sb a9) h2 h3, .slice (sb b0) h4 c17, .slice (sb b1) h5 h6, .slice (sb b5) n24 h7, .slice (sb b6) h8 c29] 64 (0, 0)), (e1, .cells (arr (intC .i64) r4.First f2).toArray 3 (0, 0)), (a9, .cells (arr (intC .i64) r4.Head f3).toArray 3 (0, 0)), (b0, .cells (arr (intC .i64) r4.Rev f4).toArray 3 (0, 0)), (b1, .cells (arr (intC .i64) r4.Cap f5).toArray 2 (0, 0)), (b5, .cells (arr (intC .i64) r4.Arc f6).toArray 3 (0, 0)), (b6, .cells (arr boolC r4.Back f7).toArray 4 (0, 0)), (c8, .cells (arr (intC .i64) c4 m4).toArray 3 (0, 0))]) ?_ ?_
       ·
        refine T.block ?_; obtain ⟨q0, q1, q2⟩ := Z0l H; refine Z7r (fun (h0 : Nat) (b8 : Int) (b9 : Int) => Z28 (fun s => Z2q g9 c4 s.1 s.2) h0 (b8, b9) = some q0) (fun (h0 : Nat) (b8 : Int) (b9 : Int) => [(1, .slice (sb a7) d0 d8), (3, .pointer (some ⟨b2, 0, none⟩)), (8, .pointer (some ⟨e2, 0, none⟩)), (10, .slice (sb j3) p5 p6), (12, .slice (sb c8) l6 l7), (14, .int .i64 b8), (26, .int .i64 most2), (27, .int .i64 d1), (50, .slice (sb c8) l6 l7), (51, .int .i64 (c4.length : Int)), (52, .int .i64 b9)]) (fun (h0 : Nat) (b8 : Int) (b9 : Int) => [(a7, .cells (arr (intC .i64) f64 d9).toArray 2 (0, 0)), (some b2, .cells #[.int .i64 n0.N, .int .i64 n0.S, .int .i64 n0.T, .slice n0f3_b n0f3_n n0f3_c] 24 (0, 0)), (some e2, .cells #[.int .i64 r4.N, .int .i64 r4.S, .int .i64 r4.T, .slice (sb e1) n8 c9, .slice (sb a9) h2 h3, .slice (sb b0) h4 c17, .slice (sb b1) h5 h6, .slice (sb b5) n24 h7, .slice (sb b6) h8 c29] 64 (0, 0)), (e1, .cells (arr (intC .i64) r4.First f2).toArray 3 (0, 0)), (a9, .cells (arr (intC .i64) r4.Head f3).toArray 3 (0, 0)), (b0, .cells (arr (intC .i64) r4.Rev f4).toArray 3 (0, 0)), (b1, .cells (arr (intC .i64) r4.Cap f5).toArray 2 (0, 0)), (b5, .cells (arr (intC .i64) r4.Arc f6).toArray 3 (0, 0)), (b6, .cells (arr boolC r4.Back f7).toArray 4 (0, 0)), (j3, .cells (arr (intC .i64) g9 o1).toArray 2 (0, 0)), (c8, .cells (arr (intC .i64) c4 m4).toArray 3 (0, 0))]) (fun (h0 : Nat) (b8 : Int) (b9 : Int) => h0) Z4d 4611686018427387904 0 q1 (Z00 rfl (Z00 rfl (Z00 rfl (Z00 rfl (Z00 rfl (Z00 rfl (Z00 rfl (Z00 rfl (Z00 rfl (Z00 rfl (Z00 rfl Z08))))))))))) (Z04 tk2 (Z04 tk2 (Z04 tk2 (Z04 tk2 (Z04 tk2 (Z04 tk2 (Z04 tk2 (Z04 tk2 (Z04 tk2 (Z04 tk1 (Z04 tk0 Z09))))))))))) ?_; rintro h0 b8 b9 H; obtain ⟨q3, q4, rfl, H, o2⟩ := Z1c H; have H : Z2q g9 c4 b8 b9 = some q4 := H; unfold Z2q at H; refine Z0b ?_; refine Z03 (ll := [0]) rfl ?_; refine Z0r rfl rfl rfl rfl rfl rfl ?_; refine Z02 ?_; refine Z01 ?_; refine Z0b ?_; rcases Z0g H with ⟨g5, H⟩ | ⟨g5, H⟩
        · refine Z14 rfl g5 ?_; refine T.skip ?_; refine Z01 ?_; refine Z0b ?_; refine T.block ?_; refine Z0b ?_; obtain ⟨j4, H⟩ := Z0d H; refine Z03 (ll := [0, 1, 2]) rfl ?_; refine Z4u e9 e8 d7 j4 rfl rfl rfl rfl rfl Z97 Zdv ?_; refine Z71 e9 e8 d7 j4 rfl rfl rfl rfl Z2v mm10 ?_; refine Z06 rfl rfl rfl rfl ?_; refine Z02 ?_; refine Z01 ?_; obtain ⟨j5, H⟩ := Z0d H; refine Z03 (ll := [0, 1, 2, 3, 4, 5, 6]) rfl ?_; refine Z05 rfl rfl rfl rfl ?_; refine Z05 rfl rfl rfl rfl ?_; refine Z05 rfl rfl rfl rfl ?_; refine Z4u g3 g2 g1 j5 rfl rfl rfl rfl rfl Z0y Z13 ?_; refine Z71 g3 g2 g1 j5 rfl rfl rfl rfl Z4i mm9 ?_; refine TO.min2 rfl rfl rfl rfl rfl ?_; refine Z06 rfl rfl rfl rfl ?_; refine Z02 ?_; refine Z0h ?_; refine Z01 ?_; refine Z0k (Z00 (t := 1) rfl (Z00 (t := 3) rfl (Z00 (t := 8) rfl (Z00 (t := 10) rfl (Z00 (t := 12) rfl (Z00 (t := 14) rfl (Z00 (t := 26) rfl (Z00 (t := 27) rfl (Z00 (t := 50) rfl (Z00 (t := 51) rfl (Z00 (t := 52) rfl Z08))))))))))) ?_; obtain ⟨m5, H⟩ := Z0d H; refine Z03 (ll := [0, 1]) rfl ?_; refine Z18 m5 rfl rfl rfl rfl rfl ?_; refine Z05 rfl rfl rfl rfl ?_; refine Z02 ?_; have H := Z16 H o2; exact Z4h q3 (min b8 (g9.getD (c4.getD b9.toNat 0).toNat 0)) (b9 + 1) H (Nat.lt_succ_self _) (Z00 rfl (Z00 rfl (Z00 rfl (Z00 rfl (Z00 rfl (Z00 rfl (Z00 rfl (Z00 rfl (Z00 rfl (Z00 rfl (Z00 rfl Z08))))))))))) (Z04 tk0 (Z04 tk0 (Z04 tk0 (Z04 tk0 (Z04 tk0 (Z04 tk0 (Z04 tk0 (Z04 tk0 (Z04 tk0 (Z04 tk0 (Z04 tk0 Z09)))))))))))
        · refine Z15 rfl g5 ?_; refine T.exit ?_; refine Z0j ?_; have H := Z0v H o2 ▸ q2; refine Z0j ?_; refine Z0x ?_; exact Z24 b8 H (Z00 rfl (Z00 rfl (Z00 rfl (Z00 rfl (Z00 rfl (Z00 rfl (Z00 rfl Z08))))))) (Z04 tk0 (Z04 tk0 (Z04 tk0 (Z04 tk0 (Z04 tk0 (Z04 tk0 (Z04 tk0 (Z04 tk0 (Z04 tk0 (Z04 tk1 Z09))))))))))
       ·
        rintro b7 H; unfold Z3l at H; refine Z0b ?_; obtain ⟨m6, H⟩ := Z0d H; refine Z03 (ll := [0, 1, 2, 3]) rfl ?_; refine Zer rfl rfl rfl Z0y Z13 ?_; intro m7; refine Z05 rfl rfl rfl rfl ?_; refine Zhi (f := (intC .i64)) (s := 1) (xs := ([] : List Int)) (ob := some m7) (j := ([])) (ys := f64) (fun _ => rfl) (fun _ => rfl) Zng m6 rfl rfl rfl rfl rfl tk0 rfl (Nat.le_refl _) (Z33 0 _) Z1e (fun wc hwc => (hwc.rs (f := (intC .i64)) (s := 1) (xs := f64) (j := d9) (fun _ => rfl) mm1 e7 f9 g0)) ?_; intro e0 j6 j7 a4 j8 a5; refine Z06 rfl rfl rfl rfl ?_; refine Z02 ?_; refine Z01 ?_; refine Z0b ?_; refine Z03 (ll := [0, 1, 2]) rfl ?_; refine Z05 rfl rfl rfl rfl ?_; refine Z26 (xs := c4) d7 rfl rfl rfl rfl rfl Z97 ?_; refine Z05 rfl rfl rfl rfl ?_; refine Z02 ?_; refine Z01 ?_; refine T.block ?_; obtain ⟨q5, q6, q7⟩ := Z0l H; refine Z7r (fun (h1 : Nat) (a2 : List Int) (a6 : Int) => Z28 (fun s => Z2p r4 c4 b7 s.1 s.2) h1 (a2, a6) = some q5 ∧ a2.length = (0 + d0)) (fun (h1 : Nat) (a2 : List Int) (a6 : Int) => [(1, .slice (sb e0) (0 + d0) j6), (3, .pointer (some ⟨b2, 0, none⟩)), (8, .pointer (some ⟨e2, 0, none⟩)), (14, .int .i64 b7), (26, .int .i64 most2), (27, .int .i64 d1), (66, .slice (sb c8) l6 l7), (67, .int .i64 (c4.length : Int)), (68, .int .i64 a6)]) (fun (h1 : Nat) (a2 : List Int) (a6 : Int) => [(e0, .cells (arr (intC .i64) a2 j7).toArray 2 (0, 0)), (some b2, .cells #[.int .i64 n0.N, .int .i64 n0.S, .int .i64 n0.T, .slice n0f3_b n0f3_n n0f3_c] 24 (0, 0)), (some e2, .cells #[.int .i64 r4.N, .int .i64 r4.S, .int .i64 r4.T, .slice (sb e1) n8 c9, .slice (sb a9) h2 h3, .slice (sb b0) h4 c17, .slice (sb b1) h5 h6, .slice (sb b5) n24 h7, .slice (sb b6) h8 c29] 64 (0, 0)), (e1, .cells (arr (intC .i64) r4.First f2).toArray 3 (0, 0)), (a9, .cells (arr (intC .i64) r4.Head f3).toArray 3 (0, 0)), (b0, .cells (arr (intC .i64) r4.Rev f4).toArray 3 (0, 0)), (b1, .cells (arr (intC .i64) r4.Cap f5).toArray 2 (0, 0)), (b5, .cells (arr (intC .i64) r4.Arc f6).toArray 3 (0, 0)), (b6, .cells (arr boolC r4.Back f7).toArray 4 (0, 0)), (c8, .cells (arr (intC .i64) c4 m4).toArray 3 (0, 0))]) (fun (h1 : Nat) (a2 : List Int) (a6 : Int) => h1) Z4d f64 0 ⟨q6, (Zos e7)⟩ (Z00 rfl (Z00 rfl (Z00 rfl (Z00 rfl (Z00 rfl (Z00 rfl (Z00 rfl (Z00 rfl (Z00 rfl Z08))))))))) (Z04 tk0 (Z04 tk1 (Z04 tk1 (Z04 tk1 (Z04 tk1 (Z04 tk1 (Z04 tk1 (Z04 tk1 (Z04 tk1 (Z04 tk1 Z09)))))))))) ?_; rintro h1 a2 a6 ⟨H, a3⟩; obtain ⟨o4, q8, rfl, H, m8⟩ := Z1c H; have H : Z2p r4 c4 b7 a2 a6 = some q8 := H; unfold Z2p at H; refine Z0b ?_; refine Z03 (ll := [0]) rfl ?_; refine Z0r rfl rfl rfl rfl rfl rfl ?_; refine Z02 ?_; refine Z01 ?_; refine Z0b ?_; rcases Z0g H with ⟨g6, H⟩ | ⟨g6, H⟩
        ·
         refine Z14 rfl g6 ?_; refine T.skip ?_; refine Z01 ?_; refine Z0b ?_; refine T.block ?_; refine Z0b ?_; obtain ⟨j9, H⟩ := Z0d H; refine Z03 (ll := [0, 1, 2]) rfl ?_; refine Z4u e9 e8 d7 j9 rfl rfl rfl rfl rfl Z97 Zdv ?_; refine Z71 e9 e8 d7 j9 rfl rfl rfl rfl Z2v mm9 ?_; refine Z06 rfl rfl rfl rfl ?_; refine Z02 ?_; refine Z01 ?_; refine Z0b ?_; obtain ⟨k1, H⟩ := Z0d H; refine Z03 (ll := [0, 1, 2, 3, 4]) rfl ?_; refine Z07 rfl rfl rfl rfl Zk0 ?_; refine Z0e rfl rfl rfl rfl Z79 mm2 rfl ?_; refine Z05 rfl rfl rfl rfl ?_; refine Z4u e5 e4 e3 k1 rfl rfl rfl rfl rfl Z56 Z6n ?_; refine Zl2 e5 e4 e3 k1 rfl rfl rfl rfl Z9f mm8 ?_; refine Z02 ?_; refine Z01 ?_; rcases Z0g H with ⟨g7, H⟩ | ⟨g7, H⟩
         · refine Z1d rfl g7 ?_; obtain ⟨k2, H⟩ := Z0d H; obtain ⟨k3, H⟩ := Z0d H; obtain ⟨m9, H⟩ := Z0d H; obtain ⟨k4, H⟩ := Z0d H; refine Z03 (ll := [0, 1, 2, 3, 4, 5, 6, 7, 8, 9, 10, 11]) rfl ?_; refine Z05 rfl rfl rfl rfl ?_; refine Z07 rfl rfl rfl rfl Zem ?_; refine Z0e rfl rfl rfl rfl Zhd mm2 rfl ?_; refine Z05 rfl rfl rfl rfl ?_; refine Z4u d5 d4 d3 k2 rfl rfl rfl rfl rfl Z97 Zdv ?_; refine Z71 d5 d4 d3 k2 rfl rfl rfl rfl Z2v mm7 ?_; refine Z4u a5 a4 a3 k3 rfl rfl rfl rfl rfl Z0y Z13 ?_; refine Z71 a5 a4 a3 k3 rfl rfl rfl rfl Z4i mm0 ?_; refine Z05 rfl rfl rfl rfl ?_; refine Zc5 m9 rfl rfl rfl rfl rfl ?_; refine Z4u a5 a4 a3 k4 rfl rfl rfl rfl rfl Z0y Z13 ?_; refine Zc6 a5 a4 a3 k4 rfl rfl rfl rfl tk0 Z13 ?_; refine Z02 ?_; refine Z0h ?_; refine Z01 ?_; refine Z0k (Z00 (t := 1) rfl (Z00 (t := 3) rfl (Z00 (t := 8) rfl (Z00 (t := 14) rfl (Z00 (t := 26) rfl (Z00 (t := 27) rfl (Z00 (t := 66) rfl (Z00 (t := 67) rfl (Z00 (t := 68) rfl Z08))))))))) ?_; obtain ⟨n5, H⟩ := Z0d H; refine Z03 (ll := [0, 1]) rfl ?_; refine Z18 n5 rfl rfl rfl rfl rfl ?_; refine Z05 rfl rfl rfl rfl ?_; refine Z02 ?_; have H := Z16 H m8; exact Z4h o4 (a2.set (r4.Arc.getD (c4.getD a6.toNat 0).toNat 0).toNat ((a2.getD (r4.Arc.getD (c4.getD a6.toNat 0).toNat 0).toNat 0) - b7)) (a6 + 1) ⟨H, (List.length_set.trans a3)⟩ (Nat.lt_succ_self _) (Z00 rfl (Z00 rfl (Z00 rfl (Z00 rfl (Z00 rfl (Z00 rfl (Z00 rfl (Z00 rfl (Z00 rfl Z08))))))))) (Z04 tk0 (Z04 tk0 (Z04 tk0 (Z04 tk0 (Z04 tk0 (Z04 tk0 (Z04 tk0 (Z04 tk0 (Z04 tk0 (Z04 tk0 Z09))))))))))
         · refine Z1r rfl (Bool.eq_false_iff.2 g7) ?_; obtain ⟨k5, H⟩ := Z0d H; obtain ⟨k6, H⟩ := Z0d H; obtain ⟨n6, H⟩ := Z0d H; obtain ⟨k7, H⟩ := Z0d H; refine Z03 (ll := [0, 1, 2, 3, 4, 5, 6, 7, 8, 9, 10, 11]) rfl ?_; refine Z05 rfl rfl rfl rfl ?_; refine Z07 rfl rfl rfl rfl Zem ?_; refine Z0e rfl rfl rfl rfl Zhd mm2 rfl ?_; refine Z05 rfl rfl rfl rfl ?_; refine Z4u d5 d4 d3 k5 rfl rfl rfl rfl rfl Z97 Zdv ?_; refine Z71 d5 d4 d3 k5 rfl rfl rfl rfl Z2v mm7 ?_; refine Z4u a5 a4 a3 k6 rfl rfl rfl rfl rfl Z0y Z13 ?_; refine Z71 a5 a4 a3 k6 rfl rfl rfl rfl Z4i mm0 ?_; refine Z05 rfl rfl rfl rfl ?_; refine Z18 n6 rfl rfl rfl rfl rfl ?_; refine Z4u a5 a4 a3 k7 rfl rfl rfl rfl rfl Z0y Z13 ?_; refine Zc6 a5 a4 a3 k7 rfl rfl rfl rfl tk0 Z13 ?_; refine Z02 ?_; refine Z0h ?_; refine Z01 ?_; refine Z0k (Z00 (t := 1) rfl (Z00 (t := 3) rfl (Z00 (t := 8) rfl (Z00 (t := 14) rfl (Z00 (t := 26) rfl (Z00 (t := 27) rfl (Z00 (t := 66) rfl (Z00 (t := 67) rfl (Z00 (t := 68) rfl Z08))))))))) ?_; obtain ⟨n7, H⟩ := Z0d H; refine Z03 (ll := [0, 1]) rfl ?_; refine Z18 n7 rfl rfl rfl rfl rfl ?_; refine Z05 rfl rfl rfl rfl ?_; refine Z02 ?_; have H := Z16 H m8; exact Z4h o4 (a2.set (r4.Arc.getD (c4.getD a6.toNat 0).toNat 0).toNat ((a2.getD (r4.Arc.getD (c4.getD a6.toNat 0).toNat 0).toNat 0) + b7)) (a6 + 1) ⟨H, (List.length_set.trans a3)⟩ (Nat.lt_succ_self _) (Z00 rfl (Z00 rfl (Z00 rfl (Z00 rfl (Z00 rfl (Z00 rfl (Z00 rfl (Z00 rfl (Z00 rfl Z08))))))))) (Z04 tk0 (Z04 tk0 (Z04 tk0 (Z04 tk0 (Z04 tk0 (Z04 tk0 (Z04 tk0 (Z04 tk0 (Z04 tk0 (Z04 tk0 Z09))))))))))
        · refine Z15 rfl g6 ?_; refine T.exit ?_; refine Z0j ?_; have H := Z0v H m8 ▸ q7; refine Z0j ?_; refine Z0x ?_; refine Z0h ?_; exact Zfs a2 (0 + d0) j6 e0 j7 ⟨H, a3, a4, j8, a5⟩ (Z00 rfl (Z00 rfl (Z00 rfl (Z00 rfl (Z00 rfl Z08))))) (Z04 tk0 (Z04 tk0 (Z04 tk0 (Z04 tk0 (Z04 tk0 (Z04 tk0 (Z04 tk0 (Z04 tk0 (Z04 tk0 Z09)))))))))
    · rintro c7 c3 c138 a8 d6 ⟨H, k8, k9, l0, l1⟩; unfold Z3k at H; obtain ⟨n9, H⟩ := Z0d H; refine Z03 (ll := [0, 1]) rfl ?_; refine Z18 n9 rfl rfl rfl rfl rfl ?_; refine Z05 rfl rfl rfl rfl ?_; refine Z02 ?_; have H := Z16 H l5; exact Zft p3 c7 c3 c138 a8 d6 (d1 + 1) ⟨H, k8, k9, l0, l1⟩ (Nat.lt_succ_self _) (Z00 rfl (Z00 rfl (Z00 rfl (Z00 rfl (Z00 rfl Z08))))) (Z04 tk0 (Z04 tk0 (Z04 tk0 (Z04 tk0 (Z04 tk0 (Z04 tk0 (Z04 tk0 (Z04 tk0 (Z04 tk0 Z09)))))))))
   · refine Z15 rfl m2 ?_; refine T.exit ?_; refine Z0j ?_; have H := Z0v H l5 ▸ l9; refine Z0j ?_; refine Z0x ?_; exact Z24 () H Z08 Z09
  · rintro f8 H; unfold Z4l at H; refine Z0b ?_; refine Z03 (ll := [0, 1]) rfl ?_; refine Z06 rfl rfl rfl rfl ?_; refine Z06 rfl rfl rfl rfl ?_; refine Z02 ?_; refine Z01 ?_; refine T.ret ?_; obtain ⟨rfl, rfl⟩ := ret2 H; exact Z59 rfl rfl rfl rfl (Res.tmp rfl) (Res.tmp rfl) (Pick.none Z09) ⟨none, 0, 0, ([]), rfl, rfl, rfl, (Nat.le_refl _), (Z33 0 _), (fun _ => rfl)⟩
end Go.Proofs.Ytfdhelnfgfaeaaa.Ax
namespace Go.Proofs.Ytfdhelnfgfaeaaa.Ax
open Go Go.Acq Go.RowKit Go.Proofs
set_option linter.unusedVariables false
set_option linter.unusedSimpArgs false
set_option maxHeartbeats 8000000
set_option maxRecDepth 20000
theorem Z27 : Zdq Try.prog 24 4 = true := by kernel_rfl
theorem Zcs : Z7k Try.prog 2 = some 8 := by kernel_rfl
theorem Zc2 : Z0t Try.prog 15 = true := by kernel_rfl
theorem Zc1 : Z0t Try.prog 16 = true := by kernel_rfl
theorem Zc0 : Z0t Try.prog 17 = true := by kernel_rfl
theorem Zbz : Z0t Try.prog 20 = true := by kernel_rfl
theorem Zby : Z0t Try.prog 30 = true := by kernel_rfl
theorem Zbx : Z0t Try.prog 31 = true := by kernel_rfl
theorem Z8j : Z0t Try.prog 32 = true := by kernel_rfl
theorem Zbw : Z0t Try.prog 35 = true := by kernel_rfl
theorem Zb3 : Z1h Try.prog 24 3 = some 3 := by kernel_rfl
theorem Zbv : Z1s Try.prog 22 = some 35 := by kernel_rfl
theorem Zbu : Z1s Try.prog 26 = some 2 := by kernel_rfl
theorem Zcr : Z1u Try.prog 2 = some 1 := by kernel_rfl
theorem Zbt : Z1u Try.prog 24 = some 4 := by kernel_rfl
theorem Zbs : Z31 Try.prog 22 = true := by kernel_rfl
theorem Zcq : Z4k Try.prog 2 = some (.int .i64 0) := by kernel_rfl
theorem w_acequialaw24_CheckGreatest {n0 : Net} {n0f3_b : Option Addr} {n0f3_n : Nat} {n0f3_c : Nat} (w : World) (h_n0f3 : RS w [] Z4g 3 n0f3_b n0f3_n n0f3_c n0.Arcs) {r0 : Bool} (H : Z30 n0 = some r0) : Fnc Try.prog 10 #[.agg #[.int .i64 n0.N, .int .i64 n0.S, .int .i64 n0.T, .slice n0f3_b n0f3_n n0f3_c]] w [] (fun v N => v = .bool r0 ∧ N = []) := by
 unfold Z30 at H; refine Fnc.enter (vs := [.agg #[.int .i64 n0.N, .int .i64 n0.S, .int .i64 n0.T, .slice n0f3_b n0f3_n n0f3_c]]) Try.func10 rfl rfl (Inv.refl w) ?_; refine Z0b ?_; refine Z03 (ll := [0, 1]) rfl ?_; refine Z1p rfl rfl rfl rfl ?_; intro b1; refine Z06 rfl rfl rfl rfl ?_; refine Z02 ?_; refine Z01 ?_; refine Z0b ?_; obtain ⟨r3, e4, H⟩ := Z0l H; refine Z03 (ll := [0, 1, 2]) rfl ?_; refine Z0q rfl rfl rfl rfl Z27 mm0 rfl ?_; refine Z0n Zc2 rfl rfl rfl rfl (fun wc hwc => Zdx (n0 := n0) (verts1 := 12) (arcs2 := 24) wc (h_n0f3.mono hwc) e4) ?_; rintro _ _ ⟨b7, n6, c7, j8, rfl, rfl, d1, b5, i7, b6⟩; refine Z1b rfl rfl rfl rfl tk1 Zbt rfl rfl rfl ?_; refine Z02 ?_; refine Z01 ?_; refine Z0b ?_; obtain ⟨i8, H⟩ := Z0d H; obtain ⟨⟨b0, d7⟩, i9, H⟩ := Z0l H; apply Zdc [⟨[], false, [], Z5v _⟩, ⟨[], false, [], Z5v _⟩, ⟨[1], false, [], Z5v _⟩, ⟨[2], false, [], Z5v _⟩, ⟨[3], false, [], fun _ v e => ∃ (d4 : Nat), v = .slice (some ⟨d4, 0, none⟩) ((r3.Arcs.length : Int).toNat) ((r3.Arcs.length : Int).toNat) ∧ e = [(some d4, .cells (arr (intC .i64) (List.replicate ((r3.Arcs.length : Int).toNat) (0 : Int)) ([])).toArray 2 (0, 0))]⟩, ⟨[0, 4], false, [4], fun _ v e => ∃ (a2 : Option Nat) (a8 : Nat) (a9 : Nat) (a6 : List Value), v = .tuple #[.slice (sb a2) a8 a9, .bool d7] ∧ e = [(a2, .cells (arr (intC .i64) b0 a6).toArray 2 (0, 0))] ∧ b0.length = a8 ∧ a8 ≤ a9 ∧ a6.length = (a9 - a8) * 1 ∧ (a2 = none → a9 = 0)⟩, ⟨[5], false, [], fun vl v e => v = (vl.getD 0 undef) ∧ e = []⟩, ⟨[5, 6], false, [], fun vl v e => v = (tupAt (vl.getD 1 undef) 0) ∧ e = []⟩, ⟨[5, 6], false, [], Z5v _⟩, ⟨[5, 6, 7], false, [], fun vl v e => v = (vl.getD 2 undef) ∧ e = []⟩] [20, 21, 22, 23, 24, 25, 19, 26, 27, 3] 10 (HRk [[]]) [[]] [] [(some b1, .cells #[.int .i64 r3.N, .int .i64 r3.S, .int .i64 r3.T, .slice (sb b7) n6 c7] 24 (0, 0)), (b7, .cells (arr Z4g r3.Arcs j8).toArray 35 (0, 0))]
 · exact Z4y
 · exact rfl
 · kernel_rfl
 · kernel_rfl
 · kernel_rfl
 · exact rfl
 · exact rfl
 · exact rfl
 · exact rfl
 · exact (by repeat (first | exact Z0a _ | exact Z09 | apply Pick.none | refine Z04 (by repeat (first | exact Take.head _ _ | apply Take.tail)) ?_))
 ·
  refine ⟨?_, ?_, ?_, ?_, ?_, ?_, ?_, ?_, ?_, ?_, trivial⟩
  · rintro vs es Es Hx -; refine Z0m (D := []) rfl ?_; refine Z0q rfl rfl rfl rfl Z27 mm0 rfl ?_; refine Z02 ?_; exact Z1t rfl ⟨rfl, rfl⟩ (Z0a _) rfl
  · rintro vs es Es Hx -; refine Z0m (D := []) rfl ?_; refine Z07 rfl rfl rfl rfl Zb3 ?_; refine Z02 ?_; exact Z1t rfl ⟨rfl, rfl⟩ (Z0a _) rfl
  · rintro vs es Es Hx ⟨⟨d8, f3⟩, -⟩; refine Z0m (D := [(21, vs 1)]) rfl ?_; rw [d8]; refine Z0e rfl rfl rfl rfl Zbs mm0 rfl ?_; refine Z02 ?_; exact Z1t rfl ⟨rfl, rfl⟩ (Z0a _) (by show [(21, vs 1)] = _; rw [d8])
  · rintro vs es Es Hx ⟨⟨d9, f4⟩, -⟩; refine Z0m (D := [(22, vs 2)]) rfl ?_; rw [d9]; refine Z26 (xs := r3.Arcs) d1 rfl rfl rfl rfl rfl Zbv ?_; refine Z02 ?_; exact Z1t rfl ⟨rfl, rfl⟩ (Z0a _) (by show [(22, vs 2)] = _; rw [d9])
  · rintro vs es Es Hx ⟨⟨e0, f5⟩, -⟩; refine Z0m (D := [(23, vs 3)]) rfl ?_; rw [e0]; refine Zcx i8 rfl rfl rfl rfl rfl Zbu Zcr Zcq Zcs rfl ?_; intro d4; refine Z02 ?_; exact Z1t rfl ⟨d4, rfl, rfl⟩ (by repeat (first | exact Z0a _ | exact Z09 | apply Pick.none | refine Z04 (by repeat (first | exact Take.head _ _ | apply Take.tail)) ?_)) (by show [(23, vs 3)] = _; rw [e0])
  · rintro vs es Es Hx ⟨⟨e1, e2⟩, ⟨d4, e3, f6⟩, -⟩; refine Z0m (D := [(20, vs 0), (24, vs 4)]) rfl ?_; rw [e1, e3]; refine Z2z (H := [(some b1, .cells #[.int .i64 r3.N, .int .i64 r3.S, .int .i64 r3.T, .slice (sb b7) n6 c7] 24 (0, 0)), (b7, .cells (arr Z4g r3.Arcs j8).toArray 35 (0, 0))] ++ ([(some d4, .cells (arr (intC .i64) (List.replicate ((r3.Arcs.length : Int).toNat) (0 : Int)) ([])).toArray 2 (0, 0))] ++ Hx)) (by show _ ++ ((es 0 ++ (es 4 ++ ([]))) ++ _) = _; rw [e2, f6]; rfl) ?_; refine Zg8 Zc1 rfl rfl rfl rfl (Z0p tk2 (Gone.refl _)) rfl (fun wc hwc => Zar (n0 := r3) (f1 := (List.replicate ((r3.Arcs.length : Int).toNat) (0 : Int))) (most2 := 600) wc (hwc.self (Z04 tk2 Z09) rfl) (hwc.rsM (f := Z4g) (s := 3) (xs := r3.Arcs) (j := j8) (fun _ => rfl) (Z0p tk2 (Gone.refl _)) rfl mm1 d1 b5 b6) List.length_replicate (Nat.le_refl _) (Z33 _ _) Z1e i9) ?_; rintro _ _ ⟨a2, a8, a9, a6, rfl, rfl, a3, a4, c3, a5⟩; refine Z02 ?_; exact Z1t rfl ⟨a2, a8, a9, a6, rfl, rfl, a3, a4, c3, a5⟩ (by show Pick (_ ++ (_ ++ ((es 0 ++ ([])) ++ _))) _; rw [e2]; exact (by repeat (first | exact Z0a _ | exact Z09 | apply Pick.none | refine Z04 (by repeat (first | exact Take.head _ _ | apply Take.tail)) ?_))) (by show [(20, vs 0), (24, vs 4)] = _; rw [e1, e3])
  · rintro vs es Es Hx ⟨⟨a2, a8, a9, a6, a7, b8, a3, a4, c3, a5⟩, -⟩; refine Z0m (D := [(25, vs 5)]) rfl ?_; rw [a7]; refine Z2z (H := [(some b1, .cells #[.int .i64 r3.N, .int .i64 r3.S, .int .i64 r3.T, .slice (sb b7) n6 c7] 24 (0, 0)), (b7, .cells (arr Z4g r3.Arcs j8).toArray 35 (0, 0))] ++ ([(a2, .cells (arr (intC .i64) b0 a6).toArray 2 (0, 0))] ++ Hx)) (by show _ ++ ((es 5 ++ ([])) ++ _) = _; rw [b8]; rfl) ?_; refine Z05 rfl rfl rfl rfl ?_; refine Z02 ?_; exact Z1t rfl ⟨by show _ = vs 5; rw [a7] <;> rfl, rfl⟩ (by show Pick (_ ++ (_ ++ ((es 5 ++ ([])) ++ _))) _; rw [b8]; exact (by repeat (first | exact Z0a _ | exact Z09 | apply Pick.none | refine Z04 (by repeat (first | exact Take.head _ _ | apply Take.tail)) ?_))) (by show [(25, vs 5)] = _; rw [a7])
  ·
   rintro vs es Es Hx ⟨⟨a2, a8, a9, a6, a7, b8, a3, a4, c3, a5⟩, ⟨d3, c8⟩, -⟩; have b9 : vs 6 = .tuple #[.slice (sb a2) a8 a9, .bool d7] := by refine Eq.trans d3 ?_; show vs 5 = _; rw [a7] <;> rfl
   refine Z0m (D := [(25, vs 5), (19, vs 6)]) rfl ?_; rw [a7, b9]; refine Z2z (H := [(some b1, .cells #[.int .i64 r3.N, .int .i64 r3.S, .int .i64 r3.T, .slice (sb b7) n6 c7] 24 (0, 0)), (b7, .cells (arr Z4g r3.Arcs j8).toArray 35 (0, 0))] ++ ([(a2, .cells (arr (intC .i64) b0 a6).toArray 2 (0, 0))] ++ Hx)) (by show _ ++ ((es 5 ++ (es 6 ++ ([]))) ++ _) = _; rw [b8, c8]; rfl) ?_; refine TO.extract rfl rfl rfl rfl rfl ?_; refine Z02 ?_; exact Z1t rfl ⟨by show _ = (tupAt (vs 6) 0); rw [b9] <;> rfl, rfl⟩ (by show Pick (_ ++ (_ ++ ((es 5 ++ (es 6 ++ ([]))) ++ _))) _; rw [b8, c8]; exact (by repeat (first | exact Z0a _ | exact Z09 | apply Pick.none | refine Z04 (by repeat (first | exact Take.head _ _ | apply Take.tail)) ?_))) (by show [(25, vs 5), (19, vs 6)] = _; rw [a7, b9])
  ·
   rintro vs es Es Hx ⟨⟨a2, a8, a9, a6, a7, b8, a3, a4, c3, a5⟩, ⟨d3, c8⟩, -⟩; have b9 : vs 6 = .tuple #[.slice (sb a2) a8 a9, .bool d7] := by refine Eq.trans d3 ?_; show vs 5 = _; rw [a7] <;> rfl
   refine Z0m (D := [(25, vs 5), (19, vs 6)]) rfl ?_; rw [a7, b9]; refine Z2z (H := [(some b1, .cells #[.int .i64 r3.N, .int .i64 r3.S, .int .i64 r3.T, .slice (sb b7) n6 c7] 24 (0, 0)), (b7, .cells (arr Z4g r3.Arcs j8).toArray 35 (0, 0))] ++ ([(a2, .cells (arr (intC .i64) b0 a6).toArray 2 (0, 0))] ++ Hx)) (by show _ ++ ((es 5 ++ (es 6 ++ ([]))) ++ _) = _; rw [b8, c8]; rfl) ?_; refine TO.extract rfl rfl rfl rfl rfl ?_; refine Z02 ?_; exact Z1t rfl ⟨rfl, rfl⟩ (by show Pick (_ ++ (_ ++ ((es 5 ++ (es 6 ++ ([]))) ++ _))) _; rw [b8, c8]; exact (by repeat (first | exact Z0a _ | exact Z09 | apply Pick.none | refine Z04 (by repeat (first | exact Take.head _ _ | apply Take.tail)) ?_))) (by show [(25, vs 5), (19, vs 6)] = _; rw [a7, b9])
  ·
   rintro vs es Es Hx ⟨⟨a2, a8, a9, a6, a7, b8, a3, a4, c3, a5⟩, ⟨d3, c8⟩, ⟨f0, e5⟩, -⟩; have b9 : vs 6 = .tuple #[.slice (sb a2) a8 a9, .bool d7] := by refine Eq.trans d3 ?_; show vs 5 = _; rw [a7] <;> rfl
   have d5 : vs 7 = .slice (sb a2) a8 a9 := by refine Eq.trans f0 ?_; show (tupAt (vs 6) 0) = _; rw [b9] <;> rfl
   refine Z0m (D := [(25, vs 5), (19, vs 6), (26, vs 7)]) rfl ?_; rw [a7, b9, d5]; refine Z2z (H := [(some b1, .cells #[.int .i64 r3.N, .int .i64 r3.S, .int .i64 r3.T, .slice (sb b7) n6 c7] 24 (0, 0)), (b7, .cells (arr Z4g r3.Arcs j8).toArray 35 (0, 0))] ++ ([(a2, .cells (arr (intC .i64) b0 a6).toArray 2 (0, 0))] ++ Hx)) (by show _ ++ ((es 5 ++ (es 6 ++ (es 7 ++ ([])))) ++ _) = _; rw [b8, c8, e5]; rfl) ?_; refine Z06 rfl rfl rfl rfl ?_; refine Z02 ?_; exact Z1t rfl ⟨by show _ = vs 7; rw [d5] <;> rfl, rfl⟩ (by show Pick (_ ++ (_ ++ ((es 5 ++ (es 6 ++ (es 7 ++ ([])))) ++ _))) _; rw [b8, c8, e5]; exact (by repeat (first | exact Z0a _ | exact Z09 | apply Pick.none | refine Z04 (by repeat (first | exact Take.head _ _ | apply Take.tail)) ?_))) (by show [(25, vs 5), (19, vs 6), (26, vs 7)] = _; rw [a7, b9, d5])
 ·
  rintro vs es hb ⟨⟨e1, e2⟩, ⟨d8, f3⟩, ⟨d9, f4⟩, ⟨e0, f5⟩, ⟨d4, e3, f6⟩, ⟨a2, a8, a9, a6, a7, b8, a3, a4, c3, a5⟩, ⟨d3, c8⟩, ⟨f0, e5⟩, ⟨h1, h2⟩, ⟨h3, h4⟩, -⟩ hHR; obtain rfl : hb = [] := hHR; have b9 : vs 6 = .tuple #[.slice (sb a2) a8 a9, .bool d7] := by refine Eq.trans d3 ?_; show vs 5 = _; rw [a7] <;> rfl
  have d5 : vs 7 = .slice (sb a2) a8 a9 := by refine Eq.trans f0 ?_; show (tupAt (vs 6) 0) = _; rw [b9] <;> rfl
  have h5 : vs 9 = .slice (sb a2) a8 a9 := by refine Eq.trans h3 ?_; show vs 7 = _; rw [d5] <;> rfl
  refine Z0m (D := [(20, vs 0), (21, vs 1), (22, vs 2), (23, vs 3), (24, vs 4), (25, vs 5), (19, vs 6), (26, vs 7), (27, vs 8), (3, vs 9)]) rfl ?_; refine Z2z (H := [(some b1, .cells #[.int .i64 r3.N, .int .i64 r3.S, .int .i64 r3.T, .slice (sb b7) n6 c7] 24 (0, 0)), (b7, .cells (arr Z4g r3.Arcs j8).toArray 35 (0, 0)), (a2, .cells (arr (intC .i64) b0 a6).toArray 2 (0, 0))]) (by show _ ++ (_ ++ (es 0 ++ (es 1 ++ (es 2 ++ (es 3 ++ (es 5 ++ (es 6 ++ (es 7 ++ (es 8 ++ (es 9 ++ ([]))))))))))) = _; rw [e2, f3, f4, f5, b8, c8, e5, h2, h4]; rfl) ?_; rw [e1, d8, d9, e0, e3, a7, b9, d5, h1, h5]; clear h5 h1 d5 b9 a7 e3 e0 d9 d8 e1 d3 f0 h3 e2 f3 f4 f5 f6 b8 c8 e5 h2 h4; refine Z06 rfl rfl rfl rfl ?_; refine Z02 ?_; refine Z01 ?_; refine Z0k (Z00 (t := 1) rfl (Z00 (t := 3) rfl (Z00 (t := 4) rfl Z08))) ?_; refine Z0b ?_; refine Z0b ?_; refine Z03 (ll := [0, 1]) rfl ?_; refine Z05 rfl rfl rfl rfl ?_; refine TO.not rfl rfl rfl rfl ?_; refine Z02 ?_; refine Z01 ?_; rcases Z0g H with ⟨f7, H⟩ | ⟨f7, H⟩
  · refine Z1d rfl f7 ?_; refine Z0b ?_; refine Z03 (ll := [0]) rfl ?_; refine Z06 rfl rfl rfl rfl ?_; refine Z02 ?_; refine Z01 ?_; refine T.ret ?_; refine Z0f ?_; obtain rfl := ret1 H; exact Z10 rfl rfl rfl rfl (Res.tmp rfl) Z09 ⟨rfl, rfl⟩
  ·
   refine Z1r rfl (Bool.eq_false_iff.2 f7) ?_; refine T.skip ?_; refine Z01 ?_; refine Z0b ?_; obtain ⟨⟨f2, k6⟩, j0, H⟩ := Z0l H; refine Z03 (ll := [0, 1, 2, 3, 4, 5, 6, 7]) rfl ?_; refine Z0q rfl rfl rfl rfl Z27 mm0 rfl ?_; refine Z05 rfl rfl rfl rfl ?_; refine Z0n Zc0 rfl rfl rfl rfl (fun wc hwc => Zlx (n0 := r3) (f1 := b0) wc (hwc.rs (f := Z4g) (s := 3) (xs := r3.Arcs) (j := j8) (fun _ => rfl) mm1 d1 b5 b6) (hwc.rs (f := (intC .i64)) (s := 1) (xs := b0) (j := a6) (fun _ => rfl) mm2 a3 a4 a5) j0) ?_; rintro _ _ ⟨j1, k7, c35, h6, rfl, rfl, e6, e7, j2, e8⟩; refine Z05 rfl rfl rfl rfl ?_; refine TO.extract rfl rfl rfl rfl rfl ?_; refine TO.extract rfl rfl rfl rfl rfl ?_; refine Z06 rfl rfl rfl rfl ?_; refine Z06 rfl rfl rfl rfl ?_; refine Z02 ?_; refine Z01 ?_; refine Z0k (Z00 (t := 1) rfl (Z00 (t := 3) rfl (Z00 (t := 5) rfl (Z00 (t := 6) rfl Z08)))) ?_; refine Z0b ?_; obtain ⟨⟨h7, k8⟩, j3, H⟩ := Z0l H; refine Z03 (ll := [0, 1, 2, 3, 4, 5, 6, 7]) rfl ?_; refine Z0q rfl rfl rfl rfl Z27 mm1 rfl ?_; refine Z05 rfl rfl rfl rfl ?_; refine Z0n Zbw rfl rfl rfl rfl (fun wc hwc => w_cut_To (n0 := r3) (f1 := b0) wc (hwc.rs (f := Z4g) (s := 3) (xs := r3.Arcs) (j := j8) (fun _ => rfl) mm2 d1 b5 b6) (hwc.rs (f := (intC .i64)) (s := 1) (xs := b0) (j := a6) (fun _ => rfl) mm3 a3 a4 a5) j3) ?_; rintro _ _ ⟨j4, k9, l0, j5, rfl, rfl, f8, f9, j6, g0⟩; refine Z05 rfl rfl rfl rfl ?_; refine TO.extract rfl rfl rfl rfl rfl ?_; refine TO.extract rfl rfl rfl rfl rfl ?_; refine Z06 rfl rfl rfl rfl ?_; refine Z06 rfl rfl rfl rfl ?_; refine Z02 ?_; refine Z01 ?_; refine Z0b ?_; refine Z0b ?_; rcases Z0g H with ⟨g1, H⟩ | ⟨g1, H⟩
   · refine Z03 (ll := [0, 1, 2, 3, 4, 5]) rfl ?_; refine Z05 rfl rfl rfl rfl ?_; refine Z0r rfl rfl rfl rfl rfl rfl ?_; refine Z05 rfl rfl rfl rfl ?_; refine Z0u (t := 44) (b' := true) rfl (decide_eq_true g1) ?_; refine Z0c rfl rfl rfl rfl ?_; refine Z0c rfl rfl rfl rfl ?_; refine Z0w rfl rfl rfl rfl rfl ?_; refine Z02 ?_; refine Z01 ?_; refine Z0k (Z00 (t := 1) rfl (Z00 (t := 3) rfl (Z00 (t := 5) rfl (Z00 (t := 7) rfl (Z00 (t := 47) rfl Z08))))) ?_; refine Z1d rfl rfl ?_; refine Z0b ?_; refine Z03 (ll := [0]) rfl ?_; refine Z06 rfl rfl rfl rfl ?_; refine Z02 ?_; refine Z01 ?_; refine T.ret ?_; refine Z0f ?_; obtain rfl := ret1 H; exact Z10 rfl rfl rfl rfl (Res.tmp rfl) Z09 ⟨rfl, rfl⟩
   ·
    refine Z03 (ll := [0, 1, 2, 3, 4, 5]) rfl ?_; refine Z05 rfl rfl rfl rfl ?_; refine Z0r rfl rfl rfl rfl rfl rfl ?_; refine Z05 rfl rfl rfl rfl ?_; refine Z0u (t := 44) (b' := false) rfl (decide_eq_false g1) ?_; refine Z05 rfl rfl rfl rfl ?_; refine Z0r rfl rfl rfl rfl rfl rfl ?_; refine Z0z rfl rfl rfl rfl rfl ?_; refine Z02 ?_; refine Z01 ?_; refine Z0k (Z00 (t := 1) rfl (Z00 (t := 3) rfl (Z00 (t := 5) rfl (Z00 (t := 7) rfl (Z00 (t := 47) rfl Z08))))) ?_; rcases Z0g H with ⟨g2, H⟩ | ⟨g2, H⟩
    · refine Z14 rfl g2 ?_; refine Z0b ?_; refine Z03 (ll := [0]) rfl ?_; refine Z06 rfl rfl rfl rfl ?_; refine Z02 ?_; refine Z01 ?_; refine T.ret ?_; refine Z0f ?_; obtain rfl := ret1 H; exact Z10 rfl rfl rfl rfl (Res.tmp rfl) Z09 ⟨rfl, rfl⟩
    ·
     refine Z15 rfl g2 ?_; refine T.skip ?_; refine Z01 ?_; refine Z0b ?_; obtain ⟨⟨c4, l1⟩, j7, H⟩ := Z0l H; refine Z03 (ll := [0, 1, 2, 3, 4, 5, 6, 7, 8]) rfl ?_; refine Z0q rfl rfl rfl rfl Z27 mm2 rfl ?_; refine Z05 rfl rfl rfl rfl ?_; refine Z05 rfl rfl rfl rfl ?_; refine Z0n Z8j rfl rfl rfl rfl (fun wc hwc => Zaq (n0 := r3) (f1 := b0) (s2 := f2) wc (hwc.rs (f := Z4g) (s := 3) (xs := r3.Arcs) (j := j8) (fun _ => rfl) mm3 d1 b5 b6) (hwc.rs (f := (intC .i64)) (s := 1) (xs := b0) (j := a6) (fun _ => rfl) mm4 a3 a4 a5) (hwc.rs (f := boolC) (s := 1) (xs := f2) (j := h6) (fun _ => rfl) mm1 e6 e7 e8) j7) ?_; rintro _ _ ⟨rfl, rfl⟩; refine Z05 rfl rfl rfl rfl ?_; refine TO.extract rfl rfl rfl rfl rfl ?_; refine TO.extract rfl rfl rfl rfl rfl ?_; refine Z06 rfl rfl rfl rfl ?_; refine Z06 rfl rfl rfl rfl ?_; refine Z02 ?_; refine Z01 ?_; refine Z0k (Z00 (t := 1) rfl (Z00 (t := 3) rfl (Z00 (t := 5) rfl (Z00 (t := 7) rfl (Z00 (t := 9) rfl (Z00 (t := 10) rfl Z08)))))) ?_; refine Z0b ?_; obtain ⟨⟨g3, j9⟩, k1, H⟩ := Z0l H; refine Z03 (ll := [0, 1, 2, 3, 4, 5, 6, 7, 8]) rfl ?_; refine Z0q rfl rfl rfl rfl Z27 mm2 rfl ?_; refine Z05 rfl rfl rfl rfl ?_; refine Z05 rfl rfl rfl rfl ?_; refine Z0n Z8j rfl rfl rfl rfl (fun wc hwc => Zaq (n0 := r3) (f1 := b0) (s2 := h7) wc (hwc.rs (f := Z4g) (s := 3) (xs := r3.Arcs) (j := j8) (fun _ => rfl) mm3 d1 b5 b6) (hwc.rs (f := (intC .i64)) (s := 1) (xs := b0) (j := a6) (fun _ => rfl) mm4 a3 a4 a5) (hwc.rs (f := boolC) (s := 1) (xs := h7) (j := j5) (fun _ => rfl) mm0 f8 f9 g0) k1) ?_; rintro _ _ ⟨rfl, rfl⟩; refine Z05 rfl rfl rfl rfl ?_; refine TO.extract rfl rfl rfl rfl rfl ?_; refine TO.extract rfl rfl rfl rfl rfl ?_; refine Z06 rfl rfl rfl rfl ?_; refine Z06 rfl rfl rfl rfl ?_; refine Z02 ?_; refine Z01 ?_; refine Z0k (Z00 (t := 1) rfl (Z00 (t := 3) rfl (Z00 (t := 5) rfl (Z00 (t := 9) rfl (Z00 (t := 10) rfl (Z00 (t := 11) rfl (Z00 (t := 12) rfl Z08))))))) ?_; refine Z0b ?_; obtain ⟨⟨d6, e9⟩, k2, H⟩ := Z0l H; refine Z03 (ll := [0, 1, 2, 3, 4, 5, 6, 7]) rfl ?_; refine Z0q rfl rfl rfl rfl Z27 mm2 rfl ?_; refine Z05 rfl rfl rfl rfl ?_; refine Z0n Zby rfl rfl rfl rfl (fun wc hwc => Zim (n0 := r3) (f1 := b0) wc (hwc.rs (f := Z4g) (s := 3) (xs := r3.Arcs) (j := j8) (fun _ => rfl) mm3 d1 b5 b6) (hwc.rs (f := (intC .i64)) (s := 1) (xs := b0) (j := a6) (fun _ => rfl) mm4 a3 a4 a5) k2) ?_; rintro _ _ ⟨rfl, rfl⟩; refine Z05 rfl rfl rfl rfl ?_; refine TO.extract rfl rfl rfl rfl rfl ?_; refine TO.extract rfl rfl rfl rfl rfl ?_; refine Z06 rfl rfl rfl rfl ?_; refine Z06 rfl rfl rfl rfl ?_; refine Z02 ?_; refine Z01 ?_; refine Z0b ?_; obtain ⟨⟨c9, d0⟩, k3, H⟩ := Z0l H; refine Z03 (ll := [0, 1, 2, 3, 4, 5, 6, 7]) rfl ?_; refine Z0q rfl rfl rfl rfl Z27 mm2 rfl ?_; refine Z05 rfl rfl rfl rfl ?_; refine Z0n Zbx rfl rfl rfl rfl (fun wc hwc => Zoc (n0 := r3) (s1 := f2) wc (hwc.rs (f := Z4g) (s := 3) (xs := r3.Arcs) (j := j8) (fun _ => rfl) mm3 d1 b5 b6) (hwc.rs (f := boolC) (s := 1) (xs := f2) (j := h6) (fun _ => rfl) mm1 e6 e7 e8) k3) ?_; rintro _ _ ⟨rfl, rfl⟩; refine Z05 rfl rfl rfl rfl ?_; refine TO.extract rfl rfl rfl rfl rfl ?_; refine TO.extract rfl rfl rfl rfl rfl ?_; refine Z06 rfl rfl rfl rfl ?_; refine Z06 rfl rfl rfl rfl ?_; refine Z02 ?_; refine Z01 ?_; refine Z0k (Z00 (t := 9) rfl (Z00 (t := 10) rfl (Z00 (t := 11) rfl (Z00 (t := 12) rfl (Z00 (t := 13) rfl (Z00 (t := 14) rfl (Z00 (t := 15) rfl (Z00 (t := 16) rfl Z08)))))))) ?_; refine Z0b ?_; refine Z03 (ll := [0, 1, 2, 3, 4, 5, 6, 7, 8, 9, 10, 11, 12, 13, 14, 15, 16, 17, 18, 19, 20, 21, 22, 23, 24, 25, 26, 27, 28, 29, 30]) rfl ?_; refine Z05 rfl rfl rfl rfl ?_; refine Z05 rfl rfl rfl rfl ?_; refine TO.join [2, 3] [4, 5, 6, 7, 8, 9, 10, 11, 12, 13, 14, 15, 16, 17, 18, 19, 20, 21, 22, 23, 24, 25, 26, 27, 28, 29, 30] rfl 77 (fun h8 => Z23 c4 g3 d6 e9 c9 d0 h8 = some r0) [(9, .int .i64 c4), (11, .int .i64 g3), (13, .int .i64 d6), (14, .int .i64 e9), (15, .int .i64 c9), (16, .int .i64 d0)] ?_ ?_
     ·
      rcases Z0g H with ⟨g4, H⟩ | ⟨g4, H⟩
      · refine Z0u (t := 75) (b' := true) rfl g4 ?_; refine Z05 rfl rfl rfl rfl ?_; refine Z0w rfl rfl rfl rfl rfl ?_; refine Z02 ?_; exact Zke (b := j9) H (Z00 rfl (Z00 rfl (Z00 rfl (Z00 rfl (Z00 rfl (Z00 rfl (Z00 rfl Z08)))))))
      · refine Z0u (t := 75) (b' := false) rfl (Bool.eq_false_iff.2 g4) ?_; refine Z0c rfl rfl rfl rfl ?_; refine Z0z rfl rfl rfl rfl rfl ?_; refine Z02 ?_; exact Zke (b := false) H (Z00 rfl (Z00 rfl (Z00 rfl (Z00 rfl (Z00 rfl (Z00 rfl (Z00 rfl Z08)))))))
     ·
      rintro h8 H; unfold Z23 at H; refine Z05 rfl rfl rfl rfl ?_; refine TO.join [5, 6, 7, 8] [9, 10, 11, 12, 13, 14, 15, 16, 17, 18, 19, 20, 21, 22, 23, 24, 25, 26, 27, 28, 29, 30] rfl 82 (fun h9 => Z22 c4 d6 e9 c9 d0 h9 = some r0) [(9, .int .i64 c4), (13, .int .i64 d6), (14, .int .i64 e9), (15, .int .i64 c9), (16, .int .i64 d0)] ?_ ?_
      ·
       rcases Z0g H with ⟨g5, H⟩ | ⟨g5, H⟩
       · refine Z0u (t := 78) (b' := true) rfl g5 ?_; refine Z05 rfl rfl rfl rfl ?_; refine Z05 rfl rfl rfl rfl ?_; refine Z0r rfl rfl rfl rfl rfl rfl ?_; refine Z0w rfl rfl rfl rfl rfl ?_; refine Z02 ?_; exact Zke (b := (decide (c4 = g3))) H (Z00 rfl (Z00 rfl (Z00 rfl (Z00 rfl (Z00 rfl (Z00 rfl Z08))))))
       · refine Z0u (t := 78) (b' := false) rfl (Bool.eq_false_iff.2 g5) ?_; refine Z0c rfl rfl rfl rfl ?_; refine Z0c rfl rfl rfl rfl ?_; refine Z0c rfl rfl rfl rfl ?_; refine Z0z rfl rfl rfl rfl rfl ?_; refine Z02 ?_; exact Zke (b := false) H (Z00 rfl (Z00 rfl (Z00 rfl (Z00 rfl (Z00 rfl (Z00 rfl Z08))))))
      ·
       rintro h9 H; unfold Z22 at H; refine Z05 rfl rfl rfl rfl ?_; refine TO.join [10, 11, 12] [13, 14, 15, 16, 17, 18, 19, 20, 21, 22, 23, 24, 25, 26, 27, 28, 29, 30] rfl 86 (fun i1 => Z21 c4 d6 c9 d0 i1 = some r0) [(9, .int .i64 c4), (13, .int .i64 d6), (15, .int .i64 c9), (16, .int .i64 d0)] ?_ ?_
       ·
        rcases Z0g H with ⟨g6, H⟩ | ⟨g6, H⟩
        · refine Z0u (t := 83) (b' := true) rfl g6 ?_; refine Z05 rfl rfl rfl rfl ?_; refine Z0r rfl rfl rfl rfl rfl rfl ?_; refine Z0w rfl rfl rfl rfl rfl ?_; refine Z02 ?_; exact Zke (b := (decide (e9 = 0))) H (Z00 rfl (Z00 rfl (Z00 rfl (Z00 rfl (Z00 rfl Z08)))))
        · refine Z0u (t := 83) (b' := false) rfl (Bool.eq_false_iff.2 g6) ?_; refine Z0c rfl rfl rfl rfl ?_; refine Z0c rfl rfl rfl rfl ?_; refine Z0z rfl rfl rfl rfl rfl ?_; refine Z02 ?_; exact Zke (b := false) H (Z00 rfl (Z00 rfl (Z00 rfl (Z00 rfl (Z00 rfl Z08)))))
       ·
        rintro i1 H; unfold Z21 at H; refine Z05 rfl rfl rfl rfl ?_; refine TO.join [14, 15, 16, 17] [18, 19, 20, 21, 22, 23, 24, 25, 26, 27, 28, 29, 30] rfl 91 (fun i2 => Z20 c4 c9 d0 i2 = some r0) [(9, .int .i64 c4), (15, .int .i64 c9), (16, .int .i64 d0)] ?_ ?_
        ·
         rcases Z0g H with ⟨g7, H⟩ | ⟨g7, H⟩
         · refine Z0u (t := 87) (b' := true) rfl g7 ?_; refine Z05 rfl rfl rfl rfl ?_; refine Z05 rfl rfl rfl rfl ?_; refine Z0r rfl rfl rfl rfl rfl rfl ?_; refine Z0w rfl rfl rfl rfl rfl ?_; refine Z02 ?_; exact Zke (b := (decide (d6 = c4))) H (Z00 rfl (Z00 rfl (Z00 rfl (Z00 rfl Z08))))
         · refine Z0u (t := 87) (b' := false) rfl (Bool.eq_false_iff.2 g7) ?_; refine Z0c rfl rfl rfl rfl ?_; refine Z0c rfl rfl rfl rfl ?_; refine Z0c rfl rfl rfl rfl ?_; refine Z0z rfl rfl rfl rfl rfl ?_; refine Z02 ?_; exact Zke (b := false) H (Z00 rfl (Z00 rfl (Z00 rfl (Z00 rfl Z08))))
        ·
         rintro i2 H; unfold Z20 at H; refine Z05 rfl rfl rfl rfl ?_; refine TO.join [19, 20, 21] [22, 23, 24, 25, 26, 27, 28, 29, 30] rfl 95 (fun i4 => Z1z c4 c9 i4 = some r0) [(9, .int .i64 c4), (15, .int .i64 c9)] ?_ ?_
         ·
          rcases Z0g H with ⟨g8, H⟩ | ⟨g8, H⟩
          · refine Z0u (t := 92) (b' := true) rfl g8 ?_; refine Z05 rfl rfl rfl rfl ?_; refine Z0r rfl rfl rfl rfl rfl rfl ?_; refine Z0w rfl rfl rfl rfl rfl ?_; refine Z02 ?_; exact Zke (b := (decide (d0 = 0))) H (Z00 rfl (Z00 rfl (Z00 rfl Z08)))
          · refine Z0u (t := 92) (b' := false) rfl (Bool.eq_false_iff.2 g8) ?_; refine Z0c rfl rfl rfl rfl ?_; refine Z0c rfl rfl rfl rfl ?_; refine Z0z rfl rfl rfl rfl rfl ?_; refine Z02 ?_; exact Zke (b := false) H (Z00 rfl (Z00 rfl (Z00 rfl Z08)))
         ·
          rintro i4 H; unfold Z1z at H; refine Z05 rfl rfl rfl rfl ?_; refine TO.join [23, 24, 25, 26] [27, 28, 29, 30] rfl 100 (fun i5 => Z1y i5 = some r0) [] ?_ ?_
          ·
           rcases Z0g H with ⟨g9, H⟩ | ⟨g9, H⟩
           · refine Z0u (t := 96) (b' := true) rfl g9 ?_; refine Z05 rfl rfl rfl rfl ?_; refine Z05 rfl rfl rfl rfl ?_; refine Z0r rfl rfl rfl rfl rfl rfl ?_; refine Z0w rfl rfl rfl rfl rfl ?_; refine Z02 ?_; exact Zke (b := (decide (c9 = c4))) H (Z00 rfl Z08)
           · refine Z0u (t := 96) (b' := false) rfl (Bool.eq_false_iff.2 g9) ?_; refine Z0c rfl rfl rfl rfl ?_; refine Z0c rfl rfl rfl rfl ?_; refine Z0c rfl rfl rfl rfl ?_; refine Z0z rfl rfl rfl rfl rfl ?_; refine Z02 ?_; exact Zke (b := false) H (Z00 rfl Z08)
          ·
           rintro i5 H; unfold Z1y at H; refine Z05 rfl rfl rfl rfl ?_; refine TO.join [28, 29] [30] rfl 103 (fun i6 => Z1x i6 = some r0) [] ?_ ?_
           ·
            rcases Z0g H with ⟨h0, H⟩ | ⟨h0, H⟩
            · obtain ⟨k4, k5, H⟩ := Z0l H; refine Z0u (t := 101) (b' := true) rfl h0 ?_; refine Z0n Zbz rfl rfl rfl rfl (fun wc hwc => Zcp  wc  k5) ?_; rintro _ _ ⟨rfl, rfl⟩; refine Z0w rfl rfl rfl rfl rfl ?_; refine Z02 ?_; exact Zke (b := k4) H (Z00 rfl Z08)
            · refine Z0u (t := 101) (b' := false) rfl (Bool.eq_false_iff.2 h0) ?_; refine Z0c rfl rfl rfl rfl ?_; refine Z0z rfl rfl rfl rfl rfl ?_; refine Z02 ?_; exact Zke (b := false) H (Z00 rfl Z08)
           · rintro i6 H; unfold Z1x at H; refine Z06 rfl rfl rfl rfl ?_; refine Z02 ?_; refine Z01 ?_; refine T.ret ?_; obtain rfl := ret1 H; exact Z10 rfl rfl rfl rfl (Res.tmp rfl) Z09 ⟨rfl, rfl⟩
end Go.Proofs.Ytfdhelnfgfaeaaa.Ax
namespace Go.Acq
open Go
def hit (a : Arc) (v : Nat) : Nat := if a.fr = a.to then 0 else if a.fr = v ∨ a.to = v then 1 else 0
def cnt (al : List Arc) (v : Nat) : Nat → Nat
  | 0 => 0
  | k + 1 => cnt al v k + hit (al.getD k default) v
def Z12 (al : List Arc) : Nat → Nat
  | 0 => 0
  | v + 1 => Z12 al v + cnt al v al.length
def vtx (a : Arc) (s : Bool) : Int := if s then a.to else a.fr
def pos (al : List Arc) (i : Nat) (s : Bool) : Nat := Z12 al (vtx (al.getD i default) s).toNat + cnt al (vtx (al.getD i default) s).toNat i
def Z3v (n : Nat) (al : List Arc) : Prop := ∀ i, i < al.length → ∀ s, 0 ≤ vtx (al.getD i default) s ∧ vtx (al.getD i default) s < n
theorem Zdd {α : Type} (xs : List α) (i j : Nat) (v d : α) : (xs.set i v).getD j d = if i = j ∧ i < xs.length then v else xs.getD j d := by
 rw [List.getD_eq_getElem?_getD, List.getD_eq_getElem?_getD, List.getElem?_set]
 split
 ·
  rename_i h; subst h
  split
  · rename_i h2; simp [h2]
  · rename_i h2; simp [h2]
 · rename_i h; simp [h]
theorem Za1 {α : Type} {xs : List α} {i j : Nat} {v d : α} (h : i ≠ j) : (xs.set i v).getD j d = xs.getD j d := by
 rw [Zdd, if_neg (fun e => h e.1)]
theorem Zi2 {α : Type} {xs : List α} {i : Nat} {v d : α} (h : i < xs.length) : (xs.set i v).getD i d = v := by
 rw [Zdd, if_pos ⟨rfl, h⟩]
theorem Z32 {α : Type} (n j : Nat) (v : α) : (List.replicate n v).getD j v = v := by
 rw [List.getD_eq_getElem?_getD, List.getElem?_replicate]; split <;> simp
theorem hit_le (a : Arc) (v : Nat) : hit a v ≤ 1 := by unfold hit; split; omega; split <;> omega
theorem cnt_mono {al : List Arc} {v i j : Nat} (h : i ≤ j) : cnt al v i ≤ cnt al v j := by
 induction h with
 | refl => exact Nat.le_refl _
 | step _ ih => exact Nat.le_trans ih (Nat.le_add_right _ _)
theorem Zlj (al : List Arc) (v k : Nat) : cnt al v k ≤ k := by
 induction k with
 | zero => exact Nat.le_refl _
 | succ k ih => have := hit_le (al.getD k default) v; simp only [cnt]; omega
theorem Z41 {al : List Arc} {u v : Nat} (h : u ≤ v) : Z12 al u ≤ Z12 al v := by
 induction h with
 | refl => exact Nat.le_refl _
 | step _ ih => exact Nat.le_trans ih (Nat.le_add_right _ _)
theorem Zp1 (al : List Arc) (v : Nat) : Z12 al v ≤ v * al.length := by
 induction v with
 | zero => exact Nat.zero_le _
 | succ v ih => have := Zlj al v al.length; simp only [Z12, Nat.succ_mul]; omega
theorem hit_vtx {a : Arc} {s : Bool} (h : a.fr ≠ a.to) (h0 : 0 ≤ vtx a s) : hit a (vtx a s).toNat = 1 := by
 unfold hit; rw [if_neg h, if_pos]
 cases s
 · left; simp only [vtx] at h0 ⊢; simp only [Bool.false_eq_true, if_false] at h0 ⊢; omega
 · right; simp only [vtx] at h0 ⊢; simp only [if_true] at h0 ⊢; omega
theorem Zeg {al : List Arc} {i j : Nat} {s : Bool} (hij : i < j) (h : (al.getD i default).fr ≠ (al.getD i default).to) (h0 : 0 ≤ vtx (al.getD i default) s) :
    cnt al (vtx (al.getD i default) s).toNat i < cnt al (vtx (al.getD i default) s).toNat j := by
  have h1 := cnt_mono (al := al) (v := (vtx (al.getD i default) s).toNat) (i := i + 1) (j := j) hij
  have h2 := hit_vtx h h0
  simp only [cnt] at h1
  omega
theorem Zcv {al : List Arc} {n i : Nat} {s : Bool} (hi : i < al.length) (h : (al.getD i default).fr ≠ (al.getD i default).to) (he : Z3v n al) : pos al i s < Z12 al n := by
 have h1 := Zeg (s := s) hi h (he i hi s).1
 have h2 := Z41 (al := al) (u := (vtx (al.getD i default) s).toNat + 1) (v := n) (by have := he i hi s; omega)
 simp only [Z12] at h2
 unfold pos; omega
theorem Z9a {al : List Arc} {n i j : Nat} {s t : Bool} (he : Z3v n al) (hi : i < al.length) (hj : j < al.length) (h : (al.getD i default).fr ≠ (al.getD i default).to) (g : (al.getD j default).fr ≠ (al.getD j default).to)
    (e : pos al i s = pos al j t) : i = j ∧ s = t := by
  have hi1 := Zeg (s := s) hi h (he i hi s).1
  have hj1 := Zeg (s := t) hj g (he j hj t).1
  have hv : (vtx (al.getD i default) s).toNat = (vtx (al.getD j default) t).toNat := by
    rcases Nat.lt_trichotomy (vtx (al.getD i default) s).toNat (vtx (al.getD j default) t).toNat with h1 | h1 | h1
    · have := Z41 (al := al) (u := (vtx (al.getD i default) s).toNat + 1) h1
      simp only [Z12] at this
      unfold pos at e; omega
    · exact h1
    · have := Z41 (al := al) (u := (vtx (al.getD j default) t).toNat + 1) h1
      simp only [Z12] at this
      unfold pos at e; omega
  have hij : i = j := by
    rcases Nat.lt_trichotomy i j with h1 | h1 | h1
    · have h2 := Zeg (s := s) h1 h (he i hi s).1
      unfold pos at e; rw [hv] at e h2; omega
    · exact h1
    · have h2 := Zeg (s := t) h1 g (he j hj t).1
      unfold pos at e; rw [hv] at e; omega
  refine ⟨hij, ?_⟩
  subst hij
  have h1 := (he i hi s).1
  have h2 := (he i hi t).1
  cases s <;> cases t <;> first | rfl | (simp only [vtx, Bool.false_eq_true, if_false, if_true] at hv h1 h2; omega)
theorem Zlk {al : List Arc} {v r : Nat} : ∀ {k : Nat}, r < cnt al v k → ∃ i, i < k ∧ cnt al v i = r ∧ hit (al.getD i default) v = 1
 | 0, h => by simp [cnt] at h
 | k + 1, h => by
  by_cases h1 : r < cnt al v k
  · obtain ⟨i, h2, h3⟩ := Zlk h1; exact ⟨i, by omega, h3⟩
  ·
   have := hit_le (al.getD k default) v
   simp only [cnt] at h
   exact ⟨k, by omega, by omega, by omega⟩
theorem Zfo {al : List Arc} {p : Nat} : ∀ {n : Nat}, p < Z12 al n → ∃ v, v < n ∧ Z12 al v ≤ p ∧ p < Z12 al (v + 1)
 | 0, h => by simp [Z12] at h
 | n + 1, h => by
  by_cases h1 : p < Z12 al n
  · obtain ⟨v, h2, h3⟩ := Zfo h1; exact ⟨v, by omega, h3⟩
  · exact ⟨n, by omega, by omega, h⟩
theorem Zla {al : List Arc} {n p : Nat} (h : p < Z12 al n) : ∃ i s, i < al.length ∧ (al.getD i default).fr ≠ (al.getD i default).to ∧ pos al i s = p ∧ 0 ≤ vtx (al.getD i default) s ∧ vtx (al.getD i default) s < n ∧
    Z12 al (vtx (al.getD i default) s).toNat ≤ p ∧ p < Z12 al ((vtx (al.getD i default) s).toNat + 1) := by
  obtain ⟨v, hv, h1, h2⟩ := Zfo h
  simp only [Z12] at h2
  obtain ⟨i, hi, h3, h4⟩ := Zlk (al := al) (v := v) (r := p - Z12 al v) (k := al.length) (by omega)
  unfold hit at h4
  split at h4
  · omega
  · rename_i hne
    split at h4
    · rename_i ho
      rcases ho with ho | ho
      · refine ⟨i, false, hi, hne, ?_, ?_, ?_, ?_, ?_⟩ <;> simp only [pos, vtx, Bool.false_eq_true, if_false, ho, Int.toNat_natCast, Z12] <;> omega
      · refine ⟨i, true, hi, hne, ?_, ?_, ?_, ?_, ?_⟩ <;> simp only [pos, vtx, if_true, ho, Int.toNat_natCast, Z12] <;> omega
    · omega
def CsrAt (al : List Arc) (hs rs cs aa : List Int) (bs : List Bool) (k : Nat) : Prop :=
  ∀ i, i < k → (al.getD i default).fr ≠ (al.getD i default).to → ∀ s,
    hs.getD (pos al i s) 0 = vtx (al.getD i default) (!s) ∧ rs.getD (pos al i s) 0 = pos al i (!s) ∧ cs.getD (pos al i s) 0 = (if s then 0 else (al.getD i default).cap) ∧
    aa.getD (pos al i s) 0 = i ∧ bs.getD (pos al i s) false = s
structure CsrOK (al : List Arc) (n : Nat) (fs hs rs cs aa : List Int) (bs : List Bool) : Prop where
  lf : fs.length = n + 1
  lh : hs.length = Z12 al n
  lr : rs.length = Z12 al n
  lc : cs.length = Z12 al n
  la : aa.length = Z12 al n
  lb : bs.length = Z12 al n
  hf : ∀ v, v ≤ n → fs.getD v 0 = Z12 al v
  hat : CsrAt al hs rs cs aa bs al.length
theorem CsrAt.skip {al : List Arc} {hs rs cs aa : List Int} {bs : List Bool} {k : Nat} (h : CsrAt al hs rs cs aa bs k) (e : (al.getD k default).fr = (al.getD k default).to) : CsrAt al hs rs cs aa bs (k + 1) := by
 intro i hi hne s
 rcases Nat.lt_succ_iff_lt_or_eq.1 hi with h1 | h1
 · exact h i h1 hne s
 · subst h1; exact absurd e hne
theorem set2 {α : Type} {xs : List α} {p q j : Nat} {u v d : α} (hp : p < xs.length) (hq : q < xs.length) (hpq : p ≠ q) :
    ((xs.set p u).set q v).getD j d = if j = p then u else if j = q then v else xs.getD j d := by
  rw [Zdd, Zdd]
  by_cases h1 : j = p
  · subst h1; rw [if_pos rfl, if_neg (fun e => hpq e.1.symm), if_pos ⟨rfl, hp⟩]
  · rw [if_neg h1]
    by_cases h2 : j = q
    · subst h2; rw [if_pos rfl, if_pos ⟨rfl, by simpa using hq⟩]
    · rw [if_neg h2, if_neg (fun e => h2 e.1.symm), if_neg (fun e => h1 e.1.symm)]
theorem CsrAt.put {al : List Arc} {n : Nat} {hs rs cs aa : List Int} {bs : List Bool} {k : Nat} (h : CsrAt al hs rs cs aa bs k) (he : Z3v n al) (hk : k < al.length) (hne : (al.getD k default).fr ≠ (al.getD k default).to)
    (lh : hs.length = Z12 al n) (lr : rs.length = Z12 al n) (lc : cs.length = Z12 al n) (la : aa.length = Z12 al n) (lb : bs.length = Z12 al n) :
    CsrAt al ((hs.set (pos al k false) (al.getD k default).to).set (pos al k true) (al.getD k default).fr) ((rs.set (pos al k false) (pos al k true)).set (pos al k true) (pos al k false))
      ((cs.set (pos al k false) (al.getD k default).cap).set (pos al k true) 0) ((aa.set (pos al k false) k).set (pos al k true) k) ((bs.set (pos al k false) false).set (pos al k true) true) (k + 1) := by
  have hp : pos al k false < Z12 al n := Zcv hk hne he
  have hq : pos al k true < Z12 al n := Zcv hk hne he
  have hpq : pos al k false ≠ pos al k true := fun e => by have := (Z9a he hk hk hne hne e).2; cases this
  intro i hi hni s
  have hil : i < al.length := by omega
  rw [set2 (by omega) (by omega) hpq, set2 (by omega) (by omega) hpq, set2 (by omega) (by omega) hpq, set2 (by omega) (by omega) hpq, set2 (by omega) (by omega) hpq]
  by_cases hik : i = k
  · subst hik
    cases s
    · simp [vtx]
    · simp [vtx, hpq.symm]
  · have h1 : pos al i s ≠ pos al k false := fun e => hik (Z9a he hil hk hni hne e).1
    have h2 : pos al i s ≠ pos al k true := fun e => hik (Z9a he hil hk hni hne e).1
    simp only [if_neg h1, if_neg h2]
    exact h i (by omega) hni s
def Counted (al : List Arc) (m k : Nat) (fs : List Int) : Prop := fs.length = m + 1 ∧ fs.getD 0 0 = 0 ∧ ∀ v : Int, 0 ≤ v → v < m → fs.getD (v + 1).toNat 0 = cnt al v.toNat k
def Summed (al : List Arc) (m k : Nat) (fs : List Int) : Prop := fs.length = m + 1 ∧ (∀ u, u ≤ k → fs.getD u 0 = Z12 al u) ∧ ∀ u, k ≤ u → u < m → fs.getD (u + 1) 0 = cnt al u al.length
theorem Z61 {al : List Arc} {v : Nat} (hv : v ≤ 4096) (hl : al.length ≤ 16384) : Z12 al v ≤ 67108864 :=
 Nat.le_trans (Zp1 al v) (Nat.mul_le_mul hv hl)
theorem Zii (al : List Arc) (m : Nat) {p : Nat} (h : p = m + 1) : Counted al m 0 (List.replicate p 0) :=
 ⟨by simp [h], Z32 _ _ _, fun v _ _ => by rw [Z32]; rfl⟩
theorem Counted.skip {al : List Arc} {m k : Nat} {fs : List Int} (h : Counted al m k fs) (e : (al.getD k default).fr = (al.getD k default).to) : Counted al m (k + 1) fs :=
 ⟨h.1, h.2.1, fun v h0 h1 => by rw [h.2.2 v h0 h1]; simp only [cnt, hit, if_pos e, Nat.add_zero]⟩
theorem Counted.put {al : List Arc} {m k : Nat} {fs : List Int} (h : Counted al m k fs) (he : Z3v m al) (hk : k < al.length) (hne : (al.getD k default).fr ≠ (al.getD k default).to) :
    Counted al m (k + 1) ((fs.set ((al.getD k default).fr + 1).toNat (fs.getD ((al.getD k default).fr + 1).toNat 0 + 1)).set ((al.getD k default).to + 1).toNat
      ((fs.set ((al.getD k default).fr + 1).toNat (fs.getD ((al.getD k default).fr + 1).toNat 0 + 1)).getD ((al.getD k default).to + 1).toNat 0 + 1)) := by
  have e0 := he k hk false
  have e1 := he k hk true
  simp only [vtx, Bool.false_eq_true, if_false, if_true] at e0 e1
  obtain ⟨hl, hz, hv⟩ := h
  refine ⟨by simpa using hl, ?_, ?_⟩
  · rw [Za1 (by omega), Za1 (by omega)]; exact hz
  · intro v h0 h1
    have hvv := hv v h0 h1
    rw [Za1 (i := ((al.getD k default).fr + 1).toNat) (j := ((al.getD k default).to + 1).toNat) (by omega), set2 (by omega) (by omega) (by omega)]
    simp only [cnt, hit, if_neg hne]
    by_cases a1 : v = (al.getD k default).fr
    · rw [if_pos (by omega), if_pos (by omega), ← a1, hvv]; omega
    · rw [if_neg (by omega)]
      by_cases a2 : v = (al.getD k default).to
      · rw [if_pos (by omega), if_pos (by omega), ← a2, hvv]; omega
      · rw [if_neg (by omega), if_neg (by omega), hvv]; omega
theorem Counted.summed {al : List Arc} {m : Nat} {fs : List Int} (h : Counted al m al.length fs) : Summed al m 0 fs :=
 ⟨h.1, fun u hu => by rw [Nat.le_zero.1 hu]; exact h.2.1, fun u _ hu => by have := h.2.2 u (by omega) (by omega); rw [show ((u : Int) + 1).toNat = u + 1 by omega] at this; simpa using this⟩
theorem Summed.put {al : List Arc} {m k : Nat} {fs : List Int} (h : Summed al m k fs) (hk : k < m) {i : Nat} (hi : i = k + 1) : Summed al m (k + 1) (fs.set i (fs.getD i 0 + fs.getD k 0)) := by
 subst hi
 obtain ⟨hl, h1, h2⟩ := h
 refine ⟨by simpa using hl, fun u hu => ?_, fun u h3 h4 => ?_⟩
 ·
  by_cases e : u = k + 1
  · subst e; rw [Zi2 (by omega), h1 k (Nat.le_refl _), h2 k (Nat.le_refl _) hk]; simp [Z12]; omega
  · rw [Za1 (by omega)]; exact h1 u (by omega)
 · rw [Za1 (by omega)]; exact h2 u (by omega) h4
theorem Z1g {N S T : Int} {al : List Arc} (h : Z6m N S T al = 0) : (2 ≤ N ∧ N ≤ 4096) ∧ (al.length : Int) ≤ 16384 ∧ (Z3o N S = true ∧ Z3o N T = true ∧ S ≠ T) ∧ al.all (Ze4 N) = true ∧ al.all Zoz = true ∧ (Zik 4611686018427387904 al).isSome = true := by
 unfold Z6m at h
 split at h
 · omega
 ·
  rename_i h1
  split at h
  · omega
  ·
   rename_i h2
   split at h
   · omega
   ·
    rename_i h3
    split at h
    · omega
    ·
     rename_i h4
     split at h
     · omega
     ·
      rename_i h5
      split at h
      · omega
      ·
       rename_i h6
       refine ⟨Classical.not_not.1 h1, Classical.not_not.1 h2, Classical.not_not.1 h3, by simpa using h4, by simpa using h5, ?_⟩
       cases e : Zik 4611686018427387904 al <;> simp_all
theorem Z60 {m : Nat} {al : List Arc} (h : al.all (Ze4 (m : Int)) = true) : Z3v m al := by
 intro i hi s
 have h1 := List.all_eq_true.1 h _ (Z8w hi default)
 simp only [Ze4, Z3o, Bool.and_eq_true, decide_eq_true_eq] at h1
 cases s
 · simp only [vtx, Bool.false_eq_true, if_false]; exact h1.1
 · simp only [vtx, if_true]; exact h1.2
def MakeAt (al : List Arc) (m k : Nat) (nx hs rs cs aa : List Int) (bs : List Bool) : Prop :=
  (nx.length = m + 1 ∧ hs.length = Z12 al m ∧ rs.length = Z12 al m ∧ cs.length = Z12 al m ∧ aa.length = Z12 al m ∧ bs.length = Z12 al m) ∧
  CsrAt al hs rs cs aa bs k ∧ ∀ v : Int, 0 ≤ v → v < m → nx.getD v.toNat 0 = Z12 al v.toNat + cnt al v.toNat k
theorem Zkc {al : List Arc} {m : Nat} {fs : List Int} (hl : fs.length = m + 1) (hf : ∀ u, u ≤ m → fs.getD u 0 = Z12 al u) :
    MakeAt al m 0 fs (List.replicate (Z12 al m) 0) (List.replicate (Z12 al m) 0) (List.replicate (Z12 al m) 0) (List.replicate (Z12 al m) 0) (List.replicate (Z12 al m) false) := by
  refine ⟨⟨hl, by simp, by simp, by simp, by simp, by simp⟩, fun i hi => by omega, fun v h0 h1 => ?_⟩
  rw [hf _ (by omega)]; simp [cnt]
theorem MakeAt.skip {al : List Arc} {m k : Nat} {nx hs rs cs aa : List Int} {bs : List Bool} (h : MakeAt al m k nx hs rs cs aa bs) (e : (al.getD k default).fr = (al.getD k default).to) : MakeAt al m (k + 1) nx hs rs cs aa bs :=
 ⟨h.1, h.2.1.skip e, fun v h0 h1 => by rw [h.2.2 v h0 h1]; simp only [cnt, hit, if_pos e, Nat.add_zero]⟩
theorem MakeAt.at {al : List Arc} {m k : Nat} {nx hs rs cs aa : List Int} {bs : List Bool} (h : MakeAt al m k nx hs rs cs aa bs) (he : Z3v m al) (hk : k < al.length) (s : Bool) : nx.getD (vtx (al.getD k default) s).toNat 0 = (pos al k s : Nat) := by
 rw [h.2.2 _ (he k hk s).1 (he k hk s).2]; simp only [pos]; omega
theorem MakeAt.put {al : List Arc} {m k : Nat} {nx hs rs cs aa : List Int} {bs : List Bool} (h : MakeAt al m k nx hs rs cs aa bs) (he : Z3v m al) (hk : k < al.length) (hne : (al.getD k default).fr ≠ (al.getD k default).to) :
    MakeAt al m (k + 1) ((nx.set (al.getD k default).fr.toNat ((pos al k false : Nat) + 1)).set (al.getD k default).to.toNat ((pos al k true : Nat) + 1))
      ((hs.set (pos al k false) (al.getD k default).to).set (pos al k true) (al.getD k default).fr) ((rs.set (pos al k false) (pos al k true)).set (pos al k true) (pos al k false))
      ((cs.set (pos al k false) (al.getD k default).cap).set (pos al k true) 0) ((aa.set (pos al k false) k).set (pos al k true) k) ((bs.set (pos al k false) false).set (pos al k true) true) := by
  have g0 := h.at he hk false
  have g1 := h.at he hk true
  obtain ⟨⟨l0, l1, l2, l3, l4, l5⟩, hA, hv⟩ := h
  have e0 := he k hk false
  have e1 := he k hk true
  simp only [vtx, Bool.false_eq_true, if_false, if_true] at e0 e1 g0 g1
  refine ⟨⟨by simpa using l0, by simpa using l1, by simpa using l2, by simpa using l3, by simpa using l4, by simpa using l5⟩, hA.put he hk hne l1 l2 l3 l4 l5, fun v h0 h1 => ?_⟩
  have hvv := hv v h0 h1
  rw [set2 (by omega) (by omega) (by omega)]
  simp only [cnt, hit, if_neg hne]
  by_cases a1 : v = (al.getD k default).fr
  · rw [if_pos (by omega), if_pos (by omega), ← g0, ← a1, hvv]; omega
  · rw [if_neg (by omega)]
    by_cases a2 : v = (al.getD k default).to
    · rw [if_pos (by omega), if_pos (by omega), ← g1, ← a2, hvv]; omega
    · rw [if_neg (by omega), if_neg (by omega), hvv]; omega
theorem MakeAt.done {al : List Arc} {m : Nat} {fs nx hs rs cs aa : List Int} {bs : List Bool} (h : MakeAt al m al.length nx hs rs cs aa bs) (hl : fs.length = m + 1) (hf : ∀ u, u ≤ m → fs.getD u 0 = Z12 al u) : CsrOK al m fs hs rs cs aa bs :=
 ⟨hl, h.1.2.1, h.1.2.2.1, h.1.2.2.2.1, h.1.2.2.2.2.1, h.1.2.2.2.2.2, hf, h.2.1⟩
end Go.Acq
namespace Go.Acq
open Go
theorem next_ne {S m : Int} (h0 : 0 ≤ S) (h1 : S < m) (h2 : 2 ≤ m) : 0 ≤ (S + 1).tmod m ∧ (S + 1).tmod m < m ∧ (S + 1).tmod m ≠ S := by
 rw [Int.tmod_eq_emod_of_nonneg (by omega)]
 refine ⟨Int.emod_nonneg _ (by omega), Int.emod_lt_of_pos _ (by omega), ?_⟩
 by_cases h : S + 1 < m
 · rw [Int.emod_eq_of_lt (by omega) h]; omega
 · rw [show S + 1 = m by omega, Int.emod_self]; omega
theorem Zlz {x n : Int} (h : 0 ≤ x) (hn : 0 < n) : 0 ≤ x.tmod n ∧ x.tmod n < n := by
 rw [Int.tmod_eq_emod_of_nonneg h]
 exact ⟨Int.emod_nonneg _ (by omega), Int.emod_lt_of_pos _ hn⟩
def SomeAt (m : Nat) (ol : List Arc) : Prop := ∀ a, a ∈ ol → Ze4 m a = true ∧ 0 ≤ a.cap ∧ a.cap < 1125899906842624
theorem SomeAt.put {m : Nat} {ol : List Arc} {a : Arc} (h : SomeAt m ol) (h1 : 0 ≤ a.fr ∧ a.fr < m) (h2 : 0 ≤ a.to ∧ a.to < m) (h3 : 0 ≤ a.cap ∧ a.cap < 1125899906842624) : SomeAt m (ol ++ [a]) := by
 intro b hb
 rcases List.mem_append.1 hb with hb | hb
 · exact h b hb
 ·
  simp only [List.mem_singleton] at hb
  subst hb
  exact ⟨by simp [Ze4, Z3o, h1, h2], h3⟩
theorem Zof {m : Nat} {ol : List Arc} {left : Int} (h : SomeAt m ol) (hl : (ol.length : Int) * 1125899906842624 ≤ left) : (Zik left ol).isSome = true := by
 induction ol generalizing left with
 | nil => simp [Zik]
 | cons a ol ih =>
  have ha := (h a (.head _)).2
  simp only [List.length_cons] at hl
  have h2 : (0 : Int) ≤ (ol.length : Int) * 1125899906842624 := by omega
  simp only [Zik]
  rw [if_neg (by omega)]
  exact ih (fun b hb => h b (.tail _ hb)) (by omega)
theorem Zm0 {m : Nat} {S T : Int} {ol : List Arc} (hm : 2 ≤ m) (hm2 : m ≤ 4096) (hS : 0 ≤ S ∧ S < m) (hT : 0 ≤ T ∧ T < m) (hST : T ≠ S) (h : SomeAt m ol) (hl : ol.length ≤ 4096) : Z6m m S T ol = 0 := by
 have h1 : ol.all (Ze4 m) = true := List.all_eq_true.2 fun a ha => (h a ha).1
 have h2 : ol.all Zoz = true := List.all_eq_true.2 fun a ha => by simp [Zoz, (h a ha).2.1]
 have h3 : (Zik 4611686018427387904 ol).isSome = true := Zof h (by omega)
 unfold Z6m
 rw [if_neg (by omega), if_neg (by omega), if_neg (by simp [Z3o, hS, hT, Ne.symm hST]), if_neg (by simp [h1]), if_neg (by simp [h2]), if_neg (by
  cases e : Zik 4611686018427387904 ol with
  | none => rw [e] at h3; cases h3
  | some x => simp)]
def WithinAt (al : List Arc) (n k : Nat) (fl : List Int) : Prop := fl.length = n ∧
  (∀ i, i < k → 0 ≤ fl.getD i 0 ∧ fl.getD i 0 ≤ (al.getD i default).cap ∧ ((al.getD i default).fr = (al.getD i default).to → fl.getD i 0 = 0)) ∧ ∀ i, k ≤ i → fl.getD i 0 = 0
theorem WithinAt.start (al : List Arc) (n : Nat) : WithinAt al n 0 (List.replicate n 0) := ⟨by simp, fun i h => by omega, fun i _ => Z32 _ _ _⟩
theorem WithinAt.skip {al : List Arc} {n k : Nat} {fl : List Int} (h : WithinAt al n k fl) (hc : 0 ≤ (al.getD k default).cap) : WithinAt al n (k + 1) fl := by
 refine ⟨h.1, fun i hi => ?_, fun i hi => h.2.2 i (by omega)⟩
 rcases Nat.lt_succ_iff_lt_or_eq.1 hi with h1 | h1
 · exact h.2.1 i h1
 · subst h1; have := h.2.2 i (Nat.le_refl _); rw [this]; exact ⟨Int.le_refl _, hc, fun _ => rfl⟩
theorem WithinAt.put {al : List Arc} {n k : Nat} {fl : List Int} {v : Int} (h : WithinAt al n k fl) (hk : k < n) (h0 : 0 ≤ v) (h1 : v ≤ (al.getD k default).cap) (hne : (al.getD k default).fr ≠ (al.getD k default).to) : WithinAt al n (k + 1) (fl.set k v) := by
 refine ⟨by simpa using h.1, fun i hi => ?_, fun i hi => by rw [Za1 (by omega)]; exact h.2.2 i (by omega)⟩
 by_cases e : i = k
 · subst e; rw [Zi2 (by rw [h.1]; exact hk)]; exact ⟨h0, h1, fun e => absurd e hne⟩
 · rw [Za1 (by omega)]; exact h.2.1 i (by omega)
def Zgf (aa cs : List Int) (bs : List Bool) (fl : List Int) (j : Nat) : Prop := aa.getD j 0 < fl.length ∧ (bs.getD j false = true ∨ (0 ≤ fl.getD (aa.getD j 0).toNat 0 ∧ fl.getD (aa.getD j 0).toNat 0 ≤ cs.getD j 0))
def resV (aa cs : List Int) (bs : List Bool) (fl : List Int) (j : Nat) : Int := if bs.getD j false = true then fl.getD (aa.getD j 0).toNat 0 else cs.getD j 0 - fl.getD (aa.getD j 0).toNat 0
def ResAt (aa cs : List Int) (bs : List Bool) (fl : List Int) (L k : Nat) (rl : List Int) : Prop := rl.length = L ∧ ∀ j, j < k → Zgf aa cs bs fl j ∧ rl.getD j 0 = resV aa cs bs fl j
theorem ResAt.put {aa cs : List Int} {bs : List Bool} {fl : List Int} {L k : Nat} {rl : List Int} {v : Int} (h : ResAt aa cs bs fl L k rl) (hk : k < L) (h1 : Zgf aa cs bs fl k) (h2 : v = resV aa cs bs fl k) : ResAt aa cs bs fl L (k + 1) (rl.set k v) := by
 refine ⟨by simpa using h.1, fun j hj => ?_⟩
 by_cases e : j = k
 · subst e; rw [Zi2 (by rw [h.1]; exact hk)]; exact ⟨h1, h2⟩
 · rw [Za1 (by omega)]; exact h.2 j (by omega)
end Go.Acq
namespace Go.Acq
open Go
theorem CsrOK.place {al : List Arc} {m : Nat} {fs hs rs cs aa : List Int} {bs : List Bool} (h : CsrOK al m fs hs rs cs aa bs) {j : Nat} (hj : j < Z12 al m) :
    ∃ i s, i < al.length ∧ (al.getD i default).fr ≠ (al.getD i default).to ∧ pos al i s = j ∧ hs.getD j 0 = vtx (al.getD i default) (!s) ∧ rs.getD j 0 = pos al i (!s) ∧ cs.getD j 0 = (if s then 0 else (al.getD i default).cap) ∧ aa.getD j 0 = i ∧ bs.getD j false = s := by
  obtain ⟨i, s, hi, hne, hp, _⟩ := Zla hj
  have := h.hat i hi hne s
  rw [hp] at this
  exact ⟨i, s, hi, hne, hp, this⟩
theorem CsrOK.aa0 {al : List Arc} {m : Nat} {fs hs rs cs aa : List Int} {bs : List Bool} (h : CsrOK al m fs hs rs cs aa bs) : ∀ j, j < Z12 al m → 0 ≤ aa.getD j 0 := by
 intro j hj
 obtain ⟨i, s, _, _, _, _, _, _, h4, _⟩ := h.place hj
 omega
end Go.Acq
namespace Go.Acq
open Go
theorem Zmb {α : Type} {m : Option α} {v : α} (h : Ok m (fun a => a = v)) : m = some v := by obtain ⟨a, h1, h2⟩ := h; rw [h1, h2]
theorem Zau {α : Type} {m : Option α} {v : α} {Q : α → Prop} (h : m = some v) (q : Q v) : Ok m Q := ⟨v, h, q⟩
abbrev lenok (n : Nat) : Prop := n ≤ 9223372036854775807
theorem Zfb {x n : Int} (h1 : n ≤ 4611686018427387904) : Z29 x n = some (Zfq x n) := by
 unfold Z29 Zfq
 by_cases h : n < 1
 · rw [if_pos h, if_pos h]
 ·
  have a1 := Int.tmod_lt_of_pos x (show 0 < n by omega)
  have a2 := Zfi x (show 0 < n by omega)
  rw [if_neg h, if_neg h, Z7t (by omega), Z7t (by constructor <;> omega), Z7t (by omega)]
theorem Zf2 (n : Net) (v : Int) : Z58 n v = some (Z3o n.N v) := by
 unfold Z58 Z3o
 by_cases h : 0 ≤ v <;> simp [h]
theorem s_rules4 (n : Net) (a : Arc) : Z7d n a = some (Ze4 n.N a) := by
 unfold Z7d Ze4
 rw [Zf2, Zf2]
 simp only [Option.bind_some]
 cases Z3o n.N a.fr <;> simp
theorem s_of4 (n : Net) (h : lenok n.Arcs.length) : Z4r n = some (n.Arcs.all (Ze4 n.N)) := by
 refine Zmb ?_
 unfold Z4r Z1o Z1w
 refine Ok.bind.2 (Ok.bind.2 (Ok.bind.2 (Zih (fun x => 0 ≤ x ∧ x ≤ n.Arcs.length ∧ ∀ i, i < x.toNat → Ze4 n.N (n.Arcs.getD i default) = true) (fun x => (n.Arcs.length - x).toNat) ⟨by omega, by omega, fun i hi => by omega⟩ (by unfold Z4d; omega) ?_)))
 rintro x ⟨h0, h1, h2⟩
 unfold Z1a Z50
 refine Ok.ite.2 ⟨fun hx => ?_, fun hx => ?_⟩
 ·
  refine Ok.gd.2 ⟨(by omega), Ok.bind.2 (Ok.bind.2 (Zau (s_rules4 _ _) (Ok.some.2 (Ok.ite.2 ⟨fun hb => ?_, fun hb => ?_⟩))))⟩
  ·
   refine Ok.some.2 (Ok.some.2 (Ok.some.2 (Ok.some.2 ?_)))
   simp only [h0, decide_true, Bool.not_true]
   refine Eq.symm (Bool.eq_false_iff.2 fun hall => ?_)
   have := List.all_eq_true.1 hall _ (Z8w (show x.toNat < n.Arcs.length by omega) default)
   rw [this] at hb; cases hb
  ·
   refine Ok.gd.2 ⟨(by omega), Ok.some.2 ⟨⟨by omega, by omega, fun i hi => ?_⟩, by omega⟩⟩
   rcases Nat.lt_or_ge i x.toNat with h3 | h3
   · exact h2 i h3
   · rw [show i = x.toNat by omega]; simpa using hb
 ·
  refine Ok.some.2 (Ok.some.2 (Ok.some.2 (Ok.some.2 ?_)))
  refine Eq.symm (List.all_eq_true.2 fun a ha => ?_)
  obtain ⟨i, hi, rfl⟩ := List.getElem_of_mem ha
  have := h2 i (by omega)
  rwa [List.getD_eq_getElem?_getD, List.getElem?_eq_getElem hi] at this
theorem s_of5 (n : Net) (h : lenok n.Arcs.length) : Z4q n = some (n.Arcs.all Zoz) := by
 refine Zmb ?_
 unfold Z4q Z1n Z1v
 refine Ok.bind.2 (Ok.bind.2 (Ok.bind.2 (Zih (fun x => 0 ≤ x ∧ x ≤ n.Arcs.length ∧ ∀ i, i < x.toNat → Zoz (n.Arcs.getD i default) = true) (fun x => (n.Arcs.length - x).toNat) ⟨by omega, by omega, fun i hi => by omega⟩ (by unfold Z4d; omega) ?_)))
 rintro x ⟨h0, h1, h2⟩
 unfold Z19 Z4z Z8q
 refine Ok.ite.2 ⟨fun hx => ?_, fun hx => ?_⟩
 ·
  refine Ok.gd.2 ⟨(by omega), Ok.bind.2 (Ok.bind.2 (Ok.some.2 (Ok.some.2 (Ok.ite.2 ⟨fun hb => ?_, fun hb => ?_⟩))))⟩
  ·
   refine Ok.some.2 (Ok.some.2 (Ok.some.2 (Ok.some.2 ?_)))
   simp only [h0, decide_true, Bool.not_true]
   refine Eq.symm (Bool.eq_false_iff.2 fun hall => ?_)
   have := List.all_eq_true.1 hall _ (Z8w (show x.toNat < n.Arcs.length by omega) default)
   simp only [Zoz] at this
   rw [this] at hb; cases hb
  ·
   refine Ok.gd.2 ⟨(by omega), Ok.some.2 ⟨⟨by omega, by omega, fun i hi => ?_⟩, by omega⟩⟩
   rcases Nat.lt_or_ge i x.toNat with h3 | h3
   · exact h2 i h3
   · rw [show i = x.toNat by omega]; simpa [Zoz] using hb
 ·
  refine Ok.some.2 (Ok.some.2 (Ok.some.2 (Ok.some.2 ?_)))
  refine Eq.symm (List.all_eq_true.2 fun a ha => ?_)
  obtain ⟨i, hi, rfl⟩ := List.getElem_of_mem ha
  have := h2 i (by omega)
  rwa [List.getD_eq_getElem?_getD, List.getElem?_eq_getElem hi] at this
theorem s_Sum (n : Net) (h : lenok n.Arcs.length) : Zbj n = some (match Zik 4611686018427387904 n.Arcs with | some l => (4611686018427387904 - l, true) | none => (0, false)) := by
 refine Zmb ?_
 unfold Zbj
 refine Ok.bind.2 (Zih (fun s => 0 ≤ s.2 ∧ s.2 ≤ n.Arcs.length ∧ 0 ≤ s.1 ∧ s.1 ≤ 4611686018427387904 ∧ Zik 4611686018427387904 n.Arcs = Zik s.1 (n.Arcs.drop s.2.toNat)) (fun s => (n.Arcs.length - s.2).toNat) ⟨by simp, by simp, by simp, by simp, by simp⟩ (by unfold Z4d; simp; omega) ?_)
 rintro ⟨left, x⟩ ⟨h0, h1, h2, h3, h4⟩
 simp only at h0 h1 h2 h3 h4 ⊢
 unfold Z89 Z8a
 refine Ok.ite.2 ⟨fun hx => ?_, fun hx => ?_⟩
 ·
  rw [Ziv (by omega)] at h4
  refine Ok.gd.2 ⟨(by omega), Ok.ite.2 ⟨fun hb => ?_, fun hb => ?_⟩⟩
  ·
   rw [if_pos rfl]
   refine Ok.some.2 (Ok.some.2 ?_)
   rw [h4, if_pos (.inl hb)]
  ·
   by_cases hc : left < (n.Arcs.getD x.toNat default).cap
   ·
    rw [if_pos (decide_eq_true hc)]
    refine Ok.some.2 (Ok.some.2 ?_)
    rw [h4, if_pos (.inr hc)]
   ·
    rw [if_neg (by simpa using hc)]
    refine Ok.gd.2 ⟨(by omega), Ok.gd.2 ⟨(by omega), Ok.some.2 ⟨⟨by simp only; omega, by simp only; omega, by simp only; omega, by simp only; omega, ?_⟩, by simp only; omega⟩⟩⟩
    rw [h4, if_neg (by omega)]
    simp only
    rw [show (x + 1).toNat = x.toNat + 1 by omega]
 ·
  unfold Z9r
  refine Ok.some.2 (Ok.gd.2 ⟨(by omega), Ok.some.2 ?_⟩)
  rw [h4, List.drop_eq_nil_of_le (by omega)]
  rfl
theorem Zhw (n : Net) (h : lenok n.Arcs.length) : Z5x n = some (Z6m n.N n.S n.T n.Arcs) := by
 unfold Z5x Zav Z6q Z6p Z8t Z8s Z8r Z8p Z85
 rw [Zf2, Zf2, s_of4 n h, s_of5 n h, s_Sum n h]
 unfold Z6m
 simp only [Option.bind_some]
 by_cases h1 : 2 ≤ n.N ∧ n.N ≤ 4096
 ·
  rw [if_pos h1.1, if_neg (not_not_intro h1)]
  simp only [Option.bind_some, decide_eq_true h1.2, Bool.not_true, Bool.false_eq_true, if_false]
  by_cases h2 : (n.Arcs.length : Int) ≤ 16384
  ·
   rw [if_neg (by simp [h2]), if_neg (not_not_intro h2)]
   by_cases h3 : Z3o n.N n.S = true ∧ Z3o n.N n.T = true ∧ n.S ≠ n.T
   ·
    rw [if_pos h3.1, if_pos h3.2.1, if_neg (not_not_intro h3)]
    simp only [Option.bind_some, decide_eq_true h3.2.2, Bool.not_true, Bool.false_eq_true, if_false]
    cases h4 : n.Arcs.all (Ze4 n.N)
    · simp
    ·
     cases h5 : n.Arcs.all Zoz
     · simp
     · cases h6 : Zik 4611686018427387904 n.Arcs <;> simp
   ·
    rw [if_pos h3]
    by_cases a1 : Z3o n.N n.S = true
    ·
     by_cases a2 : Z3o n.N n.T = true
     ·
      have a3 : ¬ n.S ≠ n.T := fun e => h3 ⟨a1, a2, e⟩
      simp [a1, a2, a3]
     · simp [a1, a2]
    · simp [a1]
  · rw [if_pos (by simp [h2]), if_pos h2]
 ·
  rw [if_pos h1]
  by_cases a1 : 2 ≤ n.N
  ·
   have a2 : ¬ n.N ≤ 4096 := fun e => h1 ⟨a1, e⟩
   simp [a1, a2]
  · simp [a1]
end Go.Acq
namespace Go.Acq
open Go
set_option linter.unusedSimpArgs false
structure NetIn (n : Net) : Prop where
  nN : i64ok n.N
  nS : i64ok n.S
  nT : i64ok n.T
  arcs : ∀ a, a ∈ n.Arcs → i64ok a.fr ∧ i64ok a.to ∧ i64ok a.cap
  len : n.Arcs.length ≤ 9223372036854775807
structure Made (n : Net) (v a : Int) : Prop where
  check : Z6m n.N n.S n.T n.Arcs = 0
  rows : SomeAt n.N.toNat n.Arcs
  verts : n.N ≤ v
  arcs : (n.Arcs.length : Int) ≤ a
  ends : 2 ≤ n.N ∧ 0 ≤ n.S ∧ n.S < n.N ∧ 0 ≤ n.T ∧ n.T < n.N ∧ n.S ≠ n.T
theorem Made.nat {n : Net} {v a : Int} (h : Made n v a) : ∃ m : Nat, n.N = m ∧ SomeAt m n.Arcs := ⟨n.N.toNat, by have := h.ends.1; omega, h.rows⟩
theorem Made.caps {n : Net} {m : Nat} (h : SomeAt m n.Arcs) : ∀ i, i < n.Arcs.length → 0 ≤ (n.Arcs.getD i default).cap ∧ (n.Arcs.getD i default).cap < 1125899906842624 := fun _ hi => (h _ (Z8w hi default)).2
theorem s_Some {n : Net} {v a : Int} (h : NetIn n) (hv0 : 2 ≤ v) (hv1 : v ≤ 4096) (ha0 : 0 ≤ a) (ha1 : a ≤ 4096) : Ok (Z54 n v a) (fun r => Made r v a) := by
 have hN := Z9d (x := n.N) (n := v - 1) (by omega)
 unfold Z54
 refine Ok.gd.2 ⟨(by omega), Ok.bind.2 (Zau (Zfb (by omega)) (Ok.gd.2 ⟨(by omega), ?_⟩))⟩
 obtain ⟨m, hm⟩ : ∃ m : Nat, 2 + Zfq n.N (v - 1) = m := ⟨(2 + Zfq n.N (v - 1)).toNat, by omega⟩
 rw [hm]
 have hS := Z9d (x := n.S) (n := (m : Int)) (by omega)
 have hT := Z9d (x := n.T) (n := (m : Int)) (by omega)
 refine Ok.bind.2 (Zau (Zfb (by omega)) (Ok.bind.2 (Zau (Zfb (by omega)) ?_)))
 have key : ∀ t : Int, 0 ≤ t → t < m → t ≠ Zfq n.S m → Ok (Z3f n a (Zfq n.N (v - 1)) (Zfq n.S m) t) (fun r => Made r v a) := by
  intro t t0 t1 t2
  unfold Z3f
  refine Ok.gd.2 ⟨(by omega), Ok.bind.2 ?_⟩
  obtain ⟨q, hq⟩ : ∃ q : Nat, min (n.Arcs.length : Int) a = q := ⟨(min (n.Arcs.length : Int) a).toNat, by omega⟩
  obtain ⟨al, hal⟩ : ∃ l, l = n.Arcs.take (q : Int).toNat := ⟨_, rfl⟩
  have hlen : al.length = q := by rw [hal, List.length_take]; omega
  have hcap : ∀ b, b ∈ al → i64ok b.cap := fun b hb => (h.arcs b (List.mem_of_mem_take (by rw [← hal]; exact hb))).2.2
  refine Z7s (fun s => ∃ k : Nat, s.2 = k ∧ k ≤ q ∧ s.1.length = k ∧ SomeAt m s.1) (fun s => (q - s.2).toNat) ⟨0, rfl, by omega, rfl, fun b hb => by cases hb⟩ (by unfold Z4d; simp only; omega) ?_
  rintro ⟨ol, x⟩ ⟨k, h1, h2, h3, h4⟩ P next exit
  simp only at h1 h2 h3 h4 next ⊢
  subst h1
  unfold Z44
  rw [hq, ← hal]
  simp only [Int.toNat_natCast]
  refine Ok.ite.2 ⟨fun hx => ?_, fun hx => ?_⟩
  ·
   have hkl : k < al.length := by omega
   have hc := hcap _ (Z8w hkl default)
   have hj : ∀ c : Int, 0 ≤ c → Ok (Z3e n a (Zfq n.N (v - 1)) ol k c) P := by
    intro c hc0
    unfold Z3e
    rw [hq, ← hal, hm]
    refine Ok.bind.2 (Zau (Zfb (by omega)) (Ok.bind.2 (Zau (Zfb (by omega)) (Ok.gd.2 ⟨?_, Ok.gd.2 ⟨(by omega), Ok.some.2 (next _ ⟨k + 1, by simp, by omega, by simp [h3], ?_⟩ (by simp only; omega))⟩⟩))))
    · rw [List.length_append, h3]; simp only [List.length_cons, List.length_nil]; constructor <;> omega
    · exact h4.put (Z9d (by omega)) (Z9d (by omega)) (Zlz hc0 (by omega))
   refine Ok.gd.2 ⟨(by omega), Ok.ite.2 ⟨fun hn => ?_, fun hn => ?_⟩⟩
   · exact Ok.gd.2 ⟨by constructor <;> omega, Ok.gd.2 ⟨by constructor <;> omega, hj (-((al.getD k default).cap + 1)) (by omega)⟩⟩
   · exact hj (al.getD k default).cap (by omega)
  ·
   refine Ok.some.2 (exit _ ?_)
   unfold Z51
   refine Ok.some.2 ?_
   rw [hm]
   exact ⟨Zm0 (by omega) (by omega) hS ⟨t0, t1⟩ t2 h4 (show ol.length ≤ 4096 by omega), by simpa using h4, by simp only; omega, by show (ol.length : Int) ≤ a; omega, ⟨by simp only; omega, hS.1, hS.2, t0, t1, fun e => t2 e.symm⟩⟩
 refine Ok.ite.2 ⟨fun he => ?_, fun he => ?_⟩
 ·
  refine Ok.gd.2 ⟨(by omega), Ok.gd.2 ⟨by omega, ?_⟩⟩
  obtain ⟨n1, n2, n3⟩ := next_ne hS.1 hS.2 (by omega)
  exact key _ n1 n2 n3
 · exact key _ hT.1 hT.2 (fun e => he e.symm)
theorem Zoi {n : Net} {m : Nat} (hN : n.N = m) (hm : m ≤ 4096) (hl : n.Arcs.length ≤ 16384) (he : Z3v m n.Arcs) :
    Ok (Z7g n) (fun fs => fs.length = m + 1 ∧ ∀ u, u ≤ m → fs.getD u 0 = Z12 n.Arcs u) := by
  unfold Z7g
  simp only [hN]
  refine Ok.gd.2 ⟨(by omega), Ok.gd.2 ⟨(by omega), Ok.bind.2 (Z7s (fun s => ∃ k : Nat, s.2 = k ∧ k ≤ n.Arcs.length ∧ Counted n.Arcs m k s.1) (fun s => (n.Arcs.length - s.2).toNat) ⟨0, rfl, by omega, Zii n.Arcs m (by omega)⟩ (by unfold Z4d; simp only; omega) ?_)⟩⟩
  rintro ⟨fs, x⟩ ⟨k, h1, h2, h3⟩ P next exit
  simp only at h1 h2 h3 next ⊢
  subst h1
  unfold Z5m
  simp only [Int.toNat_natCast]
  refine Ok.ite.2 ⟨fun hx => ?_, fun hx => ?_⟩
  · have hkl : k < n.Arcs.length := by omega
    have hfl := h3.1
    have e0 := he k hkl false
    have e1 := he k hkl true
    simp only [vtx, Bool.false_eq_true, if_false, if_true] at e0 e1
    have c0 := h3.2.2 _ e0.1 e0.2
    have c1 := h3.2.2 _ e1.1 e1.2
    have d0 := Zlj n.Arcs (n.Arcs.getD k default).fr.toNat k
    have d1 := Zlj n.Arcs (n.Arcs.getD k default).to.toNat k
    refine Ok.gd.2 ⟨(by omega), Ok.ite.2 ⟨fun hne => ?_, fun hne => ?_⟩⟩
    · have c2 : (fs.set ((n.Arcs.getD k default).fr + 1).toNat (fs.getD ((n.Arcs.getD k default).fr + 1).toNat 0 + 1)).getD ((n.Arcs.getD k default).to + 1).toNat 0 = cnt n.Arcs (n.Arcs.getD k default).to.toNat k := by rw [Za1 (by omega)]; exact c1
      refine Ok.gd.2 ⟨(by omega), Ok.gd.2 ⟨(by omega), Ok.gd.2 ⟨(by omega), Ok.gd.2 ⟨(by omega), Ok.gd.2 ⟨(by omega), Ok.gd.2 ⟨(by simp only [List.length_set, List.length_replicate]; omega), Ok.gd.2 ⟨(by omega), Ok.gd.2 ⟨(by simp only [List.length_set, List.length_replicate]; omega), Ok.gd.2 ⟨(by omega), Ok.some.2 (next _ ⟨k + 1, by simp, by omega, ?_⟩ (by simp only; omega))⟩⟩⟩⟩⟩⟩⟩⟩⟩
      exact h3.put he hkl hne
    · refine Ok.gd.2 ⟨(by omega), Ok.some.2 (next _ ⟨k + 1, by simp, by omega, h3.skip (Classical.not_not.1 hne)⟩ (by simp only; omega))⟩
  · refine Ok.some.2 (exit _ ?_)
    have hk : k = n.Arcs.length := by omega
    subst hk
    unfold Z6v
    refine Ok.bind.2 (Z7s (fun s => ∃ v : Nat, s.2 = v ∧ v ≤ m ∧ Summed n.Arcs m v s.1) (fun s => (m - s.2).toNat) ⟨0, rfl, by omega, h3.summed⟩ (by unfold Z4d; simp only; omega) ?_)
    rintro ⟨gs, y⟩ ⟨v, g1, g2, g3⟩ P2 next2 exit2
    simp only at g1 g2 g3 next2 ⊢
    subst g1
    unfold Z5l
    simp only [hN, Int.toNat_natCast]
    have hgl := g3.1
    have b0 := g3.2.1 v (Nat.le_refl _)
    refine Ok.ite.2 ⟨fun hv => ?_, fun hv => ?_⟩
    · have b1 := g3.2.2 v (Nat.le_refl _) (by omega)
      have b2 := Z61 (al := n.Arcs) (v := v) (by omega) hl
      have b3 := Zlj n.Arcs v n.Arcs.length
      have b5 : ((v : Int) + 1).toNat = v + 1 := by omega
      simp only [b5]
      refine Ok.gd.2 ⟨(by omega), Ok.gd.2 ⟨(by omega), Ok.gd.2 ⟨(by omega), Ok.gd.2 ⟨(by omega), Ok.gd.2 ⟨(by omega), Ok.gd.2 ⟨(by omega), Ok.some.2 (next2 _ ⟨v + 1, by simp, by omega, ?_⟩ (by simp only; omega))⟩⟩⟩⟩⟩⟩
      exact g3.put (by omega) rfl
    · refine Ok.some.2 (exit2 _ ?_)
      unfold Z6u
      have : v = m := by omega
      subst this
      exact Ok.some.2 ⟨hgl, g3.2.1⟩
structure CsrIs (n : Net) (m : Nat) (c : Csr) : Prop where
  hN : c.N = m
  hS : c.S = n.S
  hT : c.T = n.T
  ok : CsrOK n.Arcs m c.First c.Head c.Rev c.Cap c.Arc c.Back
theorem s_Make {n : Net} {m : Nat} (hN : n.N = m) (hc : Z6m n.N n.S n.T n.Arcs = 0) (hl : lenok n.Arcs.length) :
    Ok (Z90 n) (fun r => CsrIs n m r.1 ∧ r.2 = 0) := by
  have hz := Z1g hc
  have hm : m ≤ 4096 := by omega
  have he : Z3v m n.Arcs := Z60 (by rw [← hN]; exact hz.2.2.2.1)
  unfold Z90
  refine Ok.bind.2 (Zau (Zhw n hl) (Ok.ite.2 ⟨fun h => absurd hc h, fun _ => Ok.bind.2 (Ok.mono (Zoi hN hm (by omega) he) ?_)⟩))
  rintro fs ⟨hfl, hfs⟩
  simp only [hN, Int.toNat_natCast, hfs m (Nat.le_refl _)]
  have hbs := Z61 (al := n.Arcs) (v := m) hm (by omega)
  unfold Z5r
  refine Ok.gd.2 ⟨(by omega), Ok.gd.2 ⟨(by omega), Ok.gd.2 ⟨(by omega), Ok.gd.2 ⟨(by omega), Ok.gd.2 ⟨(by omega), Ok.gd.2 ⟨(by omega), Ok.bind.2 (Ok.gd.2 ⟨(by omega), Ok.some.2 (Ok.bind.2 ?_)⟩)⟩⟩⟩⟩⟩⟩
  refine Z7s (fun s => ∃ k : Nat, s.2.2.2.2.2.2 = k ∧ k ≤ n.Arcs.length ∧ MakeAt n.Arcs m k s.2.2.2.2.2.1 s.1 s.2.1 s.2.2.1 s.2.2.2.1 s.2.2.2.2.1) (fun s => (n.Arcs.length - s.2.2.2.2.2.2).toNat) ⟨0, rfl, by omega, Zkc hfl hfs⟩ (by unfold Z4d; simp only; omega) ?_
  rintro ⟨hs, rs, cs, aa, bs, nx, x⟩ ⟨k, h1, h2, h3⟩ P next exit
  simp only at h1 h2 h3 next ⊢
  subst h1
  unfold Z7h
  simp only [Int.toNat_natCast]
  refine Ok.ite.2 ⟨fun hx => ?_, fun hx => ?_⟩
  · have hkl : k < n.Arcs.length := by omega
    refine Ok.gd.2 ⟨(by omega), Ok.ite.2 ⟨fun heq => ?_, fun hne => ?_⟩⟩
    · exact Ok.gd.2 ⟨(by omega), Ok.some.2 (next _ ⟨k + 1, by simp, by omega, h3.skip heq⟩ (by simp only; omega))⟩
    · have e0 := he k hkl false
      have e1 := he k hkl true
      have n0 := h3.at he hkl false
      have n1 := h3.at he hkl true
      have p0 : pos n.Arcs k false < Z12 n.Arcs m := Zcv hkl hne he
      have p1 : pos n.Arcs k true < Z12 n.Arcs m := Zcv hkl hne he
      simp only [vtx, Bool.false_eq_true, if_false, if_true] at e0 e1 n0 n1
      have hh := h3
      obtain ⟨⟨l0, l1, l2, l3, l4, l5⟩, _, _⟩ := h3
      unfold Z8f
      simp only [n0, Int.toNat_natCast]
      have n2 : (nx.set (n.Arcs.getD k default).fr.toNat ((pos n.Arcs k false : Int) + 1)).getD (n.Arcs.getD k default).to.toNat 0 = (pos n.Arcs k true : Nat) := by rw [Za1 (by omega)]; exact n1
      refine Ok.bind.2 (Ok.gd.2 ⟨(by omega), Ok.gd.2 ⟨(by omega), Ok.gd.2 ⟨(by omega), Ok.gd.2 ⟨(by omega), Ok.gd.2 ⟨(by omega), Ok.gd.2 ⟨(by omega), Ok.gd.2 ⟨(by omega), Ok.gd.2 ⟨(by omega), Ok.some.2 (Ok.bind.2 ?_)⟩⟩⟩⟩⟩⟩⟩⟩)
      simp only [n2, Int.toNat_natCast]
      refine Ok.gd.2 ⟨(by simp only [List.length_set, List.length_replicate]; omega), Ok.gd.2 ⟨(by simp only [List.length_set, List.length_replicate]; omega), Ok.gd.2 ⟨(by omega), Ok.gd.2 ⟨(by simp only [List.length_set, List.length_replicate]; omega), Ok.gd.2 ⟨(by simp only [List.length_set, List.length_replicate]; omega), Ok.gd.2 ⟨(by simp only [List.length_set, List.length_replicate]; omega), Ok.gd.2 ⟨(by simp only [List.length_set, List.length_replicate]; omega), Ok.gd.2 ⟨(by simp only [List.length_set, List.length_replicate]; omega), Ok.some.2 (Ok.gd.2 ⟨(by omega), Ok.gd.2 ⟨(by simp only [List.length_set, List.length_replicate]; omega), Ok.gd.2 ⟨(by omega), Ok.some.2 (next _ ⟨k + 1, by simp, by omega, ?_⟩ (by simp only; omega))⟩⟩⟩)⟩⟩⟩⟩⟩⟩⟩⟩
      exact hh.put he hkl hne
  · refine Ok.some.2 (exit _ ?_)
    unfold Z8v
    have hk : k = n.Arcs.length := by omega
    subst hk
    exact Ok.some.2 ⟨⟨hN, rfl, rfl, h3.done hfl hfs⟩, rfl⟩
theorem s_Res {c : Csr} {f : List Int} {L : Nat} (hh : c.Head.length = L) (hc : c.Cap.length = L) (ha : c.Arc.length = L) (hb : c.Back.length = L) (hL : L ≤ 67108864)
    (h0 : ∀ j, j < L → 0 ≤ c.Arc.getD j 0) (h1 : ∀ j, j < L → 0 ≤ c.Cap.getD j 0 ∧ c.Cap.getD j 0 ≤ 9223372036854775807) :
    Ok (Za7 c f) (fun r => ((∀ j, j < L → Zgf c.Arc c.Cap c.Back f j) ∧ r.2 = 0 ∧ ResAt c.Arc c.Cap c.Back f L L r.1) ∨ ((∃ j, j < L ∧ ¬Zgf c.Arc c.Cap c.Back f j) ∧ r = ([], 20))) := by
  unfold Za7 Za8
  simp only [hh]
  refine Ok.bind.2 (Ok.some.2 (Ok.gd.2 ⟨(by omega), Ok.bind.2 (Z7s (fun s => ∃ k : Nat, s.2 = k ∧ k ≤ L ∧ ResAt c.Arc c.Cap c.Back f L k s.1) (fun s => (L - s.2).toNat) ⟨0, rfl, by omega, by simp, fun j hj => by omega⟩ (by unfold Z4d; simp only; omega) ?_)⟩))
  rintro ⟨rl, x⟩ ⟨k, g1, g2, g3⟩ P next exit
  simp only at g1 g2 g3 next ⊢
  subst g1
  unfold Z8e
  simp only [Int.toNat_natCast, List.length_replicate]
  have hrl := g3.1
  refine Ok.ite.2 ⟨fun hx => ?_, fun hx => ?_⟩
  · have hkl : k < L := by omega
    have a0 := h0 k hkl
    have c1 := h1 k hkl
    have bad : ¬Zgf c.Arc c.Cap c.Back f k → P (.inr (.inl ([], 20))) := fun hr => exit _ (Ok.some.2 (.inr ⟨⟨k, hkl, hr⟩, rfl⟩))
    have step : ∀ v : Int, Zgf c.Arc c.Cap c.Back f k → v = resV c.Arc c.Cap c.Back f k → Ok (gd (i64ok ((k : Int) + 1)) (some (.inl (rl.set k v, (k : Int) + 1)))) P := fun v hr hv =>
      Ok.gd.2 ⟨(by omega), Ok.some.2 (next _ ⟨k + 1, by simp, by omega, g3.put hkl hr hv⟩ (by simp only; omega))⟩
    refine Ok.gd.2 ⟨(by omega), Ok.ite.2 ⟨fun hk => ?_, fun hk => ?_⟩⟩
    · exact Ok.some.2 (bad fun hr => by have := hr.1; omega)
    · refine Ok.gd.2 ⟨(by omega), Ok.ite.2 ⟨fun hbk => ?_, fun hbk => ?_⟩⟩
      · exact Ok.gd.2 ⟨(by omega), Ok.gd.2 ⟨(by omega), step _ ⟨by omega, .inl hbk⟩ (by unfold resV; rw [if_pos hbk])⟩⟩
      · refine Ok.gd.2 ⟨(by omega), Ok.ite.2 ⟨fun hn => ?_, fun hn => ?_⟩⟩
        · unfold Z73
          rw [if_pos rfl]
          exact Ok.some.2 (bad fun hr => by rcases hr.2 with h | h; exact hbk h; omega)
        · refine Ok.gd.2 ⟨(by omega), Ok.gd.2 ⟨(by omega), ?_⟩⟩
          unfold Z73
          simp only [Int.toNat_natCast]
          refine Ok.ite.2 ⟨fun hd => ?_, fun hd => ?_⟩
          · have hd := of_decide_eq_true hd
            exact Ok.some.2 (bad fun hr => by rcases hr.2 with h | h; exact hbk h; omega)
          · have hd : ¬ c.Cap.getD k 0 < f.getD (c.Arc.getD k 0).toNat 0 := fun h => hd (decide_eq_true h)
            exact Ok.gd.2 ⟨(by omega), Ok.gd.2 ⟨(by omega), Ok.gd.2 ⟨(by omega), Ok.gd.2 ⟨(by omega), step _ ⟨by omega, .inr ⟨by omega, by omega⟩⟩ (by unfold resV; rw [if_neg hbk])⟩⟩⟩⟩
  · refine Ok.some.2 (exit _ ?_)
    unfold Z9t
    have : k = L := by omega
    subst this
    exact Ok.some.2 (.inl ⟨fun j hj => (g3.2 j hj).1, rfl, g3⟩)
end Go.Acq
namespace Go.Acq
open Go
set_option linter.unusedSimpArgs false
end Go.Acq
namespace Go.Acq
open Go
set_option linter.unusedSimpArgs false
def ex (al : List Arc) (f : List Int) (v : Int) : Nat → Int
  | 0 => 0
  | k + 1 => ex al f v k - (if (al.getD k default).fr = v then f.getD k 0 else 0) + (if (al.getD k default).to = v then f.getD k 0 else 0)
def tot (f : List Int) : Nat → Int
  | 0 => 0
  | k + 1 => tot f k + f.getD k 0
def part (al : List Arc) (f : List Int) (j : Int) : Nat → Int
  | 0 => 0
  | k + 1 => part al f j k - (if (al.getD k default).fr < j then f.getD k 0 else 0) + (if (al.getD k default).to < j then f.getD k 0 else 0)
theorem Zmg {al : List Arc} {f : List Int} (v : Int) {n : Nat} (h : ∀ i, i < n → 0 ≤ f.getD i 0) : ∀ k, k ≤ n → -tot f k ≤ ex al f v k ∧ ex al f v k ≤ tot f k
 | 0, _ => by simp [ex, tot]
 | k + 1, hk => by
  have ih := Zmg (al := al) v h k (by omega)
  have := h k hk
  simp only [ex, tot]
  split <;> split <;> omega
theorem Zj3 {al : List Arc} {f : List Int} (j : Int) : ∀ k, part al f (j + 1) k = part al f j k + ex al f j k
 | 0 => by simp [part, ex]
 | k + 1 => by
  have ih := Zj3 (al := al) (f := f) j k
  simp only [part, ex, ih]
  have e1 : ∀ x : Int, (if x < j + 1 then f.getD k 0 else 0) = (if x < j then f.getD k 0 else 0) + (if x = j then f.getD k 0 else 0) := fun x => by
   by_cases h1 : x < j
   · rw [if_pos h1, if_pos (by omega), if_neg (by omega)]; omega
   ·
    by_cases h2 : x = j
    · rw [if_neg h1, if_pos (by omega), if_pos h2]; omega
    · rw [if_neg h1, if_neg (by omega), if_neg h2]; omega
  rw [e1, e1]; omega
theorem Zj4 {al : List Arc} {f : List Int} {m : Nat} (he : Z3v m al) : ∀ k, k ≤ al.length → part al f 0 k = 0
 | 0, _ => rfl
 | k + 1, hk => by
  have h0 := he k hk false
  have h1 := he k hk true
  simp only [vtx, Bool.false_eq_true, if_false, if_true] at h0 h1
  simp only [part, Zj4 he k (by omega)]
  rw [if_neg (by omega), if_neg (by omega)]; rfl
theorem Zlc {al : List Arc} {f : List Int} {m : Nat} (he : Z3v m al) : ∀ k, k ≤ al.length → part al f m k = 0
 | 0, _ => rfl
 | k + 1, hk => by
  have h0 := he k hk false
  have h1 := he k hk true
  simp only [vtx, Bool.false_eq_true, if_false, if_true] at h0 h1
  simp only [part, Zlc he k (by omega)]
  rw [if_pos h0.2, if_pos h1.2]; omega
theorem Zhs {f : List Int} {n : Nat} (h : ∀ i, i < n → 0 ≤ f.getD i 0) : ∀ j k, j ≤ k → k ≤ n → tot f j ≤ tot f k
  | j, 0, hj, _ => by have : j = 0 := by omega
                      subst this; exact Int.le_refl _
  | j, k + 1, hj, hk => by
    rcases Nat.lt_or_ge j (k + 1) with h1 | h1
    · have := Zhs h j k (by omega) (by omega)
      have := h k hk
      simp only [tot]; omega
    · rw [show j = k + 1 by omega]; exact Int.le_refl _
theorem sumL_tot {f : List Int} : ∀ (al : List Arc) (left : Int) (k : Nat), (Zik left (al.drop k)).isSome = true → 0 ≤ left → k ≤ al.length → (∀ i, i < al.length → 0 ≤ f.getD i 0 ∧ f.getD i 0 ≤ (al.getD i default).cap) → tot f al.length - tot f k ≤ left := by
 intro al left k
 induction hn : al.length - k generalizing left k with
 | zero =>
  intro _ h0 hk _
  rw [show k = al.length by omega]; omega
 | succ n ih =>
  intro hs h0 hk hf
  have hkl : k < al.length := by omega
  rw [Ziv hkl] at hs
  by_cases hc : (al.getD k default).cap < 0 ∨ left < (al.getD k default).cap
  · rw [if_pos hc] at hs; cases hs
  ·
   rw [if_neg hc] at hs
   have := ih (left - (al.getD k default).cap) (k + 1) (by omega) hs (by omega) (by omega) hf
   have hfk := hf k hkl
   simp only [tot] at this
   omega
def FwithinP (n : Net) (f : List Int) : Prop := Z6m n.N n.S n.T n.Arcs = 0 ∧ f.length = n.Arcs.length ∧ ∀ i, i < n.Arcs.length → 0 ≤ f.getD i 0 ∧ f.getD i 0 ≤ (n.Arcs.getD i default).cap
theorem FwithinP.tot {n : Net} {f : List Int} (h : FwithinP n f) : ∀ k, k ≤ n.Arcs.length → 0 ≤ tot f k ∧ tot f k ≤ 4611686018427387904 := by
 intro k hk
 have hz := Z1g h.1
 have h1 := sumL_tot (f := f) n.Arcs 4611686018427387904 0 (by simpa using hz.2.2.2.2.2) (by omega) (by omega) h.2.2
 have h2 := Zhs (fun i hi => (h.2.2 i hi).1) k n.Arcs.length hk (Nat.le_refl _)
 have h3 := Zhs (fun i hi => (h.2.2 i hi).1) 0 k (by omega) hk
 simp only [Acq.tot] at h1 h3
 omega
theorem Zj0 {n : Net} {f : List Int} (hl : lenok n.Arcs.length) : Ok (Z6c n f) (fun b => b = true ↔ FwithinP n f) := by
 unfold Z6c
 refine Ok.bind.2 (Zau (Zhw n hl) (Ok.ite.2 ⟨fun h => Ok.some.2 ⟨fun h2 => (by cases h2), fun h2 => absurd h2.1 h⟩, fun h1 => Ok.ite.2 ⟨fun h => Ok.some.2 ⟨fun h2 => (by cases h2), fun h2 => absurd h2.2.1 (by omega)⟩, fun h2 => Ok.bind.2 ?_⟩⟩))
 have hz := Z1g (Classical.not_not.1 h1)
 refine Z7s (fun x => ∃ k : Nat, x = k ∧ k ≤ n.Arcs.length ∧ ∀ i, i < k → 0 ≤ f.getD i 0 ∧ f.getD i 0 ≤ (n.Arcs.getD i default).cap) (fun x => (n.Arcs.length - x).toNat) ⟨0, rfl, by omega, fun i hi => by omega⟩ (by unfold Z4d; omega) ?_
 rintro x ⟨k, rfl, hk, h3⟩ P next exit
 unfold Z5i
 simp only [Int.toNat_natCast]
 refine Ok.ite.2 ⟨fun hx => ?_, fun hx => ?_⟩
 ·
  refine Ok.gd.2 ⟨(by omega), Ok.gd.2 ⟨(by omega), Ok.ite.2 ⟨fun h => Ok.some.2 (exit _ (Ok.some.2 ⟨fun h2 => (by cases h2), fun h2 => by have := h2.2.2 k (by omega); omega⟩)), fun h4 => Ok.gd.2 ⟨(by omega), Ok.ite.2 ⟨fun h => Ok.some.2 (exit _ (Ok.some.2 ⟨fun h2 => (by cases h2), fun h2 => by have := h2.2.2 k (by omega); omega⟩)), fun h5 => Ok.gd.2 ⟨(by omega), Ok.some.2 (next _ ⟨k + 1, by simp, by omega, fun i hi => ?_⟩ (by omega))⟩⟩⟩⟩⟩⟩
  rcases Nat.lt_or_ge i k with h | h
  · exact h3 i h
  · rw [show i = k by omega]; omega
 ·
  refine Ok.some.2 (exit _ ?_)
  unfold Z6r
  exact Ok.some.2 ⟨fun _ => ⟨Classical.not_not.1 h1, by omega, fun i hi => h3 i (by omega)⟩, fun _ => rfl⟩
theorem Zl7 {n : Net} {f : List Int} (hl : lenok n.Arcs.length) : Ok (Z6d n f) (fun r => (FwithinP n f ∧ r.2 = 0 ∧ r.1.length = n.N.toNat ∧ ∀ v : Nat, v < n.N.toNat → r.1.getD v 0 = ex n.Arcs f v n.Arcs.length) ∨ (¬ FwithinP n f ∧ r = ([], 20))) := by
 unfold Z6d
 refine Ok.bind.2 (Ok.mono (Zj0 hl) fun b hb => Ok.ite.2 ⟨fun h => Ok.some.2 (.inr ⟨fun h2 => (by rw [hb.2 h2] at h; cases h), rfl⟩), fun h => ?_⟩)
 have hw : FwithinP n f := hb.1 (by cases b; exact absurd rfl h; rfl)
 have hz := Z1g hw.1
 obtain ⟨m, hm⟩ : ∃ m : Nat, n.N = m := ⟨n.N.toNat, by omega⟩
 have he : Z3v m n.Arcs := Z60 (by rw [← hm]; exact hz.2.2.2.1)
 have hfl := hw.2.1
 refine Ok.gd.2 ⟨(by omega), Ok.bind.2 ?_⟩
 rw [hm]
 simp only [Int.toNat_natCast]
 refine Z7s (fun s => ∃ k : Nat, s.2 = k ∧ k ≤ n.Arcs.length ∧ s.1.length = m ∧ ∀ v : Nat, v < m → s.1.getD v 0 = ex n.Arcs f v k) (fun s => (n.Arcs.length - s.2).toNat) ⟨0, rfl, by omega, List.length_replicate, fun v _ => by rw [Z32]; rfl⟩ (by unfold Z4d; simp only; omega) ?_
 rintro ⟨xs, x⟩ ⟨k, h1, hk, h3, h4⟩ P next exit
 simp only at h1 h3 h4 next ⊢
 subst h1
 unfold Z5j
 simp only [Int.toNat_natCast]
 refine Ok.ite.2 ⟨fun hx => ?_, fun hx => ?_⟩
 ·
  have hkl : k < n.Arcs.length := by omega
  have e0 := he k hkl false
  have e1 := he k hkl true
  simp only [vtx, Bool.false_eq_true, if_false, if_true] at e0 e1
  obtain ⟨p, hp⟩ : ∃ p : Nat, (n.Arcs.getD k default).fr = p := ⟨(n.Arcs.getD k default).fr.toNat, by omega⟩
  obtain ⟨q, hq⟩ : ∃ q : Nat, (n.Arcs.getD k default).to = q := ⟨(n.Arcs.getD k default).to.toNat, by omega⟩
  have hfk := hw.2.2 k hkl
  have b0 := Zmg (al := n.Arcs) (f := f) (p : Int) (fun i hi => (hw.2.2 i hi).1) k hk
  have b1 := Zmg (al := n.Arcs) (f := f) (q : Int) (fun i hi => (hw.2.2 i hi).1) k hk
  have t0 := hw.tot k hk
  have t1 := hw.tot (k + 1) hkl
  simp only [tot] at t1
  rw [hp] at e0
  rw [hq] at e1
  have v0 := h4 p (by omega)
  have v1 := h4 q (by omega)
  simp only [hp, hq, Int.toNat_natCast, v0, Zdd, List.length_set, h3]
  refine Ok.gd.2 ⟨(by omega), Ok.gd.2 ⟨(by omega), Ok.gd.2 ⟨(by omega), Ok.gd.2 ⟨(by omega), Ok.gd.2 ⟨(by omega), Ok.gd.2 ⟨(by omega), Ok.gd.2 ⟨(by omega), Ok.gd.2 ⟨by split <;> constructor <;> omega, Ok.gd.2 ⟨(by omega), Ok.gd.2 ⟨(by omega), Ok.some.2 (next _ ⟨k + 1, by simp, by omega, by simp [h3], fun v hv => ?_⟩ (by simp only; omega))⟩⟩⟩⟩⟩⟩⟩⟩⟩⟩
  simp only [Zdd, List.length_set, h3, ex, hp, hq]
  rw [h4 v hv]
  by_cases c1 : p = v
  ·
   subst c1
   by_cases c2 : q = p
   ·
    subst c2
    simp only [true_and, if_true]
    rw [if_pos (by omega)]; simp [show q < m by omega]
   · rw [if_neg (fun h => c2 h.1), if_pos ⟨rfl, by omega⟩, if_pos rfl, if_neg (by omega)]; omega
  ·
   by_cases c2 : q = v
   ·
    subst c2
    rw [if_pos ⟨rfl, by omega⟩, if_neg (fun h => c1 h.1), if_neg (by omega), if_pos rfl, v1]; omega
   · rw [if_neg (fun h => c2 h.1), if_neg (fun h => c1 h.1), if_neg (by omega), if_neg (by omega)]; omega
 ·
  refine Ok.some.2 (exit _ ?_)
  unfold Z6s
  rw [show k = n.Arcs.length by omega] at h4
  exact Ok.some.2 (.inl ⟨hw, rfl, h3, h4⟩)
theorem Zm5 {s : List Int} {v : Int} (hl : lenok s.length) : Z3s s v = some (s.contains v) := by
 refine Zmb ?_
 unfold Z3s Z5q
 refine Ok.bind.2 (Ok.bind.2 (Z7s (fun x => ∃ k : Nat, x = k ∧ k ≤ s.length ∧ ∀ j, j < k → s.getD j 0 ≠ v) (fun x => (s.length - x).toNat) ⟨0, rfl, by omega, fun j hj => by omega⟩ (by unfold Z4d; omega) ?_))
 rintro x ⟨k, rfl, g2, g3⟩ P next exit
 unfold Z3r
 simp only [Int.toNat_natCast]
 refine Ok.ite.2 ⟨fun hx => ?_, fun hx => ?_⟩
 ·
  refine Ok.gd.2 ⟨(by omega), Ok.ite.2 ⟨fun h => Ok.some.2 (exit _ (Ok.some.2 (Ok.some.2 ?_))), fun h => Ok.gd.2 ⟨(by omega), Ok.some.2 (next _ ⟨k + 1, by simp, by omega, fun j hj => ?_⟩ (by omega))⟩⟩⟩
  ·
   rw [show s.contains v = true from List.contains_iff_mem.2 (by rw [h]; exact Z8w (by omega) 0)]
   exact decide_eq_true (by omega)
  ·
   rcases Nat.lt_or_ge j k with h1 | h1
   · exact g3 j h1
   · rw [show j = k by omega]; exact fun e => h e.symm
 ·
  refine Ok.some.2 (exit _ ?_)
  unfold Z4p
  refine Ok.some.2 (Ok.some.2 ?_)
  have : s.contains v = false := by
   rw [Bool.eq_false_iff]
   intro hc
   obtain ⟨j, hj, e⟩ := List.mem_iff_getElem.1 (List.contains_iff_mem.1 hc)
   have := g3 j (by omega)
   rw [List.getD_eq_getElem?_getD, List.getElem?_eq_getElem hj] at this
   exact this e
  rw [this]
  exact decide_eq_false (by omega)
theorem Zb1 {b : Bool} (h : ¬(!b) = true) : b = true := by cases b; exact absurd rfl h; rfl
theorem Zmc {l : List Int} {x : Int} (h : ¬(!l.contains x) = true) : x ∈ l := List.contains_iff_mem.1 (Zb1 h)
def Zo6 (n : Net) (f : List Int) (so : Int → Prop) (but : List Int) : Prop := FwithinP n f ∧ ∀ v : Nat, v < n.N.toNat → so (ex n.Arcs f v n.Arcs.length) ∨ (v : Int) ∈ but
theorem s_Right {n : Net} {f : List Int} (hl : lenok n.Arcs.length) : Ok (Z8c n f) (fun b => b = true ↔ Zo6 n f (fun x => x = 0) [n.S, n.T]) := by
 unfold Z8c Z5s
 refine Ok.bind.2 (Ok.mono (Q := fun b => b = true ↔ Zo6 n f (fun x => x = 0) [n.S, n.T]) ?_ fun b hb => Ok.some.2 hb)
 refine Ok.bind.2 (Ok.mono (Zl7 hl) ?_)
 rintro ⟨l, e⟩ hle
 refine Ok.bind.2 (Z7s (fun x => ∃ k : Nat, x = k ∧ k ≤ l.length ∧ ∀ v, v < k → l.getD v 0 = 0 ∨ (v : Int) ∈ [n.S, n.T]) (fun x => (l.length - x).toNat) ⟨0, rfl, by omega, fun j hj => by omega⟩ ?_ ?_)
 ·
  rcases hle with ⟨hw, -, h2, -⟩ | ⟨-, h2⟩
  · have := Z1g hw.1; simp only at h2; unfold Z4d; omega
  · injection h2 with h2 h3; subst h2; unfold Z4d; simp
 rintro x ⟨k, rfl, g2, g3⟩ P next exit
 unfold Z3t Z86
 simp only [Int.toNat_natCast]
 have hlen : l.length ≤ 4096 := by
  rcases hle with ⟨hw, -, h2, -⟩ | ⟨-, h2⟩
  · have := Z1g hw.1; simp only at h2; omega
  · injection h2 with h2 h3; subst h2; simp
 refine Ok.ite.2 ⟨fun hx => ?_, fun hx => ?_⟩
 ·
  refine Ok.gd.2 ⟨(by omega), Ok.bind.2 (Ok.some.2 (Ok.ite.2 ⟨fun h => Ok.bind.2 (Zau (Zm5 (by simp)) (Ok.ite.2 ⟨fun h2 => Ok.some.2 (exit _ (Ok.some.2 ⟨fun h3 => (by cases h3), fun h3 => ?_⟩)), fun h2 => Ok.gd.2 ⟨(by omega), Ok.some.2 (next _ ⟨k + 1, by simp, by omega, fun j hj => ?_⟩ (by omega))⟩⟩)), fun h => Ok.gd.2 ⟨(by omega), Ok.some.2 (next _ ⟨k + 1, by simp, by omega, fun j hj => ?_⟩ (by omega))⟩⟩))⟩
  ·
   exfalso
   rcases hle with ⟨hw, -, h5, h6⟩ | ⟨h5, -⟩
   ·
    simp only at h5 h6
    rcases h3.2 k (by omega) with h7 | h7
    · rw [← h6 k (by omega)] at h7; rw [decide_eq_true h7] at h; cases h
    · rw [List.contains_iff_mem.2 h7] at h2; cases h2
   · exact h5 h3.1
  ·
   rcases Nat.lt_or_ge j k with h1 | h1
   · exact g3 j h1
   · rw [show j = k by omega]; right; exact Zmc h2
  ·
   rcases Nat.lt_or_ge j k with h1 | h1
   · exact g3 j h1
   · rw [show j = k by omega]; left; exact of_decide_eq_true (Zb1 h)
 ·
  refine Ok.some.2 (exit _ ?_)
  unfold Z4s
  refine Ok.some.2 ?_
  rcases hle with ⟨hw, h4, h5, h6⟩ | ⟨h5, h6⟩
  ·
   simp only at h4 h5 h6
   refine ⟨fun _ => ⟨hw, fun v hv => ?_⟩, fun _ => decide_eq_true h4⟩
   rw [← h6 v hv]; exact g3 v (by omega)
  ·
   injection h6 with h6 h7
   simp only [h7]
   exact ⟨fun h => (by cases h), fun h => absurd h.1 h5⟩
theorem s_Value {n : Net} {f : List Int} (hl : lenok n.Arcs.length) : Ok (Z8b n f) (fun r => (Zo6 n f (fun x => x = 0) [n.S, n.T] ∧ r = (ex n.Arcs f n.T n.Arcs.length, 0)) ∨ (¬ Zo6 n f (fun x => x = 0) [n.S, n.T] ∧ r = (0, 20))) := by
 unfold Z8b
 refine Ok.bind.2 (Ok.mono (s_Right hl) fun b hb => Ok.ite.2 ⟨fun h => Ok.some.2 (.inr ⟨fun h2 => (by rw [hb.2 h2] at h; cases h), rfl⟩), fun h => ?_⟩)
 have hw := hb.1 (by cases b; exact absurd rfl h; rfl)
 refine Ok.bind.2 (Ok.mono (Zl7 hl) ?_)
 rintro ⟨l, e⟩ (⟨-, h2, h3, h4⟩ | ⟨h2, -⟩)
 ·
  simp only at h2 h3 h4 ⊢
  have hz := Z1g hw.1.1
  have hT := of_decide_eq_true hz.2.2.1.2.1
  refine Ok.gd.2 ⟨(by omega), Ok.some.2 (.inl ⟨hw, ?_⟩)⟩
  rw [h4 n.T.toNat (by omega), h2, Int.toNat_of_nonneg hT.1]
 · exact absurd hw.1 h2
end Go.Acq
namespace Go.Acq
open Go
set_option linter.unusedSimpArgs false
theorem Z46 {α : Type} {xs ys : List α} {d : α} {i : Nat} (h : i < xs.length) : (xs ++ ys).getD i d = xs.getD i d := by
 rw [List.getD_eq_getElem?_getD, List.getElem?_append_left h, List.getD_eq_getElem?_getD]
theorem Za9 {α : Type} {xs ys : List α} {d : α} {i : Nat} (h : xs.length ≤ i) : (xs ++ ys).getD i d = ys.getD (i - xs.length) d := by
 rw [List.getD_eq_getElem?_getD, List.getElem?_append_right h, List.getD_eq_getElem?_getD]
theorem Ze3 {α : Type} {xs : List α} {d : α} {i k : Nat} (h : i < k) : (xs.take k).getD i d = xs.getD i d := by
 simp [List.getD_eq_getElem?_getD, List.getElem?_take, h]
theorem Zme {α : Type} {xs : List α} {d : α} {i k : Nat} : (xs.drop k).getD i d = xs.getD (k + i) d := by
 simp [List.getD_eq_getElem?_getD]
theorem Zli {α : Type} {xs ys : List α} {d : α} {i : Nat} (h : i < xs.length) : (cpy xs ys).getD i d = if i < ys.length then ys.getD i d else xs.getD i d := by
 unfold cpy
 by_cases c : i < ys.length
 · rw [if_pos c, Z46 (by rw [List.length_take]; omega), Ze3 (by omega)]
 ·
  rw [if_neg c, Za9 (by rw [List.length_take]; omega), Zme, List.length_take]
  congr 1; omega
theorem fdiv0 {y : Int} (h : 0 ≤ y) (h2 : y < 4294967296) : Int.fdiv y (2 ^ 32) = 0 := by
 rw [Int.fdiv_eq_ediv_of_nonneg _ (by decide)]
 exact Int.ediv_eq_zero_of_lt h (by omega)
theorem s_Mul1 {m : Int → Int → Option (Int × Int)} {y : Int} (h : 0 ≤ y) (h2 : y < 4294967296)
    (hm : m = fun x0 y1 =>
      gd (u64ok x0) <| gd (u64ok y1) <| gd (u64ok ((x0 % 4294967296) * (y1 % 4294967296))) <| gd (u64ok ((Int.fdiv x0 (2 ^ 32)) * (y1 % 4294967296))) <|
      gd (u64ok (((Int.fdiv x0 (2 ^ 32)) * (y1 % 4294967296)) + (Int.fdiv ((x0 % 4294967296) * (y1 % 4294967296)) (2 ^ 32)))) <|
      gd (u64ok (((Int.fdiv x0 (2 ^ 32)) * (y1 % 4294967296)) + (Int.fdiv ((x0 % 4294967296) * (y1 % 4294967296)) (2 ^ 32)))) <|
      gd (u64ok ((x0 % 4294967296) * (Int.fdiv y1 (2 ^ 32)))) <|
      gd (u64ok (((((Int.fdiv x0 (2 ^ 32)) * (y1 % 4294967296)) + (Int.fdiv ((x0 % 4294967296) * (y1 % 4294967296)) (2 ^ 32))) % 4294967296) + ((x0 % 4294967296) * (Int.fdiv y1 (2 ^ 32))))) <|
      gd (u64ok ((Int.fdiv x0 (2 ^ 32)) * (Int.fdiv y1 (2 ^ 32)))) <|
      gd (u64ok (((Int.fdiv x0 (2 ^ 32)) * (Int.fdiv y1 (2 ^ 32))) + (Int.fdiv (((Int.fdiv x0 (2 ^ 32)) * (y1 % 4294967296)) + (Int.fdiv ((x0 % 4294967296) * (y1 % 4294967296)) (2 ^ 32))) (2 ^ 32)))) <|
      gd (u64ok ((((Int.fdiv x0 (2 ^ 32)) * (Int.fdiv y1 (2 ^ 32))) + (Int.fdiv (((Int.fdiv x0 (2 ^ 32)) * (y1 % 4294967296)) + (Int.fdiv ((x0 % 4294967296) * (y1 % 4294967296)) (2 ^ 32))) (2 ^ 32))) + (Int.fdiv (((((Int.fdiv x0 (2 ^ 32)) * (y1 % 4294967296)) + (Int.fdiv ((x0 % 4294967296) * (y1 % 4294967296)) (2 ^ 32))) % 4294967296) + ((x0 % 4294967296) * (Int.fdiv y1 (2 ^ 32)))) (2 ^ 32)))) <|
      gd (u64ok (x0 * y1)) <|
      some (((((Int.fdiv x0 (2 ^ 32)) * (Int.fdiv y1 (2 ^ 32))) + (Int.fdiv (((Int.fdiv x0 (2 ^ 32)) * (y1 % 4294967296)) + (Int.fdiv ((x0 % 4294967296) * (y1 % 4294967296)) (2 ^ 32))) (2 ^ 32))) + (Int.fdiv (((((Int.fdiv x0 (2 ^ 32)) * (y1 % 4294967296)) + (Int.fdiv ((x0 % 4294967296) * (y1 % 4294967296)) (2 ^ 32))) % 4294967296) + ((x0 % 4294967296) * (Int.fdiv y1 (2 ^ 32)))) (2 ^ 32))), (x0 * y1))) : m 1 y = some (0, y) := by
  subst hm
  have e1 : Int.fdiv 1 (2 ^ 32) = 0 := by decide
  have e2 : Int.fdiv y (2 ^ 32) = 0 := fdiv0 h h2
  have e3 : y % 4294967296 = y := Int.emod_eq_of_lt h h2
  have e4 : (1 : Int) % 4294967296 = 1 := by decide
  have e5 : Int.fdiv 0 (2 ^ 32) = 0 := by decide
  simp only [e1, e2, e3, e4, e5, Int.one_mul, Int.zero_mul, Int.mul_zero, Int.zero_add, Int.add_zero, Int.zero_emod]
  repeat rw [Z7t (by constructor <;> omega)]
theorem s_double {v : Int} {n : Nat} {step : List Int → Int → Option ((List Int × Int) ⊕ (List Int))} (hn : n ≤ 4611686018427387904)
    (hs : step = fun xs k => if k < (xs.length : Int) then (gd (0 ≤ k ∧ k ≤ (xs.length : Int)) <| gd (0 ≤ k ∧ k ≤ (xs.length : Int)) <|
      gd (i64ok (k + ((min (xs.drop k.toNat).length (xs.take k.toNat).length : Nat) : Int))) <|
      some (.inl ((xs.take k.toNat ++ cpy (xs.drop k.toNat) (xs.take k.toNat)), (k + ((min (xs.drop k.toNat).length (xs.take k.toNat).length : Nat) : Int))))) else some (.inr xs)) :
    Ok (Z28 (fun s => step s.1 s.2) Z4d ((cpy (List.replicate n (0 : Int)) [v]), ((min (List.replicate n (0 : Int)).length [v].length : Nat) : Int))) (fun r => r = List.replicate n v) := by
  subst hs
  refine Z7s (fun s => ∃ k : Nat, s.2 = k ∧ k ≤ n ∧ (0 < n → 0 < k) ∧ s.1.length = n ∧ ∀ i, i < k → s.1.getD i 0 = v) (fun s => (n - s.2).toNat) ⟨min n 1, by simp, by omega, by omega, Zi6 (by simp), fun i hi => ?_⟩ (by unfold Z4d; simp only [List.length_replicate, List.length_singleton]; omega) ?_
  · rw [Zli (by simp; omega), if_pos (by simp; omega), show i = 0 by omega]; rfl
  rintro ⟨xs, x⟩ ⟨k, h1, hk, hk0, hl, hv⟩ P next exit
  simp only at h1 hl hv next ⊢
  subst h1
  simp only [Int.toNat_natCast, List.length_drop, List.length_take, hl]
  refine Ok.ite.2 ⟨fun hx => Ok.gd.2 ⟨(by omega), Ok.gd.2 ⟨(by omega), Ok.gd.2 ⟨by constructor <;> omega, Ok.some.2 (next _ ⟨k + min (n - k) (min k n), by simp, by omega, by omega, ?_, fun i hi => ?_⟩ (by simp only; omega))⟩⟩⟩, fun hx => Ok.some.2 (exit _ ?_)⟩
  · simp only
    rw [List.length_append, Zi6 (n := n - k) (by rw [List.length_drop, hl]), List.length_take]; omega
  · simp only
    rcases Nat.lt_or_ge i k with h | h
    · rw [Z46 (by rw [List.length_take]; omega), Ze3 h]; exact hv i h
    · have e : (xs.take k).length = k := by rw [List.length_take]; omega
      rw [Za9 (by omega), e, Zli (by rw [List.length_drop]; omega), e, if_pos (by omega), Ze3 (by omega)]
      exact hv _ (by omega)
  · exact Zce 0 (by simp [hl]) fun i hi => by
      rw [hl] at hi
      rw [hv i (by omega), List.getD_eq_getElem?_getD, List.getElem?_replicate, if_pos hi]; rfl
theorem Zon {al : List Arc} {i v : Nat} {s : Bool} (hi : i < al.length) (hne : (al.getD i default).fr ≠ (al.getD i default).to) (h0 : 0 ≤ vtx (al.getD i default) s) (h1 : Z12 al v ≤ pos al i s) (h2 : pos al i s < Z12 al (v + 1)) : vtx (al.getD i default) s = v ∧ pos al i s = Z12 al v + cnt al v i := by
 obtain ⟨u, hu⟩ : ∃ u : Nat, vtx (al.getD i default) s = u := ⟨(vtx (al.getD i default) s).toNat, by omega⟩
 have hcl := Zeg (s := s) hi hne h0
 have hpos : pos al i s = Z12 al u + cnt al u i := by unfold pos; rw [hu, Int.toNat_natCast]
 rw [hu, Int.toNat_natCast] at hcl
 have hb1 : Z12 al (u + 1) = Z12 al u + cnt al u al.length := rfl
 have : u = v := by
  rcases Nat.lt_trichotomy u v with h | h | h
  · have := Z41 (al := al) (show u + 1 ≤ v by omega); omega
  · exact h
  · have := Z41 (al := al) (show v + 1 ≤ u by omega); omega
 subst this
 exact ⟨hu, hpos⟩
end Go.Acq
namespace Go.Acq
open Go
set_option linter.unusedSimpArgs false
def inS (c : List Bool) (v : Int) : Bool := c.getD v.toNat false
def CutR (n : Net) (c : List Bool) : Prop := Z6m n.N n.S n.T n.Arcs = 0 ∧ (c.length : Int) = n.N ∧ inS c n.S = true ∧ inS c n.T = false
theorem Zm4 {n : Net} {c : List Bool} (hl : lenok n.Arcs.length) : Ok (Z9c n c) (fun b => b = true ↔ CutR n c) := by
 unfold Z9c
 refine Ok.bind.2 (Zau (Zhw n hl) (Ok.ite.2 ⟨fun h0 => Ok.ite.2 ⟨fun h1 => ?_, fun h1 => Ok.some.2 ⟨fun h => (by cases h), fun h => absurd h.2.1 h1⟩⟩, fun h0 => Ok.some.2 ⟨fun h => (by cases h), fun h => absurd h.1 h0⟩⟩))
 have hz := Z1g h0
 simp only [Z3o, decide_eq_true_eq] at hz
 refine Ok.gd.2 ⟨(by omega), Ok.ite.2 ⟨fun h2 => Ok.gd.2 ⟨(by omega), Ok.some.2 ⟨fun h3 => ⟨h0, h1, h2, by simpa [inS] using h3⟩, fun h3 => by have := h3.2.2.2; simpa [inS] using this⟩⟩, fun h2 => Ok.some.2 ⟨fun h => (by cases h), fun h => absurd h.2.2.1 h2⟩⟩⟩
theorem s_has {c : List Bool} {v : Int} (h0 : 0 ≤ v) (h : v < c.length) : Za4 c v = some (inS c v) := by
 unfold Za4
 rw [if_pos h, Z7t ⟨h0, h⟩]; rfl
theorem s_across {S X : Type} {y : S → Int × Bool → Option (S ⊕ X)} {n : Net} {c : List Bool} {m : Nat} {s0 : S} (I : Nat → S → Prop) (J : X → Prop) (he : Z3v m n.Arcs) (hc : c.length = m) (hl : lenok n.Arcs.length) (h0 : I 0 s0)
    (hstep : ∀ k s, k < n.Arcs.length → I k s → (inS c (n.Arcs.getD k default).fr ≠ inS c (n.Arcs.getD k default).to → Ok (y s ((k : Int), inS c (n.Arcs.getD k default).fr)) (fun r => match r with | .inl s' => I (k + 1) s' | .inr x => J x)) ∧
      (inS c (n.Arcs.getD k default).fr = inS c (n.Arcs.getD k default).to → I (k + 1) s)) :
    Ok (Z6l y n c (.inl s0)) (fun t => match t with | .inl s => I n.Arcs.length s | .inr x => J x) := by
  unfold Z6l
  refine Ok.bind.2 (Z7s (fun s => ∃ (k : Nat) (st : S), s = ((k : Int), Sum.inl st) ∧ k ≤ n.Arcs.length ∧ I k st) (fun s => (n.Arcs.length - s.1).toNat) ⟨0, s0, rfl, by omega, h0⟩ (by unfold Z4d; simp only; omega) ?_)
  rintro s ⟨k, st, rfl, hk, hI⟩ P next exit
  unfold Z52
  simp only [Int.toNat_natCast]
  refine Ok.ite.2 ⟨fun hx => ?_, fun hx => Ok.some.2 (exit _ (Ok.some.2 ?_))⟩
  · have hkl : k < n.Arcs.length := by omega
    have e0 := he k hkl false
    have e1 := he k hkl true
    simp only [vtx, Bool.false_eq_true, if_false, if_true] at e0 e1
    obtain ⟨g1, g2⟩ := hstep k st hkl hI
    refine Ok.gd.2 ⟨(by omega), Ok.bind.2 (Zau (s_has e0.1 (by omega)) (Ok.bind.2 (Zau (s_has e1.1 (by omega)) (Ok.ite.2 ⟨fun h => ?_, fun h => ?_⟩))))⟩
    · have hne : inS c (n.Arcs.getD k default).fr ≠ inS c (n.Arcs.getD k default).to := fun e => by rw [e] at h; simp at h
      refine Ok.bind.2 ?_
      show Ok (y st _) _
      refine Ok.mono (g1 hne) ?_
      rintro (s' | x) hr
      · exact Ok.ite.2 ⟨fun h => by simp at h, fun _ => Ok.gd.2 ⟨(by omega), Ok.some.2 (next _ ⟨k + 1, s', by simp, by omega, hr⟩ (by simp only; omega))⟩⟩
      · exact Ok.ite.2 ⟨fun _ => Ok.some.2 (exit _ (Ok.some.2 hr)), fun h => by simp at h⟩
    · have heq : inS c (n.Arcs.getD k default).fr = inS c (n.Arcs.getD k default).to := by simpa using h
      exact Ok.gd.2 ⟨(by omega), Ok.some.2 (next _ ⟨k + 1, st, by simp, by omega, g2 heq⟩ (by simp only; omega))⟩
  · obtain rfl : k = n.Arcs.length := by omega
    exact hI
def Zgc (al : List Arc) (c : List Bool) : Nat → Int
  | 0 => 0
  | k + 1 => Zgc al c k + (if inS c (al.getD k default).fr = true ∧ inS c (al.getD k default).to = false then (al.getD k default).cap else 0)
def acK (al : List Arc) (f : List Int) (c : List Bool) : Nat → Int
  | 0 => 0
  | k + 1 => acK al f c k + (if inS c (al.getD k default).fr = true ∧ inS c (al.getD k default).to = false then f.getD k 0 else 0) - (if inS c (al.getD k default).fr = false ∧ inS c (al.getD k default).to = true then f.getD k 0 else 0)
def totC (al : List Arc) : Nat → Int
  | 0 => 0
  | k + 1 => totC al k + (al.getD k default).cap
theorem Zi7 {al : List Arc} {c : List Bool} (h : ∀ i, i < al.length → 0 ≤ (al.getD i default).cap) : ∀ k, k ≤ al.length → 0 ≤ Zgc al c k ∧ Zgc al c k ≤ totC al k
 | 0, _ => by simp [Zgc, totC]
 | k + 1, hk => by
  have ih := Zi7 (c := c) h k (by omega)
  have := h k (by omega)
  simp only [Zgc, totC]
  split <;> omega
theorem Zl5 (al : List Arc) : ∀ k, k ≤ al.length → totC al k = tot (al.map (·.cap)) k
 | 0, _ => rfl
 | k + 1, hk => by
  simp only [totC, tot, Zl5 al k (by omega)]
  rw [List.getD_eq_getElem?_getD, List.getD_eq_getElem?_getD, List.getElem?_map, List.getElem?_eq_getElem (show k < al.length by omega)]; rfl
theorem Zou {al : List Arc} {i : Nat} (hi : i < al.length) : (al.map (·.cap)).getD i 0 = (al.getD i default).cap := by
 rw [List.getD_eq_getElem?_getD, List.getD_eq_getElem?_getD, List.getElem?_map, List.getElem?_eq_getElem hi]; rfl
theorem Zks {n : Net} (h : Z6m n.N n.S n.T n.Arcs = 0) (hc : ∀ i, i < n.Arcs.length → 0 ≤ (n.Arcs.getD i default).cap) : FwithinP n (n.Arcs.map (·.cap)) :=
 ⟨h, by simp, fun i hi => by rw [Zou hi]; exact ⟨hc i hi, Int.le_refl _⟩⟩
theorem Zaa {n : Net} (h : Z6m n.N n.S n.T n.Arcs = 0) : ∀ i, i < n.Arcs.length → 0 ≤ (n.Arcs.getD i default).cap := fun i hi => by
 have := List.all_eq_true.1 (Z1g h).2.2.2.2.1 _ (Z8w hi default)
 simpa [Zoz] using this
theorem Zd0 {n : Net} (h : Z6m n.N n.S n.T n.Arcs = 0) : ∀ k, k ≤ n.Arcs.length → 0 ≤ totC n.Arcs k ∧ totC n.Arcs k ≤ 4611686018427387904 := fun k hk => by
 rw [Zl5 _ k hk]
 have := (Zks h (Zaa h)).tot k (by simpa using hk)
 exact this
theorem Zf4 {n : Net} (h : Z6m n.N n.S n.T n.Arcs = 0) : ∃ m : Nat, n.N = m ∧ Z3v m n.Arcs := by
 have hz := Z1g h
 obtain ⟨m, hm⟩ : ∃ m : Nat, n.N = m := ⟨n.N.toNat, by omega⟩
 exact ⟨m, hm, Z60 (by rw [← hm]; exact hz.2.2.2.1)⟩
theorem s_Cap {n : Net} {c : List Bool} (hl : lenok n.Arcs.length) : Ok (Zbm n c) (fun r => (CutR n c ∧ r = (Zgc n.Arcs c n.Arcs.length, 0)) ∨ (¬CutR n c ∧ r = (0, 2))) := by
 unfold Zbm
 refine Ok.bind.2 (Ok.mono (Zm4 hl) fun b hb => Ok.ite.2 ⟨fun h => Ok.some.2 (.inr ⟨fun h2 => (by rw [hb.2 h2] at h; cases h), rfl⟩), fun h => ?_⟩)
 have hR := hb.1 (Zb1 h)
 obtain ⟨m, hm, he⟩ := Zf4 hR.1
 refine Ok.bind.2 (Ok.some.2 (Ok.bind.2 (Ok.mono (s_across (m := m) (fun k s => s = Zgc n.Arcs c k) (fun _ => True) he (by have := hR.2.1; omega) hl rfl ?_) ?_)))
 ·
  rintro k s hk rfl
  refine ⟨fun hne => ?_, fun heq => ?_⟩
  ·
   unfold Z72
   have b1 := Zi7 (c := c) (Zaa hR.1) (k + 1) hk
   have b2 := Zd0 hR.1 (k + 1) hk
   simp only [Int.toNat_natCast]
   refine Ok.ite.2 ⟨fun h => ?_, fun h => Ok.some.2 ?_⟩
   ·
    have h' : inS c (n.Arcs.getD k default).to = false := by cases hq : inS c (n.Arcs.getD k default).to; rfl; rw [h, hq] at hne; exact absurd rfl hne
    simp only [Zgc] at b1 ⊢
    rw [if_pos ⟨h, h'⟩] at b1 ⊢
    exact Ok.gd.2 ⟨(by omega), Ok.gd.2 ⟨(by omega), Ok.some.2 rfl⟩⟩
   ·
    simp only [Zgc]
    rw [if_neg (fun h2 => h h2.1), Int.add_zero]
  ·
   simp only [Zgc]
   rw [if_neg (fun h2 => (by rw [heq, h2.2] at h2; cases h2.1)), Int.add_zero]
 ·
  rintro (s | x) hs
  · exact Ok.some.2 (.inl ⟨hR, by rw [hs]⟩)
  · exact nomatch x
def Zcu (al : List Arc) (f : List Int) (c : List Bool) (i : Nat) : Prop :=
  (inS c (al.getD i default).fr = true → inS c (al.getD i default).to = false → (al.getD i default).cap ≤ f.getD i 0) ∧ (inS c (al.getD i default).fr = false → inS c (al.getD i default).to = true → f.getD i 0 ≤ 0)
end Go.Acq
namespace Go.Acq
open Go
set_option linter.unusedSimpArgs false
inductive Reach (G : Nat → Nat → Prop) (s : Nat) : Nat → Prop
  | refl : Reach G s s
  | step {u v : Nat} : Reach G s u → G u v → Reach G s v
theorem Reach.trans {G : Nat → Nat → Prop} {a b c : Nat} (h : Reach G a b) (g : Reach G b c) : Reach G a c := by
 induction g with
 | refl => exact h
 | step _ h2 ih => exact .step ih h2
theorem Reach.flip {G : Nat → Nat → Prop} {a b : Nat} (h : Reach G a b) : Reach (fun u v => G v u) b a := by
 induction h with
 | refl => exact .refl
 | step _ h2 ih => exact Reach.trans (.step .refl h2) ih
theorem Reach.mono {G K : Nat → Nat → Prop} {a b : Nat} (h : Reach G a b) (hk : ∀ u v, G u v → K u v) : Reach K a b := by
 induction h with
 | refl => exact .refl
 | step _ h2 ih => exact .step ih (hk _ _ h2)
def tc (l : List Bool) : Nat → Nat
  | 0 => 0
  | k + 1 => tc l k + if l.getD k false = true then 1 else 0
theorem tc_le (l : List Bool) : ∀ k, tc l k ≤ k
 | 0 => Nat.le_refl _
 | k + 1 => by have := tc_le l k; simp only [tc]; split <;> omega
theorem Zit {l : List Bool} {i : Nat} (hi : i < l.length) (hf : l.getD i false = false) : ∀ k : Nat, tc (l.set i true) k = tc l k + (if i < k then 1 else 0)
 | 0 => by simp [tc]
 | k + 1 => by
  have ih := Zit hi hf k
  simp only [tc, ih, Zdd]
  by_cases c : i = k
  ·
   subst c
   rw [if_neg (show ¬ i < i by omega), if_pos (show i = i ∧ i < l.length from ⟨rfl, hi⟩), hf, if_pos rfl, if_pos (show i < i + 1 by omega)]; rfl
  ·
   rw [if_neg (show ¬(i = k ∧ i < l.length) from fun h => c h.1)]
   by_cases c2 : i < k
   · rw [if_pos c2, if_pos (show i < k + 1 by omega)]; omega
   · rw [if_neg c2, if_neg (show ¬ i < k + 1 by omega)]; omega
theorem Zkj (n : Nat) : ∀ k, tc (List.replicate n false) k = 0
 | 0 => rfl
 | k + 1 => by simp only [tc, Zkj n k, Z32]; rfl
def g_s2 (c0 : Csr) (my : Int → Option Bool) (i25 : Int) (xs29 : List Bool) (row31 : List Int) (a41 : Int) : Option ((List Bool × List Int × Int) ⊕ (List Bool × List Int)) :=
  gd (inb i25 row31.length) <|
  gd (i64ok ((row31.getD i25.toNat 0) + 1)) <|
  gd (inb ((row31.getD i25.toNat 0) + 1) c0.First.length) <|
  if a41 < (c0.First.getD ((row31.getD i25.toNat 0) + 1).toNat 0) then
  (Option.bind (my a41) fun r46 =>
  if r46 = true then
  (gd (inb a41 c0.Head.length) <|
  Option.bind (Z7x (c0.Head.getD a41.toNat 0) xs29 row31) fun (r50, r51) =>
  gd (i64ok (a41 + 1)) <|
  some (.inl (r50, r51, (a41 + 1))))
  else
  gd (i64ok (a41 + 1)) <|
  some (.inl (xs29, row31, (a41 + 1))))
  else
  some (.inr (xs29, row31))
def g_s1 (c0 : Csr) (my : Int → Option Bool) (xs13 : List Bool) (row15 : List Int) (i25 : Int) : Option ((List Bool × List Int × Int) ⊕ (List Bool)) :=
  if i25 < (row15.length : Int) then
  (gd (inb i25 row15.length) <|
  gd (inb (row15.getD i25.toNat 0) c0.First.length) <|
  Option.bind (Z28 (fun s => g_s2 c0 my i25 s.1 s.2.1 s.2.2) Z4d (xs13, row15, (c0.First.getD (row15.getD i25.toNat 0).toNat 0))) fun (p2_0_0, p2_0_1) => gd (i64ok (i25 + 1)) <| some (.inl (p2_0_0, p2_0_1, (i25 + 1))))
  else
  some (.inr xs13)
def g_met (c0 : Csr) (from1 : Int) (my : Int → Option Bool) : Option (List Bool) :=
  gd (mkok c0.N) <|
  gd (inb from1 (List.replicate c0.N.toNat (false : Bool)).length) <|
  Option.bind (Z28 (fun s => g_s1 c0 my s.1 s.2.1 s.2.2) Z4d (((List.replicate c0.N.toNat (false : Bool)).set from1.toNat true), [from1], 0)) fun p1_0_0 => some p1_0_0
theorem g_From (c : Csr) (s : Int) (r : List Int) : Z6t c s r = g_met c s (fun a => Z8d a r) := rfl
theorem g_To (c : Csr) (s : Int) (r : List Int) (d : Csr) : Z87 c s r d = g_met c s (fun a => Za5 a r d) := rfl
structure MetI (G : Nat → Nat → Prop) (s m : Nat) (xs : List Bool) (row : List Int) : Prop where
  len : xs.length = m
  nat : ∀ q, q < row.length → ∃ v : Nat, row.getD q 0 = v ∧ v < m ∧ xs.getD v false = true ∧ Reach G s v
  has : ∀ v, v < m → xs.getD v false = true → ∃ q, q < row.length ∧ row.getD q 0 = (v : Int)
  cnt : row.length = tc xs m
theorem MetI.le {G : Nat → Nat → Prop} {s m : Nat} {xs : List Bool} {row : List Int} (h : MetI G s m xs row) : row.length ≤ m := by rw [h.cnt]; exact tc_le _ _
theorem MetI.put {G : Nat → Nat → Prop} {s m v : Nat} {xs : List Bool} {row : List Int} (h : MetI G s m xs row) (hv : v < m) (hf : xs.getD v false = false) (hr : Reach G s v) : MetI G s m (xs.set v true) (row ++ [(v : Int)]) := by
 have hl := h.len
 refine ⟨by simp [hl], fun q hq => ?_, fun u hu hx => ?_, ?_⟩
 ·
  rw [List.length_append, List.length_singleton] at hq
  rcases Nat.lt_or_ge q row.length with h1 | h1
  ·
   obtain ⟨u, h2, h3, h4, h5⟩ := h.nat q h1
   refine ⟨u, by rw [Z46 h1]; exact h2, h3, ?_, h5⟩
   rw [Zdd]; split
   · rfl
   · exact h4
  ·
   refine ⟨v, ?_, hv, by rw [Zdd, if_pos ⟨rfl, by omega⟩], hr⟩
   rw [Za9 h1, show q - row.length = 0 by omega]; rfl
 ·
  rw [Zdd] at hx
  by_cases c : v = u
  ·
   refine ⟨row.length, by simp, ?_⟩
   rw [Za9 (Nat.le_refl _), Nat.sub_self, ← c]; rfl
  ·
   rw [if_neg (fun h => c h.1)] at hx
   obtain ⟨q, h1, h2⟩ := h.has u hu hx
   exact ⟨q, by rw [List.length_append]; omega, by rw [Z46 h1]; exact h2⟩
 · rw [List.length_append, List.length_singleton, Zit (by omega) hf, if_pos hv, h.cnt]
theorem s_met {n : Net} {m s : Nat} {c : Csr} {my : Int → Option Bool} {mb : Nat → Bool} (hc : CsrIs n m c) (he : Z3v m n.Arcs) (hm : m ≤ 4096) (hl : n.Arcs.length ≤ 16384) (hs : s < m) (hmy : ∀ j : Nat, j < Z12 n.Arcs m → my j = some (mb j)) :
    Ok (g_met c s my) (fun r => r.length = m ∧ ∀ v, v < m → (r.getD v false = true ↔ Reach (fun u w => ∃ j, Z12 n.Arcs u ≤ j ∧ j < Z12 n.Arcs (u + 1) ∧ mb j = true ∧ c.Head.getD j 0 = w) s v)) := by
  obtain ⟨G, hG⟩ : ∃ G : Nat → Nat → Prop, (fun (u w : Nat) => ∃ j, Z12 n.Arcs u ≤ j ∧ j < Z12 n.Arcs (u + 1) ∧ mb j = true ∧ c.Head.getD j 0 = (w : Int)) = G := ⟨_, rfl⟩
  rw [hG]
  have hbs := Z61 (al := n.Arcs) (v := m) hm hl
  have lf := hc.ok.lf
  have lh := hc.ok.lh
  have hf := hc.ok.hf
  unfold g_met
  rw [hc.hN]
  simp only [Int.toNat_natCast]
  refine Ok.gd.2 ⟨(by omega), Ok.gd.2 ⟨by rw [List.length_replicate]; constructor <;> omega, Ok.bind.2 ?_⟩⟩
  refine Z7s (fun st => ∃ k : Nat, st.2.2 = k ∧ k ≤ st.2.1.length ∧ MetI G s m st.1 st.2.1 ∧ st.1.getD s false = true ∧ ∀ q, q < k → ∀ w, w < m → G (st.2.1.getD q 0).toNat w → st.1.getD w false = true) (fun st => (m - st.2.2).toNat)
    ⟨0, rfl, by omega, ⟨by simp, fun q hq => ?_, fun v hv hx => ?_, ?_⟩, by rw [Zdd, if_pos ⟨rfl, by simpa using hs⟩], fun q hq => by omega⟩ (by unfold Z4d; simp only; omega) ?_
  · have : q = 0 := by simp at hq; exact hq
    subst this
    exact ⟨s, rfl, hs, by rw [Zdd, if_pos ⟨rfl, by simpa using hs⟩], .refl⟩
  · rw [Zdd] at hx
    by_cases c1 : s = v
    · exact ⟨0, by simp, by rw [← c1]; rfl⟩
    · rw [if_neg (fun h => c1 h.1), Z32] at hx; cases hx
  · rw [Zit (by simpa using hs) (Z32 _ _ _), Zkj, if_pos hs]; rfl
  rintro ⟨xs, row, x⟩ ⟨k, h1, hk, hI, hS, hP⟩ P next exit
  simp only at h1 hk hI hS hP next ⊢
  subst h1
  unfold g_s1
  have hle := hI.le
  simp only [Int.toNat_natCast]
  refine Ok.ite.2 ⟨fun hx => ?_, fun hx => Ok.some.2 (exit _ (Ok.some.2 ?_))⟩
  · obtain ⟨u, hu, hum, -, hur⟩ := hI.nat k (by omega)
    simp only [hu, Int.toNat_natCast, hf u (by omega)]
    refine Ok.gd.2 ⟨(by omega), Ok.gd.2 ⟨(by omega), Ok.bind.2 ?_⟩⟩
    have hmo := Z41 (al := n.Arcs) (show u ≤ u + 1 by omega)
    have hmo2 := Z41 (al := n.Arcs) (show u + 1 ≤ m by omega)
    refine Z7s (fun st => ∃ j : Nat, st.2.2 = j ∧ Z12 n.Arcs u ≤ j ∧ j ≤ Z12 n.Arcs (u + 1) ∧ MetI G s m st.1 st.2.1 ∧ st.1.getD s false = true ∧ k < st.2.1.length ∧ st.2.1.getD k 0 = u ∧ (∀ q, q < k → ∀ w, w < m → G (st.2.1.getD q 0).toNat w → st.1.getD w false = true) ∧
      ∀ i, Z12 n.Arcs u ≤ i → i < j → mb i = true → ∀ w : Nat, c.Head.getD i 0 = (w : Int) → st.1.getD w false = true) (fun st => (Z12 n.Arcs (u + 1) - st.2.2).toNat) ⟨_, rfl, Nat.le_refl _, hmo, hI, hS, by simp only; omega, hu, hP, fun i h1 h2 => by omega⟩ (by unfold Z4d; simp only; omega) ?_
    rintro ⟨ys, rw', y⟩ ⟨j, h1, hj0, hj1, hI2, hS2, hkl, hku, hP2, hA⟩ P2 next2 exit2
    simp only at h1 hI2 hS2 hkl hku hP2 hA next2 ⊢
    subst h1
    unfold g_s2
    have eu : ((u : Int) + 1).toNat = u + 1 := by omega
    have hle2 := hI2.le
    have hyl := hI2.len
    simp only [Int.toNat_natCast, hku, eu, hf (u + 1) (by omega)]
    refine Ok.gd.2 ⟨(by omega), Ok.gd.2 ⟨(by omega), Ok.gd.2 ⟨(by omega), Ok.ite.2 ⟨fun hy => ?_, fun hy => Ok.some.2 (exit2 _ ?_)⟩⟩⟩⟩
    · refine Ok.bind.2 (Zau (hmy j (by omega)) (Ok.ite.2 ⟨fun hb => ?_, fun hb => ?_⟩))
      · obtain ⟨i, t, hi, hne, hp, q1, -, -, -, -⟩ := hc.ok.place (j := j) (by omega)
        have hv := he i hi (!t)
        obtain ⟨v, hvv⟩ : ∃ v : Nat, vtx (n.Arcs.getD i default) (!t) = v := ⟨(vtx (n.Arcs.getD i default) (!t)).toNat, by omega⟩
        rw [hvv] at q1 hv
        have hGu : G u v := by rw [← hG]; exact ⟨j, hj0, by omega, hb, q1⟩
        simp only [q1]
        refine Ok.gd.2 ⟨(by omega), Ok.bind.2 ?_⟩
        unfold Z7x
        simp only [Int.toNat_natCast]
        refine Ok.gd.2 ⟨(by omega), Ok.ite.2 ⟨fun hn => ?_, fun hn => Ok.some.2 (Ok.gd.2 ⟨(by omega), Ok.some.2 (next2 _ ⟨j + 1, by simp, by omega, by omega, hI2, hS2, hkl, hku, hP2, fun i' h1 h2 h3 w hw => ?_⟩ (by simp only; omega))⟩)⟩⟩
        · have hn' : ys.getD v false = false := by simpa using hn
          have hI3 := hI2.put (by omega) hn' (.step hur hGu)
          have up : ∀ w, ys.getD w false = true → (ys.set v true).getD w false = true := fun w hw => by
            rw [Zdd]; split
            · rfl
            · exact hw
          refine Ok.gd.2 ⟨(by omega), Ok.gd.2 ⟨?_, Ok.some.2 (Ok.gd.2 ⟨(by omega), Ok.some.2 (next2 _ ⟨j + 1, by simp, by omega, by omega, hI3, up _ hS2, by rw [List.length_append]; omega, by rw [Z46 hkl]; exact hku, fun q hq w hw hg => ?_, fun i' h1 h2 h3 w hw => ?_⟩ (by simp only; omega))⟩)⟩⟩
          · rw [List.length_append, List.length_singleton]; constructor <;> omega
          · simp only at hg ⊢
            rw [Z46 (by omega)] at hg
            exact up w (hP2 q hq w hw hg)
          · simp only
            rcases Nat.lt_or_ge i' j with h4 | h4
            · exact up w (hA i' h1 h4 h3 w hw)
            · rw [show i' = j by omega, q1] at hw
              have : v = w := by omega
              subst this
              rw [Zdd, if_pos ⟨rfl, by omega⟩]
        · simp only
          rcases Nat.lt_or_ge i' j with h4 | h4
          · exact hA i' h1 h4 h3 w hw
          · rw [show i' = j by omega, q1] at hw
            have : v = w := by omega
            subst this
            simpa using hn
      · refine Ok.gd.2 ⟨(by omega), Ok.some.2 (next2 _ ⟨j + 1, by simp, by omega, by omega, hI2, hS2, hkl, hku, hP2, fun i' h1 h2 h3 w hw => ?_⟩ (by simp only; omega))⟩
        rcases Nat.lt_or_ge i' j with h4 | h4
        · exact hA i' h1 h4 h3 w hw
        · rw [show i' = j by omega] at h3; exact absurd h3 hb
    · obtain rfl : j = Z12 n.Arcs (u + 1) := by omega
      refine Ok.gd.2 ⟨(by omega), Ok.some.2 (next _ ⟨k + 1, by simp, by simp only; omega, hI2, hS2, fun q hq w hw hg => ?_⟩ (by simp only; omega))⟩
      simp only at hg ⊢
      rcases Nat.lt_or_ge q k with h4 | h4
      · exact hP2 q h4 w hw hg
      · rw [show q = k by omega, hku, Int.toNat_natCast, ← hG] at hg
        obtain ⟨i, h5, h6, h7, h8⟩ := hg
        exact hA i h5 h6 h7 w h8
  · obtain rfl : k = row.length := by omega
    refine ⟨hI.len, fun v hv => ⟨fun hx => ?_, fun hr => ?_⟩⟩
    · obtain ⟨q, hq, hqv⟩ := hI.has v hv hx
      obtain ⟨u, h1, h2, h3, h4⟩ := hI.nat q hq
      have : u = v := by omega
      subst this; exact h4
    · clear hv
      have : v < m ∧ xs.getD v false = true := by
        induction hr with
        | refl => exact ⟨hs, hS⟩
        | step _ hg ih =>
          obtain ⟨h1, h2⟩ := ih
          rename_i u w _
          have hw : w < m := by
            rw [← hG] at hg
            obtain ⟨i, h5, h6, h7, h8⟩ := hg
            have := Z41 (al := n.Arcs) (show u + 1 ≤ m by omega)
            obtain ⟨i', t, hi, hne, hp, q1, -, -, -, -⟩ := hc.ok.place (j := i) (by omega)
            have hv := he i' hi (!t)
            omega
          obtain ⟨q, hq, hqv⟩ := hI.has u h1 h2
          refine ⟨hw, hP q hq w hw ?_⟩
          rw [hqv, Int.toNat_natCast]; exact hg
      exact this.2
def Z8x (n : Net) (f : List Int) (u v : Nat) : Prop := ∃ i, i < n.Arcs.length ∧ (n.Arcs.getD i default).fr ≠ (n.Arcs.getD i default).to ∧
  (((n.Arcs.getD i default).fr = u ∧ (n.Arcs.getD i default).to = v ∧ f.getD i 0 < (n.Arcs.getD i default).cap) ∨ ((n.Arcs.getD i default).to = u ∧ (n.Arcs.getD i default).fr = v ∧ 0 < f.getD i 0))
theorem s_left {n : Net} {f : List Int} (hl : lenok n.Arcs.length) : Ok (Z8z n f) (fun r => (FwithinP n f ∧ r.2.2 = 0 ∧ CsrIs n n.N.toNat r.1 ∧ ResAt r.1.Arc r.1.Cap r.1.Back f (Z12 n.Arcs n.N.toNat) (Z12 n.Arcs n.N.toNat) r.2.1) ∨ (¬FwithinP n f ∧ r.2.2 = 20)) := by
 unfold Z8z
 refine Ok.bind.2 (Ok.mono (Zj0 hl) fun b hb => Ok.ite.2 ⟨fun h => Ok.some.2 (.inr ⟨fun h2 => (by rw [hb.2 h2] at h; cases h), rfl⟩), fun h => ?_⟩)
 have hw := hb.1 (Zb1 h)
 have hz := Z1g hw.1
 obtain ⟨m, hm, he⟩ := Zf4 hw.1
 refine Ok.bind.2 (Ok.mono (s_Make hm hw.1 hl) ?_)
 rintro ⟨c, e⟩ ⟨hc, rfl⟩
 have hc : CsrIs n m c := hc
 simp only
 rw [if_neg (by simp)]
 have hbs := Z61 (al := n.Arcs) (v := m) (by omega) (by omega)
 have hcaps := Zaa hw.1
 have hcapt : ∀ i, i < n.Arcs.length → (n.Arcs.getD i default).cap ≤ 4611686018427387904 := fun i hi => by
  have h1 := Zd0 hw.1 (i + 1) hi
  have h2 := Zd0 hw.1 i (by omega)
  simp only [totC] at h1
  omega
 refine Ok.bind.2 (Ok.mono (s_Res (L := Z12 n.Arcs m) hc.ok.lh hc.ok.lc hc.ok.la hc.ok.lb hbs hc.ok.aa0 fun j hj => ?_) ?_)
 ·
  obtain ⟨i, s, hi, hne, hp, q1, q2, q3, q4, q5⟩ := hc.ok.place hj
  have := hcaps i hi
  have := hcapt i hi
  rw [q3]; split <;> omega
 ·
  rintro ⟨r, e⟩ (⟨-, h1, h2⟩ | ⟨⟨j, hj, hbad⟩, -⟩)
  ·
   refine Ok.some.2 (.inl ⟨hw, h1, ?_, ?_⟩)
   · rw [hm, Int.toNat_natCast]; exact hc
   · rw [hm, Int.toNat_natCast]; exact h2
  ·
   exfalso
   obtain ⟨i, s, hi, hne, hp, q1, q2, q3, q4, q5⟩ := hc.ok.place hj
   refine hbad ?_
   unfold Zgf
   rw [q3, q4, q5]
   have := hw.2.1
   refine ⟨by omega, ?_⟩
   cases s
   · right; simp only [Int.toNat_natCast, Bool.false_eq_true, if_false]; exact hw.2.2 i hi
   · exact .inl rfl
theorem Zgk {n : Net} {m : Nat} {c : Csr} {f r : List Int} (hc : CsrIs n m c) (he : Z3v m n.Arcs) (hr : ResAt c.Arc c.Cap c.Back f (Z12 n.Arcs m) (Z12 n.Arcs m) r) {i : Nat} {s : Bool} (hi : i < n.Arcs.length) (hne : (n.Arcs.getD i default).fr ≠ (n.Arcs.getD i default).to) :
    r.getD (pos n.Arcs i s) 0 = if s then f.getD i 0 else (n.Arcs.getD i default).cap - f.getD i 0 := by
  obtain ⟨z1, z2, z3, z4, z5⟩ := hc.ok.hat i hi hne s
  rw [(hr.2 _ (Zcv hi hne he)).2]
  unfold resV
  rw [z3, z4, z5]
  cases s <;> simp
theorem Zfg {n : Net} {m : Nat} {c : Csr} {f r : List Int} (hc : CsrIs n m c) (he : Z3v m n.Arcs) (hr : ResAt c.Arc c.Cap c.Back f (Z12 n.Arcs m) (Z12 n.Arcs m) r) {u v : Nat} (hu : u < m) (t : Bool) :
    (∃ j, Z12 n.Arcs u ≤ j ∧ j < Z12 n.Arcs (u + 1) ∧ (decide (0 < r.getD (if t then (c.Rev.getD j 0).toNat else j) 0)) = true ∧ c.Head.getD j 0 = (v : Int)) ↔ (if t then Z8x n f v u else Z8x n f u v) := by
  have hmo := Z41 (al := n.Arcs) (show u + 1 ≤ m by omega)
  constructor
  · rintro ⟨j, h1, h2, h3, h4⟩
    obtain ⟨i, s, hi, hne, hp, q1, q2, q3, q4, q5⟩ := hc.ok.place (j := j) (by omega)
    have hv := he i hi s
    obtain ⟨p1, p2⟩ := Zon (v := u) hi hne hv.1 (by omega) (by omega)
    have h3 := of_decide_eq_true h3
    rw [q1] at h4
    have ha : (if t then (c.Rev.getD j 0).toNat else j) = pos n.Arcs i (if t then !s else s) := by
      cases t
      · exact hp.symm
      · show (c.Rev.getD j 0).toNat = _
        rw [q2, Int.toNat_natCast]; rfl
    rw [ha, Zgk hc he hr hi hne] at h3
    cases t <;> cases s <;> simp only [Bool.not_true, Bool.not_false, if_true, if_false, Bool.false_eq_true, vtx] at h3 h4 p1 ⊢
    · exact ⟨i, hi, hne, .inl ⟨p1, h4, by omega⟩⟩
    · exact ⟨i, hi, hne, .inr ⟨p1, h4, h3⟩⟩
    · exact ⟨i, hi, hne, .inr ⟨h4, p1, h3⟩⟩
    · exact ⟨i, hi, hne, .inl ⟨h4, p1, by omega⟩⟩
  · intro h
    have key : ∀ (i : Nat) (s : Bool), i < n.Arcs.length → (n.Arcs.getD i default).fr ≠ (n.Arcs.getD i default).to → vtx (n.Arcs.getD i default) s = (u : Int) → vtx (n.Arcs.getD i default) (!s) = (v : Int) → 0 < r.getD (pos n.Arcs i (if t then !s else s)) 0 →
        ∃ j, Z12 n.Arcs u ≤ j ∧ j < Z12 n.Arcs (u + 1) ∧ (decide (0 < r.getD (if t then (c.Rev.getD j 0).toNat else j) 0)) = true ∧ c.Head.getD j 0 = (v : Int) := by
      intro i s hi hne hu' hv' h0
      have hcl := Zeg (s := s) hi hne (by omega)
      have hpos : pos n.Arcs i s = Z12 n.Arcs u + cnt n.Arcs u i := by unfold pos; rw [hu', Int.toNat_natCast]
      rw [hu', Int.toNat_natCast] at hcl
      have hb1 : Z12 n.Arcs (u + 1) = Z12 n.Arcs u + cnt n.Arcs u n.Arcs.length := rfl
      obtain ⟨z1, z2, z3, z4, z5⟩ := hc.ok.hat i hi hne s
      refine ⟨pos n.Arcs i s, by omega, by omega, decide_eq_true ?_, by rw [z1]; exact hv'⟩
      rw [z2]
      cases t
      · simpa using h0
      · simpa using h0
    cases t
    · simp only [Bool.false_eq_true, if_false] at h key ⊢
      obtain ⟨i, hi, hne, ⟨a1, a2, a3⟩ | ⟨a1, a2, a3⟩⟩ := h
      · refine key i false hi hne (by simpa [vtx] using a1) (by simpa [vtx] using a2) ?_
        rw [Zgk hc he hr hi hne]; simp only [Bool.false_eq_true, if_false]; omega
      · refine key i true hi hne (by simpa [vtx] using a1) (by simpa [vtx] using a2) ?_
        rw [Zgk hc he hr hi hne]; simpa using a3
    · simp only [if_true] at h key ⊢
      obtain ⟨i, hi, hne, ⟨a1, a2, a3⟩ | ⟨a1, a2, a3⟩⟩ := h
      · refine key i true hi hne (by simpa [vtx] using a2) (by simpa [vtx] using a1) ?_
        rw [Zgk hc he hr hi hne]; simp only [Bool.not_true, Bool.false_eq_true, if_false]; omega
      · refine key i false hi hne (by simpa [vtx] using a2) (by simpa [vtx] using a1) ?_
        rw [Zgk hc he hr hi hne]; simpa using a3
theorem Zma {n : Net} {m : Nat} {f : List Int} (he : Z3v m n.Arcs) {G : Nat → Nat → Prop} {s : Nat} (hs : s < m) (h : ∀ u v, u < m → (G u v ↔ Z8x n f u v)) {v : Nat} : Reach G s v ↔ Reach (Z8x n f) s v := by
 have lt : ∀ {u w}, Z8x n f u w → u < m ∧ w < m := by
  rintro u w ⟨i, hi, _, h1⟩
  have h0 := he i hi false
  have h2 := he i hi true
  simp only [vtx, Bool.false_eq_true, if_false, if_true] at h0 h2
  omega
 constructor
 ·
  intro hr
  have : v < m ∧ Reach (Z8x n f) s v := by
   induction hr with
   | refl => exact ⟨hs, .refl⟩
   | step _ hg ih => have ho := (h _ _ ih.1).1 hg; exact ⟨(lt ho).2, .step ih.2 ho⟩
  exact this.2
 ·
  intro hr
  exact hr.mono fun u w ho => (h u w (lt ho).1).2 ho
theorem Zkm {n : Net} {m : Nat} {f : List Int} (he : Z3v m n.Arcs) {G : Nat → Nat → Prop} {s : Nat} (hs : s < m) (h : ∀ u v, u < m → (G u v ↔ Z8x n f v u)) {v : Nat} : Reach G s v ↔ Reach (Z8x n f) v s := by
 have lt : ∀ {u w}, Z8x n f u w → u < m ∧ w < m := by
  rintro u w ⟨i, hi, _, h1⟩
  have h0 := he i hi false
  have h2 := he i hi true
  simp only [vtx, Bool.false_eq_true, if_false, if_true] at h0 h2
  omega
 constructor
 ·
  intro hr
  have : v < m ∧ Reach (fun a b => Z8x n f b a) s v := by
   induction hr with
   | refl => exact ⟨hs, .refl⟩
   | step _ hg ih => have ho := (h _ _ ih.1).1 hg; exact ⟨(lt ho).1, .step ih.2 ho⟩
  exact this.2.flip
 ·
  intro hr
  exact hr.flip.mono fun u w ho => (h u w (lt ho).2).2 ho
theorem s_From {n : Net} {f : List Int} (hl : lenok n.Arcs.length) : Ok (Za6 n f) (fun r => (FwithinP n f ∧ r.2 = 0 ∧ r.1.length = n.N.toNat ∧ ∀ v, v < n.N.toNat → (r.1.getD v false = true ↔ Reach (Z8x n f) n.S.toNat v)) ∨ (¬FwithinP n f ∧ r = ([], 20))) := by
 unfold Za6
 refine Ok.bind.2 (Ok.mono (s_left hl) ?_)
 rintro ⟨c, r, e⟩ (⟨hw, h1, hc, hr⟩ | ⟨hw, h1⟩)
 rotate_left
 ·
  simp only at h1
  subst h1
  exact Ok.ite.2 ⟨fun _ => Ok.some.2 (.inr ⟨hw, rfl⟩), fun h => absurd (by omega) h⟩
 simp only at h1 hc hr
 subst h1
 simp only
 rw [if_neg (by simp)]
 have hz := Z1g hw.1
 simp only [Z3o, decide_eq_true_eq] at hz
 obtain ⟨m, hm, he⟩ := Zf4 hw.1
 obtain ⟨s, hs⟩ : ∃ s : Nat, n.S = s := ⟨n.S.toNat, by omega⟩
 rw [hm, Int.toNat_natCast] at hc hr
 have hbs := Z61 (al := n.Arcs) (v := m) (by omega) (by omega)
 have hrl := hr.1
 rw [g_From, hs]
 refine Ok.bind.2 (Ok.mono (s_met (mb := fun j => decide (0 < r.getD j 0)) hc he (by omega) (by omega) (show s < m by omega) fun j hj => ?_) fun x hx => Ok.some.2 (.inl ⟨hw, rfl, ?_, fun v hv => ?_⟩))
 · unfold Z8d; rw [Z7t (by constructor <;> omega), Int.toNat_natCast]
 · rw [hm, Int.toNat_natCast]; exact hx.1
 ·
  rw [hm, Int.toNat_natCast] at hv
  rw [hx.2 v hv, Int.toNat_natCast]
  exact Zma he (by omega) fun u w hu => by simpa using Zfg (v := w) hc he hr hu false
theorem s_To {n : Net} {f : List Int} (hl : lenok n.Arcs.length) : Ok (Zdn n f) (fun r => (FwithinP n f ∧ r.2 = 0 ∧ r.1.length = n.N.toNat ∧ ∀ v, v < n.N.toNat → (r.1.getD v false = true ↔ ¬Reach (Z8x n f) v n.T.toNat)) ∨ (¬FwithinP n f ∧ r = ([], 20))) := by
 unfold Zdn
 refine Ok.bind.2 (Ok.mono (s_left hl) ?_)
 rintro ⟨c, r, e⟩ (⟨hw, h1, hc, hr⟩ | ⟨hw, h1⟩)
 rotate_left
 ·
  simp only at h1
  subst h1
  exact Ok.ite.2 ⟨fun _ => Ok.some.2 (.inr ⟨hw, rfl⟩), fun h => absurd (by omega) h⟩
 simp only at h1 hc hr
 subst h1
 simp only
 rw [if_neg (by simp)]
 have hz := Z1g hw.1
 simp only [Z3o, decide_eq_true_eq] at hz
 obtain ⟨m, hm, he⟩ := Zf4 hw.1
 obtain ⟨t, ht⟩ : ∃ t : Nat, n.T = t := ⟨n.T.toNat, by omega⟩
 rw [hm, Int.toNat_natCast] at hc hr
 have hbs := Z61 (al := n.Arcs) (v := m) (by omega) (by omega)
 have hrl := hr.1
 have hlr := hc.ok.lr
 rw [g_To, ht]
 refine Ok.bind.2 (Ok.mono (s_met (mb := fun j => decide (0 < r.getD (c.Rev.getD j 0).toNat 0)) hc he (by omega) (by omega) (show t < m by omega) fun j hj => ?_) fun x hx => Ok.bind.2 ?_)
 ·
  unfold Za5
  obtain ⟨i, s, hi, hne, hp, q1, q2, q3, q4, q5⟩ := hc.ok.place hj
  have hq : pos n.Arcs i (!s) < Z12 n.Arcs m := Zcv hi hne he
  simp only [Int.toNat_natCast, q2]
  rw [Z7t (by constructor <;> omega), Z7t (by constructor <;> omega)]
 have hxl := hx.1
 refine Z7s (fun s => ∃ k : Nat, s.2 = k ∧ k ≤ m ∧ s.1.length = m ∧ ∀ v, v < m → s.1.getD v false = if v < k then !x.getD v false else x.getD v false) (fun s => (m - s.2).toNat) ⟨0, rfl, by omega, hxl, fun v hv => by rw [if_neg (by omega)]⟩ (by unfold Z4d; simp only; omega) ?_
 rintro ⟨ys, y⟩ ⟨k, h1, hk, hyl, hy⟩ P next exit
 simp only at h1 hyl hy next ⊢
 subst h1
 unfold Z9b
 simp only [Int.toNat_natCast]
 refine Ok.ite.2 ⟨fun h => Ok.gd.2 ⟨(by omega), Ok.gd.2 ⟨(by omega), Ok.gd.2 ⟨(by omega), Ok.some.2 (next _ ⟨k + 1, by simp, by omega, by simp [hyl], fun v hv => ?_⟩ (by simp only; omega))⟩⟩⟩, fun h => Ok.some.2 (exit _ ?_)⟩
 ·
  simp only [Zdd]
  by_cases c1 : k = v
  ·
   subst c1
   rw [if_pos ⟨rfl, by omega⟩, if_pos (by omega), hy k hv, if_neg (by omega)]
  ·
   rw [if_neg (fun h => c1 h.1), hy v hv]
   by_cases c2 : v < k
   · rw [if_pos c2, if_pos (by omega)]
   · rw [if_neg c2, if_neg (by omega)]
 ·
  obtain rfl : k = m := by omega
  unfold Zax
  refine Ok.some.2 (.inl ⟨hw, rfl, by simp only [hm, Int.toNat_natCast]; exact hyl, fun v hv => ?_⟩)
  rw [hm, Int.toNat_natCast] at hv
  simp only
  rw [hy v hv, if_pos hv, Int.toNat_natCast]
  have h2 := (hx.2 v hv).trans (Zkm he (by omega) fun u w hu => by simpa using Zfg (v := w) hc he hr hu true)
  rw [← h2]
  cases x.getD v false <;> simp
end Go.Acq
namespace Go.Acq
open Go
set_option linter.unusedSimpArgs false
def Zey (al : List Arc) (f : List Int) (c : List Bool) (j : Int) : Nat → Int
  | 0 => 0
  | k + 1 => Zey al f c j k - (if (al.getD k default).fr < j ∧ inS c (al.getD k default).fr = false then f.getD k 0 else 0) + (if (al.getD k default).to < j ∧ inS c (al.getD k default).to = false then f.getD k 0 else 0)
theorem Ze0 {al : List Arc} {f : List Int} {c : List Bool} (j : Int) : ∀ k, Zey al f c (j + 1) k = Zey al f c j k + (if inS c j = false then ex al f j k else 0)
 | 0 => by simp [Zey, ex]
 | k + 1 => by
  have ih := Ze0 (al := al) (f := f) (c := c) j k
  simp only [Zey, ex, ih]
  have e1 : ∀ x : Int, (if x < j + 1 ∧ inS c x = false then f.getD k 0 else 0) = (if x < j ∧ inS c x = false then f.getD k 0 else 0) + (if x = j ∧ inS c j = false then f.getD k 0 else 0) := fun x => by
   by_cases h1 : x < j
   ·
    by_cases h3 : inS c x = false
    · rw [if_pos ⟨by omega, h3⟩, if_pos ⟨h1, h3⟩, if_neg (fun h => by omega)]; omega
    · rw [if_neg (fun h => h3 h.2), if_neg (fun h => h3 h.2), if_neg (fun h => by omega)]; omega
   ·
    by_cases h2 : x = j
    ·
     subst h2
     by_cases h3 : inS c x = false
     · rw [if_pos ⟨by omega, h3⟩, if_neg (fun h => h1 h.1), if_pos ⟨rfl, h3⟩]; omega
     · rw [if_neg (fun h => h3 h.2), if_neg (fun h => h3 h.2), if_neg (fun h => h3 h.2)]; omega
    · rw [if_neg (fun h => by omega), if_neg (fun h => by omega), if_neg (fun h => h2 h.1)]; omega
  rw [e1, e1]
  by_cases h : inS c j = false
  ·
   simp only [h, and_true, if_true]
   omega
  ·
   simp only [h, Bool.not_eq_false, and_false, if_false, ite_false, reduceCtorEq]
   omega
theorem Ze1 {al : List Arc} {f : List Int} {c : List Bool} {m : Nat} (he : Z3v m al) : ∀ k, k ≤ al.length → Zey al f c 0 k = 0
 | 0, _ => rfl
 | k + 1, hk => by
  have h0 := he k hk false
  have h1 := he k hk true
  simp only [vtx, Bool.false_eq_true, if_false, if_true] at h0 h1
  simp only [Zey, Ze1 he k (by omega)]
  rw [if_neg (fun h => by omega), if_neg (fun h => by omega)]; rfl
theorem Zff {al : List Arc} {f : List Int} {c : List Bool} {m : Nat} (he : Z3v m al) : ∀ k, k ≤ al.length → Zey al f c m k = acK al f c k
 | 0, _ => rfl
 | k + 1, hk => by
  have h0 := he k hk false
  have h1 := he k hk true
  simp only [vtx, Bool.false_eq_true, if_false, if_true] at h0 h1
  simp only [Zey, acK, Zff he k (by omega)]
  obtain ⟨A, hA⟩ : ∃ A, al.getD k default = A := ⟨_, rfl⟩
  obtain ⟨F, hF⟩ : ∃ F, f.getD k 0 = F := ⟨_, rfl⟩
  rw [hA] at h0 h1 ⊢
  rw [hF]
  cases a : inS c A.fr <;> cases b : inS c A.to <;> simp [h0.2, h1.2] <;> omega
theorem Zp2 {al : List Arc} {f : List Int} {c : List Bool} (h : ∀ i, i < al.length → 0 ≤ f.getD i 0 ∧ f.getD i 0 ≤ (al.getD i default).cap) : ∀ k, k ≤ al.length → acK al f c k ≤ Zgc al c k ∧ (acK al f c k = Zgc al c k ↔ ∀ i, i < k → Zcu al f c i)
 | 0, _ => ⟨Int.le_refl _, fun _ i hi => by omega, fun _ => rfl⟩
 | k + 1, hk => by
  obtain ⟨g1, g2⟩ := Zp2 (c := c) h k (by omega)
  have hf := h k (by omega)
  have key : (∀ i, i < k + 1 → Zcu al f c i) ↔ (∀ i, i < k → Zcu al f c i) ∧ Zcu al f c k :=
   ⟨fun hh => ⟨fun i hi => hh i (by omega), hh k (by omega)⟩, fun hh i hi => by
    rcases Nat.lt_or_ge i k with h1 | h1
    · exact hh.1 i h1
    · rw [show i = k by omega]; exact hh.2⟩
  rw [key, ← g2]
  simp only [acK, Zgc, Zcu]
  obtain ⟨A, hA⟩ : ∃ A, al.getD k default = A := ⟨_, rfl⟩
  obtain ⟨F, hF⟩ : ∃ F, f.getD k 0 = F := ⟨_, rfl⟩
  rw [hA, hF] at hf
  rw [hA, hF]
  cases a : inS c A.fr <;> cases b : inS c A.to <;> simp <;> omega
theorem Zkp {n : Net} {f : List Int} {c : List Bool} {m : Nat} (hm : n.N = m) (he : Z3v m n.Arcs) (hA : Zo6 n f (fun x => x = 0) [n.S, n.T]) (hc : CutR n c) : acK n.Arcs f c n.Arcs.length = ex n.Arcs f n.T n.Arcs.length := by
 have hz := Z1g hc.1
 simp only [Z3o, decide_eq_true_eq] at hz
 have hj : ∀ j : Nat, j ≤ m → Zey n.Arcs f c j n.Arcs.length = if n.T < j then ex n.Arcs f n.T n.Arcs.length else 0 := by
  intro j
  induction j with
  | zero => intro _; rw [show ((0 : Nat) : Int) = 0 from rfl, Ze1 he _ (Nat.le_refl _), if_neg (by omega)]
  | succ j ih =>
   intro hj
   rw [Int.natCast_succ, Ze0, ih (by omega)]
   by_cases c1 : n.T = j
   · rw [← c1, if_neg (by omega), if_pos hc.2.2.2, if_pos (by omega)]; omega
   ·
    have hz : (if inS c j = false then ex n.Arcs f j n.Arcs.length else 0) = 0 := by
     by_cases c2 : inS c j = false
     ·
      rw [if_pos c2]
      rcases hA.2 j (by omega) with h7 | h7
      · exact h7
      ·
       simp only [List.mem_cons, List.not_mem_nil, or_false] at h7
       rcases h7 with h7 | h7
       · rw [h7, hc.2.2.1] at c2; cases c2
       · exact absurd h7.symm c1
     · rw [if_neg c2]
    rw [hz]
    by_cases c3 : n.T < j
    · rw [if_pos c3, if_pos (by omega)]; omega
    · rw [if_neg c3, if_neg (by omega)]; rfl
 have := hj m (Nat.le_refl _)
 rw [Zff he _ (Nat.le_refl _), if_pos (by omega)] at this
 exact this
end Go.Acq
namespace Go.Acq
open Go
set_option linter.unusedVariables false
structure Pre where
  Res : List Int
  Ex : List Int
  H : List Int
  deriving DecidableEq
instance : Inhabited Pre := ⟨⟨default, default, default⟩⟩
def Zcc (c0 : Csr) (u1 : Int) : Option (Unit) :=
  some ()
def Zbh {S_ X_ : Type} (yy_ : S_ → Int → Option (S_ ⊕ X_)) (c1 : Csr) (c2 : Int) (a2 : Int) (tt4 : S_ ⊕ X_) : Option ((Int × (S_ ⊕ X_)) ⊕ ((S_ ⊕ X_))) :=
  gd (i64ok (c2 + 1)) <|
  gd (inb (c2 + 1) c1.First.length) <|
  if a2 < (c1.First.getD (c2 + 1).toNat 0) then
  (Option.bind (Zl4 yy_ tt4 a2) fun tt9 =>
  if (!tt9.isLeft) = true then
  (some (.inr tt9))
  else
  gd (i64ok (a2 + 1)) <|
  some (.inl ((a2 + 1), tt9)))
  else
  some (.inr tt4)
def Z9n {S_ X_ : Type} (yy_ : S_ → Int → Option (S_ ⊕ X_)) (c1 : Csr) (c2 : Int) (tt_ : S_ ⊕ X_) : Option ((S_ ⊕ X_)) :=
  gd (inb c2 c1.First.length) <|
  Option.bind (Z28 (fun s => Zbh yy_ c1 c2 s.1 s.2) Z4d ((c1.First.getD c2.toNat 0), tt_)) fun p1_0_0 => some p1_0_0
def Z9p (c0 : Csr) (p1 : Pre) (u2 : Int) : Option (Bool) :=
  if u2 ≠ c0.S then
  (if u2 ≠ c0.T then
  (gd (inb u2 p1.Ex.length) <|
  some (decide (0 < (p1.Ex.getD u2.toNat 0))))
  else
  some false)
  else
  some false
def Z6o (c0 : Csr) (p1 : Pre) (u2 : Int) (a3 : Int) : Option (Bool) :=
  gd (inb a3 p1.Res.length) <|
  if 0 < (p1.Res.getD a3.toNat 0) then
  (gd (inb u2 p1.H.length) <|
  gd (inb a3 c0.Head.length) <|
  gd (inb (c0.Head.getD a3.toNat 0) p1.H.length) <|
  gd (i64ok ((p1.H.getD (c0.Head.getD a3.toNat 0).toNat 0) + 1)) <|
  some (decide ((p1.H.getD u2.toNat 0) = ((p1.H.getD (c0.Head.getD a3.toNat 0).toNat 0) + 1))))
  else
  some false
def Zcw (c0 : Csr) (p1 : Pre) (u2 : Int) (y15 : Int) : Option ((Unit) ⊕ (Unit)) :=
  Option.bind (Z6o c0 p1 u2 y15) fun r16 =>
  if r16 = true then
  (some (.inr ()))
  else
  some (.inl ())
def Zd4 (c0 : Csr) (p1 : Pre) (u2 : Int) : Option (Bool) :=
  Option.bind (Zcc c0 u2) fun _ =>
  Option.bind (Z9n (fun s v => Zcw c0 p1 u2 v) c0 u2 (.inl ())) fun t => match t with | .inl _ => (Option.bind (Z9p c0 p1 u2) fun r19 => some r19) | .inr _ => (some false)
def Zfj (u0 : Int) (c1 : Csr) (c2 : Pre) : Option (Bool) :=
  Option.bind (Zd4 c1 c2 u0) fun r1 =>
  some r1
def Z7c (c0 : Csr) (so1_0 : Csr) (so1_1 : Pre) (out3 : List Int) (x13 : Int) : Option ((List Int × Int) ⊕ (List Int)) :=
  if x13 < c0.N then
  (Option.bind (Zfj x13 so1_0 so1_1) fun r15 =>
  if r15 = true then
  (gd (apok (out3 ++ ([x13])).length 8) <|
  gd (i64ok (x13 + 1)) <|
  some (.inl ((out3 ++ ([x13])), (x13 + 1))))
  else
  gd (i64ok (x13 + 1)) <|
  some (.inl (out3, (x13 + 1))))
  else
  some (.inr out3)
def Z9o (out30 : List Int) : Option (List Int) :=
  some out30
def Zbi (c0 : Csr) (so1_0 : Csr) (so1_1 : Pre) : Option (List Int) :=
  Option.bind (Z28 (fun s => Z7c c0 so1_0 so1_1 s.1 s.2) Z4d ([], 0)) fun p1_0_0 => Z9o p1_0_0
def Z9q (out27 : List Int) (y37 : Int) (x43 : Bool) : Option ((List Int) ⊕ (Empty)) :=
  if x43 = true then
  (gd (apok (out27 ++ ([y37])).length 8) <|
  some (.inl (out27 ++ ([y37]))))
  else
  some (.inl out27)
def Zec (c0 : Csr) (p1 : Pre) (x17 : Int) (out27 : List Int) (y37 : Int) : Option ((List Int) ⊕ (Empty)) :=
  Option.bind (Z9p c0 p1 x17) fun r38 =>
  if r38 = true then
  (Option.bind (Z6o c0 p1 x17 y37) fun r41 =>
  Z9q out27 y37 r41)
  else
  Z9q out27 y37 false
def Zed (c0 : Csr) (p1 : Pre) (out7 : List Int) (x17 : Int) : Option ((List Int × Int) ⊕ (List Int)) :=
  if x17 < c0.N then
  (Option.bind (Zcc c0 x17) fun _ =>
  Option.bind (Z9n (fun s v => Zec c0 p1 x17 s v) c0 x17 (.inl out7)) fun t => match t with | .inl out27 => (gd (i64ok (x17 + 1)) <| some (.inl (out27, (x17 + 1)))) | .inr x => nomatch x)
  else
  some (.inr out7)
def Zee (c0 : Csr) (p1 : Pre) (out56 : List Int) : Option (List Int × List Int) :=
  Option.bind (Zbi c0 c0 p1) fun r67 =>
  some (out56, r67)
def Zfk (c0 : Csr) (p1 : Pre) : Option (List Int × List Int) :=
  Option.bind (Z28 (fun s => Zed c0 p1 s.1 s.2) Z4d ([], 0)) fun p1_0_0 => Zee c0 p1 p1_0_0
end Go.Acq
