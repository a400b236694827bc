/- Texts of this claim, one behind the other. -/
import Derived.Test.YtfdhelnfgfaeaaaA2
import Derived.Test.YtfdhelnfgfaeaaaA5
import Derived.Test.YtfdhelnfgfaeaaaA1
set_option linter.unusedVariables false
set_option linter.unusedSimpArgs false
namespace Go.Proofs.Ytfdhelnfgfaeaaa.Ax
open Go Go.Acq Go.RowKit Go.Proofs
set_option linter.unusedVariables false
set_option linter.unusedSimpArgs false
set_option maxHeartbeats 8000000
set_option maxRecDepth 20000
theorem Z1d : Zex Try.prog 24 4 = true := by kernel_rfl
theorem Zch : Zex Try.prog 35 3 = true := by kernel_rfl
theorem Z4r : Zex Try.prog 64 9 = true := by kernel_rfl
theorem Zai : Z93 Try.prog 2 = some 8 := by kernel_rfl
theorem Zhb : Z93 Try.prog 3 = some 8 := by kernel_rfl
theorem Zd9 : Z93 Try.prog 4 = some 1 := by kernel_rfl
theorem Z3b : Z0w Try.prog 115 = true := by kernel_rfl
theorem Zfm : Z0w Try.prog 116 = true := by kernel_rfl
theorem Zgh : Z0w Try.prog 15 = true := by kernel_rfl
theorem Zgg : Z0w Try.prog 16 = true := by kernel_rfl
theorem Zgf : Z0w Try.prog 17 = true := by kernel_rfl
theorem Zge : Z0w Try.prog 20 = true := by kernel_rfl
theorem Zgd : Z0w Try.prog 21 = true := by kernel_rfl
theorem Zgc : Z0w Try.prog 30 = true := by kernel_rfl
theorem Zgb : Z0w Try.prog 31 = true := by kernel_rfl
theorem Zga : Z0w Try.prog 32 = true := by kernel_rfl
theorem Zg9 : Z0w Try.prog 33 = true := by kernel_rfl
theorem Zg8 : Z0w Try.prog 34 = true := by kernel_rfl
theorem Zg7 : Z0w Try.prog 61 = true := by kernel_rfl
theorem Zg6 : Z0w Try.prog 62 = true := by kernel_rfl
theorem Zg5 : Z0w Try.prog 98 = true := by kernel_rfl
theorem Z3j : Z1r Try.prog 24 0 = some 0 := by kernel_rfl
theorem Z3i : Z1r Try.prog 24 1 = some 1 := by kernel_rfl
theorem Z4q : Z1r Try.prog 24 2 = some 2 := by kernel_rfl
theorem Z2j : Z1r Try.prog 24 3 = some 3 := by kernel_rfl
theorem Z5u : Z1r Try.prog 35 0 = some 0 := by kernel_rfl
theorem Z78 : Z1r Try.prog 35 1 = some 1 := by kernel_rfl
theorem Z8v : Z1r Try.prog 35 2 = some 2 := by kernel_rfl
theorem Z77 : Z1r Try.prog 64 3 = some 3 := by kernel_rfl
theorem Z2i : Z1r Try.prog 64 4 = some 4 := by kernel_rfl
theorem Z8u : Z1r Try.prog 64 5 = some 5 := by kernel_rfl
theorem Z4p : Z1r Try.prog 64 6 = some 6 := by kernel_rfl
theorem Z1z : Z1r Try.prog 64 7 = some 7 := by kernel_rfl
theorem Z4o : Z1r Try.prog 64 8 = some 8 := by kernel_rfl
theorem Z33 : Z24 Try.prog 22 = some 35 := by kernel_rfl
theorem Z15 : Z24 Try.prog 26 = some 2 := by kernel_rfl
theorem Z32 : Z24 Try.prog 29 = some 4 := by kernel_rfl
theorem Z16 : Z24 Try.prog 40 = some 3 := by kernel_rfl
theorem Z1a : Z25 Try.prog 2 = some 1 := by kernel_rfl
theorem Zg4 : Z25 Try.prog 24 = some 4 := by kernel_rfl
theorem Zcg : Z25 Try.prog 26 = some 1 := by kernel_rfl
theorem Zcf : Z25 Try.prog 29 = some 1 := by kernel_rfl
theorem Z1m : Z25 Try.prog 3 = some 1 := by kernel_rfl
theorem Z6u : Z25 Try.prog 35 = some 3 := by kernel_rfl
theorem Z2l : Z25 Try.prog 4 = some 1 := by kernel_rfl
theorem Z4n : Z25 Try.prog 40 = some 1 := by kernel_rfl
theorem Z5o : Z25 Try.prog 64 = some 9 := by kernel_rfl
theorem Z26 : Z3c Try.prog 2 = true := by kernel_rfl
theorem Z31 : Z3c Try.prog 22 = true := by kernel_rfl
theorem Z8a : Z3c Try.prog 26 = true := by kernel_rfl
theorem Z89 : Z3c Try.prog 29 = true := by kernel_rfl
theorem Z0r : Z3c Try.prog 3 = true := by kernel_rfl
theorem Zd8 : Z3c Try.prog 4 = true := by kernel_rfl
theorem Z1b : Z3c Try.prog 40 = true := by kernel_rfl
theorem Z59 : Z63 Try.prog 2 = some (.int .i64 0) := by kernel_rfl
theorem Z46 : Z63 Try.prog 3 = some (.int .i64 0) := by kernel_rfl
theorem Zce : Z63 Try.prog 35 = some (.agg #[.int .i64 0, .int .i64 0, .int .i64 0]) := by kernel_rfl
theorem Z8q : Z63 Try.prog 4 = some (.bool false) := by kernel_rfl
theorem Z6t : Z63 Try.prog 64 = some (.agg #[.int .i64 0, .int .i64 0, .int .i64 0, .slice none 0 0, .slice none 0 0, .slice none 0 0, .slice none 0 0, .slice none 0 0, .slice none 0 0]) := by kernel_rfl
theorem Z88 : ElemT Try.prog 26 2 1 8 (.int .i64 0) := ⟨Z15, Z1a, Zai, Z59, rfl⟩
theorem Zcd : ElemT Try.prog 29 4 1 1 (.bool false) := ⟨Z32, Z2l, Zd9, Z8q, rfl⟩
theorem Z4m : ElemT Try.prog 40 3 1 8 (.int .i64 0) := ⟨Z16, Z1m, Zhb, Z46, rfl⟩
theorem Z2g {n0 : Net} {v1 : Int} {n0f3_b : Option Addr} {n0f3_n : Nat} {n0f3_c : Nat} (w : World) (h_n0f3 : RS w [] Z4t 3 n0f3_b n0f3_n n0f3_c n0.Arcs) {r0 : Bool} (H : Z2h n0 v1 = some r0) : Fnc Try.prog 115 #[.agg #[.int .i64 n0.N, .int .i64 n0.S, .int .i64 n0.T, .slice n0f3_b n0f3_n n0f3_c], .int .i64 v1] w [] (fun v N => v = .bool r0 ∧ N = []) := by
 unfold Z2h at H; refine Fnc.enter (vs := [.agg #[.int .i64 n0.N, .int .i64 n0.S, .int .i64 n0.T, .slice n0f3_b n0f3_n n0f3_c], .int .i64 v1]) Try.func115 rfl rfl (Inv.refl w) ?_; refine Z0a ?_; refine Z03 (ll := [0, 1]) rfl ?_; refine Z1w rfl rfl rfl rfl ?_; intro b1; refine Z06 rfl rfl rfl rfl ?_; refine Z04 ?_; refine Z01 ?_; refine Z0a ?_; rcases Z0g H with ⟨g3, H⟩ | ⟨g3, H⟩
 · refine Z03 (ll := [0, 1, 2, 3, 4, 5, 6, 7, 8]) rfl ?_; refine Z05 rfl rfl rfl rfl ?_; refine Z0q rfl rfl rfl rfl rfl rfl ?_; refine Z05 rfl rfl rfl rfl ?_; refine Z0v (t := 7) (b' := true) rfl (decide_eq_true g3) ?_; refine Z05 rfl rfl rfl rfl ?_; refine Z07 rfl rfl rfl rfl Z3j ?_; refine Z0e rfl rfl rfl rfl Z0r mm0 rfl ?_; refine Z0q rfl rfl rfl rfl rfl rfl ?_; refine Z0y rfl rfl rfl rfl rfl ?_; refine Z06 rfl rfl rfl rfl ?_; refine Z04 ?_; refine Z01 ?_; refine Z0j (Z00 (t := 4) rfl Z08) ?_; refine T.ret ?_; obtain rfl := ret1 H; exact Z12 rfl rfl rfl rfl (Res.tmp rfl) Z09 ⟨rfl, rfl⟩
 · refine Z03 (ll := [0, 1, 2, 3, 4, 5, 6, 7, 8]) rfl ?_; refine Z05 rfl rfl rfl rfl ?_; refine Z0q rfl rfl rfl rfl rfl rfl ?_; refine Z05 rfl rfl rfl rfl ?_; refine Z0v (t := 7) (b' := false) rfl (decide_eq_false g3) ?_; refine Z0c rfl rfl rfl rfl ?_; refine Z0c rfl rfl rfl rfl ?_; refine Z0c rfl rfl rfl rfl ?_; refine Z0c rfl rfl rfl rfl ?_; refine Z0z rfl rfl rfl rfl rfl ?_; refine Z06 rfl rfl rfl rfl ?_; refine Z04 ?_; refine Z01 ?_; refine Z0j (Z00 (t := 4) rfl Z08) ?_; refine T.ret ?_; obtain rfl := ret1 H; exact Z12 rfl rfl rfl rfl (Res.tmp rfl) Z09 ⟨rfl, rfl⟩
theorem Zfd {n0 : Net} {n0f3_b : Option Addr} {n0f3_n : Nat} {n0f3_c : Nat} (w : World) (h_n0f3 : RS w [] Z4t 3 n0f3_b n0f3_n n0f3_c n0.Arcs) {r0 : Int} {r1 : Bool} (H : Z6h n0 = some (r0, r1)) : Fnc Try.prog 116 #[.agg #[.int .i64 n0.N, .int .i64 n0.S, .int .i64 n0.T, .slice n0f3_b n0f3_n n0f3_c]] w [] (fun v N => v = .tuple #[.int .i64 r0, .bool r1] ∧ N = []) := by
 unfold Z6h at H; refine Fnc.enter (vs := [.agg #[.int .i64 n0.N, .int .i64 n0.S, .int .i64 n0.T, .slice n0f3_b n0f3_n n0f3_c]]) Try.func116 rfl rfl (Inv.refl w) ?_; refine Z0a ?_; refine Z03 (ll := [0, 1, 2]) rfl ?_; refine Z1w rfl rfl rfl rfl ?_; intro b1; refine Z06 rfl rfl rfl rfl ?_; refine Z06 rfl rfl rfl rfl ?_; refine Z04 ?_; refine Z01 ?_; refine Z0a ?_; refine Z03 (ll := [0]) rfl ?_; refine Z06 rfl rfl rfl rfl ?_; refine Z04 ?_; refine Z01 ?_; refine Z0a ?_; refine Z0a ?_; refine Z03 (ll := [0]) rfl ?_; refine Z06 rfl rfl rfl rfl ?_; refine Z04 ?_; refine Z01 ?_; refine Z1i (fun (a3 : Int) => Z6g a3 = some (r0, r1)) (fun (a3 : Int) => [(4, .int .i64 a3)]) (fun (a3 : Int) => []) ?_ ?_
 ·
  refine T.block ?_; obtain ⟨a9, b0, a7⟩ := Z0m H; refine Z6o (fun (a4 : Nat) (a2 : Int) (i4 : Int) => Z21 (fun s => Z50 n0 s.1 s.2) a4 (a2, i4) = some a9) (fun (a4 : Nat) (a2 : Int) (i4 : Int) => [(1, .pointer (some ⟨b1, 0, none⟩)), (4, .int .i64 a2), (5, .int .i64 i4)]) (fun (a4 : Nat) (a2 : Int) (i4 : Int) => [(some b1, .cells #[.int .i64 n0.N, .int .i64 n0.S, .int .i64 n0.T, .slice n0f3_b n0f3_n n0f3_c] 24 (0, 0))]) (fun (a4 : Nat) (a2 : Int) (i4 : Int) => a4) Z3k 0 0 b0 (Z00 rfl (Z00 rfl (Z00 rfl Z08))) (Z02 tk0 Z09) ?_; rintro a4 a2 i4 H; obtain ⟨b5, a8, rfl, H, a5⟩ := Z1f H; have H : Z50 n0 a2 i4 = some a8 := H; unfold Z50 at H; refine Z0a ?_; refine Z0a ?_; refine Z03 (ll := [0, 1, 2, 3, 4]) rfl ?_; refine Z05 rfl rfl rfl rfl ?_; refine Z07 rfl rfl rfl rfl Z2j ?_; refine Z0e rfl rfl rfl rfl Z31 mm0 rfl ?_; refine Z1n (xs := n0.Arcs) h_n0f3.len rfl rfl rfl rfl rfl Z33 ?_; refine Z0q rfl rfl rfl rfl rfl rfl ?_; refine Z04 ?_; refine Z01 ?_; rcases Z0g H with ⟨g5, H⟩ | ⟨g5, H⟩
  ·
   refine Z13 rfl g5 ?_; refine T.skip ?_; refine Z01 ?_; refine Z0a ?_; refine T.block ?_; refine Z0a ?_; obtain ⟨g6, H⟩ := Z0d H; refine Z03 (ll := [0, 1, 2, 3, 4, 5, 6]) rfl ?_; refine Z07 rfl rfl rfl rfl Z2j ?_; refine Z0e rfl rfl rfl rfl Z31 mm0 rfl ?_; refine Z05 rfl rfl rfl rfl ?_; refine Z28 h_n0f3 g6 rfl rfl rfl rfl rfl Z33 Z6u ?_; refine TO.faR rfl rfl rfl rfl Z8v ?_; refine TO.ldFR (v := .int .i64 ((n0.Arcs.getD i4.toNat default).cap)) default h_n0f3 g6 rfl rfl rfl rfl rfl Z26 ?_; refine Z06 rfl rfl rfl rfl ?_; refine Z04 ?_; refine Z01 ?_; refine Z0j (Z00 (t := 1) rfl (Z00 (t := 4) rfl (Z00 (t := 5) rfl (Z00 (t := 6) rfl Z08)))) ?_; refine Z0a ?_; refine Z0a ?_; refine Z1i (fun (x9 : Bool) => Z51 n0 a2 i4 x9 = some a8) (fun (x9 : Bool) => [(1, .pointer (some ⟨b1, 0, none⟩)), (4, .int .i64 a2), (5, .int .i64 i4), (6, .int .i64 ((n0.Arcs.getD i4.toNat default).cap)), (27, .bool x9)]) (fun (x9 : Bool) => [(some b1, .cells #[.int .i64 n0.N, .int .i64 n0.S, .int .i64 n0.T, .slice n0f3_b n0f3_n n0f3_c] 24 (0, 0))]) ?_ ?_
   ·
    rcases Z0g H with ⟨g7, H⟩ | ⟨g7, H⟩
    · refine Z03 (ll := [0, 1, 2, 3, 4, 5, 6, 7]) rfl ?_; refine Z05 rfl rfl rfl rfl ?_; refine Z0q rfl rfl rfl rfl rfl rfl ?_; refine Z05 rfl rfl rfl rfl ?_; refine Z0v (t := 22) (b' := true) rfl (decide_eq_true g7) ?_; refine Z0c rfl rfl rfl rfl ?_; refine Z0c rfl rfl rfl rfl ?_; refine Z0c rfl rfl rfl rfl ?_; refine Z0c rfl rfl rfl rfl ?_; refine Z0y rfl rfl rfl rfl rfl ?_; refine Z04 ?_; exact Z1l true H (Z00 rfl (Z00 rfl (Z00 rfl (Z00 rfl (Z00 rfl Z08))))) (Z02 tk0 Z09)
    · obtain ⟨g8, H⟩ := Z0d H; refine Z03 (ll := [0, 1, 2, 3, 4, 5, 6, 7]) rfl ?_; refine Z05 rfl rfl rfl rfl ?_; refine Z0q rfl rfl rfl rfl rfl rfl ?_; refine Z05 rfl rfl rfl rfl ?_; refine Z0v (t := 22) (b' := false) rfl (decide_eq_false g7) ?_; refine Z05 rfl rfl rfl rfl ?_; refine Z05 rfl rfl rfl rfl ?_; refine Zbg g8 rfl rfl rfl rfl rfl ?_; refine Z0q rfl rfl rfl rfl rfl rfl ?_; refine Z0z rfl rfl rfl rfl rfl ?_; refine Z04 ?_; exact Z1l (decide ((4611686018427387904 - a2) < ((n0.Arcs.getD i4.toNat default).cap))) H (Z00 rfl (Z00 rfl (Z00 rfl (Z00 rfl (Z00 rfl Z08))))) (Z02 tk0 Z09)
   ·
    rintro x9 H; unfold Z51 at H; rcases Z0g H with ⟨a6, H⟩ | ⟨a6, H⟩
    · refine Z1e rfl a6 ?_; refine Z0a ?_; refine Z03 (ll := [0, 1]) rfl ?_; refine Z06 rfl rfl rfl rfl ?_; refine Z06 rfl rfl rfl rfl ?_; refine Z04 ?_; refine Z01 ?_; refine T.ret ?_; refine Z0f ?_; refine Z0n ?_; refine Z0f ?_; have H := Z0t H a5 ▸ a7; refine Z0f ?_; refine Z0n ?_; refine Z0f ?_; obtain ⟨rfl, rfl⟩ := ret2 H; exact Z5m rfl rfl rfl rfl (Res.tmp rfl) (Res.tmp rfl) Z09 ⟨rfl, rfl⟩
    · refine Z1s rfl (Bool.eq_false_iff.2 a6) ?_; refine T.skip ?_; refine Z01 ?_; obtain ⟨b6, H⟩ := Z0d H; refine Z03 (ll := [0, 1, 2, 3]) rfl ?_; refine Z05 rfl rfl rfl rfl ?_; refine Z05 rfl rfl rfl rfl ?_; refine Z17 b6 rfl rfl rfl rfl rfl ?_; refine Z06 rfl rfl rfl rfl ?_; refine Z04 ?_; refine Z0h ?_; refine Z01 ?_; obtain ⟨b7, H⟩ := Z0d H; refine Z03 (ll := [0, 1, 2]) rfl ?_; refine Z05 rfl rfl rfl rfl ?_; refine Z17 b7 rfl rfl rfl rfl rfl ?_; refine Z06 rfl rfl rfl rfl ?_; refine Z04 ?_; have H := Z10 H a5; exact Z2k b5 (a2 + ((n0.Arcs.getD i4.toNat default).cap)) (i4 + 1) H (Nat.lt_succ_self _) (Z00 rfl (Z00 rfl (Z00 rfl Z08))) (Z02 tk0 Z09)
  · refine Z14 rfl g5 ?_; refine T.exit ?_; refine Z0i ?_; have H := Z0t H a5 ▸ a7; refine Z0i ?_; refine Z0u ?_; exact Z1l a2 H (Z00 rfl Z08) Z09
 · rintro a3 H; unfold Z6g at H; refine Z0a ?_; refine Z03 (ll := [0, 1, 2]) rfl ?_; refine Z05 rfl rfl rfl rfl ?_; refine Z06 rfl rfl rfl rfl ?_; refine Z06 rfl rfl rfl rfl ?_; refine Z04 ?_; refine Z01 ?_; refine T.ret ?_; obtain ⟨rfl, rfl⟩ := ret2 H; exact Z5m rfl rfl rfl rfl (Res.tmp rfl) (Res.tmp rfl) Z09 ⟨rfl, rfl⟩
theorem Zeh {n0 : Net} {n0f3_b : Option Addr} {n0f3_n : Nat} {n0f3_c : Nat} (w : World) (h_n0f3 : RS w [] Z4t 3 n0f3_b n0f3_n n0f3_c n0.Arcs) {r0 : Int} (H : Z5b n0 = some r0) : Fnc Try.prog 98 #[.agg #[.int .i64 n0.N, .int .i64 n0.S, .int .i64 n0.T, .slice n0f3_b n0f3_n n0f3_c]] w [] (fun v N => v = .int .i64 r0 ∧ N = []) := by
 unfold Z5b at H; refine Fnc.enter (vs := [.agg #[.int .i64 n0.N, .int .i64 n0.S, .int .i64 n0.T, .slice n0f3_b n0f3_n n0f3_c]]) Try.func98 rfl rfl (Inv.refl w) ?_; refine Z0a ?_; refine Z03 (ll := [0, 1]) rfl ?_; refine Z1w rfl rfl rfl rfl ?_; intro b1; refine Z06 rfl rfl rfl rfl ?_; refine Z04 ?_; refine Z01 ?_; refine Z0a ?_; refine Z0a ?_; rcases Z0g H with ⟨g3, H⟩ | ⟨g3, H⟩
 · refine Z03 (ll := [0, 1, 2, 3, 4, 5, 6, 7]) rfl ?_; refine Z07 rfl rfl rfl rfl Z3j ?_; refine Z0e rfl rfl rfl rfl Z0r mm0 rfl ?_; refine Z0q rfl rfl rfl rfl rfl rfl ?_; refine Z05 rfl rfl rfl rfl ?_; refine Z0v (t := 11) (b' := true) rfl (decide_eq_true g3) ?_; refine Z0c rfl rfl rfl rfl ?_; refine Z0c rfl rfl rfl rfl ?_; refine Z0c rfl rfl rfl rfl ?_; refine Z0y rfl rfl rfl rfl rfl ?_; refine Z04 ?_; refine Z01 ?_; refine Z0j (Z00 (t := 1) rfl (Z00 (t := 15) rfl Z08)) ?_; refine Z1e rfl rfl ?_; refine Z0a ?_; refine Z03 (ll := [0]) rfl ?_; refine Z06 rfl rfl rfl rfl ?_; refine Z04 ?_; refine Z01 ?_; refine T.ret ?_; refine Z0f ?_; obtain rfl := ret1 H; exact Z12 rfl rfl rfl rfl (Res.tmp rfl) Z09 ⟨rfl, rfl⟩
 ·
  refine Z03 (ll := [0, 1, 2, 3, 4, 5, 6, 7]) rfl ?_; refine Z07 rfl rfl rfl rfl Z3j ?_; refine Z0e rfl rfl rfl rfl Z0r mm0 rfl ?_; refine Z0q rfl rfl rfl rfl rfl rfl ?_; refine Z05 rfl rfl rfl rfl ?_; refine Z0v (t := 11) (b' := false) rfl (decide_eq_false g3) ?_; refine Z07 rfl rfl rfl rfl Z3j ?_; refine Z0e rfl rfl rfl rfl Z0r mm0 rfl ?_; refine Z0q rfl rfl rfl rfl rfl rfl ?_; refine Z0z rfl rfl rfl rfl rfl ?_; refine Z04 ?_; refine Z01 ?_; refine Z0j (Z00 (t := 1) rfl (Z00 (t := 15) rfl Z08)) ?_; rcases Z0g H with ⟨g4, H⟩ | ⟨g4, H⟩
  · refine Z13 rfl g4 ?_; refine Z0a ?_; refine Z03 (ll := [0]) rfl ?_; refine Z06 rfl rfl rfl rfl ?_; refine Z04 ?_; refine Z01 ?_; refine T.ret ?_; refine Z0f ?_; obtain rfl := ret1 H; exact Z12 rfl rfl rfl rfl (Res.tmp rfl) Z09 ⟨rfl, rfl⟩
  ·
   refine Z14 rfl g4 ?_; refine T.skip ?_; refine Z01 ?_; refine Z0a ?_; refine Z0a ?_; refine Z03 (ll := [0, 1, 2, 3]) rfl ?_; refine Z07 rfl rfl rfl rfl Z2j ?_; refine Z0e rfl rfl rfl rfl Z31 mm0 rfl ?_; refine Z1n (xs := n0.Arcs) h_n0f3.len rfl rfl rfl rfl rfl Z33 ?_; refine Z0q rfl rfl rfl rfl rfl rfl ?_; refine Z04 ?_; refine Z01 ?_; rcases Z0g H with ⟨g5, H⟩ | ⟨g5, H⟩
   · refine Z13 rfl g5 ?_; refine Z0a ?_; refine Z03 (ll := [0]) rfl ?_; refine Z06 rfl rfl rfl rfl ?_; refine Z04 ?_; refine Z01 ?_; refine T.ret ?_; refine Z0f ?_; obtain rfl := ret1 H; exact Z12 rfl rfl rfl rfl (Res.tmp rfl) Z09 ⟨rfl, rfl⟩
   ·
    refine Z14 rfl g5 ?_; refine T.skip ?_; refine Z01 ?_; refine Z0a ?_; refine Z0a ?_; obtain ⟨r6, e7, H⟩ := Z0m H; rcases Z0g H with ⟨g8, H⟩ | ⟨g8, H⟩
    · refine Z03 (ll := [0, 1, 2, 3, 4, 5, 6, 7, 8, 9, 10, 11, 12, 13, 14, 15, 16, 17, 18]) rfl ?_; refine Z0s rfl rfl rfl rfl Z1d mm0 rfl ?_; refine Z07 rfl rfl rfl rfl Z3i ?_; refine Z0e rfl rfl rfl rfl Z0r mm0 rfl ?_; refine Z0p Z3b rfl rfl rfl rfl (fun wc hwc => Z2g (n0 := n0) (v1 := n0.S) wc (h_n0f3.mono hwc) e7) ?_; rintro _ _ ⟨rfl, rfl⟩; refine TO.not rfl rfl rfl rfl ?_; refine Z05 rfl rfl rfl rfl ?_; refine Z0v (t := 25) (b' := true) rfl g8 ?_; refine Z0c rfl rfl rfl rfl ?_; refine Z0c rfl rfl rfl rfl ?_; refine Z0c rfl rfl rfl rfl ?_; refine Z0c rfl rfl rfl rfl ?_; refine Z0c rfl rfl rfl rfl ?_; refine Z0y rfl rfl rfl rfl rfl ?_; refine Z05 rfl rfl rfl rfl ?_; refine Z0c rfl rfl rfl rfl ?_; refine Z0c rfl rfl rfl rfl ?_; refine Z0c rfl rfl rfl rfl ?_; refine Z0c rfl rfl rfl rfl ?_; refine Z0c rfl rfl rfl rfl ?_; refine Z0y rfl rfl rfl rfl rfl ?_; refine Z04 ?_; refine Z01 ?_; refine Z0j (Z00 (t := 1) rfl (Z00 (t := 38) rfl Z08)) ?_; refine Z1e rfl rfl ?_; refine Z0a ?_; refine Z03 (ll := [0]) rfl ?_; refine Z06 rfl rfl rfl rfl ?_; refine Z04 ?_; refine Z01 ?_; refine T.ret ?_; refine Z0f ?_; obtain rfl := ret1 H; exact Z12 rfl rfl rfl rfl (Res.tmp rfl) Z09 ⟨rfl, rfl⟩
    ·
     obtain ⟨r9, c3, H⟩ := Z0m H; rcases Z0g H with ⟨a7, H⟩ | ⟨a7, H⟩
     · refine Z03 (ll := [0, 1, 2, 3, 4, 5, 6, 7, 8, 9, 10, 11, 12, 13, 14, 15, 16, 17, 18]) rfl ?_; refine Z0s rfl rfl rfl rfl Z1d mm0 rfl ?_; refine Z07 rfl rfl rfl rfl Z3i ?_; refine Z0e rfl rfl rfl rfl Z0r mm0 rfl ?_; refine Z0p Z3b rfl rfl rfl rfl (fun wc hwc => Z2g (n0 := n0) (v1 := n0.S) wc (h_n0f3.mono hwc) e7) ?_; rintro _ _ ⟨rfl, rfl⟩; refine TO.not rfl rfl rfl rfl ?_; refine Z05 rfl rfl rfl rfl ?_; refine Z0v (t := 25) (b' := false) rfl (Bool.eq_false_iff.2 g8) ?_; refine Z0s rfl rfl rfl rfl Z1d mm0 rfl ?_; refine Z07 rfl rfl rfl rfl Z4q ?_; refine Z0e rfl rfl rfl rfl Z0r mm0 rfl ?_; refine Z0p Z3b rfl rfl rfl rfl (fun wc hwc => Z2g (n0 := n0) (v1 := n0.T) wc (h_n0f3.mono hwc) c3) ?_; rintro _ _ ⟨rfl, rfl⟩; refine TO.not rfl rfl rfl rfl ?_; refine Z0z rfl rfl rfl rfl rfl ?_; refine Z05 rfl rfl rfl rfl ?_; refine Z0v (t := 32) (b' := true) rfl a7 ?_; refine Z0c rfl rfl rfl rfl ?_; refine Z0c rfl rfl rfl rfl ?_; refine Z0c rfl rfl rfl rfl ?_; refine Z0c rfl rfl rfl rfl ?_; refine Z0c rfl rfl rfl rfl ?_; refine Z0y rfl rfl rfl rfl rfl ?_; refine Z04 ?_; refine Z01 ?_; refine Z0j (Z00 (t := 1) rfl (Z00 (t := 38) rfl Z08)) ?_; refine Z1e rfl rfl ?_; refine Z0a ?_; refine Z03 (ll := [0]) rfl ?_; refine Z06 rfl rfl rfl rfl ?_; refine Z04 ?_; refine Z01 ?_; refine T.ret ?_; refine Z0f ?_; obtain rfl := ret1 H; exact Z12 rfl rfl rfl rfl (Res.tmp rfl) Z09 ⟨rfl, rfl⟩
     ·
      refine Z03 (ll := [0, 1, 2, 3, 4, 5, 6, 7, 8, 9, 10, 11, 12, 13, 14, 15, 16, 17, 18]) rfl ?_; refine Z0s rfl rfl rfl rfl Z1d mm0 rfl ?_; refine Z07 rfl rfl rfl rfl Z3i ?_; refine Z0e rfl rfl rfl rfl Z0r mm0 rfl ?_; refine Z0p Z3b rfl rfl rfl rfl (fun wc hwc => Z2g (n0 := n0) (v1 := n0.S) wc (h_n0f3.mono hwc) e7) ?_; rintro _ _ ⟨rfl, rfl⟩; refine TO.not rfl rfl rfl rfl ?_; refine Z05 rfl rfl rfl rfl ?_; refine Z0v (t := 25) (b' := false) rfl (Bool.eq_false_iff.2 g8) ?_; refine Z0s rfl rfl rfl rfl Z1d mm0 rfl ?_; refine Z07 rfl rfl rfl rfl Z4q ?_; refine Z0e rfl rfl rfl rfl Z0r mm0 rfl ?_; refine Z0p Z3b rfl rfl rfl rfl (fun wc hwc => Z2g (n0 := n0) (v1 := n0.T) wc (h_n0f3.mono hwc) c3) ?_; rintro _ _ ⟨rfl, rfl⟩; refine TO.not rfl rfl rfl rfl ?_; refine Z0z rfl rfl rfl rfl rfl ?_; refine Z05 rfl rfl rfl rfl ?_; refine Z0v (t := 32) (b' := false) rfl (Bool.eq_false_iff.2 a7) ?_; refine Z07 rfl rfl rfl rfl Z3i ?_; refine Z0e rfl rfl rfl rfl Z0r mm0 rfl ?_; refine Z07 rfl rfl rfl rfl Z4q ?_; refine Z0e rfl rfl rfl rfl Z0r mm0 rfl ?_; refine Z0q rfl rfl rfl rfl rfl rfl ?_; refine Z0z rfl rfl rfl rfl rfl ?_; refine Z04 ?_; refine Z01 ?_; refine Z0j (Z00 (t := 1) rfl (Z00 (t := 38) rfl Z08)) ?_; rcases Z0g H with ⟨a8, H⟩ | ⟨a8, H⟩
      · refine Z13 rfl a8 ?_; refine Z0a ?_; refine Z03 (ll := [0]) rfl ?_; refine Z06 rfl rfl rfl rfl ?_; refine Z04 ?_; refine Z01 ?_; refine T.ret ?_; refine Z0f ?_; obtain rfl := ret1 H; exact Z12 rfl rfl rfl rfl (Res.tmp rfl) Z09 ⟨rfl, rfl⟩
      ·
       refine Z14 rfl a8 ?_; refine T.skip ?_; refine Z01 ?_; refine Z0a ?_; refine Z03 (ll := [0]) rfl ?_; refine Z06 rfl rfl rfl rfl ?_; refine Z04 ?_; refine Z01 ?_; refine Z0a ?_; refine Z0a ?_; refine Z03 (ll := [0]) rfl ?_; refine Z06 rfl rfl rfl rfl ?_; refine Z04 ?_; refine Z01 ?_; refine Z1i (fun (a3 : Bool) => Z5k n0 a3 = some r0) (fun (a3 : Bool) => [(1, .pointer (some ⟨b1, 0, none⟩)), (3, .bool a3)]) (fun (a3 : Bool) => [(some b1, .cells #[.int .i64 n0.N, .int .i64 n0.S, .int .i64 n0.T, .slice n0f3_b n0f3_n n0f3_c] 24 (0, 0))]) ?_ ?_
       ·
        refine T.block ?_; obtain ⟨c9, d0, a9⟩ := Z0m H; refine Z6o (fun (a5 : Nat) (a2 : Bool) (a4 : Int) => Z21 (fun s => Z3u n0 s.1 s.2) a5 (a2, a4) = some c9) (fun (a5 : Nat) (a2 : Bool) (a4 : Int) => [(1, .pointer (some ⟨b1, 0, none⟩)), (3, .bool a2), (4, .int .i64 a4)]) (fun (a5 : Nat) (a2 : Bool) (a4 : Int) => [(some b1, .cells #[.int .i64 n0.N, .int .i64 n0.S, .int .i64 n0.T, .slice n0f3_b n0f3_n n0f3_c] 24 (0, 0))]) (fun (a5 : Nat) (a2 : Bool) (a4 : Int) => a5) Z3k false 0 d0 (Z00 rfl (Z00 rfl (Z00 rfl Z08))) (Z02 tk0 Z09) ?_; rintro a5 a2 a4 H; obtain ⟨c4, d1, rfl, H, a6⟩ := Z1f H; have H : Z3u n0 a2 a4 = some d1 := H; unfold Z3u at H; refine Z0a ?_; refine Z0a ?_; refine Z03 (ll := [0, 1, 2, 3, 4]) rfl ?_; refine Z05 rfl rfl rfl rfl ?_; refine Z07 rfl rfl rfl rfl Z2j ?_; refine Z0e rfl rfl rfl rfl Z31 mm0 rfl ?_; refine Z1n (xs := n0.Arcs) h_n0f3.len rfl rfl rfl rfl rfl Z33 ?_; refine Z0q rfl rfl rfl rfl rfl rfl ?_; refine Z04 ?_; refine Z01 ?_; rcases Z0g H with ⟨b0, H⟩ | ⟨b0, H⟩
        ·
         refine Z13 rfl b0 ?_; refine T.skip ?_; refine Z01 ?_; refine Z0a ?_; refine T.block ?_; refine Z0a ?_; obtain ⟨c7, H⟩ := Z0d H; refine Z03 (ll := [0, 1, 2, 3, 4, 5, 6]) rfl ?_; refine Z07 rfl rfl rfl rfl Z2j ?_; refine Z0e rfl rfl rfl rfl Z31 mm0 rfl ?_; refine Z05 rfl rfl rfl rfl ?_; refine Z28 h_n0f3 c7 rfl rfl rfl rfl rfl Z33 Z6u ?_; refine Z8z (cs := [.int .i64 ((n0.Arcs.getD a4.toNat default).fr), .int .i64 ((n0.Arcs.getD a4.toNat default).to), .int .i64 ((n0.Arcs.getD a4.toNat default).cap)]) default h_n0f3 c7 rfl rfl rfl rfl rfl Zch ?_; refine Z1k rfl rfl rfl Zce ?_; intro d7; refine Z1g rfl rfl rfl rfl tk0 Z6u rfl rfl rfl ?_; refine Z04 ?_; refine Z01 ?_; refine Z0j (Z00 (t := 1) rfl (Z00 (t := 3) rfl (Z00 (t := 4) rfl (Z00 (t := 5) rfl Z08)))) ?_; refine Z0a ?_; refine Z0a ?_; obtain ⟨d8, c8, H⟩ := Z0m H; rcases Z0g H with ⟨b5, H⟩ | ⟨b5, H⟩
         · refine Z03 (ll := [0, 1, 2, 3, 4, 5, 6, 7, 8, 9, 10, 11]) rfl ?_; refine Z0s rfl rfl rfl rfl Z1d mm1 rfl ?_; refine Z07 rfl rfl rfl rfl Z5u ?_; refine Z0e rfl rfl rfl rfl Z0r mm0 rfl ?_; refine Z0p Z3b rfl rfl rfl rfl (fun wc hwc => Z2g (n0 := n0) (v1 := (n0.Arcs.getD a4.toNat default).fr) wc (h_n0f3.mono hwc) c8) ?_; rintro _ _ ⟨rfl, rfl⟩; refine TO.not rfl rfl rfl rfl ?_; refine Z05 rfl rfl rfl rfl ?_; refine Z0v (t := 56) (b' := true) rfl b5 ?_; refine Z0c rfl rfl rfl rfl ?_; refine Z0c rfl rfl rfl rfl ?_; refine Z0c rfl rfl rfl rfl ?_; refine Z0c rfl rfl rfl rfl ?_; refine Z0c rfl rfl rfl rfl ?_; refine Z0y rfl rfl rfl rfl rfl ?_; refine Z04 ?_; refine Z01 ?_; refine Z1e rfl rfl ?_; refine Z0a ?_; refine Z03 (ll := [0]) rfl ?_; refine Z06 rfl rfl rfl rfl ?_; refine Z04 ?_; refine Z01 ?_; refine Z0j (Z00 (t := 2) rfl Z08) ?_; refine T.ret ?_; refine Z0f ?_; refine Z0n ?_; refine Z0f ?_; have H := Z0t H a6 ▸ a9; refine Z0f ?_; refine Z0n ?_; refine Z0f ?_; obtain rfl := ret1 H; exact Z12 rfl rfl rfl rfl (Res.tmp rfl) Z09 ⟨rfl, rfl⟩
         ·
          obtain ⟨d9, d3, H⟩ := Z0m H; refine Z03 (ll := [0, 1, 2, 3, 4, 5, 6, 7, 8, 9, 10, 11]) rfl ?_; refine Z0s rfl rfl rfl rfl Z1d mm1 rfl ?_; refine Z07 rfl rfl rfl rfl Z5u ?_; refine Z0e rfl rfl rfl rfl Z0r mm0 rfl ?_; refine Z0p Z3b rfl rfl rfl rfl (fun wc hwc => Z2g (n0 := n0) (v1 := (n0.Arcs.getD a4.toNat default).fr) wc (h_n0f3.mono hwc) c8) ?_; rintro _ _ ⟨rfl, rfl⟩; refine TO.not rfl rfl rfl rfl ?_; refine Z05 rfl rfl rfl rfl ?_; refine Z0v (t := 56) (b' := false) rfl (Bool.eq_false_iff.2 b5) ?_; refine Z0s rfl rfl rfl rfl Z1d mm1 rfl ?_; refine Z07 rfl rfl rfl rfl Z78 ?_; refine Z0e rfl rfl rfl rfl Z0r mm0 rfl ?_; refine Z0p Z3b rfl rfl rfl rfl (fun wc hwc => Z2g (n0 := n0) (v1 := (n0.Arcs.getD a4.toNat default).to) wc (h_n0f3.mono hwc) d3) ?_; rintro _ _ ⟨rfl, rfl⟩; refine TO.not rfl rfl rfl rfl ?_; refine Z0z rfl rfl rfl rfl rfl ?_; refine Z04 ?_; refine Z01 ?_; rcases Z0g H with ⟨b6, H⟩ | ⟨b6, H⟩
          · refine Z1e rfl b6 ?_; refine Z0a ?_; refine Z03 (ll := [0]) rfl ?_; refine Z06 rfl rfl rfl rfl ?_; refine Z04 ?_; refine Z01 ?_; refine Z0j (Z00 (t := 2) rfl Z08) ?_; refine T.ret ?_; refine Z0f ?_; refine Z0n ?_; refine Z0f ?_; have H := Z0t H a6 ▸ a9; refine Z0f ?_; refine Z0n ?_; refine Z0f ?_; obtain rfl := ret1 H; exact Z12 rfl rfl rfl rfl (Res.tmp rfl) Z09 ⟨rfl, rfl⟩
          ·
           refine Z1s rfl (Bool.eq_false_iff.2 b6) ?_; refine T.skip ?_; refine Z01 ?_; rcases Z0g H with ⟨b7, H⟩ | ⟨b7, H⟩
           · refine Z03 (ll := [0, 1, 2, 3, 4, 5, 6]) rfl ?_; refine Z05 rfl rfl rfl rfl ?_; refine Z05 rfl rfl rfl rfl ?_; refine Z0v (t := 64) (b' := true) rfl b7 ?_; refine Z0c rfl rfl rfl rfl ?_; refine Z0c rfl rfl rfl rfl ?_; refine Z0c rfl rfl rfl rfl ?_; refine Z0y rfl rfl rfl rfl rfl ?_; refine Z06 rfl rfl rfl rfl ?_; refine Z04 ?_; refine Z0h ?_; refine Z01 ?_; refine Z0j (Z00 (t := 1) rfl (Z00 (t := 3) rfl (Z00 (t := 4) rfl (Z00 (t := 57) rfl (Z00 (t := 58) rfl (Z00 (t := 59) rfl (Z00 (t := 60) rfl (Z00 (t := 61) rfl (Z00 (t := 65) rfl (Z00 (t := 66) rfl (Z00 (t := 67) rfl Z08))))))))))) ?_; obtain ⟨d4, H⟩ := Z0d H; refine Z03 (ll := [0, 1, 2]) rfl ?_; refine Z05 rfl rfl rfl rfl ?_; refine Z17 d4 rfl rfl rfl rfl rfl ?_; refine Z06 rfl rfl rfl rfl ?_; refine Z04 ?_; have H := Z10 H a6; exact Z2k c4 true (a4 + 1) H (Nat.lt_succ_self _) (Z00 rfl (Z00 rfl (Z00 rfl Z08))) (Z02 tk1 Z09)
           · refine Z03 (ll := [0, 1, 2, 3, 4, 5, 6]) rfl ?_; refine Z05 rfl rfl rfl rfl ?_; refine Z05 rfl rfl rfl rfl ?_; refine Z0v (t := 64) (b' := false) rfl (Bool.eq_false_iff.2 b7) ?_; refine Z07 rfl rfl rfl rfl Z8v ?_; refine Z0e rfl rfl rfl rfl Z26 mm0 rfl ?_; refine Z0q rfl rfl rfl rfl rfl rfl ?_; refine Z0z rfl rfl rfl rfl rfl ?_; refine Z06 rfl rfl rfl rfl ?_; refine Z04 ?_; refine Z0h ?_; refine Z01 ?_; refine Z0j (Z00 (t := 1) rfl (Z00 (t := 3) rfl (Z00 (t := 4) rfl (Z00 (t := 57) rfl (Z00 (t := 58) rfl (Z00 (t := 59) rfl (Z00 (t := 60) rfl (Z00 (t := 61) rfl (Z00 (t := 65) rfl (Z00 (t := 66) rfl (Z00 (t := 67) rfl Z08))))))))))) ?_; obtain ⟨d5, H⟩ := Z0d H; refine Z03 (ll := [0, 1, 2]) rfl ?_; refine Z05 rfl rfl rfl rfl ?_; refine Z17 d5 rfl rfl rfl rfl rfl ?_; refine Z06 rfl rfl rfl rfl ?_; refine Z04 ?_; have H := Z10 H a6; exact Z2k c4 (decide (((n0.Arcs.getD a4.toNat default).cap) < 0)) (a4 + 1) H (Nat.lt_succ_self _) (Z00 rfl (Z00 rfl (Z00 rfl Z08))) (Z02 tk1 Z09)
        · refine Z14 rfl b0 ?_; refine T.exit ?_; refine Z0i ?_; have H := Z0t H a6 ▸ a9; refine Z0i ?_; refine Z0u ?_; exact Z1l a2 H (Z00 rfl (Z00 rfl Z08)) (Z02 tk0 Z09)
       ·
        rintro a3 H; unfold Z5k at H; refine Z0a ?_; refine Z0a ?_; refine Z03 (ll := [0]) rfl ?_; refine Z05 rfl rfl rfl rfl ?_; refine Z04 ?_; refine Z01 ?_; rcases Z0g H with ⟨b8, H⟩ | ⟨b8, H⟩
        · refine Z1e rfl b8 ?_; refine Z0a ?_; refine Z03 (ll := [0]) rfl ?_; refine Z06 rfl rfl rfl rfl ?_; refine Z04 ?_; refine Z01 ?_; refine T.ret ?_; refine Z0f ?_; obtain rfl := ret1 H; exact Z12 rfl rfl rfl rfl (Res.tmp rfl) Z09 ⟨rfl, rfl⟩
        ·
         refine Z1s rfl (Bool.eq_false_iff.2 b8) ?_; refine T.skip ?_; refine Z01 ?_; refine Z0a ?_; obtain ⟨⟨e0, e1⟩, d6, H⟩ := Z0m H; refine Z03 (ll := [0, 1, 2, 3, 4, 5, 6]) rfl ?_; refine Z0s rfl rfl rfl rfl Z1d mm0 rfl ?_; refine Z0p Zfm rfl rfl rfl rfl (fun wc hwc => Zfd (n0 := n0) wc (h_n0f3.mono hwc) d6) ?_; rintro _ _ ⟨rfl, rfl⟩; refine Z05 rfl rfl rfl rfl ?_; refine TO.extract rfl rfl rfl rfl rfl ?_; refine TO.extract rfl rfl rfl rfl rfl ?_; refine Z06 rfl rfl rfl rfl ?_; refine Z06 rfl rfl rfl rfl ?_; refine Z04 ?_; refine Z01 ?_; refine Z0j (Z00 (t := 7) rfl Z08) ?_; refine Z0a ?_; refine Z0a ?_; refine Z03 (ll := [0, 1]) rfl ?_; refine Z05 rfl rfl rfl rfl ?_; refine TO.not rfl rfl rfl rfl ?_; refine Z04 ?_; refine Z01 ?_; rcases Z0g H with ⟨b9, H⟩ | ⟨b9, H⟩
         · refine Z1e rfl b9 ?_; refine Z0a ?_; refine Z03 (ll := [0]) rfl ?_; refine Z06 rfl rfl rfl rfl ?_; refine Z04 ?_; refine Z01 ?_; refine T.ret ?_; refine Z0f ?_; obtain rfl := ret1 H; exact Z12 rfl rfl rfl rfl (Res.tmp rfl) Z09 ⟨rfl, rfl⟩
         · refine Z1s rfl (Bool.eq_false_iff.2 b9) ?_; refine T.skip ?_; refine Z01 ?_; refine Z0a ?_; refine Z03 (ll := [0]) rfl ?_; refine Z06 rfl rfl rfl rfl ?_; refine Z04 ?_; refine Z01 ?_; refine T.ret ?_; obtain rfl := ret1 H; exact Z12 rfl rfl rfl rfl (Res.tmp rfl) Z09 ⟨rfl, rfl⟩
theorem Zen {n0 : Net} {n0f3_b : Option Addr} {n0f3_n : Nat} {n0f3_c : Nat} (w : World) (h_n0f3 : RS w [] Z4t 3 n0f3_b n0f3_n n0f3_c n0.Arcs) {r0 : Csr} {r1 : Int} (H : Z5r n0 = some (r0, r1)) : Fnc Try.prog 61 #[.agg #[.int .i64 n0.N, .int .i64 n0.S, .int .i64 n0.T, .slice n0f3_b n0f3_n n0f3_c]] w [] (fun v N => ∃ (z6 : Option Nat) (L3 : Nat) (L4 : Nat) (P3 : List Value) (z7 : Option Nat) (L5 : Nat) (L6 : Nat) (P4 : List Value) (z8 : Option Nat) (L7 : Nat) (L8 : Nat) (P5 : List Value) (q6 : Option Nat) (u1 : Nat) (u2 : Nat) (B4 : List Value) (q7 : Option Nat) (u5 : Nat) (u6 : Nat) (B5 : List Value) (q8 : Option Nat) (u7 : Nat) (u8 : Nat) (B6 : List Value), v = .tuple #[.agg #[.int .i64 r0.N, .int .i64 r0.S, .int .i64 r0.T, .slice (sb z6) L3 L4, .slice (sb z7) L5 L6, .slice (sb z8) L7 L8, .slice (sb q6) u1 u2, .slice (sb q7) u5 u6, .slice (sb q8) u7 u8], .int .i64 r1] ∧ N = [(z6, .cells (arr (intC .i64) r0.First P3).toArray 3 (0, 0)), (z7, .cells (arr (intC .i64) r0.Head P4).toArray 3 (0, 0)), (z8, .cells (arr (intC .i64) r0.Rev P5).toArray 3 (0, 0)), (q6, .cells (arr (intC .i64) r0.Cap B4).toArray 2 (0, 0)), (q7, .cells (arr (intC .i64) r0.Arc B5).toArray 3 (0, 0)), (q8, .cells (arr boolC r0.Back B6).toArray 4 (0, 0))] ∧ r0.First.length = L3 ∧ L3 ≤ L4 ∧ P3.length = (L4 - L3) * 1 ∧ (z6 = none → L4 = 0) ∧ r0.Head.length = L5 ∧ L5 ≤ L6 ∧ P4.length = (L6 - L5) * 1 ∧ (z7 = none → L6 = 0) ∧ r0.Rev.length = L7 ∧ L7 ≤ L8 ∧ P5.length = (L8 - L7) * 1 ∧ (z8 = none → L8 = 0) ∧ r0.Cap.length = u1 ∧ u1 ≤ u2 ∧ B4.length = (u2 - u1) * 1 ∧ (q6 = none → u2 = 0) ∧ r0.Arc.length = u5 ∧ u5 ≤ u6 ∧ B5.length = (u6 - u5) * 1 ∧ (q7 = none → u6 = 0) ∧ r0.Back.length = u7 ∧ u7 ≤ u8 ∧ B6.length = (u8 - u7) * 1 ∧ (q8 = none → u8 = 0)) := by
 unfold Z5r at H; refine Fnc.enter (vs := [.agg #[.int .i64 n0.N, .int .i64 n0.S, .int .i64 n0.T, .slice n0f3_b n0f3_n n0f3_c]]) Try.func61 rfl rfl (Inv.refl w) ?_; refine Z0a ?_; refine Z03 (ll := [0, 1, 2]) rfl ?_; refine Z1w rfl rfl rfl rfl ?_; intro b1; refine Z1k rfl rfl rfl Z6t ?_; intro b3; refine Z06 rfl rfl rfl rfl ?_; refine Z04 ?_; refine Z01 ?_; refine Z0a ?_; obtain ⟨r5, e6, H⟩ := Z0m H; refine Z03 (ll := [0, 1, 2]) rfl ?_; refine Z0s rfl rfl rfl rfl Z1d mm1 rfl ?_; refine Z0p Zg5 rfl rfl rfl rfl (fun wc hwc => Zeh (n0 := n0) wc (h_n0f3.mono hwc) e6) ?_; rintro _ _ ⟨rfl, rfl⟩; refine Z06 rfl rfl rfl rfl ?_; refine Z04 ?_; refine Z01 ?_; refine Z0a ?_; refine Z0a ?_; refine Z03 (ll := [0, 1]) rfl ?_; refine Z05 rfl rfl rfl rfl ?_; refine Z0q rfl rfl rfl rfl rfl rfl ?_; refine Z04 ?_; refine Z01 ?_; rcases Z0g H with ⟨g7, H⟩ | ⟨g7, H⟩
 · refine Z13 rfl g7 ?_; refine Z0a ?_; refine Z03 (ll := [0, 1, 2, 3]) rfl ?_; refine Z2m (t := 64) [.int .i64 0, .int .i64 0, .int .i64 0, .slice none 0 0, .slice none 0 0, .slice none 0 0, .slice none 0 0, .slice none 0 0, .slice none 0 0] [0, 1, 2, 3, 4, 5, 6, 7, 8] rfl rfl rfl rfl (by simp only [Z1o, setCells, Value.cells, List.toList_toArray, List.getD_cons_zero, List.getD_cons_succ, List.set_cons_zero, List.set_cons_succ]; rfl) (by kernel_rfl) ?_; refine Z05 rfl rfl rfl rfl ?_; refine Z1g rfl rfl rfl rfl tk0 Z5o rfl rfl rfl ?_; refine Z06 rfl rfl rfl rfl ?_; refine Z04 ?_; refine Z01 ?_; refine Z0j (Z00 (t := 2) rfl (Z00 (t := 3) rfl Z08)) ?_; refine T.ret ?_; refine Z0f ?_; obtain ⟨rfl, rfl⟩ := ret2 H; exact Z5m rfl rfl rfl rfl (Z8h rfl Z4r mm0 rfl) (Res.tmp rfl) (Pick.none (Pick.none (Pick.none (Pick.none (Pick.none (Pick.none Z09)))))) ⟨none, 0, 0, ([]), none, 0, 0, ([]), none, 0, 0, ([]), none, 0, 0, ([]), none, 0, 0, ([]), none, 0, 0, ([]), rfl, rfl, rfl, (Nat.le_refl _), (Z2u 0 _), (fun _ => rfl), rfl, (Nat.le_refl _), (Z2u 0 _), (fun _ => rfl), rfl, (Nat.le_refl _), (Z2u 0 _), (fun _ => rfl), rfl, (Nat.le_refl _), (Z2u 0 _), (fun _ => rfl), rfl, (Nat.le_refl _), (Z2u 0 _), (fun _ => rfl), rfl, (Nat.le_refl _), (Z2u 0 _), (fun _ => rfl)⟩
 ·
  refine Z14 rfl g7 ?_; refine T.skip ?_; refine Z01 ?_; refine Z0a ?_; refine Z03 (ll := [0, 1, 2, 3, 4, 5, 6, 7, 8]) rfl ?_; refine Z07 rfl rfl rfl rfl Z3j ?_; refine Z0e rfl rfl rfl rfl Z0r mm1 rfl ?_; refine Z07 rfl rfl rfl rfl Z3i ?_; refine Z0e rfl rfl rfl rfl Z0r mm1 rfl ?_; refine Z07 rfl rfl rfl rfl Z4q ?_; refine Z0e rfl rfl rfl rfl Z0r mm1 rfl ?_; refine Z2m (t := 64) [.int .i64 0, .int .i64 0, .int .i64 0, .slice none 0 0, .slice none 0 0, .slice none 0 0, .slice none 0 0, .slice none 0 0, .slice none 0 0] [0, 1, 2, 3, 4, 5, 6, 7, 8] rfl rfl rfl rfl (by simp only [Z1o, setCells, Value.cells, List.toList_toArray, List.getD_cons_zero, List.getD_cons_succ, List.set_cons_zero, List.set_cons_succ]; rfl) (by kernel_rfl) ?_; refine Z1k rfl rfl rfl Z6t ?_; intro b8; refine Z1g rfl rfl rfl rfl tk0 Z5o rfl rfl rfl ?_; refine Z04 ?_; refine Z01 ?_; refine Z0j (Z00 (t := 1) rfl (Z00 (t := 2) rfl (Z00 (t := 5) rfl Z08))) ?_; refine Z0a ?_; refine Z0a ?_; refine Z03 (ll := [0]) rfl ?_; refine Z06 rfl rfl rfl rfl ?_; refine Z04 ?_; refine Z01 ?_; refine Zjl (fun (a3 : List Int) (e8 : Nat) (o0 : Nat) (i1 : Option Nat) (p5 : List Value) (a2 : List Int) (e9 : Nat) (f0 : Nat) (b0 : Option Nat) (i2 : List Value) (c4 : List Int) (f2 : Nat) (f3 : Nat) (b5 : Option Nat) (i4 : List Value) (a7 : List Int) (f4 : Nat) (f5 : Nat) (b6 : Option Nat) (i5 : List Value) (a9 : List Bool) (f6 : Nat) (f7 : Nat) (b7 : Option Nat) (i6 : List Value) => Z60 n0 a3 a2 c4 a7 a9 = some (r0, r1) ∧ a3.length = e8 ∧ e8 ≤ o0 ∧ p5.length = (o0 - e8) * 1 ∧ (i1 = none → o0 = 0) ∧ a2.length = e9 ∧ e9 ≤ f0 ∧ i2.length = (f0 - e9) * 1 ∧ (b0 = none → f0 = 0) ∧ c4.length = f2 ∧ f2 ≤ f3 ∧ i4.length = (f3 - f2) * 1 ∧ (b5 = none → f3 = 0) ∧ a7.length = f4 ∧ f4 ≤ f5 ∧ i5.length = (f5 - f4) * 1 ∧ (b6 = none → f5 = 0) ∧ a9.length = f6 ∧ f6 ≤ f7 ∧ i6.length = (f7 - f6) * 1 ∧ (b7 = none → f7 = 0)) (fun (a3 : List Int) (e8 : Nat) (o0 : Nat) (i1 : Option Nat) (p5 : List Value) (a2 : List Int) (e9 : Nat) (f0 : Nat) (b0 : Option Nat) (i2 : List Value) (c4 : List Int) (f2 : Nat) (f3 : Nat) (b5 : Option Nat) (i4 : List Value) (a7 : List Int) (f4 : Nat) (f5 : Nat) (b6 : Option Nat) (i5 : List Value) (a9 : List Bool) (f6 : Nat) (f7 : Nat) (b7 : Option Nat) (i6 : List Value) => [(2, .pointer (some ⟨b3, 0, none⟩)), (5, .pointer (some ⟨b8, 0, none⟩))]) (fun (a3 : List Int) (e8 : Nat) (o0 : Nat) (i1 : Option Nat) (p5 : List Value) (a2 : List Int) (e9 : Nat) (f0 : Nat) (b0 : Option Nat) (i2 : List Value) (c4 : List Int) (f2 : Nat) (f3 : Nat) (b5 : Option Nat) (i4 : List Value) (a7 : List Int) (f4 : Nat) (f5 : Nat) (b6 : Option Nat) (i5 : List Value) (a9 : List Bool) (f6 : Nat) (f7 : Nat) (b7 : Option Nat) (i6 : List Value) => [(some b3, .cells #[.int .i64 0, .int .i64 0, .int .i64 0, .slice none 0 0, .slice none 0 0, .slice none 0 0, .slice none 0 0, .slice none 0 0, .slice none 0 0] 64 (0, 0)), (some b8, .cells #[.int .i64 n0.N, .int .i64 n0.S, .int .i64 n0.T, .slice (sb i1) e8 o0, .slice (sb b0) e9 f0, .slice none 0 0, .slice (sb b5) f2 f3, .slice (sb b6) f4 f5, .slice (sb b7) f6 f7] 64 (0, 0)), (i1, .cells (arr (intC .i64) a3 p5).toArray 3 (0, 0)), (b0, .cells (arr (intC .i64) a2 i2).toArray 3 (0, 0)), (b5, .cells (arr (intC .i64) c4 i4).toArray 2 (0, 0)), (b6, .cells (arr (intC .i64) a7 i5).toArray 3 (0, 0)), (b7, .cells (arr boolC a9 i6).toArray 4 (0, 0))]) ?_ ?_
  ·
   refine T.block ?_; obtain ⟨Q3, Q4, Q5⟩ := Z0m H; refine Zs8 (fun (B0 : Nat) (a4 : List Int) (j7 : Nat) (u9 : Nat) (k8 : Option Nat) (w5 : List Value) (a5 : List Int) (q9 : Nat) (r2 : Nat) (j8 : Option Nat) (w6 : List Value) (e4 : List Int) (r3 : Nat) (c32 : Nat) (j9 : Option Nat) (w7 : List Value) (e5 : List Int) (r4 : Nat) (c42 : Nat) (k1 : Option Nat) (w8 : List Value) (d1 : List Bool) (r6 : Nat) (c52 : Nat) (k2 : Option Nat) (w9 : List Value) (o1 : Int) => Z21 (fun s => Z4g n0 s.1 s.2.1 s.2.2.1 s.2.2.2.1 s.2.2.2.2.1 s.2.2.2.2.2) B0 (a4, a5, e4, e5, d1, o1) = some Q3 ∧ a4.length = j7 ∧ j7 ≤ u9 ∧ w5.length = (u9 - j7) * 1 ∧ (k8 = none → u9 = 0) ∧ a5.length = q9 ∧ q9 ≤ r2 ∧ w6.length = (r2 - q9) * 1 ∧ (j8 = none → r2 = 0) ∧ e4.length = r3 ∧ r3 ≤ c32 ∧ w7.length = (c32 - r3) * 1 ∧ (j9 = none → c32 = 0) ∧ e5.length = r4 ∧ r4 ≤ c42 ∧ w8.length = (c42 - r4) * 1 ∧ (k1 = none → c42 = 0) ∧ d1.length = r6 ∧ r6 ≤ c52 ∧ w9.length = (c52 - r6) * 1 ∧ (k2 = none → c52 = 0)) (fun (B0 : Nat) (a4 : List Int) (j7 : Nat) (u9 : Nat) (k8 : Option Nat) (w5 : List Value) (a5 : List Int) (q9 : Nat) (r2 : Nat) (j8 : Option Nat) (w6 : List Value) (e4 : List Int) (r3 : Nat) (c32 : Nat) (j9 : Option Nat) (w7 : List Value) (e5 : List Int) (r4 : Nat) (c42 : Nat) (k1 : Option Nat) (w8 : List Value) (d1 : List Bool) (r6 : Nat) (c52 : Nat) (k2 : Option Nat) (w9 : List Value) (o1 : Int) => [(1, .pointer (some ⟨b1, 0, none⟩)), (2, .pointer (some ⟨b3, 0, none⟩)), (5, .pointer (some ⟨b8, 0, none⟩)), (6, .int .i64 o1)]) (fun (B0 : Nat) (a4 : List Int) (j7 : Nat) (u9 : Nat) (k8 : Option Nat) (w5 : List Value) (a5 : List Int) (q9 : Nat) (r2 : Nat) (j8 : Option Nat) (w6 : List Value) (e4 : List Int) (r3 : Nat) (c32 : Nat) (j9 : Option Nat) (w7 : List Value) (e5 : List Int) (r4 : Nat) (c42 : Nat) (k1 : Option Nat) (w8 : List Value) (d1 : List Bool) (r6 : Nat) (c52 : Nat) (k2 : Option Nat) (w9 : List Value) (o1 : Int) => [(some b1, .cells #[.int .i64 n0.N, .int .i64 n0.S, .int .i64 n0.T, .slice n0f3_b n0f3_n n0f3_c] 24 (0, 0)), (some b3, .cells #[.int .i64 0, .int .i64 0, .int .i64 0, .slice none 0 0, .slice none 0 0, .slice none 0 0, .slice none 0 0, .slice none 0 0, .slice none 0 0] 64 (0, 0)), (some b8, .cells #[.int .i64 n0.N, .int .i64 n0.S, .int .i64 n0.T, .slice (sb k8) j7 u9, .slice (sb j8) q9 r2, .slice none 0 0, .slice (sb j9) r3 c32, .slice (sb k1) r4 c42, .slice (sb k2) r6 c52] 64 (0, 0)), (k8, .cells (arr (intC .i64) a4 w5).toArray 3 (0, 0)), (j8, .cells (arr (intC .i64) a5 w6).toArray 3 (0, 0)), (j9, .cells (arr (intC .i64) e4 w7).toArray 2 (0, 0)), (k1, .cells (arr (intC .i64) e5 w8).toArray 3 (0, 0)), (k2, .cells (arr boolC d1 w9).toArray 4 (0, 0))]) (fun (B0 : Nat) (a4 : List Int) (j7 : Nat) (u9 : Nat) (k8 : Option Nat) (w5 : List Value) (a5 : List Int) (q9 : Nat) (r2 : Nat) (j8 : Option Nat) (w6 : List Value) (e4 : List Int) (r3 : Nat) (c32 : Nat) (j9 : Option Nat) (w7 : List Value) (e5 : List Int) (r4 : Nat) (c42 : Nat) (k1 : Option Nat) (w8 : List Value) (d1 : List Bool) (r6 : Nat) (c52 : Nat) (k2 : Option Nat) (w9 : List Value) (o1 : Int) => B0) Z3k ([]) 0 0 none ([]) ([]) 0 0 none ([]) ([]) 0 0 none ([]) ([]) 0 0 none ([]) ([]) 0 0 none ([]) 0 ⟨Q4, rfl, (Nat.le_refl _), (Z2u 0 _), (fun _ => rfl), rfl, (Nat.le_refl _), (Z2u 0 _), (fun _ => rfl), rfl, (Nat.le_refl _), (Z2u 0 _), (fun _ => rfl), rfl, (Nat.le_refl _), (Z2u 0 _), (fun _ => rfl), rfl, (Nat.le_refl _), (Z2u 0 _), (fun _ => rfl)⟩ (Z00 rfl (Z00 rfl (Z00 rfl (Z00 rfl Z08)))) (Z02 tk2 (Z02 tk1 (Z02 tk0 (Pick.none (Pick.none (Pick.none (Pick.none (Pick.none Z09)))))))) ?_; rintro B0 a4 j7 u9 k8 w5 a5 q9 r2 j8 w6 e4 r3 c32 j9 w7 e5 r4 c42 k1 w8 d1 r6 c52 k2 w9 o1 ⟨H, z9, B7, B8, B9, A0, C0, C1, C2, C3, C4, C5, C6, C7, C8, C9, D0, D1, D2, D3, D4⟩; obtain ⟨Q6, P6, rfl, H, P7⟩ := Z1f H; have H : Z4g n0 a4 a5 e4 e5 d1 o1 = some P6 := H; unfold Z4g at H; refine Z0a ?_; refine Z0a ?_; refine Z03 (ll := [0, 1, 2, 3]) rfl ?_; refine Z05 rfl rfl rfl rfl ?_; refine Z07 rfl rfl rfl rfl Z3j ?_; refine Z0e rfl rfl rfl rfl Z0r mm0 rfl ?_; refine Z0q rfl rfl rfl rfl rfl rfl ?_; refine Z04 ?_; refine Z01 ?_; rcases Z0g H with ⟨M0, H⟩ | ⟨M0, H⟩
   ·
    refine Z13 rfl M0 ?_; refine T.skip ?_; refine Z01 ?_; refine Z0a ?_; refine Zjl (fun (c9 : List Int) (l0 : Nat) (l3 : Nat) (i7 : Option Nat) (p6 : List Value) (d7 : List Int) (l4 : Nat) (l5 : Nat) (i8 : Option Nat) (p7 : List Value) (f8 : List Int) (l6 : Nat) (l7 : Nat) (i9 : Option Nat) (p8 : List Value) (f9 : List Int) (l8 : Nat) (l9 : Nat) (j0 : Option Nat) (p9 : List Value) (d8 : List Bool) (m0 : Nat) (m1 : Nat) (j1 : Option Nat) (q0 : List Value) => Z61 o1 c9 d7 f8 f9 d8 = some P6 ∧ c9.length = l0 ∧ l0 ≤ l3 ∧ p6.length = (l3 - l0) * 1 ∧ (i7 = none → l3 = 0) ∧ d7.length = l4 ∧ l4 ≤ l5 ∧ p7.length = (l5 - l4) * 1 ∧ (i8 = none → l5 = 0) ∧ f8.length = l6 ∧ l6 ≤ l7 ∧ p8.length = (l7 - l6) * 1 ∧ (i9 = none → l7 = 0) ∧ f9.length = l8 ∧ l8 ≤ l9 ∧ p9.length = (l9 - l8) * 1 ∧ (j0 = none → l9 = 0) ∧ d8.length = m0 ∧ m0 ≤ m1 ∧ q0.length = (m1 - m0) * 1 ∧ (j1 = none → m1 = 0)) (fun (c9 : List Int) (l0 : Nat) (l3 : Nat) (i7 : Option Nat) (p6 : List Value) (d7 : List Int) (l4 : Nat) (l5 : Nat) (i8 : Option Nat) (p7 : List Value) (f8 : List Int) (l6 : Nat) (l7 : Nat) (i9 : Option Nat) (p8 : List Value) (f9 : List Int) (l8 : Nat) (l9 : Nat) (j0 : Option Nat) (p9 : List Value) (d8 : List Bool) (m0 : Nat) (m1 : Nat) (j1 : Option Nat) (q0 : List Value) => [(1, .pointer (some ⟨b1, 0, none⟩)), (2, .pointer (some ⟨b3, 0, none⟩)), (5, .pointer (some ⟨b8, 0, none⟩)), (6, .int .i64 o1)]) (fun (c9 : List Int) (l0 : Nat) (l3 : Nat) (i7 : Option Nat) (p6 : List Value) (d7 : List Int) (l4 : Nat) (l5 : Nat) (i8 : Option Nat) (p7 : List Value) (f8 : List Int) (l6 : Nat) (l7 : Nat) (i9 : Option Nat) (p8 : List Value) (f9 : List Int) (l8 : Nat) (l9 : Nat) (j0 : Option Nat) (p9 : List Value) (d8 : List Bool) (m0 : Nat) (m1 : Nat) (j1 : Option Nat) (q0 : List Value) => [(some b1, .cells #[.int .i64 n0.N, .int .i64 n0.S, .int .i64 n0.T, .slice n0f3_b n0f3_n n0f3_c] 24 (0, 0)), (some b3, .cells #[.int .i64 0, .int .i64 0, .int .i64 0, .slice none 0 0, .slice none 0 0, .slice none 0 0, .slice none 0 0, .slice none 0 0, .slice none 0 0] 64 (0, 0)), (some b8, .cells #[.int .i64 n0.N, .int .i64 n0.S, .int .i64 n0.T, .slice (sb i7) l0 l3, .slice (sb i8) l4 l5, .slice none 0 0, .slice (sb i9) l6 l7, .slice (sb j0) l8 l9, .slice (sb j1) m0 m1] 64 (0, 0)), (i7, .cells (arr (intC .i64) c9 p6).toArray 3 (0, 0)), (i8, .cells (arr (intC .i64) d7 p7).toArray 3 (0, 0)), (i9, .cells (arr (intC .i64) f8 p8).toArray 2 (0, 0)), (j0, .cells (arr (intC .i64) f9 p9).toArray 3 (0, 0)), (j1, .cells (arr boolC d8 q0).toArray 4 (0, 0))]) ?_ ?_
    ·
     refine T.block ?_; refine Z0a ?_; obtain ⟨Q7, H⟩ := Z0d H; refine Z03 (ll := [0, 1, 2, 3, 4, 5, 6, 7, 8]) rfl ?_; refine Z07 rfl rfl rfl rfl Z77 ?_; refine Z0e rfl rfl rfl rfl Z1b mm2 rfl ?_; refine Z07 rfl rfl rfl rfl Z2i ?_; refine Z0e rfl rfl rfl rfl Z1b mm2 rfl ?_; refine Z1n (xs := a5) A0 rfl rfl rfl rfl rfl Z16 ?_; refine Z0o [.int .i64 0] [0] rfl rfl rfl rfl Z16 Z1m Z46 rfl rfl (by simp only [Z1o, setCells, Value.cells, List.toList_toArray, List.getD_cons_zero, List.getD_cons_succ, List.set_cons_zero, List.set_cons_succ]; rfl) (by kernel_rfl) ?_; intro S8; refine Z9p (f := (intC .i64)) (s := 1) (xs := a4) (ob := k8) (j := w5) (ys := [(a5.length : Int)]) (fun _ => rfl) (fun _ => rfl) Z4m Q7 rfl rfl rfl rfl rfl tk4 z9 B7 B8 B9 (fun wc hwc => (hwc.rs (f := (intC .i64)) (s := 1) (xs := [(a5.length : Int)]) (j := ([])) (fun _ => rfl) mm0 rfl (Nat.le_refl _) Z1j)) ?_; intro g3 q5 M1 M2 M3 M4; refine Z07 rfl rfl rfl rfl Z77 ?_; refine Z1x (cs' := [.int .i64 n0.N, .int .i64 n0.S, .int .i64 n0.T, .slice (sb g3) (j7 + 1) q5, .slice (sb j8) q9 r2, .slice none 0 0, .slice (sb j9) r3 c32, .slice (sb k1) r4 c42, .slice (sb k2) r6 c52]) rfl rfl rfl rfl tk4 Z4n rfl rfl rfl ?_; refine Z04 ?_; refine Z01 ?_; refine Z0j (Z00 (t := 1) rfl (Z00 (t := 2) rfl (Z00 (t := 5) rfl (Z00 (t := 6) rfl Z08)))) ?_; refine Z0a ?_; refine Z03 (ll := [0]) rfl ?_; refine Z06 rfl rfl rfl rfl ?_; refine Z04 ?_; refine Z01 ?_; refine T.block ?_; obtain ⟨Q8, Q9, R0⟩ := Z0m H; refine Zs9 (fun (B1 : Nat) (c3 : List Int) (n7 : Nat) (c74 : Nat) (j2 : Option Nat) (t8 : List Value) (d4 : List Int) (n8 : Nat) (c84 : Nat) (h9 : Option Nat) (t9 : List Value) (d5 : List Int) (n9 : Nat) (q1 : Nat) (h1 : Option Nat) (u0 : List Value) (a6 : List Bool) (e3 : Nat) (g4 : Nat) (d0 : Option Nat) (k3 : List Value) (a8 : Int) => Z21 (fun s => Z4f n0 a4 a5 o1 s.1 s.2.1 s.2.2.1 s.2.2.2.1 s.2.2.2.2) B1 (c3, d4, d5, a6, a8) = some Q8 ∧ c3.length = n7 ∧ n7 ≤ c74 ∧ t8.length = (c74 - n7) * 1 ∧ (j2 = none → c74 = 0) ∧ d4.length = n8 ∧ n8 ≤ c84 ∧ t9.length = (c84 - n8) * 1 ∧ (h9 = none → c84 = 0) ∧ d5.length = n9 ∧ n9 ≤ q1 ∧ u0.length = (q1 - n9) * 1 ∧ (h1 = none → q1 = 0) ∧ a6.length = e3 ∧ e3 ≤ g4 ∧ k3.length = (g4 - e3) * 1 ∧ (d0 = none → g4 = 0)) (fun (B1 : Nat) (c3 : List Int) (n7 : Nat) (c74 : Nat) (j2 : Option Nat) (t8 : List Value) (d4 : List Int) (n8 : Nat) (c84 : Nat) (h9 : Option Nat) (t9 : List Value) (d5 : List Int) (n9 : Nat) (q1 : Nat) (h1 : Option Nat) (u0 : List Value) (a6 : List Bool) (e3 : Nat) (g4 : Nat) (d0 : Option Nat) (k3 : List Value) (a8 : Int) => [(1, .pointer (some ⟨b1, 0, none⟩)), (2, .pointer (some ⟨b3, 0, none⟩)), (5, .pointer (some ⟨b8, 0, none⟩)), (6, .int .i64 o1), (7, .int .i64 a8)]) (fun (B1 : Nat) (c3 : List Int) (n7 : Nat) (c74 : Nat) (j2 : Option Nat) (t8 : List Value) (d4 : List Int) (n8 : Nat) (c84 : Nat) (h9 : Option Nat) (t9 : List Value) (d5 : List Int) (n9 : Nat) (q1 : Nat) (h1 : Option Nat) (u0 : List Value) (a6 : List Bool) (e3 : Nat) (g4 : Nat) (d0 : Option Nat) (k3 : List Value) (a8 : Int) => [(some b1, .cells #[.int .i64 n0.N, .int .i64 n0.S, .int .i64 n0.T, .slice n0f3_b n0f3_n n0f3_c] 24 (0, 0)), (some b3, .cells #[.int .i64 0, .int .i64 0, .int .i64 0, .slice none 0 0, .slice none 0 0, .slice none 0 0, .slice none 0 0, .slice none 0 0, .slice none 0 0] 64 (0, 0)), (some b8, .cells #[.int .i64 n0.N, .int .i64 n0.S, .int .i64 n0.T, .slice (sb g3) (j7 + 1) q5, .slice (sb j2) n7 c74, .slice none 0 0, .slice (sb h9) n8 c84, .slice (sb h1) n9 q1, .slice (sb d0) e3 g4] 64 (0, 0)), (g3, .cells (arr (intC .i64) (a4 ++ ([(a5.length : Int)])) M1).toArray 3 (0, 0)), (j2, .cells (arr (intC .i64) c3 t8).toArray 3 (0, 0)), (h9, .cells (arr (intC .i64) d4 t9).toArray 2 (0, 0)), (h1, .cells (arr (intC .i64) d5 u0).toArray 3 (0, 0)), (d0, .cells (arr boolC a6 k3).toArray 4 (0, 0))]) (fun (B1 : Nat) (c3 : List Int) (n7 : Nat) (c74 : Nat) (j2 : Option Nat) (t8 : List Value) (d4 : List Int) (n8 : Nat) (c84 : Nat) (h9 : Option Nat) (t9 : List Value) (d5 : List Int) (n9 : Nat) (q1 : Nat) (h1 : Option Nat) (u0 : List Value) (a6 : List Bool) (e3 : Nat) (g4 : Nat) (d0 : Option Nat) (k3 : List Value) (a8 : Int) => B1) Z3k a5 q9 r2 j8 w6 e4 r3 c32 j9 w7 e5 r4 c42 k1 w8 d1 r6 c52 k2 w9 0 ⟨Q9, A0, C0, C1, C2, C3, C4, C5, C6, C7, C8, C9, D0, D1, D2, D3, D4⟩ (Z00 rfl (Z00 rfl (Z00 rfl (Z00 rfl (Z00 rfl Z08))))) (Z02 tk3 (Z02 tk3 (Z02 tk0 (Z02 tk0 (Z02 tk1 (Z02 tk1 (Z02 tk1 (Z02 tk1 Z09)))))))) ?_; rintro B1 c3 n7 c74 j2 t8 d4 n8 c84 h9 t9 d5 n9 q1 h1 u0 a6 e3 g4 d0 k3 a8 ⟨H, r7, v3, v4, v5, r8, v6, v7, v8, r9, v9, w0, o7, m2, o8, o9, p0⟩; obtain ⟨M5, P8, rfl, H, L9⟩ := Z1f H; have H : Z4f n0 a4 a5 o1 c3 d4 d5 a6 a8 = some P8 := H; unfold Z4f at H; refine Z0a ?_; refine Z0a ?_; refine Z03 (ll := [0, 1, 2, 3, 4]) rfl ?_; refine Z05 rfl rfl rfl rfl ?_; refine Z07 rfl rfl rfl rfl Z2j ?_; refine Z0e rfl rfl rfl rfl Z31 mm0 rfl ?_; refine Z1n (xs := n0.Arcs) h_n0f3.len rfl rfl rfl rfl rfl Z33 ?_; refine Z0q rfl rfl rfl rfl rfl rfl ?_; refine Z04 ?_; refine Z01 ?_; rcases Z0g H with ⟨A1, H⟩ | ⟨A1, H⟩
     ·
      refine Z13 rfl A1 ?_; refine T.skip ?_; refine Z01 ?_; refine Z0a ?_; refine T.block ?_; refine Z0a ?_; obtain ⟨D5, H⟩ := Z0d H; refine Z03 (ll := [0, 1, 2, 3, 4, 5, 6]) rfl ?_; refine Z07 rfl rfl rfl rfl Z2j ?_; refine Z0e rfl rfl rfl rfl Z31 mm0 rfl ?_; refine Z05 rfl rfl rfl rfl ?_; refine Z28 h_n0f3 D5 rfl rfl rfl rfl rfl Z33 Z6u ?_; refine Z8z (cs := [.int .i64 ((n0.Arcs.getD a8.toNat default).fr), .int .i64 ((n0.Arcs.getD a8.toNat default).to), .int .i64 ((n0.Arcs.getD a8.toNat default).cap)]) default h_n0f3 D5 rfl rfl rfl rfl rfl Zch ?_; refine Z1k rfl rfl rfl Zce ?_; intro D6; refine Z1g rfl rfl rfl rfl tk0 Z6u rfl rfl rfl ?_; refine Z04 ?_; refine Z01 ?_; refine Z0j (Z00 (t := 1) rfl (Z00 (t := 2) rfl (Z00 (t := 5) rfl (Z00 (t := 6) rfl (Z00 (t := 7) rfl (Z00 (t := 8) rfl Z08)))))) ?_; refine Z0a ?_; refine Z0a ?_; refine Z03 (ll := [0, 1, 2, 3, 4]) rfl ?_; refine Z07 rfl rfl rfl rfl Z5u ?_; refine Z0e rfl rfl rfl rfl Z0r mm0 rfl ?_; refine Z07 rfl rfl rfl rfl Z78 ?_; refine Z0e rfl rfl rfl rfl Z0r mm0 rfl ?_; refine Z0q rfl rfl rfl rfl rfl rfl ?_; refine Z04 ?_; refine Z01 ?_; rcases Z0g H with ⟨A2, H⟩ | ⟨A2, H⟩
      · refine Z13 rfl A2 ?_; refine T.exit ?_; refine Z0i ?_; refine Z0u ?_; refine Z01 ?_; obtain ⟨M6, H⟩ := Z0d H; refine Z03 (ll := [0, 1, 2]) rfl ?_; refine Z05 rfl rfl rfl rfl ?_; refine Z17 M6 rfl rfl rfl rfl rfl ?_; refine Z06 rfl rfl rfl rfl ?_; refine Z04 ?_; have H := Z10 H L9; exact Zg0 M5 c3 n7 c74 j2 t8 d4 n8 c84 h9 t9 d5 n9 q1 h1 u0 a6 e3 g4 d0 k3 (a8 + 1) ⟨H, r7, v3, v4, v5, r8, v6, v7, v8, r9, v9, w0, o7, m2, o8, o9, p0⟩ (Nat.lt_succ_self _) (Z00 rfl (Z00 rfl (Z00 rfl (Z00 rfl (Z00 rfl Z08))))) (Z02 tk1 (Z02 tk1 (Z02 tk1 (Z02 tk1 (Z02 tk1 (Z02 tk1 (Z02 tk1 (Z02 tk1 Z09))))))))
      ·
       refine Z14 rfl A2 ?_; refine T.skip ?_; refine Z01 ?_; refine Z0a ?_; refine Z0a ?_; refine Z03 (ll := [0, 1, 2, 3]) rfl ?_; refine Z07 rfl rfl rfl rfl Z5u ?_; refine Z0e rfl rfl rfl rfl Z0r mm0 rfl ?_; refine Z05 rfl rfl rfl rfl ?_; refine Z0q rfl rfl rfl rfl rfl rfl ?_; refine Z04 ?_; refine Z01 ?_; refine Z0j (Z00 (t := 1) rfl (Z00 (t := 2) rfl (Z00 (t := 5) rfl (Z00 (t := 6) rfl (Z00 (t := 7) rfl (Z00 (t := 8) rfl (Z00 (t := 58) rfl Z08))))))) ?_; refine Zq7 (fun (c7 : List Int) (h2 : Nat) (m3 : Nat) (h8 : Option Nat) (o2 : List Value) (d9 : List Int) (h3 : Nat) (k9 : Nat) (g5 : Option Nat) (o4 : List Value) (e0 : List Int) (h4 : Nat) (k4 : Nat) (e7 : Option Nat) (o5 : List Value) (c8 : List Bool) (h5 : Nat) (j3 : Nat) (e2 : Option Nat) (o6 : List Value) => Z3e n0 o1 a8 c7 d9 e0 c8 = some P8 ∧ c7.length = h2 ∧ h2 ≤ m3 ∧ o2.length = (m3 - h2) * 1 ∧ (h8 = none → m3 = 0) ∧ d9.length = h3 ∧ h3 ≤ k9 ∧ o4.length = (k9 - h3) * 1 ∧ (g5 = none → k9 = 0) ∧ e0.length = h4 ∧ h4 ≤ k4 ∧ o5.length = (k4 - h4) * 1 ∧ (e7 = none → k4 = 0) ∧ c8.length = h5 ∧ h5 ≤ j3 ∧ o6.length = (j3 - h5) * 1 ∧ (e2 = none → j3 = 0)) (fun (c7 : List Int) (h2 : Nat) (m3 : Nat) (h8 : Option Nat) (o2 : List Value) (d9 : List Int) (h3 : Nat) (k9 : Nat) (g5 : Option Nat) (o4 : List Value) (e0 : List Int) (h4 : Nat) (k4 : Nat) (e7 : Option Nat) (o5 : List Value) (c8 : List Bool) (h5 : Nat) (j3 : Nat) (e2 : Option Nat) (o6 : List Value) => [(1, .pointer (some ⟨b1, 0, none⟩)), (2, .pointer (some ⟨b3, 0, none⟩)), (5, .pointer (some ⟨b8, 0, none⟩)), (6, .int .i64 o1), (7, .int .i64 a8), (8, .pointer (some ⟨D6, 0, none⟩))]) (fun (c7 : List Int) (h2 : Nat) (m3 : Nat) (h8 : Option Nat) (o2 : List Value) (d9 : List Int) (h3 : Nat) (k9 : Nat) (g5 : Option Nat) (o4 : List Value) (e0 : List Int) (h4 : Nat) (k4 : Nat) (e7 : Option Nat) (o5 : List Value) (c8 : List Bool) (h5 : Nat) (j3 : Nat) (e2 : Option Nat) (o6 : List Value) => [(some b1, .cells #[.int .i64 n0.N, .int .i64 n0.S, .int .i64 n0.T, .slice n0f3_b n0f3_n n0f3_c] 24 (0, 0)), (some b3, .cells #[.int .i64 0, .int .i64 0, .int .i64 0, .slice none 0 0, .slice none 0 0, .slice none 0 0, .slice none 0 0, .slice none 0 0, .slice none 0 0] 64 (0, 0)), (some b8, .cells #[.int .i64 n0.N, .int .i64 n0.S, .int .i64 n0.T, .slice (sb g3) (j7 + 1) q5, .slice (sb h8) h2 m3, .slice none 0 0, .slice (sb g5) h3 k9, .slice (sb e7) h4 k4, .slice (sb e2) h5 j3] 64 (0, 0)), (g3, .cells (arr (intC .i64) (a4 ++ ([(a5.length : Int)])) M1).toArray 3 (0, 0)), (h8, .cells (arr (intC .i64) c7 o2).toArray 3 (0, 0)), (g5, .cells (arr (intC .i64) d9 o4).toArray 2 (0, 0)), (e7, .cells (arr (intC .i64) e0 o5).toArray 3 (0, 0)), (e2, .cells (arr boolC c8 o6).toArray 4 (0, 0)), (some D6, .cells #[.int .i64 ((n0.Arcs.getD a8.toNat default).fr), .int .i64 ((n0.Arcs.getD a8.toNat default).to), .int .i64 ((n0.Arcs.getD a8.toNat default).cap)] 35 (0, 0))]) ?_ ?_
       ·
        rcases Z0g H with ⟨A3, H⟩ | ⟨A3, H⟩
        · refine Z13 rfl A3 ?_; refine Z0a ?_; obtain ⟨M7, H⟩ := Z0d H; refine Z03 (ll := [0, 1, 2, 3, 4, 5, 6, 7]) rfl ?_; refine Z07 rfl rfl rfl rfl Z2i ?_; refine Z0e rfl rfl rfl rfl Z1b mm3 rfl ?_; refine Z07 rfl rfl rfl rfl Z78 ?_; refine Z0e rfl rfl rfl rfl Z0r mm0 rfl ?_; refine Z0o [.int .i64 0] [0] rfl rfl rfl rfl Z16 Z1m Z46 rfl rfl (by simp only [Z1o, setCells, Value.cells, List.toList_toArray, List.getD_cons_zero, List.getD_cons_succ, List.set_cons_zero, List.set_cons_succ]; rfl) (by kernel_rfl) ?_; intro R1; refine Z9p (f := (intC .i64)) (s := 1) (xs := c3) (ob := j2) (j := t8) (ys := [(n0.Arcs.getD a8.toNat default).to]) (fun _ => rfl) (fun _ => rfl) Z4m M7 rfl rfl rfl rfl rfl tk6 r7 v3 v4 v5 (fun wc hwc => (hwc.rs (f := (intC .i64)) (s := 1) (xs := [(n0.Arcs.getD a8.toNat default).to]) (j := ([])) (fun _ => rfl) mm0 rfl (Nat.le_refl _) Z1j)) ?_; intro m4 c124 M8 D7 D8 D9; refine Z07 rfl rfl rfl rfl Z2i ?_; refine Z1x (cs' := [.int .i64 n0.N, .int .i64 n0.S, .int .i64 n0.T, .slice (sb g3) (j7 + 1) q5, .slice (sb m4) (n7 + 1) c124, .slice none 0 0, .slice (sb h9) n8 c84, .slice (sb h1) n9 q1, .slice (sb d0) e3 g4]) rfl rfl rfl rfl tk5 Z4n rfl rfl rfl ?_; refine Z04 ?_; refine Z01 ?_; refine Z0j (Z00 (t := 1) rfl (Z00 (t := 2) rfl (Z00 (t := 5) rfl (Z00 (t := 6) rfl (Z00 (t := 7) rfl (Z00 (t := 8) rfl Z08)))))) ?_; refine Z0a ?_; obtain ⟨M9, H⟩ := Z0d H; refine Z03 (ll := [0, 1, 2, 3, 4, 5, 6, 7]) rfl ?_; refine Z07 rfl rfl rfl rfl Z4p ?_; refine Z0e rfl rfl rfl rfl Z8a mm0 rfl ?_; refine Z07 rfl rfl rfl rfl Z8v ?_; refine Z0e rfl rfl rfl rfl Z26 mm3 rfl ?_; refine Z0o [.int .i64 0] [0] rfl rfl rfl rfl Z15 Z1a Z59 rfl rfl (by simp only [Z1o, setCells, Value.cells, List.toList_toArray, List.getD_cons_zero, List.getD_cons_succ, List.set_cons_zero, List.set_cons_succ]; rfl) (by kernel_rfl) ?_; intro R2; refine Z9p (f := (intC .i64)) (s := 1) (xs := d4) (ob := h9) (j := t9) (ys := [(n0.Arcs.getD a8.toNat default).cap]) (fun _ => rfl) (fun _ => rfl) Z88 M9 rfl rfl rfl rfl rfl tk8 r8 v6 v7 v8 (fun wc hwc => (hwc.rs (f := (intC .i64)) (s := 1) (xs := [(n0.Arcs.getD a8.toNat default).cap]) (j := ([])) (fun _ => rfl) mm0 rfl (Nat.le_refl _) Z1j)) ?_; intro p1 w1 N0 E0 E1 E2; refine Z07 rfl rfl rfl rfl Z4p ?_; refine Z1x (cs' := [.int .i64 n0.N, .int .i64 n0.S, .int .i64 n0.T, .slice (sb g3) (j7 + 1) q5, .slice (sb m4) (n7 + 1) c124, .slice none 0 0, .slice (sb p1) (n8 + 1) w1, .slice (sb h1) n9 q1, .slice (sb d0) e3 g4]) rfl rfl rfl rfl tk2 Zcg rfl rfl rfl ?_; refine Z04 ?_; refine Z01 ?_; refine Z0a ?_; obtain ⟨N1, H⟩ := Z0d H; refine Z03 (ll := [0, 1, 2, 3, 4, 5, 6]) rfl ?_; refine Z07 rfl rfl rfl rfl Z1z ?_; refine Z0e rfl rfl rfl rfl Z1b mm0 rfl ?_; refine Z05 rfl rfl rfl rfl ?_; refine Z0o [.int .i64 0] [0] rfl rfl rfl rfl Z16 Z1m Z46 rfl rfl (by simp only [Z1o, setCells, Value.cells, List.toList_toArray, List.getD_cons_zero, List.getD_cons_succ, List.set_cons_zero, List.set_cons_succ]; rfl) (by kernel_rfl) ?_; intro R3; refine Z9p (f := (intC .i64)) (s := 1) (xs := d5) (ob := h1) (j := u0) (ys := [a8]) (fun _ => rfl) (fun _ => rfl) Z4m N1 rfl rfl rfl rfl rfl tk10 r9 v9 w0 o7 (fun wc hwc => (hwc.rs (f := (intC .i64)) (s := 1) (xs := [a8]) (j := ([])) (fun _ => rfl) mm0 rfl (Nat.le_refl _) Z1j)) ?_; intro s5 c144 N2 E3 E4 E5; refine Z07 rfl rfl rfl rfl Z1z ?_; refine Z1x (cs' := [.int .i64 n0.N, .int .i64 n0.S, .int .i64 n0.T, .slice (sb g3) (j7 + 1) q5, .slice (sb m4) (n7 + 1) c124, .slice none 0 0, .slice (sb p1) (n8 + 1) w1, .slice (sb s5) (n9 + 1) c144, .slice (sb d0) e3 g4]) rfl rfl rfl rfl tk2 Z4n rfl rfl rfl ?_; refine Z04 ?_; refine Z01 ?_; refine Z0j (Z00 (t := 1) rfl (Z00 (t := 2) rfl (Z00 (t := 5) rfl (Z00 (t := 6) rfl (Z00 (t := 7) rfl (Z00 (t := 8) rfl Z08)))))) ?_; obtain ⟨N3, H⟩ := Z0d H; refine Z03 (ll := [0, 1, 2, 3, 4, 5]) rfl ?_; refine Z07 rfl rfl rfl rfl Z4o ?_; refine Z0e rfl rfl rfl rfl Z89 mm0 rfl ?_; refine Z0o [.bool false] [0] rfl rfl rfl rfl Z32 Z2l Z8q rfl rfl (by simp only [Z1o, setCells, Value.cells, List.toList_toArray, List.getD_cons_zero, List.getD_cons_succ, List.set_cons_zero, List.set_cons_succ]; rfl) (by kernel_rfl) ?_; intro R4; refine Z9p (f := boolC) (s := 1) (xs := a6) (ob := d0) (j := k3) (ys := [false]) (fun _ => rfl) (fun _ => rfl) Zcd N3 rfl rfl rfl rfl rfl tk12 m2 o8 o9 p0 (fun wc hwc => (hwc.rs (f := boolC) (s := 1) (xs := [false]) (j := ([])) (fun _ => rfl) mm0 rfl (Nat.le_refl _) Z1j)) ?_; intro x2 E6 N4 E7 E8 E9; refine Z07 rfl rfl rfl rfl Z4o ?_; refine Z1x (cs' := [.int .i64 n0.N, .int .i64 n0.S, .int .i64 n0.T, .slice (sb g3) (j7 + 1) q5, .slice (sb m4) (n7 + 1) c124, .slice none 0 0, .slice (sb p1) (n8 + 1) w1, .slice (sb s5) (n9 + 1) c144, .slice (sb x2) (e3 + 1) E6]) rfl rfl rfl rfl tk2 Zcf rfl rfl rfl ?_; refine Z04 ?_; exact Znj (c3 ++ ([(n0.Arcs.getD a8.toNat default).to])) (n7 + 1) c124 m4 M8 (d4 ++ ([(n0.Arcs.getD a8.toNat default).cap])) (n8 + 1) w1 p1 N0 (d5 ++ ([a8])) (n9 + 1) c144 s5 N2 (a6 ++ ([false])) (e3 + 1) E6 x2 N4 ⟨H, (Z9q r7 rfl), D7, D8, D9, (Z9q r8 rfl), E0, E1, E2, (Z9q r9 rfl), E3, E4, E5, (Z9q m2 rfl), E7, E8, E9⟩ (Z00 rfl (Z00 rfl (Z00 rfl (Z00 rfl (Z00 rfl (Z00 rfl Z08)))))) (Z02 tk10 (Z02 tk10 (Z02 tk0 (Z02 tk9 (Z02 tk6 (Z02 tk4 (Z02 tk2 (Z02 tk0 (Z02 tk4 Z09)))))))))
        · refine Z14 rfl A3 ?_; refine T.skip ?_; exact Znj c3 n7 c74 j2 t8 d4 n8 c84 h9 t9 d5 n9 q1 h1 u0 a6 e3 g4 d0 k3 ⟨H, r7, v3, v4, v5, r8, v6, v7, v8, r9, v9, w0, o7, m2, o8, o9, p0⟩ (Z00 rfl (Z00 rfl (Z00 rfl (Z00 rfl (Z00 rfl (Z00 rfl Z08)))))) (Z02 tk1 (Z02 tk1 (Z02 tk1 (Z02 tk1 (Z02 tk1 (Z02 tk1 (Z02 tk1 (Z02 tk1 (Z02 tk0 Z09)))))))))
       ·
        rintro c7 h2 m3 h8 o2 d9 h3 k9 g5 o4 e0 h4 k4 e7 o5 c8 h5 j3 e2 o6 ⟨H, s6, x3, x4, x5, s7, x6, x7, x8, s8, x9, y0, y2, s9, y3, y4, y5⟩; unfold Z3e at H; refine Z0a ?_; refine Z03 (ll := [0, 1, 2, 3]) rfl ?_; refine Z07 rfl rfl rfl rfl Z78 ?_; refine Z0e rfl rfl rfl rfl Z0r mm8 rfl ?_; refine Z05 rfl rfl rfl rfl ?_; refine Z0q rfl rfl rfl rfl rfl rfl ?_; refine Z04 ?_; refine Z01 ?_; rcases Z0g H with ⟨A4, H⟩ | ⟨A4, H⟩
        · refine Z13 rfl A4 ?_; refine Z0a ?_; obtain ⟨N5, H⟩ := Z0d H; refine Z03 (ll := [0, 1, 2, 3, 4, 5, 6, 7]) rfl ?_; refine Z07 rfl rfl rfl rfl Z2i ?_; refine Z0e rfl rfl rfl rfl Z1b mm2 rfl ?_; refine Z07 rfl rfl rfl rfl Z5u ?_; refine Z0e rfl rfl rfl rfl Z0r mm8 rfl ?_; refine Z0o [.int .i64 0] [0] rfl rfl rfl rfl Z16 Z1m Z46 rfl rfl (by simp only [Z1o, setCells, Value.cells, List.toList_toArray, List.getD_cons_zero, List.getD_cons_succ, List.set_cons_zero, List.set_cons_succ]; rfl) (by kernel_rfl) ?_; intro R5; refine Z9p (f := (intC .i64)) (s := 1) (xs := c7) (ob := h8) (j := o2) (ys := [(n0.Arcs.getD a8.toNat default).fr]) (fun _ => rfl) (fun _ => rfl) Z4m N5 rfl rfl rfl rfl rfl tk5 s6 x3 x4 x5 (fun wc hwc => (hwc.rs (f := (intC .i64)) (s := 1) (xs := [(n0.Arcs.getD a8.toNat default).fr]) (j := ([])) (fun _ => rfl) mm0 rfl (Nat.le_refl _) Z1j)) ?_; intro m5 t0 N6 F0 F1 F2; refine Z07 rfl rfl rfl rfl Z2i ?_; refine Z1x (cs' := [.int .i64 n0.N, .int .i64 n0.S, .int .i64 n0.T, .slice (sb g3) (j7 + 1) q5, .slice (sb m5) (h2 + 1) t0, .slice none 0 0, .slice (sb g5) h3 k9, .slice (sb e7) h4 k4, .slice (sb e2) h5 j3]) rfl rfl rfl rfl tk4 Z4n rfl rfl rfl ?_; refine Z04 ?_; refine Z01 ?_; refine Z0j (Z00 (t := 1) rfl (Z00 (t := 2) rfl (Z00 (t := 5) rfl (Z00 (t := 6) rfl (Z00 (t := 7) rfl Z08))))) ?_; refine Z0a ?_; obtain ⟨N7, H⟩ := Z0d H; refine Z03 (ll := [0, 1, 2, 3, 4, 5]) rfl ?_; refine Z07 rfl rfl rfl rfl Z4p ?_; refine Z0e rfl rfl rfl rfl Z8a mm0 rfl ?_; refine Z0o [.int .i64 0] [0] rfl rfl rfl rfl Z15 Z1a Z59 rfl rfl (by simp only [Z1o, setCells, Value.cells, List.toList_toArray, List.getD_cons_zero, List.getD_cons_succ, List.set_cons_zero, List.set_cons_succ]; rfl) (by kernel_rfl) ?_; intro R6; refine Z9p (f := (intC .i64)) (s := 1) (xs := d9) (ob := g5) (j := o4) (ys := [0]) (fun _ => rfl) (fun _ => rfl) Z88 N7 rfl rfl rfl rfl rfl tk7 s7 x6 x7 x8 (fun wc hwc => (hwc.rs (f := (intC .i64)) (s := 1) (xs := [0]) (j := ([])) (fun _ => rfl) mm0 rfl (Nat.le_refl _) Z1j)) ?_; intro p2 w2 N8 F3 F4 F5; refine Z07 rfl rfl rfl rfl Z4p ?_; refine Z1x (cs' := [.int .i64 n0.N, .int .i64 n0.S, .int .i64 n0.T, .slice (sb g3) (j7 + 1) q5, .slice (sb m5) (h2 + 1) t0, .slice none 0 0, .slice (sb p2) (h3 + 1) w2, .slice (sb e7) h4 k4, .slice (sb e2) h5 j3]) rfl rfl rfl rfl tk2 Zcg rfl rfl rfl ?_; refine Z04 ?_; refine Z01 ?_; refine Z0a ?_; obtain ⟨N9, H⟩ := Z0d H; refine Z03 (ll := [0, 1, 2, 3, 4, 5, 6]) rfl ?_; refine Z07 rfl rfl rfl rfl Z1z ?_; refine Z0e rfl rfl rfl rfl Z1b mm0 rfl ?_; refine Z05 rfl rfl rfl rfl ?_; refine Z0o [.int .i64 0] [0] rfl rfl rfl rfl Z16 Z1m Z46 rfl rfl (by simp only [Z1o, setCells, Value.cells, List.toList_toArray, List.getD_cons_zero, List.getD_cons_succ, List.set_cons_zero, List.set_cons_succ]; rfl) (by kernel_rfl) ?_; intro R7; refine Z9p (f := (intC .i64)) (s := 1) (xs := e0) (ob := e7) (j := o5) (ys := [a8]) (fun _ => rfl) (fun _ => rfl) Z4m N9 rfl rfl rfl rfl rfl tk9 s8 x9 y0 y2 (fun wc hwc => (hwc.rs (f := (intC .i64)) (s := 1) (xs := [a8]) (j := ([])) (fun _ => rfl) mm0 rfl (Nat.le_refl _) Z1j)) ?_; intro t1 A5 O0 F6 F7 F8; refine Z07 rfl rfl rfl rfl Z1z ?_; refine Z1x (cs' := [.int .i64 n0.N, .int .i64 n0.S, .int .i64 n0.T, .slice (sb g3) (j7 + 1) q5, .slice (sb m5) (h2 + 1) t0, .slice none 0 0, .slice (sb p2) (h3 + 1) w2, .slice (sb t1) (h4 + 1) A5, .slice (sb e2) h5 j3]) rfl rfl rfl rfl tk2 Z4n rfl rfl rfl ?_; refine Z04 ?_; refine Z01 ?_; refine Z0j (Z00 (t := 1) rfl (Z00 (t := 2) rfl (Z00 (t := 5) rfl (Z00 (t := 6) rfl (Z00 (t := 7) rfl Z08))))) ?_; obtain ⟨O1, H⟩ := Z0d H; refine Z03 (ll := [0, 1, 2, 3, 4, 5]) rfl ?_; refine Z07 rfl rfl rfl rfl Z4o ?_; refine Z0e rfl rfl rfl rfl Z89 mm0 rfl ?_; refine Z0o [.bool false] [0] rfl rfl rfl rfl Z32 Z2l Z8q rfl rfl (by simp only [Z1o, setCells, Value.cells, List.toList_toArray, List.getD_cons_zero, List.getD_cons_succ, List.set_cons_zero, List.set_cons_succ]; rfl) (by kernel_rfl) ?_; intro R8; refine Z9p (f := boolC) (s := 1) (xs := c8) (ob := e2) (j := o6) (ys := [true]) (fun _ => rfl) (fun _ => rfl) Zcd O1 rfl rfl rfl rfl rfl tk11 s9 y3 y4 y5 (fun wc hwc => (hwc.rs (f := boolC) (s := 1) (xs := [true]) (j := ([])) (fun _ => rfl) mm0 rfl (Nat.le_refl _) Z1j)) ?_; intro y6 F9 O2 G0 G1 G2; refine Z07 rfl rfl rfl rfl Z4o ?_; refine Z1x (cs' := [.int .i64 n0.N, .int .i64 n0.S, .int .i64 n0.T, .slice (sb g3) (j7 + 1) q5, .slice (sb m5) (h2 + 1) t0, .slice none 0 0, .slice (sb p2) (h3 + 1) w2, .slice (sb t1) (h4 + 1) A5, .slice (sb y6) (h5 + 1) F9]) rfl rfl rfl rfl tk2 Zcf rfl rfl rfl ?_; refine Z04 ?_; refine Z0h ?_; refine Z01 ?_; obtain ⟨O3, H⟩ := Z0d H; refine Z03 (ll := [0, 1, 2]) rfl ?_; refine Z05 rfl rfl rfl rfl ?_; refine Z17 O3 rfl rfl rfl rfl rfl ?_; refine Z06 rfl rfl rfl rfl ?_; refine Z04 ?_; have H := Z10 H L9; exact Zg0 M5 (c7 ++ ([(n0.Arcs.getD a8.toNat default).fr])) (h2 + 1) t0 m5 N6 (d9 ++ ([0])) (h3 + 1) w2 p2 N8 (e0 ++ ([a8])) (h4 + 1) A5 t1 O0 (c8 ++ ([true])) (h5 + 1) F9 y6 O2 (a8 + 1) ⟨H, (Z9q s6 rfl), F0, F1, F2, (Z9q s7 rfl), F3, F4, F5, (Z9q s8 rfl), F6, F7, F8, (Z9q s9 rfl), G0, G1, G2⟩ (Nat.lt_succ_self _) (Z00 rfl (Z00 rfl (Z00 rfl (Z00 rfl (Z00 rfl Z08))))) (Z02 tk9 (Z02 tk9 (Z02 tk0 (Z02 tk8 (Z02 tk6 (Z02 tk4 (Z02 tk2 (Z02 tk0 Z09))))))))
        · refine Z14 rfl A4 ?_; refine T.skip ?_; refine Z0h ?_; refine Z01 ?_; obtain ⟨O4, H⟩ := Z0d H; refine Z03 (ll := [0, 1, 2]) rfl ?_; refine Z05 rfl rfl rfl rfl ?_; refine Z17 O4 rfl rfl rfl rfl rfl ?_; refine Z06 rfl rfl rfl rfl ?_; refine Z04 ?_; have H := Z10 H L9; exact Zg0 M5 c7 h2 m3 h8 o2 d9 h3 k9 g5 o4 e0 h4 k4 e7 o5 c8 h5 j3 e2 o6 (a8 + 1) ⟨H, s6, x3, x4, x5, s7, x6, x7, x8, s8, x9, y0, y2, s9, y3, y4, y5⟩ (Nat.lt_succ_self _) (Z00 rfl (Z00 rfl (Z00 rfl (Z00 rfl (Z00 rfl Z08))))) (Z02 tk0 (Z02 tk0 (Z02 tk0 (Z02 tk0 (Z02 tk0 (Z02 tk0 (Z02 tk0 (Z02 tk0 Z09))))))))
     · refine Z14 rfl A1 ?_; refine T.exit ?_; refine Z0i ?_; have H := Z0t H L9 ▸ R0; refine Z0i ?_; refine Z0u ?_; refine Z0h ?_; exact Zni (a4 ++ ([(a5.length : Int)])) (j7 + 1) q5 g3 M1 c3 n7 c74 j2 t8 d4 n8 c84 h9 t9 d5 n9 q1 h1 u0 a6 e3 g4 d0 k3 ⟨H, (Z9q z9 rfl), M2, M3, M4, r7, v3, v4, v5, r8, v6, v7, v8, r9, v9, w0, o7, m2, o8, o9, p0⟩ (Z00 rfl (Z00 rfl (Z00 rfl (Z00 rfl Z08)))) (Z02 tk0 (Z02 tk0 (Z02 tk0 (Z02 tk0 (Z02 tk0 (Z02 tk0 (Z02 tk0 (Z02 tk0 Z09))))))))
    · rintro c9 l0 l3 i7 p6 d7 l4 l5 i8 p7 f8 l6 l7 i9 p8 f9 l8 l9 j0 p9 d8 m0 m1 j1 q0 ⟨H, G3, G4, G5, G6, G7, G8, G9, H0, H1, H2, H3, H4, H5, H6, H7, H8, H9, I0, I1, I2⟩; unfold Z61 at H; obtain ⟨O5, H⟩ := Z0d H; refine Z03 (ll := [0, 1, 2]) rfl ?_; refine Z05 rfl rfl rfl rfl ?_; refine Z17 O5 rfl rfl rfl rfl rfl ?_; refine Z06 rfl rfl rfl rfl ?_; refine Z04 ?_; have H := Z10 H P7; exact Zoh Q6 c9 l0 l3 i7 p6 d7 l4 l5 i8 p7 f8 l6 l7 i9 p8 f9 l8 l9 j0 p9 d8 m0 m1 j1 q0 (o1 + 1) ⟨H, G3, G4, G5, G6, G7, G8, G9, H0, H1, H2, H3, H4, H5, H6, H7, H8, H9, I0, I1, I2⟩ (Nat.lt_succ_self _) (Z00 rfl (Z00 rfl (Z00 rfl (Z00 rfl Z08)))) (Z02 tk0 (Z02 tk0 (Z02 tk0 (Z02 tk0 (Z02 tk0 (Z02 tk0 (Z02 tk0 (Z02 tk0 Z09))))))))
   · refine Z14 rfl M0 ?_; refine T.exit ?_; refine Z0i ?_; have H := Z0t H P7 ▸ Q5; refine Z0i ?_; refine Z0u ?_; exact Zni a4 j7 u9 k8 w5 a5 q9 r2 j8 w6 e4 r3 c32 j9 w7 e5 r4 c42 k1 w8 d1 r6 c52 k2 w9 ⟨H, z9, B7, B8, B9, A0, C0, C1, C2, C3, C4, C5, C6, C7, C8, C9, D0, D1, D2, D3, D4⟩ (Z00 rfl (Z00 rfl Z08)) (Z02 tk1 (Z02 tk1 (Z02 tk1 (Z02 tk1 (Z02 tk1 (Z02 tk1 (Z02 tk1 Z09)))))))
  ·
   rintro a3 e8 o0 i1 p5 a2 e9 f0 b0 i2 c4 f2 f3 b5 i4 a7 f4 f5 b6 i5 a9 f6 f7 b7 i6 ⟨H, y7, I3, I4, I5, p3, I6, I7, I8, I9, J0, J1, J2, g6, g8, J3, g9, J4, J5, J6, J7⟩; unfold Z60 at H; refine Z0a ?_; obtain ⟨O6, H⟩ := Z0d H; refine Z03 (ll := [0, 1, 2, 3, 4, 5, 6, 7, 8]) rfl ?_; refine Z07 rfl rfl rfl rfl Z77 ?_; refine Z0e rfl rfl rfl rfl Z1b mm1 rfl ?_; refine Z07 rfl rfl rfl rfl Z2i ?_; refine Z0e rfl rfl rfl rfl Z1b mm1 rfl ?_; refine Z1n (xs := a2) p3 rfl rfl rfl rfl rfl Z16 ?_; refine Z0o [.int .i64 0] [0] rfl rfl rfl rfl Z16 Z1m Z46 rfl rfl (by simp only [Z1o, setCells, Value.cells, List.toList_toArray, List.getD_cons_zero, List.getD_cons_succ, List.set_cons_zero, List.set_cons_succ]; rfl) (by kernel_rfl) ?_; intro R9; refine Z9p (f := (intC .i64)) (s := 1) (xs := a3) (ob := i1) (j := p5) (ys := [(a2.length : Int)]) (fun _ => rfl) (fun _ => rfl) Z4m O6 rfl rfl rfl rfl rfl tk3 y7 I3 I4 I5 (fun wc hwc => (hwc.rs (f := (intC .i64)) (s := 1) (xs := [(a2.length : Int)]) (j := ([])) (fun _ => rfl) mm0 rfl (Nat.le_refl _) Z1j)) ?_; intro d6 m6 q2 J8 J9 K0; refine Z07 rfl rfl rfl rfl Z77 ?_; refine Z1x (cs' := [.int .i64 n0.N, .int .i64 n0.S, .int .i64 n0.T, .slice (sb d6) (e8 + 1) m6, .slice (sb b0) e9 f0, .slice none 0 0, .slice (sb b5) f2 f3, .slice (sb b6) f4 f5, .slice (sb b7) f6 f7]) rfl rfl rfl rfl tk3 Z4n rfl rfl rfl ?_; refine Z04 ?_; refine Z01 ?_; refine Z0j (Z00 (t := 2) rfl (Z00 (t := 5) rfl Z08)) ?_; refine Z0a ?_; refine Z0a ?_; refine Z03 (ll := [0]) rfl ?_; refine Z06 rfl rfl rfl rfl ?_; refine Z04 ?_; refine Z01 ?_; refine Zag (fun (h6 : List Int) (m7 : Nat) (m8 : Nat) (j4 : Option Nat) (q3 : List Value) => Z5j n0 a3 a2 c4 a7 a9 h6 = some (r0, r1) ∧ h6.length = m7 ∧ m7 ≤ m8 ∧ q3.length = (m8 - m7) * 1 ∧ (j4 = none → m8 = 0)) (fun (h6 : List Int) (m7 : Nat) (m8 : Nat) (j4 : Option Nat) (q3 : List Value) => [(2, .pointer (some ⟨b3, 0, none⟩)), (5, .pointer (some ⟨b8, 0, none⟩))]) (fun (h6 : List Int) (m7 : Nat) (m8 : Nat) (j4 : Option Nat) (q3 : List Value) => [(some b3, .cells #[.int .i64 0, .int .i64 0, .int .i64 0, .slice none 0 0, .slice none 0 0, .slice none 0 0, .slice none 0 0, .slice none 0 0, .slice none 0 0] 64 (0, 0)), (some b8, .cells #[.int .i64 n0.N, .int .i64 n0.S, .int .i64 n0.T, .slice (sb d6) (e8 + 1) m6, .slice (sb b0) e9 f0, .slice (sb j4) m7 m8, .slice (sb b5) f2 f3, .slice (sb b6) f4 f5, .slice (sb b7) f6 f7] 64 (0, 0)), (d6, .cells (arr (intC .i64) (a3 ++ ([(a2.length : Int)])) q2).toArray 3 (0, 0)), (b0, .cells (arr (intC .i64) a2 i2).toArray 3 (0, 0)), (j4, .cells (arr (intC .i64) h6 q3).toArray 3 (0, 0)), (b5, .cells (arr (intC .i64) c4 i4).toArray 2 (0, 0)), (b6, .cells (arr (intC .i64) a7 i5).toArray 3 (0, 0)), (b7, .cells (arr boolC a9 i6).toArray 4 (0, 0))]) ?_ ?_
   ·
    refine T.block ?_; obtain ⟨S0, S1, S2⟩ := Z0m H; refine Zeb (fun (B2 : Nat) (d3 : List Int) (k5 : Nat) (k6 : Nat) (h0 : Option Nat) (m9 : List Value) (g0 : Int) => Z21 (fun s => Z4e a2 a7 s.1 s.2) B2 (d3, g0) = some S0 ∧ d3.length = k5 ∧ k5 ≤ k6 ∧ m9.length = (k6 - k5) * 1 ∧ (h0 = none → k6 = 0)) (fun (B2 : Nat) (d3 : List Int) (k5 : Nat) (k6 : Nat) (h0 : Option Nat) (m9 : List Value) (g0 : Int) => [(2, .pointer (some ⟨b3, 0, none⟩)), (5, .pointer (some ⟨b8, 0, none⟩)), (9, .int .i64 g0)]) (fun (B2 : Nat) (d3 : List Int) (k5 : Nat) (k6 : Nat) (h0 : Option Nat) (m9 : List Value) (g0 : Int) => [(some b3, .cells #[.int .i64 0, .int .i64 0, .int .i64 0, .slice none 0 0, .slice none 0 0, .slice none 0 0, .slice none 0 0, .slice none 0 0, .slice none 0 0] 64 (0, 0)), (some b8, .cells #[.int .i64 n0.N, .int .i64 n0.S, .int .i64 n0.T, .slice (sb d6) (e8 + 1) m6, .slice (sb b0) e9 f0, .slice (sb h0) k5 k6, .slice (sb b5) f2 f3, .slice (sb b6) f4 f5, .slice (sb b7) f6 f7] 64 (0, 0)), (d6, .cells (arr (intC .i64) (a3 ++ ([(a2.length : Int)])) q2).toArray 3 (0, 0)), (b0, .cells (arr (intC .i64) a2 i2).toArray 3 (0, 0)), (h0, .cells (arr (intC .i64) d3 m9).toArray 3 (0, 0)), (b5, .cells (arr (intC .i64) c4 i4).toArray 2 (0, 0)), (b6, .cells (arr (intC .i64) a7 i5).toArray 3 (0, 0)), (b7, .cells (arr boolC a9 i6).toArray 4 (0, 0))]) (fun (B2 : Nat) (d3 : List Int) (k5 : Nat) (k6 : Nat) (h0 : Option Nat) (m9 : List Value) (g0 : Int) => B2) Z3k ([]) 0 0 none ([]) 0 ⟨S1, rfl, (Nat.le_refl _), (Z2u 0 _), (fun _ => rfl)⟩ (Z00 rfl (Z00 rfl (Z00 rfl Z08))) (Z02 tk3 (Z02 tk0 (Z02 tk0 (Z02 tk1 (Pick.none (Z02 tk1 (Z02 tk1 (Z02 tk1 Z09)))))))) ?_; rintro B2 d3 k5 k6 h0 m9 g0 ⟨H, y8, y9, z0, z1⟩; obtain ⟨S3, P9, rfl, H, Q0⟩ := Z1f H; have H : Z4e a2 a7 d3 g0 = some P9 := H; unfold Z4e at H; refine Z0a ?_; refine Z0a ?_; refine Z03 (ll := [0, 1, 2, 3, 4]) rfl ?_; refine Z05 rfl rfl rfl rfl ?_; refine Z07 rfl rfl rfl rfl Z2i ?_; refine Z0e rfl rfl rfl rfl Z1b mm1 rfl ?_; refine Z1n (xs := a2) p3 rfl rfl rfl rfl rfl Z16 ?_; refine Z0q rfl rfl rfl rfl rfl rfl ?_; refine Z04 ?_; refine Z01 ?_; rcases Z0g H with ⟨A6, H⟩ | ⟨A6, H⟩
    ·
     refine Z13 rfl A6 ?_; refine T.skip ?_; refine Z01 ?_; refine Z0a ?_; refine Zag (fun (g1 : List Int) (n5 : Nat) (n6 : Nat) (j5 : Option Nat) (q4 : List Value) => Z5z g0 g1 = some P9 ∧ g1.length = n5 ∧ n5 ≤ n6 ∧ q4.length = (n6 - n5) * 1 ∧ (j5 = none → n6 = 0)) (fun (g1 : List Int) (n5 : Nat) (n6 : Nat) (j5 : Option Nat) (q4 : List Value) => [(2, .pointer (some ⟨b3, 0, none⟩)), (5, .pointer (some ⟨b8, 0, none⟩)), (9, .int .i64 g0)]) (fun (g1 : List Int) (n5 : Nat) (n6 : Nat) (j5 : Option Nat) (q4 : List Value) => [(some b3, .cells #[.int .i64 0, .int .i64 0, .int .i64 0, .slice none 0 0, .slice none 0 0, .slice none 0 0, .slice none 0 0, .slice none 0 0, .slice none 0 0] 64 (0, 0)), (some b8, .cells #[.int .i64 n0.N, .int .i64 n0.S, .int .i64 n0.T, .slice (sb d6) (e8 + 1) m6, .slice (sb b0) e9 f0, .slice (sb j5) n5 n6, .slice (sb b5) f2 f3, .slice (sb b6) f4 f5, .slice (sb b7) f6 f7] 64 (0, 0)), (d6, .cells (arr (intC .i64) (a3 ++ ([(a2.length : Int)])) q2).toArray 3 (0, 0)), (b0, .cells (arr (intC .i64) a2 i2).toArray 3 (0, 0)), (j5, .cells (arr (intC .i64) g1 q4).toArray 3 (0, 0)), (b5, .cells (arr (intC .i64) c4 i4).toArray 2 (0, 0)), (b6, .cells (arr (intC .i64) a7 i5).toArray 3 (0, 0)), (b7, .cells (arr boolC a9 i6).toArray 4 (0, 0))]) ?_ ?_
     ·
      refine T.block ?_; refine Z0a ?_; refine Z03 (ll := [0]) rfl ?_; refine Z06 rfl rfl rfl rfl ?_; refine Z04 ?_; refine Z01 ?_; refine T.block ?_; obtain ⟨S4, S5, S6⟩ := Z0m H; refine Zeb (fun (B3 : Nat) (b9 : List Int) (h7 : Nat) (j6 : Nat) (e1 : Option Nat) (k7 : List Value) (g2 : Int) => Z21 (fun s => Z4d a2 a7 g0 s.1 s.2) B3 (b9, g2) = some S4 ∧ b9.length = h7 ∧ h7 ≤ j6 ∧ k7.length = (j6 - h7) * 1 ∧ (e1 = none → j6 = 0)) (fun (B3 : Nat) (b9 : List Int) (h7 : Nat) (j6 : Nat) (e1 : Option Nat) (k7 : List Value) (g2 : Int) => [(2, .pointer (some ⟨b3, 0, none⟩)), (5, .pointer (some ⟨b8, 0, none⟩)), (9, .int .i64 g0), (10, .int .i64 g2)]) (fun (B3 : Nat) (b9 : List Int) (h7 : Nat) (j6 : Nat) (e1 : Option Nat) (k7 : List Value) (g2 : Int) => [(some b3, .cells #[.int .i64 0, .int .i64 0, .int .i64 0, .slice none 0 0, .slice none 0 0, .slice none 0 0, .slice none 0 0, .slice none 0 0, .slice none 0 0] 64 (0, 0)), (some b8, .cells #[.int .i64 n0.N, .int .i64 n0.S, .int .i64 n0.T, .slice (sb d6) (e8 + 1) m6, .slice (sb b0) e9 f0, .slice (sb e1) h7 j6, .slice (sb b5) f2 f3, .slice (sb b6) f4 f5, .slice (sb b7) f6 f7] 64 (0, 0)), (d6, .cells (arr (intC .i64) (a3 ++ ([(a2.length : Int)])) q2).toArray 3 (0, 0)), (b0, .cells (arr (intC .i64) a2 i2).toArray 3 (0, 0)), (e1, .cells (arr (intC .i64) b9 k7).toArray 3 (0, 0)), (b5, .cells (arr (intC .i64) c4 i4).toArray 2 (0, 0)), (b6, .cells (arr (intC .i64) a7 i5).toArray 3 (0, 0)), (b7, .cells (arr boolC a9 i6).toArray 4 (0, 0))]) (fun (B3 : Nat) (b9 : List Int) (h7 : Nat) (j6 : Nat) (e1 : Option Nat) (k7 : List Value) (g2 : Int) => B3) Z3k d3 k5 k6 h0 m9 0 ⟨S5, y8, y9, z0, z1⟩ (Z00 rfl (Z00 rfl (Z00 rfl (Z00 rfl Z08)))) (Z02 tk0 (Z02 tk0 (Z02 tk0 (Z02 tk0 (Z02 tk0 (Z02 tk0 (Z02 tk0 (Z02 tk0 Z09)))))))) ?_; rintro B3 b9 h7 j6 e1 k7 g2 ⟨H, p4, t4, t5, t6⟩; obtain ⟨Q1, Q2, rfl, H, O7⟩ := Z1f H; have H : Z4d a2 a7 g0 b9 g2 = some Q2 := H; unfold Z4d at H; refine Z0a ?_; refine Z0a ?_; refine Z03 (ll := [0, 1, 2, 3, 4]) rfl ?_; refine Z05 rfl rfl rfl rfl ?_; refine Z07 rfl rfl rfl rfl Z2i ?_; refine Z0e rfl rfl rfl rfl Z1b mm1 rfl ?_; refine Z1n (xs := a2) p3 rfl rfl rfl rfl rfl Z16 ?_; refine Z0q rfl rfl rfl rfl rfl rfl ?_; refine Z04 ?_; refine Z01 ?_; rcases Z0g H with ⟨A7, H⟩ | ⟨A7, H⟩
      ·
       refine Z13 rfl A7 ?_; refine T.skip ?_; refine Z01 ?_; refine Z0a ?_; refine T.block ?_; refine Z0a ?_; refine Z1i (fun (t7 : Bool) => Z3d b9 g2 t7 = some Q2) (fun (t7 : Bool) => [(2, .pointer (some ⟨b3, 0, none⟩)), (5, .pointer (some ⟨b8, 0, none⟩)), (9, .int .i64 g0), (10, .int .i64 g2), (148, .bool t7)]) (fun (t7 : Bool) => [(some b3, .cells #[.int .i64 0, .int .i64 0, .int .i64 0, .slice none 0 0, .slice none 0 0, .slice none 0 0, .slice none 0 0, .slice none 0 0, .slice none 0 0] 64 (0, 0)), (some b8, .cells #[.int .i64 n0.N, .int .i64 n0.S, .int .i64 n0.T, .slice (sb d6) (e8 + 1) m6, .slice (sb b0) e9 f0, .slice (sb e1) h7 j6, .slice (sb b5) f2 f3, .slice (sb b6) f4 f5, .slice (sb b7) f6 f7] 64 (0, 0)), (d6, .cells (arr (intC .i64) (a3 ++ ([(a2.length : Int)])) q2).toArray 3 (0, 0)), (b0, .cells (arr (intC .i64) a2 i2).toArray 3 (0, 0)), (e1, .cells (arr (intC .i64) b9 k7).toArray 3 (0, 0)), (b5, .cells (arr (intC .i64) c4 i4).toArray 2 (0, 0)), (b6, .cells (arr (intC .i64) a7 i5).toArray 3 (0, 0)), (b7, .cells (arr boolC a9 i6).toArray 4 (0, 0))]) ?_ ?_
       ·
        obtain ⟨w3, H⟩ := Z0d H; obtain ⟨w4, H⟩ := Z0d H; rcases Z0g H with ⟨A8, H⟩ | ⟨A8, H⟩
        · refine Z4s 14 [0, 1, 2, 3, 4, 5, 6, 7, 8, 9, 10, 11, 12, 13] rfl Z69 (by kernel_rfl) (by kernel_rfl) rfl (by kernel_rfl) ?_; refine Z0l rfl rfl rfl rfl Z1z ?_; refine Z2f rfl rfl rfl rfl Z1b mm1 rfl ?_; refine TQ.move rfl rfl rfl rfl ?_; refine Zfp g9 g8 g6 w3 rfl rfl rfl rfl rfl Z16 Z1m ?_; refine Zd1 g9 g8 g6 w3 rfl rfl rfl rfl Z0r mm6 ?_; refine Z0l rfl rfl rfl rfl Z1z ?_; refine Z2f rfl rfl rfl rfl Z1b mm1 rfl ?_; refine TQ.move rfl rfl rfl rfl ?_; refine Zfp g9 g8 g6 w4 rfl rfl rfl rfl rfl Z16 Z1m ?_; refine Zd1 g9 g8 g6 w4 rfl rfl rfl rfl Z0r mm6 ?_; refine Zak rfl rfl rfl rfl rfl rfl ?_; refine TQ.move rfl rfl rfl rfl ?_; refine Z5y (t := 144) (b' := true) rfl (decide_eq_true A8) ?_; refine TQ.move rfl rfl rfl rfl ?_; refine TQ.move rfl rfl rfl rfl ?_; refine TQ.tail [14, 15] rfl rfl ?_; refine Z0q rfl rfl rfl rfl rfl rfl ?_; refine Z0y rfl rfl rfl rfl rfl ?_; refine Z04 ?_; exact Z1l (decide (g0 ≠ g2)) H (Z00 rfl (Z00 rfl (Z00 rfl (Z00 rfl (Z00 rfl Z08))))) (Z02 tk0 (Z02 tk0 (Z02 tk0 (Z02 tk0 (Z02 tk0 (Z02 tk0 (Z02 tk0 (Z02 tk0 Z09))))))))
        · refine Z4s 14 [0, 1, 2, 3, 4, 5, 6, 7, 8, 9, 10, 11, 12, 13] rfl Z69 (by kernel_rfl) (by kernel_rfl) rfl (by kernel_rfl) ?_; refine Z0l rfl rfl rfl rfl Z1z ?_; refine Z2f rfl rfl rfl rfl Z1b mm1 rfl ?_; refine TQ.move rfl rfl rfl rfl ?_; refine Zfp g9 g8 g6 w3 rfl rfl rfl rfl rfl Z16 Z1m ?_; refine Zd1 g9 g8 g6 w3 rfl rfl rfl rfl Z0r mm6 ?_; refine Z0l rfl rfl rfl rfl Z1z ?_; refine Z2f rfl rfl rfl rfl Z1b mm1 rfl ?_; refine TQ.move rfl rfl rfl rfl ?_; refine Zfp g9 g8 g6 w4 rfl rfl rfl rfl rfl Z16 Z1m ?_; refine Zd1 g9 g8 g6 w4 rfl rfl rfl rfl Z0r mm6 ?_; refine Zak rfl rfl rfl rfl rfl rfl ?_; refine TQ.move rfl rfl rfl rfl ?_; refine Z5y (t := 144) (b' := false) rfl (decide_eq_false A8) ?_; refine Z19 rfl rfl rfl rfl ?_; refine Z19 rfl rfl rfl rfl ?_; refine TQ.tail [14, 15] rfl rfl ?_; refine Z0c rfl rfl rfl rfl ?_; refine Z0z rfl rfl rfl rfl rfl ?_; refine Z04 ?_; exact Z1l false H (Z00 rfl (Z00 rfl (Z00 rfl (Z00 rfl (Z00 rfl Z08))))) (Z02 tk0 (Z02 tk0 (Z02 tk0 (Z02 tk0 (Z02 tk0 (Z02 tk0 (Z02 tk0 (Z02 tk0 Z09))))))))
       ·
        rintro t7 H; unfold Z3d at H; rcases Z0g H with ⟨A9, H⟩ | ⟨A9, H⟩
        · refine Z1e rfl A9 ?_; obtain ⟨O8, H⟩ := Z0d H; refine Z03 (ll := [0, 1, 2, 3, 4, 5, 6]) rfl ?_; refine Z07 rfl rfl rfl rfl Z8u ?_; refine Z0e rfl rfl rfl rfl Z1b mm1 rfl ?_; refine Z05 rfl rfl rfl rfl ?_; refine Z0o [.int .i64 0] [0] rfl rfl rfl rfl Z16 Z1m Z46 rfl rfl (by simp only [Z1o, setCells, Value.cells, List.toList_toArray, List.getD_cons_zero, List.getD_cons_succ, List.set_cons_zero, List.set_cons_succ]; rfl) (by kernel_rfl) ?_; intro S7; refine Z9p (f := (intC .i64)) (s := 1) (xs := b9) (ob := e1) (j := k7) (ys := [g2]) (fun _ => rfl) (fun _ => rfl) Z4m O8 rfl rfl rfl rfl rfl tk5 p4 t4 t5 t6 (fun wc hwc => (hwc.rs (f := (intC .i64)) (s := 1) (xs := [g2]) (j := ([])) (fun _ => rfl) mm0 rfl (Nat.le_refl _) Z1j)) ?_; intro z5 K1 O9 K2 K3 K4; refine Z07 rfl rfl rfl rfl Z8u ?_; refine Z1x (cs' := [.int .i64 n0.N, .int .i64 n0.S, .int .i64 n0.T, .slice (sb d6) (e8 + 1) m6, .slice (sb b0) e9 f0, .slice (sb z5) (h7 + 1) K1, .slice (sb b5) f2 f3, .slice (sb b6) f4 f5, .slice (sb b7) f6 f7]) rfl rfl rfl rfl tk3 Z4n rfl rfl rfl ?_; refine Z04 ?_; refine Z0h ?_; refine Z01 ?_; obtain ⟨P0, H⟩ := Z0d H; refine Z03 (ll := [0, 1, 2]) rfl ?_; refine Z05 rfl rfl rfl rfl ?_; refine Z17 P0 rfl rfl rfl rfl rfl ?_; refine Z06 rfl rfl rfl rfl ?_; refine Z04 ?_; have H := Z10 H O7; exact Zab Q1 (b9 ++ ([g2])) (h7 + 1) K1 z5 O9 (g2 + 1) ⟨H, (Z9q p4 rfl), K2, K3, K4⟩ (Nat.lt_succ_self _) (Z00 rfl (Z00 rfl (Z00 rfl (Z00 rfl Z08)))) (Z02 tk3 (Z02 tk0 (Z02 tk2 (Z02 tk2 (Z02 tk0 (Z02 tk1 (Z02 tk1 (Z02 tk1 Z09))))))))
        · refine Z1s rfl (Bool.eq_false_iff.2 A9) ?_; refine T.skip ?_; refine Z0h ?_; refine Z01 ?_; obtain ⟨P1, H⟩ := Z0d H; refine Z03 (ll := [0, 1, 2]) rfl ?_; refine Z05 rfl rfl rfl rfl ?_; refine Z17 P1 rfl rfl rfl rfl rfl ?_; refine Z06 rfl rfl rfl rfl ?_; refine Z04 ?_; have H := Z10 H O7; exact Zab Q1 b9 h7 j6 e1 k7 (g2 + 1) ⟨H, p4, t4, t5, t6⟩ (Nat.lt_succ_self _) (Z00 rfl (Z00 rfl (Z00 rfl (Z00 rfl Z08)))) (Z02 tk0 (Z02 tk0 (Z02 tk0 (Z02 tk0 (Z02 tk0 (Z02 tk0 (Z02 tk0 (Z02 tk0 Z09))))))))
      · refine Z14 rfl A7 ?_; refine T.exit ?_; refine Z0i ?_; have H := Z0t H O7 ▸ S6; refine Z0i ?_; refine Z0u ?_; refine Z0h ?_; exact Zdq b9 h7 j6 e1 k7 ⟨H, p4, t4, t5, t6⟩ (Z00 rfl (Z00 rfl (Z00 rfl Z08))) (Z02 tk0 (Z02 tk0 (Z02 tk0 (Z02 tk0 (Z02 tk0 (Z02 tk0 (Z02 tk0 (Z02 tk0 Z09))))))))
     · rintro g1 n5 n6 j5 q4 ⟨H, K5, K6, K7, K8⟩; unfold Z5z at H; obtain ⟨P2, H⟩ := Z0d H; refine Z03 (ll := [0, 1, 2]) rfl ?_; refine Z05 rfl rfl rfl rfl ?_; refine Z17 P2 rfl rfl rfl rfl rfl ?_; refine Z06 rfl rfl rfl rfl ?_; refine Z04 ?_; have H := Z10 H Q0; exact Zab S3 g1 n5 n6 j5 q4 (g0 + 1) ⟨H, K5, K6, K7, K8⟩ (Nat.lt_succ_self _) (Z00 rfl (Z00 rfl (Z00 rfl Z08))) (Z02 tk0 (Z02 tk0 (Z02 tk0 (Z02 tk0 (Z02 tk0 (Z02 tk0 (Z02 tk0 (Z02 tk0 Z09))))))))
    · refine Z14 rfl A6 ?_; refine T.exit ?_; refine Z0i ?_; have H := Z0t H Q0 ▸ S2; refine Z0i ?_; refine Z0u ?_; exact Zdq d3 k5 k6 h0 m9 ⟨H, y8, y9, z0, z1⟩ (Z00 rfl (Z00 rfl Z08)) (Z02 tk0 (Z02 tk0 (Z02 tk0 (Z02 tk0 (Z02 tk0 (Z02 tk0 (Z02 tk0 (Z02 tk0 Z09))))))))
   · rintro h6 m7 m8 j4 q3 ⟨H, K9, L0, L1, L2⟩; unfold Z5j at H; refine Z0a ?_; refine Z03 (ll := [0, 1, 2]) rfl ?_; refine Z0s rfl rfl rfl rfl Z4r mm1 rfl ?_; refine Z1g rfl rfl rfl rfl tk0 Z5o rfl rfl rfl ?_; refine Z06 rfl rfl rfl rfl ?_; refine Z04 ?_; refine Z01 ?_; refine T.ret ?_; obtain ⟨rfl, rfl⟩ := ret2 H; exact Z5m rfl rfl rfl rfl (Z8h rfl Z4r mm0 rfl) (Res.tmp rfl) (Z02 tk2 (Z02 tk2 (Z02 tk2 (Z02 tk2 (Z02 tk2 (Z02 tk2 Z09)))))) ⟨d6, (e8 + 1), m6, q2, b0, e9, f0, i2, j4, m7, m8, q3, b5, f2, f3, i4, b6, f4, f5, i5, b7, f6, f7, i6, rfl, rfl, (Z9q y7 rfl), J8, J9, K0, p3, I6, I7, I8, K9, L0, L1, L2, I9, J0, J1, J2, g6, g8, J3, g9, J4, J5, J6, J7⟩
theorem Zfc {c0 : Csr} {f1 : List Int} {c0f3_b : Option Addr} {c0f3_n : Nat} {c0f3_c : Nat} {c0f4_b : Option Addr} {c0f4_n : Nat} {c0f4_c : Nat} {c0f5_b : Option Addr} {c0f5_n : Nat} {c0f5_c : Nat} {c0f6_b : Option Addr} {c0f6_n : Nat} {c0f6_c : Nat} {c0f7_b : Option Addr} {c0f7_n : Nat} {c0f7_c : Nat} {c0f8_b : Option Addr} {c0f8_n : Nat} {c0f8_c : Nat} {f1_b : Option Addr} {f1_n : Nat} {f1_c : Nat} (w : World) (h_c0f3 : RS w [] (intC .i64) 1 c0f3_b c0f3_n c0f3_c c0.First) (h_c0f4 : RS w [] (intC .i64) 1 c0f4_b c0f4_n c0f4_c c0.Head) (h_c0f5 : RS w [] (intC .i64) 1 c0f5_b c0f5_n c0f5_c c0.Rev) (h_c0f6 : RS w [] (intC .i64) 1 c0f6_b c0f6_n c0f6_c c0.Cap) (h_c0f7 : RS w [] (intC .i64) 1 c0f7_b c0f7_n c0f7_c c0.Arc) (h_c0f8 : RS w [] boolC 1 c0f8_b c0f8_n c0f8_c c0.Back) (a4 : RS w [] (intC .i64) 1 f1_b f1_n f1_c f1) {r0 : List Int} {r1 : Int} (H : Z6f c0 f1 = some (r0, r1)) : Fnc Try.prog 62 #[.agg #[.int .i64 c0.N, .int .i64 c0.S, .int .i64 c0.T, .slice c0f3_b c0f3_n c0f3_c, .slice c0f4_b c0f4_n c0f4_c, .slice c0f5_b c0f5_n c0f5_c, .slice c0f6_b c0f6_n c0f6_c, .slice c0f7_b c0f7_n c0f7_c, .slice c0f8_b c0f8_n c0f8_c], .slice f1_b f1_n f1_c] w [] (fun v N => ∃ (b0 : Option Nat) (c7 : Nat) (c8 : Nat) (f0 : List Value), v = .tuple #[.slice (sb b0) c7 c8, .int .i64 r1] ∧ N = [(b0, .cells (arr (intC .i64) r0 f0).toArray 2 (0, 0))] ∧ r0.length = c7 ∧ c7 ≤ c8 ∧ f0.length = (c8 - c7) * 1 ∧ (b0 = none → c8 = 0)) := by
 unfold Z6f at H; refine Fnc.enter (vs := [.agg #[.int .i64 c0.N, .int .i64 c0.S, .int .i64 c0.T, .slice c0f3_b c0f3_n c0f3_c, .slice c0f4_b c0f4_n c0f4_c, .slice c0f5_b c0f5_n c0f5_c, .slice c0f6_b c0f6_n c0f6_c, .slice c0f7_b c0f7_n c0f7_c, .slice c0f8_b c0f8_n c0f8_c], .slice f1_b f1_n f1_c]) Try.func62 rfl rfl (Inv.refl w) ?_; refine Z0a ?_; refine Z03 (ll := [0, 1, 2]) rfl ?_; refine Z1w rfl rfl rfl rfl ?_; intro b1; refine Z06 rfl rfl rfl rfl ?_; refine Z06 rfl rfl rfl rfl ?_; refine Z04 ?_; refine Z01 ?_; refine Z0a ?_; refine Z03 (ll := [0]) rfl ?_; refine Z06 rfl rfl rfl rfl ?_; refine Z04 ?_; refine Z01 ?_; refine Z0a ?_; refine Z0a ?_; refine Z03 (ll := [0]) rfl ?_; refine Z06 rfl rfl rfl rfl ?_; refine Z04 ?_; refine Z01 ?_; refine Zag (fun (a5 : List Int) (a8 : Nat) (a9 : Nat) (a6 : Option Nat) (b7 : List Value) => Z6e a5 = some (r0, r1) ∧ a5.length = a8 ∧ a8 ≤ a9 ∧ b7.length = (a9 - a8) * 1 ∧ (a6 = none → a9 = 0)) (fun (a5 : List Int) (a8 : Nat) (a9 : Nat) (a6 : Option Nat) (b7 : List Value) => [(6, .slice (sb a6) a8 a9)]) (fun (a5 : List Int) (a8 : Nat) (a9 : Nat) (a6 : Option Nat) (b7 : List Value) => [(a6, .cells (arr (intC .i64) a5 b7).toArray 2 (0, 0))]) ?_ ?_
 ·
  refine T.block ?_; obtain ⟨g2, g3, d0⟩ := Z0m H; refine Zeb (fun (b8 : Nat) (a2 : List Int) (n4 : Nat) (c5 : Nat) (a7 : Option Nat) (j7 : List Value) (a3 : Int) => Z21 (fun s => Z4y c0 f1 s.1 s.2) b8 (a2, a3) = some g2 ∧ a2.length = n4 ∧ n4 ≤ c5 ∧ j7.length = (c5 - n4) * 1 ∧ (a7 = none → c5 = 0)) (fun (b8 : Nat) (a2 : List Int) (n4 : Nat) (c5 : Nat) (a7 : Option Nat) (j7 : List Value) (a3 : Int) => [(1, .slice f1_b f1_n f1_c), (2, .pointer (some ⟨b1, 0, none⟩)), (6, .slice (sb a7) n4 c5), (7, .int .i64 a3)]) (fun (b8 : Nat) (a2 : List Int) (n4 : Nat) (c5 : Nat) (a7 : Option Nat) (j7 : List Value) (a3 : Int) => [(some b1, .cells #[.int .i64 c0.N, .int .i64 c0.S, .int .i64 c0.T, .slice c0f3_b c0f3_n c0f3_c, .slice c0f4_b c0f4_n c0f4_c, .slice c0f5_b c0f5_n c0f5_c, .slice c0f6_b c0f6_n c0f6_c, .slice c0f7_b c0f7_n c0f7_c, .slice c0f8_b c0f8_n c0f8_c] 64 (0, 0)), (a7, .cells (arr (intC .i64) a2 j7).toArray 2 (0, 0))]) (fun (b8 : Nat) (a2 : List Int) (n4 : Nat) (c5 : Nat) (a7 : Option Nat) (j7 : List Value) (a3 : Int) => b8) Z3k ([]) 0 0 none ([]) 0 ⟨g3, rfl, (Nat.le_refl _), (Z2u 0 _), (fun _ => rfl)⟩ (Z00 rfl (Z00 rfl (Z00 rfl (Z00 rfl Z08)))) (Z02 tk0 (Pick.none Z09)) ?_; rintro b8 a2 n4 c5 a7 j7 a3 ⟨H, b9, d1, b5, b6⟩; obtain ⟨f2, f3, rfl, H, c3⟩ := Z1f H; have H : Z4y c0 f1 a2 a3 = some f3 := H; unfold Z4y at H; refine Z0a ?_; refine Z0a ?_; refine Z03 (ll := [0, 1, 2, 3, 4]) rfl ?_; refine Z05 rfl rfl rfl rfl ?_; refine Z07 rfl rfl rfl rfl Z2i ?_; refine Z0e rfl rfl rfl rfl Z1b mm0 rfl ?_; refine Z1n (xs := c0.Head) h_c0f4.len rfl rfl rfl rfl rfl Z16 ?_; refine Z0q rfl rfl rfl rfl rfl rfl ?_; refine Z04 ?_; refine Z01 ?_; rcases Z0g H with ⟨d3, H⟩ | ⟨d3, H⟩
  ·
   refine Z13 rfl d3 ?_; refine T.skip ?_; refine Z01 ?_; refine Z0a ?_; refine T.block ?_; refine Z0a ?_; obtain ⟨f4, H⟩ := Z0d H; refine Z03 (ll := [0, 1, 2, 3, 4, 5]) rfl ?_; refine Z07 rfl rfl rfl rfl Z1z ?_; refine Z0e rfl rfl rfl rfl Z1b mm0 rfl ?_; refine Z05 rfl rfl rfl rfl ?_; refine Z28 h_c0f7 f4 rfl rfl rfl rfl rfl Z16 Z1m ?_; refine Z3a h_c0f7 f4 rfl rfl rfl rfl Z0r ?_; refine Z06 rfl rfl rfl rfl ?_; refine Z04 ?_; refine Z01 ?_; refine Z0j (Z00 (t := 1) rfl (Z00 (t := 2) rfl (Z00 (t := 6) rfl (Z00 (t := 7) rfl (Z00 (t := 8) rfl Z08))))) ?_; refine Z0a ?_; refine Z0a ?_; refine Z03 (ll := [0, 1, 2, 3]) rfl ?_; refine Z05 rfl rfl rfl rfl ?_; refine Z05 rfl rfl rfl rfl ?_; refine Z1n (xs := f1) a4.len rfl rfl rfl rfl rfl Z15 ?_; refine Z0q rfl rfl rfl rfl rfl rfl ?_; refine Z04 ?_; refine Z01 ?_; rcases Z0g H with ⟨d4, H⟩ | ⟨d4, H⟩
   · refine Z13 rfl d4 ?_; refine Z0a ?_; refine Z03 (ll := [0, 1]) rfl ?_; refine Z06 rfl rfl rfl rfl ?_; refine Z06 rfl rfl rfl rfl ?_; refine Z04 ?_; refine Z01 ?_; refine Z0j (Z00 (t := 4) rfl (Z00 (t := 5) rfl Z08)) ?_; refine T.ret ?_; refine Z0f ?_; refine Z0n ?_; refine Z0f ?_; have H := Z0t H c3 ▸ d0; refine Z0f ?_; refine Z0n ?_; refine Z0f ?_; obtain ⟨rfl, rfl⟩ := ret2 H; exact Z5m rfl rfl rfl rfl (Res.tmp rfl) (Res.tmp rfl) (Pick.none Z09) ⟨none, 0, 0, ([]), rfl, rfl, rfl, (Nat.le_refl _), (Z2u 0 _), (fun _ => rfl)⟩
   ·
    refine Z14 rfl d4 ?_; refine T.skip ?_; refine Z01 ?_; refine Z0a ?_; obtain ⟨f5, H⟩ := Z0d H; obtain ⟨f6, H⟩ := Z0d H; obtain ⟨f7, H⟩ := Z0d H; obtain ⟨g4, H⟩ := Z0d H; refine Z4s 14 [0, 1, 2, 3, 4, 5, 6, 7, 8, 9, 10, 11, 12, 13] rfl Z69 (by kernel_rfl) (by kernel_rfl) rfl (by kernel_rfl) ?_; refine Z0l rfl rfl rfl rfl Z4p ?_; refine Z2f rfl rfl rfl rfl Z8a mm0 rfl ?_; refine TQ.move rfl rfl rfl rfl ?_; refine Z9a h_c0f6 f5 rfl rfl rfl rfl rfl Z15 Z1a ?_; refine Z8x h_c0f6 f5 rfl rfl rfl rfl Z26 ?_; refine Z0l rfl rfl rfl rfl Z4p ?_; refine Z2f rfl rfl rfl rfl Z8a mm0 rfl ?_; refine Z0l rfl rfl rfl rfl Z8u ?_; refine Z2f rfl rfl rfl rfl Z1b mm0 rfl ?_; refine TQ.move rfl rfl rfl rfl ?_; refine Z9a h_c0f5 f6 rfl rfl rfl rfl rfl Z16 Z1m ?_; refine Z8x h_c0f5 f6 rfl rfl rfl rfl Z0r ?_; refine Z9a h_c0f6 f7 rfl rfl rfl rfl rfl Z15 Z1a ?_; refine Z8x h_c0f6 f7 rfl rfl rfl rfl Z26 ?_; refine TQ.tail [14, 15] rfl rfl ?_; refine Z17 g4 rfl rfl rfl rfl rfl ?_; refine Z06 rfl rfl rfl rfl ?_; refine Z04 ?_; refine Z01 ?_; refine Z0j (Z00 (t := 1) rfl (Z00 (t := 2) rfl (Z00 (t := 6) rfl (Z00 (t := 7) rfl (Z00 (t := 8) rfl (Z00 (t := 9) rfl Z08)))))) ?_; refine Z0a ?_; refine Z0a ?_; refine Z1i (fun (c4 : Bool) => Z4z c0 f1 a2 a3 c4 = some f3) (fun (c4 : Bool) => [(1, .slice f1_b f1_n f1_c), (2, .pointer (some ⟨b1, 0, none⟩)), (6, .slice (sb a7) n4 c5), (7, .int .i64 a3), (8, .int .i64 (c0.Arc.getD a3.toNat 0)), (9, .int .i64 ((c0.Cap.getD a3.toNat 0) + (c0.Cap.getD (c0.Rev.getD a3.toNat 0).toNat 0))), (53, .bool c4)]) (fun (c4 : Bool) => [(some b1, .cells #[.int .i64 c0.N, .int .i64 c0.S, .int .i64 c0.T, .slice c0f3_b c0f3_n c0f3_c, .slice c0f4_b c0f4_n c0f4_c, .slice c0f5_b c0f5_n c0f5_c, .slice c0f6_b c0f6_n c0f6_c, .slice c0f7_b c0f7_n c0f7_c, .slice c0f8_b c0f8_n c0f8_c] 64 (0, 0)), (a7, .cells (arr (intC .i64) a2 j7).toArray 2 (0, 0))]) ?_ ?_
    ·
     obtain ⟨c9, H⟩ := Z0d H; rcases Z0g H with ⟨d5, H⟩ | ⟨d5, H⟩
     · refine Z03 (ll := [0, 1, 2, 3, 4, 5, 6, 7, 8, 9, 10, 11, 12]) rfl ?_; refine Z05 rfl rfl rfl rfl ?_; refine Z05 rfl rfl rfl rfl ?_; refine Z28 a4 c9 rfl rfl rfl rfl rfl Z15 Z1a ?_; refine Z3a a4 c9 rfl rfl rfl rfl Z26 ?_; refine Z0q rfl rfl rfl rfl rfl rfl ?_; refine Z05 rfl rfl rfl rfl ?_; refine Z0v (t := 46) (b' := true) rfl (decide_eq_true d5) ?_; refine Z0c rfl rfl rfl rfl ?_; refine Z0c rfl rfl rfl rfl ?_; refine Z0c rfl rfl rfl rfl ?_; refine Z0c rfl rfl rfl rfl ?_; refine Z0c rfl rfl rfl rfl ?_; refine Z0c rfl rfl rfl rfl ?_; refine Z0y rfl rfl rfl rfl rfl ?_; refine Z04 ?_; exact Z1l true H (Z00 rfl (Z00 rfl (Z00 rfl (Z00 rfl (Z00 rfl (Z00 rfl (Z00 rfl Z08))))))) (Z02 tk0 (Z02 tk0 Z09))
     · obtain ⟨f8, H⟩ := Z0d H; refine Z03 (ll := [0, 1, 2, 3, 4, 5, 6, 7, 8, 9, 10, 11, 12]) rfl ?_; refine Z05 rfl rfl rfl rfl ?_; refine Z05 rfl rfl rfl rfl ?_; refine Z28 a4 c9 rfl rfl rfl rfl rfl Z15 Z1a ?_; refine Z3a a4 c9 rfl rfl rfl rfl Z26 ?_; refine Z0q rfl rfl rfl rfl rfl rfl ?_; refine Z05 rfl rfl rfl rfl ?_; refine Z0v (t := 46) (b' := false) rfl (decide_eq_false d5) ?_; refine Z05 rfl rfl rfl rfl ?_; refine Z05 rfl rfl rfl rfl ?_; refine Z28 a4 f8 rfl rfl rfl rfl rfl Z15 Z1a ?_; refine Z3a a4 f8 rfl rfl rfl rfl Z26 ?_; refine Z05 rfl rfl rfl rfl ?_; refine Z0q rfl rfl rfl rfl rfl rfl ?_; refine Z0z rfl rfl rfl rfl rfl ?_; refine Z04 ?_; exact Z1l (decide (((c0.Cap.getD a3.toNat 0) + (c0.Cap.getD (c0.Rev.getD a3.toNat 0).toNat 0)) < (f1.getD (c0.Arc.getD a3.toNat 0).toNat 0))) H (Z00 rfl (Z00 rfl (Z00 rfl (Z00 rfl (Z00 rfl (Z00 rfl (Z00 rfl Z08))))))) (Z02 tk0 (Z02 tk0 Z09))
    ·
     rintro c4 H; unfold Z4z at H; rcases Z0g H with ⟨d6, H⟩ | ⟨d6, H⟩
     · refine Z1e rfl d6 ?_; refine Z0a ?_; refine Z03 (ll := [0, 1]) rfl ?_; refine Z06 rfl rfl rfl rfl ?_; refine Z06 rfl rfl rfl rfl ?_; refine Z04 ?_; refine Z01 ?_; refine T.ret ?_; refine Z0f ?_; refine Z0n ?_; refine Z0f ?_; have H := Z0t H c3 ▸ d0; refine Z0f ?_; refine Z0n ?_; refine Z0f ?_; obtain ⟨rfl, rfl⟩ := ret2 H; exact Z5m rfl rfl rfl rfl (Res.tmp rfl) (Res.tmp rfl) (Pick.none Z09) ⟨none, 0, 0, ([]), rfl, rfl, rfl, (Nat.le_refl _), (Z2u 0 _), (fun _ => rfl)⟩
     ·
      refine Z1s rfl (Bool.eq_false_iff.2 d6) ?_; refine T.skip ?_; refine Z01 ?_; refine Z0a ?_; obtain ⟨f9, H⟩ := Z0d H; refine Z03 (ll := [0, 1, 2, 3, 4]) rfl ?_; refine Z07 rfl rfl rfl rfl Z4o ?_; refine Z0e rfl rfl rfl rfl Z89 mm0 rfl ?_; refine Z05 rfl rfl rfl rfl ?_; refine Z28 h_c0f8 f9 rfl rfl rfl rfl rfl Z32 Z2l ?_; refine Zdy h_c0f8 f9 rfl rfl rfl rfl Zd8 ?_; refine Z04 ?_; refine Z01 ?_; rcases Z0g H with ⟨d7, H⟩ | ⟨d7, H⟩
      · refine Z1e rfl d7 ?_; obtain ⟨g0, H⟩ := Z0d H; obtain ⟨g5, H⟩ := Z0d H; refine Z03 (ll := [0, 1, 2, 3, 4, 5, 6, 7]) rfl ?_; refine Z05 rfl rfl rfl rfl ?_; refine Z05 rfl rfl rfl rfl ?_; refine Z05 rfl rfl rfl rfl ?_; refine Z28 a4 g0 rfl rfl rfl rfl rfl Z15 Z1a ?_; refine Z3a a4 g0 rfl rfl rfl rfl Z26 ?_; refine Z0o [.int .i64 0] [0] rfl rfl rfl rfl Z15 Z1a Z59 rfl rfl (by simp only [Z1o, setCells, Value.cells, List.toList_toArray, List.getD_cons_zero, List.getD_cons_succ, List.set_cons_zero, List.set_cons_succ]; rfl) (by kernel_rfl) ?_; intro h3; refine Z9p (f := (intC .i64)) (s := 1) (xs := a2) (ob := a7) (j := j7) (ys := [(f1.getD (c0.Arc.getD a3.toNat 0).toNat 0)]) (fun _ => rfl) (fun _ => rfl) Z88 g5 rfl rfl rfl rfl rfl tk2 b9 d1 b5 b6 (fun wc hwc => (hwc.rs (f := (intC .i64)) (s := 1) (xs := [(f1.getD (c0.Arc.getD a3.toNat 0).toNat 0)]) (j := ([])) (fun _ => rfl) mm0 rfl (Nat.le_refl _) Z1j)) ?_; intro d8 c33 g6 d9 e0 e1; refine Z06 rfl rfl rfl rfl ?_; refine Z04 ?_; refine Z0h ?_; refine Z01 ?_; refine Z0j (Z00 (t := 1) rfl (Z00 (t := 2) rfl (Z00 (t := 6) rfl (Z00 (t := 7) rfl Z08)))) ?_; obtain ⟨g7, H⟩ := Z0d H; refine Z03 (ll := [0, 1, 2]) rfl ?_; refine Z05 rfl rfl rfl rfl ?_; refine Z17 g7 rfl rfl rfl rfl rfl ?_; refine Z06 rfl rfl rfl rfl ?_; refine Z04 ?_; have H := Z10 H c3; exact Zab f2 (a2 ++ ([(f1.getD (c0.Arc.getD a3.toNat 0).toNat 0)])) (n4 + 1) c33 d8 g6 (a3 + 1) ⟨H, (Z9q b9 rfl), d9, e0, e1⟩ (Nat.lt_succ_self _) (Z00 rfl (Z00 rfl (Z00 rfl (Z00 rfl Z08)))) (Z02 tk2 (Z02 tk0 Z09))
      · refine Z1s rfl (Bool.eq_false_iff.2 d7) ?_; obtain ⟨g1, H⟩ := Z0d H; obtain ⟨g8, H⟩ := Z0d H; obtain ⟨g9, H⟩ := Z0d H; refine Z03 (ll := [0, 1, 2, 3, 4, 5, 6, 7, 8, 9]) rfl ?_; refine Z05 rfl rfl rfl rfl ?_; refine Z05 rfl rfl rfl rfl ?_; refine Z05 rfl rfl rfl rfl ?_; refine Z05 rfl rfl rfl rfl ?_; refine Z28 a4 g1 rfl rfl rfl rfl rfl Z15 Z1a ?_; refine Z3a a4 g1 rfl rfl rfl rfl Z26 ?_; refine Zbg g8 rfl rfl rfl rfl rfl ?_; refine Z0o [.int .i64 0] [0] rfl rfl rfl rfl Z15 Z1a Z59 rfl rfl (by simp only [Z1o, setCells, Value.cells, List.toList_toArray, List.getD_cons_zero, List.getD_cons_succ, List.set_cons_zero, List.set_cons_succ]; rfl) (by kernel_rfl) ?_; intro h4; refine Z9p (f := (intC .i64)) (s := 1) (xs := a2) (ob := a7) (j := j7) (ys := [(((c0.Cap.getD a3.toNat 0) + (c0.Cap.getD (c0.Rev.getD a3.toNat 0).toNat 0)) - (f1.getD (c0.Arc.getD a3.toNat 0).toNat 0))]) (fun _ => rfl) (fun _ => rfl) Z88 g9 rfl rfl rfl rfl rfl tk2 b9 d1 b5 b6 (fun wc hwc => (hwc.rs (f := (intC .i64)) (s := 1) (xs := [(((c0.Cap.getD a3.toNat 0) + (c0.Cap.getD (c0.Rev.getD a3.toNat 0).toNat 0)) - (f1.getD (c0.Arc.getD a3.toNat 0).toNat 0))]) (j := ([])) (fun _ => rfl) mm0 rfl (Nat.le_refl _) Z1j)) ?_; intro e2 h0 h1 e3 e4 e5; refine Z06 rfl rfl rfl rfl ?_; refine Z04 ?_; refine Z0h ?_; refine Z01 ?_; refine Z0j (Z00 (t := 1) rfl (Z00 (t := 2) rfl (Z00 (t := 6) rfl (Z00 (t := 7) rfl Z08)))) ?_; obtain ⟨h2, H⟩ := Z0d H; refine Z03 (ll := [0, 1, 2]) rfl ?_; refine Z05 rfl rfl rfl rfl ?_; refine Z17 h2 rfl rfl rfl rfl rfl ?_; refine Z06 rfl rfl rfl rfl ?_; refine Z04 ?_; have H := Z10 H c3; exact Zab f2 (a2 ++ ([(((c0.Cap.getD a3.toNat 0) + (c0.Cap.getD (c0.Rev.getD a3.toNat 0).toNat 0)) - (f1.getD (c0.Arc.getD a3.toNat 0).toNat 0))])) (n4 + 1) h0 e2 h1 (a3 + 1) ⟨H, (Z9q b9 rfl), e3, e4, e5⟩ (Nat.lt_succ_self _) (Z00 rfl (Z00 rfl (Z00 rfl (Z00 rfl Z08)))) (Z02 tk2 (Z02 tk0 Z09))
  · refine Z14 rfl d3 ?_; refine T.exit ?_; refine Z0i ?_; have H := Z0t H c3 ▸ d0; refine Z0i ?_; refine Z0u ?_; exact Zdq a2 n4 c5 a7 j7 ⟨H, b9, d1, b5, b6⟩ (Z00 rfl Z08) (Z02 tk1 Z09)
 · rintro a5 a8 a9 a6 b7 ⟨H, e6, e7, e8, e9⟩; unfold Z6e at H; refine Z0a ?_; refine Z03 (ll := [0, 1, 2]) rfl ?_; refine Z05 rfl rfl rfl rfl ?_; refine Z06 rfl rfl rfl rfl ?_; refine Z06 rfl rfl rfl rfl ?_; refine Z04 ?_; refine Z01 ?_; refine T.ret ?_; obtain ⟨rfl, rfl⟩ := ret2 H; exact Z5m rfl rfl rfl rfl (Res.tmp rfl) (Res.tmp rfl) (Z02 tk0 Z09) ⟨a6, a8, a9, b7, rfl, rfl, e6, e7, e8, e9⟩
theorem Zep {n0 : Net} {l1 : List Int} {n0f3_b : Option Addr} {n0f3_n : Nat} {n0f3_c : Nat} {l1_b : Option Addr} {l1_n : Nat} {l1_c : Nat} (w : World) (h_n0f3 : RS w [] Z4t 3 n0f3_b n0f3_n n0f3_c n0.Arcs) (l6 : RS w [] (intC .i64) 1 l1_b l1_n l1_c l1) {r0 : Csr} {r1 : List Int} (H : Z73 n0 l1 = some (r0, r1)) : Fnc Try.prog 33 #[.agg #[.int .i64 n0.N, .int .i64 n0.S, .int .i64 n0.T, .slice n0f3_b n0f3_n n0f3_c], .slice l1_b l1_n l1_c] w [] (fun v N => ∃ (g6 : Option Nat) (k7 : Nat) (k8 : Nat) (m5 : List Value) (g7 : Option Nat) (k9 : Nat) (l0 : Nat) (m6 : List Value) (g8 : Option Nat) (l3 : Nat) (l4 : Nat) (m7 : List Value) (c9 : Option Nat) (d5 : Nat) (d6 : Nat) (h4 : List Value) (d0 : Option Nat) (d7 : Nat) (d8 : Nat) (h5 : List Value) (d1 : Option Nat) (d9 : Nat) (e0 : Nat) (h6 : List Value) (d3 : Option Nat) (e1 : Nat) (e2 : Nat) (h7 : List Value), v = .tuple #[.agg #[.int .i64 r0.N, .int .i64 r0.S, .int .i64 r0.T, .slice (sb g6) k7 k8, .slice (sb g7) k9 l0, .slice (sb g8) l3 l4, .slice (sb c9) d5 d6, .slice (sb d0) d7 d8, .slice (sb d1) d9 e0], .slice (sb d3) e1 e2] ∧ N = [(g6, .cells (arr (intC .i64) r0.First m5).toArray 3 (0, 0)), (g7, .cells (arr (intC .i64) r0.Head m6).toArray 3 (0, 0)), (g8, .cells (arr (intC .i64) r0.Rev m7).toArray 3 (0, 0)), (c9, .cells (arr (intC .i64) r0.Cap h4).toArray 2 (0, 0)), (d0, .cells (arr (intC .i64) r0.Arc h5).toArray 3 (0, 0)), (d1, .cells (arr boolC r0.Back h6).toArray 4 (0, 0)), (d3, .cells (arr (intC .i64) r1 h7).toArray 2 (0, 0))] ∧ r0.First.length = k7 ∧ k7 ≤ k8 ∧ m5.length = (k8 - k7) * 1 ∧ (g6 = none → k8 = 0) ∧ r0.Head.length = k9 ∧ k9 ≤ l0 ∧ m6.length = (l0 - k9) * 1 ∧ (g7 = none → l0 = 0) ∧ r0.Rev.length = l3 ∧ l3 ≤ l4 ∧ m7.length = (l4 - l3) * 1 ∧ (g8 = none → l4 = 0) ∧ r0.Cap.length = d5 ∧ d5 ≤ d6 ∧ h4.length = (d6 - d5) * 1 ∧ (c9 = none → d6 = 0) ∧ r0.Arc.length = d7 ∧ d7 ≤ d8 ∧ h5.length = (d8 - d7) * 1 ∧ (d0 = none → d8 = 0) ∧ r0.Back.length = d9 ∧ d9 ≤ e0 ∧ h6.length = (e0 - d9) * 1 ∧ (d1 = none → e0 = 0) ∧ r1.length = e1 ∧ e1 ≤ e2 ∧ h7.length = (e2 - e1) * 1 ∧ (d3 = none → e2 = 0)) := by
 unfold Z73 at H; refine Fnc.enter (vs := [.agg #[.int .i64 n0.N, .int .i64 n0.S, .int .i64 n0.T, .slice n0f3_b n0f3_n n0f3_c], .slice l1_b l1_n l1_c]) Try.func33 rfl rfl (Inv.refl w) ?_; refine Z0a ?_; refine Z03 (ll := [0, 1, 2]) rfl ?_; refine Z1w rfl rfl rfl rfl ?_; intro b1; refine Z1k rfl rfl rfl Z6t ?_; intro b3; refine Z06 rfl rfl rfl rfl ?_; refine Z04 ?_; refine Z01 ?_; refine Z0a ?_; obtain ⟨⟨r5, r6⟩, e7, H⟩ := Z0m H; refine Z03 (ll := [0, 1, 2, 3, 4, 5, 6, 7]) rfl ?_; refine Z0s rfl rfl rfl rfl Z1d mm1 rfl ?_; refine Z0p Zg7 rfl rfl rfl rfl (fun wc hwc => Zen (n0 := n0) wc (h_n0f3.mono hwc) e7) ?_; rintro _ _ ⟨b6, n9, f5, e3, a3, f6, f7, e4, a4, f8, c18, e5, a5, f9, g0, e6, a6, g1, g2, e8, a7, n29, c30, e9, rfl, rfl, h8, h9, l7, i1, i2, i4, l8, i5, i6, i7, l9, i8, i9, j0, m0, j1, j2, j3, m1, j4, j5, j6, m2, j7⟩; refine Z05 rfl rfl rfl rfl ?_; refine TO.extract rfl rfl rfl rfl rfl ?_; refine TO.extract rfl rfl rfl rfl rfl ?_; refine Z1k rfl rfl rfl Z6t ?_; intro g9; refine Z1g rfl rfl rfl rfl tk0 Z5o rfl rfl rfl ?_; refine Z06 rfl rfl rfl rfl ?_; refine Z04 ?_; refine Z01 ?_; refine Z0j (Z00 (t := 1) rfl (Z00 (t := 2) rfl (Z00 (t := 4) rfl (Z00 (t := 6) rfl Z08)))) ?_; refine Z0a ?_; obtain ⟨h3, n8, H⟩ := Z0m H; obtain ⟨⟨h0, j8⟩, o0, H⟩ := Z0m H; apply Zd5 [⟨[], false, [], Z6p _⟩, ⟨[], false, [], Z6p _⟩, ⟨[], false, [], Z6p _⟩, ⟨[1, 2], false, [], fun _ v e => ∃ (a8 : Option Nat) (g3 : Nat) (g4 : Nat) (f0 : List Value), v = .slice (sb a8) g3 g4 ∧ e = [(a8, .cells (arr (intC .i64) h3 f0).toArray 2 (0, 0))] ∧ h3.length = g3 ∧ g3 ≤ g4 ∧ f0.length = (g4 - g3) * 1 ∧ (a8 = none → g4 = 0)⟩, ⟨[0, 3], false, [], fun _ v e => ∃ (a2 : Option Nat) (a9 : Nat) (b0 : Nat) (b7 : List Value), v = .tuple #[.slice (sb a2) a9 b0, .int .i64 j8] ∧ e = [(a2, .cells (arr (intC .i64) h0 b7).toArray 2 (0, 0))] ∧ h0.length = a9 ∧ a9 ≤ b0 ∧ b7.length = (b0 - a9) * 1 ∧ (a2 = none → b0 = 0)⟩, ⟨[4], false, [], fun vl v e => v = (vl.getD 0 undef) ∧ e = []⟩, ⟨[4, 5], false, [], fun vl v e => v = (Zku (vl.getD 1 undef) 0) ∧ e = []⟩, ⟨[4, 5], false, [], Z6p _⟩, ⟨[4, 5, 6], false, [], fun vl v e => v = (vl.getD 2 undef) ∧ e = []⟩] [16, 17, 18, 19, 20, 15, 21, 22, 8] 9 (HRk [[]]) [[]] [] [(some g9, .cells #[.int .i64 r5.N, .int .i64 r5.S, .int .i64 r5.T, .slice (sb b6) n9 f5, .slice (sb a3) f6 f7, .slice (sb a4) f8 c18, .slice (sb a5) f9 g0, .slice (sb a6) g1 g2, .slice (sb a7) n29 c30] 64 (0, 0)), (b6, .cells (arr (intC .i64) r5.First e3).toArray 3 (0, 0)), (a3, .cells (arr (intC .i64) r5.Head e4).toArray 3 (0, 0)), (a4, .cells (arr (intC .i64) r5.Rev e5).toArray 3 (0, 0)), (a5, .cells (arr (intC .i64) r5.Cap e6).toArray 2 (0, 0)), (a6, .cells (arr (intC .i64) r5.Arc e8).toArray 3 (0, 0)), (a7, .cells (arr boolC r5.Back e9).toArray 4 (0, 0)), (some b3, .cells #[.int .i64 0, .int .i64 0, .int .i64 0, .slice none 0 0, .slice none 0 0, .slice none 0 0, .slice none 0 0, .slice none 0 0, .slice none 0 0] 64 (0, 0)), (some b1, .cells #[.int .i64 n0.N, .int .i64 n0.S, .int .i64 n0.T, .slice n0f3_b n0f3_n n0f3_c] 24 (0, 0))]
 · exact Z69
 · exact rfl
 · kernel_rfl
 · kernel_rfl
 · kernel_rfl
 · exact rfl
 · exact rfl
 · exact rfl
 · exact rfl
 · exact (by repeat (first | exact Z0b _ | exact Z09 | apply Pick.none | refine Z02 (by repeat (first | exact Take.head _ _ | apply Take.tail)) ?_))
 ·
  refine ⟨?_, ?_, ?_, ?_, ?_, ?_, ?_, ?_, ?_, trivial⟩
  · rintro vs es Es Hx -; refine Z0k (D := []) rfl ?_; refine Z0s rfl rfl rfl rfl Z4r mm0 rfl ?_; refine Z04 ?_; exact Z1v rfl ⟨rfl, rfl⟩ (Z0b _) rfl
  · rintro vs es Es Hx -; refine Z0k (D := []) rfl ?_; refine Z0s rfl rfl rfl rfl Z1d mm8 rfl ?_; refine Z04 ?_; exact Z1v rfl ⟨rfl, rfl⟩ (Z0b _) rfl
  · rintro vs es Es Hx -; refine Z0k (D := []) rfl ?_; refine Z05 rfl rfl rfl rfl ?_; refine Z04 ?_; exact Z1v rfl ⟨rfl, rfl⟩ (Z0b _) rfl
  · rintro vs es Es Hx ⟨⟨j9, m3⟩, ⟨k1, m4⟩, -⟩; refine Z0k (D := [(17, vs 1), (18, vs 2)]) rfl ?_; rw [j9, k1]; refine Z0p Zgd rfl rfl rfl rfl (fun wc hwc => Zeo (n0 := n0) (l1 := l1) wc (h_n0f3.mono hwc) (l6.mono hwc) n8) ?_; rintro _ _ ⟨a8, g3, g4, f0, rfl, rfl, f2, f3, h1, f4⟩; refine Z04 ?_; exact Z1v rfl ⟨a8, g3, g4, f0, rfl, rfl, f2, f3, h1, f4⟩ (by repeat (first | exact Z0b _ | exact Z09 | apply Pick.none | refine Z02 (by repeat (first | exact Take.head _ _ | apply Take.tail)) ?_)) (by show [(17, vs 1), (18, vs 2)] = _; rw [j9, k1])
  · rintro vs es Es Hx ⟨⟨k2, k3⟩, ⟨a8, g3, g4, f0, k4, k5, f2, f3, h1, f4⟩, -⟩; refine Z0k (D := [(16, vs 0), (19, vs 3)]) rfl ?_; rw [k2, k4]; refine Z2d (H := [(some g9, .cells #[.int .i64 r5.N, .int .i64 r5.S, .int .i64 r5.T, .slice (sb b6) n9 f5, .slice (sb a3) f6 f7, .slice (sb a4) f8 c18, .slice (sb a5) f9 g0, .slice (sb a6) g1 g2, .slice (sb a7) n29 c30] 64 (0, 0)), (b6, .cells (arr (intC .i64) r5.First e3).toArray 3 (0, 0)), (a3, .cells (arr (intC .i64) r5.Head e4).toArray 3 (0, 0)), (a4, .cells (arr (intC .i64) r5.Rev e5).toArray 3 (0, 0)), (a5, .cells (arr (intC .i64) r5.Cap e6).toArray 2 (0, 0)), (a6, .cells (arr (intC .i64) r5.Arc e8).toArray 3 (0, 0)), (a7, .cells (arr boolC r5.Back e9).toArray 4 (0, 0)), (some b3, .cells #[.int .i64 0, .int .i64 0, .int .i64 0, .slice none 0 0, .slice none 0 0, .slice none 0 0, .slice none 0 0, .slice none 0 0, .slice none 0 0] 64 (0, 0)), (some b1, .cells #[.int .i64 n0.N, .int .i64 n0.S, .int .i64 n0.T, .slice n0f3_b n0f3_n n0f3_c] 24 (0, 0))] ++ ([(a8, .cells (arr (intC .i64) h3 f0).toArray 2 (0, 0))] ++ Hx)) (by show _ ++ ((es 0 ++ (es 3 ++ ([]))) ++ _) = _; rw [k3, k5]; rfl) ?_; refine Z0p Zg6 rfl rfl rfl rfl (fun wc hwc => Zfc (c0 := r5) (f1 := h3) wc (hwc.rs (f := (intC .i64)) (s := 1) (xs := r5.First) (j := e3) (fun _ => rfl) mm1 h8 h9 i1) (hwc.rs (f := (intC .i64)) (s := 1) (xs := r5.Head) (j := e4) (fun _ => rfl) mm2 i2 i4 i5) (hwc.rs (f := (intC .i64)) (s := 1) (xs := r5.Rev) (j := e5) (fun _ => rfl) mm3 i6 i7 i8) (hwc.rs (f := (intC .i64)) (s := 1) (xs := r5.Cap) (j := e6) (fun _ => rfl) mm4 i9 j0 j1) (hwc.rs (f := (intC .i64)) (s := 1) (xs := r5.Arc) (j := e8) (fun _ => rfl) mm5 j2 j3 j4) (hwc.rs (f := boolC) (s := 1) (xs := r5.Back) (j := e9) (fun _ => rfl) mm6 j5 j6 j7) (hwc.rs (f := (intC .i64)) (s := 1) (xs := h3) (j := f0) (fun _ => rfl) mm9 f2 f3 f4) o0) ?_; rintro _ _ ⟨a2, a9, b0, b7, rfl, rfl, b8, b9, c3, c4⟩; refine Z04 ?_; exact Z1v rfl ⟨a2, a9, b0, b7, rfl, rfl, b8, b9, c3, c4⟩ (by show Pick (_ ++ (_ ++ ((es 0 ++ (es 3 ++ ([]))) ++ _))) _; rw [k3, k5]; exact (by repeat (first | exact Z0b _ | exact Z09 | apply Pick.none | refine Z02 (by repeat (first | exact Take.head _ _ | apply Take.tail)) ?_))) (by show [(16, vs 0), (19, vs 3)] = _; rw [k2, k4])
  · rintro vs es Es Hx ⟨⟨a2, a9, b0, b7, b5, c7, b8, b9, c3, c4⟩, -⟩; refine Z0k (D := [(20, vs 4)]) rfl ?_; rw [b5]; refine Z2d (H := [(some g9, .cells #[.int .i64 r5.N, .int .i64 r5.S, .int .i64 r5.T, .slice (sb b6) n9 f5, .slice (sb a3) f6 f7, .slice (sb a4) f8 c18, .slice (sb a5) f9 g0, .slice (sb a6) g1 g2, .slice (sb a7) n29 c30] 64 (0, 0)), (b6, .cells (arr (intC .i64) r5.First e3).toArray 3 (0, 0)), (a3, .cells (arr (intC .i64) r5.Head e4).toArray 3 (0, 0)), (a4, .cells (arr (intC .i64) r5.Rev e5).toArray 3 (0, 0)), (a5, .cells (arr (intC .i64) r5.Cap e6).toArray 2 (0, 0)), (a6, .cells (arr (intC .i64) r5.Arc e8).toArray 3 (0, 0)), (a7, .cells (arr boolC r5.Back e9).toArray 4 (0, 0)), (some b3, .cells #[.int .i64 0, .int .i64 0, .int .i64 0, .slice none 0 0, .slice none 0 0, .slice none 0 0, .slice none 0 0, .slice none 0 0, .slice none 0 0] 64 (0, 0)), (some b1, .cells #[.int .i64 n0.N, .int .i64 n0.S, .int .i64 n0.T, .slice n0f3_b n0f3_n n0f3_c] 24 (0, 0))] ++ ([(a2, .cells (arr (intC .i64) h0 b7).toArray 2 (0, 0))] ++ Hx)) (by show _ ++ ((es 4 ++ ([])) ++ _) = _; rw [c7]; rfl) ?_; refine Z05 rfl rfl rfl rfl ?_; refine Z04 ?_; exact Z1v rfl ⟨by show _ = vs 4; rw [b5] <;> rfl, rfl⟩ (by show Pick (_ ++ (_ ++ ((es 4 ++ ([])) ++ _))) _; rw [c7]; exact (by repeat (first | exact Z0b _ | exact Z09 | apply Pick.none | refine Z02 (by repeat (first | exact Take.head _ _ | apply Take.tail)) ?_))) (by show [(20, vs 4)] = _; rw [b5])
  ·
   rintro vs es Es Hx ⟨⟨a2, a9, b0, b7, b5, c7, b8, b9, c3, c4⟩, ⟨g5, d4⟩, -⟩; have c8 : vs 5 = .tuple #[.slice (sb a2) a9 b0, .int .i64 j8] := by refine Eq.trans g5 ?_; show vs 4 = _; rw [b5] <;> rfl
   refine Z0k (D := [(20, vs 4), (15, vs 5)]) rfl ?_; rw [b5, c8]; refine Z2d (H := [(some g9, .cells #[.int .i64 r5.N, .int .i64 r5.S, .int .i64 r5.T, .slice (sb b6) n9 f5, .slice (sb a3) f6 f7, .slice (sb a4) f8 c18, .slice (sb a5) f9 g0, .slice (sb a6) g1 g2, .slice (sb a7) n29 c30] 64 (0, 0)), (b6, .cells (arr (intC .i64) r5.First e3).toArray 3 (0, 0)), (a3, .cells (arr (intC .i64) r5.Head e4).toArray 3 (0, 0)), (a4, .cells (arr (intC .i64) r5.Rev e5).toArray 3 (0, 0)), (a5, .cells (arr (intC .i64) r5.Cap e6).toArray 2 (0, 0)), (a6, .cells (arr (intC .i64) r5.Arc e8).toArray 3 (0, 0)), (a7, .cells (arr boolC r5.Back e9).toArray 4 (0, 0)), (some b3, .cells #[.int .i64 0, .int .i64 0, .int .i64 0, .slice none 0 0, .slice none 0 0, .slice none 0 0, .slice none 0 0, .slice none 0 0, .slice none 0 0] 64 (0, 0)), (some b1, .cells #[.int .i64 n0.N, .int .i64 n0.S, .int .i64 n0.T, .slice n0f3_b n0f3_n n0f3_c] 24 (0, 0))] ++ ([(a2, .cells (arr (intC .i64) h0 b7).toArray 2 (0, 0))] ++ Hx)) (by show _ ++ ((es 4 ++ (es 5 ++ ([]))) ++ _) = _; rw [c7, d4]; rfl) ?_; refine TO.extract rfl rfl rfl rfl rfl ?_; refine Z04 ?_; exact Z1v rfl ⟨by show _ = (Zku (vs 5) 0); rw [c8] <;> rfl, rfl⟩ (by show Pick (_ ++ (_ ++ ((es 4 ++ (es 5 ++ ([]))) ++ _))) _; rw [c7, d4]; exact (by repeat (first | exact Z0b _ | exact Z09 | apply Pick.none | refine Z02 (by repeat (first | exact Take.head _ _ | apply Take.tail)) ?_))) (by show [(20, vs 4), (15, vs 5)] = _; rw [b5, c8])
  ·
   rintro vs es Es Hx ⟨⟨a2, a9, b0, b7, b5, c7, b8, b9, c3, c4⟩, ⟨g5, d4⟩, -⟩; have c8 : vs 5 = .tuple #[.slice (sb a2) a9 b0, .int .i64 j8] := by refine Eq.trans g5 ?_; show vs 4 = _; rw [b5] <;> rfl
   refine Z0k (D := [(20, vs 4), (15, vs 5)]) rfl ?_; rw [b5, c8]; refine Z2d (H := [(some g9, .cells #[.int .i64 r5.N, .int .i64 r5.S, .int .i64 r5.T, .slice (sb b6) n9 f5, .slice (sb a3) f6 f7, .slice (sb a4) f8 c18, .slice (sb a5) f9 g0, .slice (sb a6) g1 g2, .slice (sb a7) n29 c30] 64 (0, 0)), (b6, .cells (arr (intC .i64) r5.First e3).toArray 3 (0, 0)), (a3, .cells (arr (intC .i64) r5.Head e4).toArray 3 (0, 0)), (a4, .cells (arr (intC .i64) r5.Rev e5).toArray 3 (0, 0)), (a5, .cells (arr (intC .i64) r5.Cap e6).toArray 2 (0, 0)), (a6, .cells (arr (intC .i64) r5.Arc e8).toArray 3 (0, 0)), (a7, .cells (arr boolC r5.Back e9).toArray 4 (0, 0)), (some b3, .cells #[.int .i64 0, .int .i64 0, .int .i64 0, .slice none 0 0, .slice none 0 0, .slice none 0 0, .slice none 0 0, .slice none 0 0, .slice none 0 0] 64 (0, 0)), (some b1, .cells #[.int .i64 n0.N, .int .i64 n0.S, .int .i64 n0.T, .slice n0f3_b n0f3_n n0f3_c] 24 (0, 0))] ++ ([(a2, .cells (arr (intC .i64) h0 b7).toArray 2 (0, 0))] ++ Hx)) (by show _ ++ ((es 4 ++ (es 5 ++ ([]))) ++ _) = _; rw [c7, d4]; rfl) ?_; refine TO.extract rfl rfl rfl rfl rfl ?_; refine Z04 ?_; exact Z1v rfl ⟨rfl, rfl⟩ (by show Pick (_ ++ (_ ++ ((es 4 ++ (es 5 ++ ([]))) ++ _))) _; rw [c7, d4]; exact (by repeat (first | exact Z0b _ | exact Z09 | apply Pick.none | refine Z02 (by repeat (first | exact Take.head _ _ | apply Take.tail)) ?_))) (by show [(20, vs 4), (15, vs 5)] = _; rw [b5, c8])
  ·
   rintro vs es Es Hx ⟨⟨a2, a9, b0, b7, b5, c7, b8, b9, c3, c4⟩, ⟨g5, d4⟩, ⟨l5, k6⟩, -⟩; have c8 : vs 5 = .tuple #[.slice (sb a2) a9 b0, .int .i64 j8] := by refine Eq.trans g5 ?_; show vs 4 = _; rw [b5] <;> rfl
   have h2 : vs 6 = .slice (sb a2) a9 b0 := by refine Eq.trans l5 ?_; show (Zku (vs 5) 0) = _; rw [c8] <;> rfl
   refine Z0k (D := [(20, vs 4), (15, vs 5), (21, vs 6)]) rfl ?_; rw [b5, c8, h2]; refine Z2d (H := [(some g9, .cells #[.int .i64 r5.N, .int .i64 r5.S, .int .i64 r5.T, .slice (sb b6) n9 f5, .slice (sb a3) f6 f7, .slice (sb a4) f8 c18, .slice (sb a5) f9 g0, .slice (sb a6) g1 g2, .slice (sb a7) n29 c30] 64 (0, 0)), (b6, .cells (arr (intC .i64) r5.First e3).toArray 3 (0, 0)), (a3, .cells (arr (intC .i64) r5.Head e4).toArray 3 (0, 0)), (a4, .cells (arr (intC .i64) r5.Rev e5).toArray 3 (0, 0)), (a5, .cells (arr (intC .i64) r5.Cap e6).toArray 2 (0, 0)), (a6, .cells (arr (intC .i64) r5.Arc e8).toArray 3 (0, 0)), (a7, .cells (arr boolC r5.Back e9).toArray 4 (0, 0)), (some b3, .cells #[.int .i64 0, .int .i64 0, .int .i64 0, .slice none 0 0, .slice none 0 0, .slice none 0 0, .slice none 0 0, .slice none 0 0, .slice none 0 0] 64 (0, 0)), (some b1, .cells #[.int .i64 n0.N, .int .i64 n0.S, .int .i64 n0.T, .slice n0f3_b n0f3_n n0f3_c] 24 (0, 0))] ++ ([(a2, .cells (arr (intC .i64) h0 b7).toArray 2 (0, 0))] ++ Hx)) (by show _ ++ ((es 4 ++ (es 5 ++ (es 6 ++ ([])))) ++ _) = _; rw [c7, d4, k6]; rfl) ?_; refine Z06 rfl rfl rfl rfl ?_; refine Z04 ?_; exact Z1v rfl ⟨by show _ = vs 6; rw [h2] <;> rfl, rfl⟩ (by show Pick (_ ++ (_ ++ ((es 4 ++ (es 5 ++ (es 6 ++ ([])))) ++ _))) _; rw [c7, d4, k6]; exact (by repeat (first | exact Z0b _ | exact Z09 | apply Pick.none | refine Z02 (by repeat (first | exact Take.head _ _ | apply Take.tail)) ?_))) (by show [(20, vs 4), (15, vs 5), (21, vs 6)] = _; rw [b5, c8, h2])
 ·
  rintro vs es hb ⟨⟨k2, k3⟩, ⟨j9, m3⟩, ⟨k1, m4⟩, ⟨a8, g3, g4, f0, k4, k5, f2, f3, h1, f4⟩, ⟨a2, a9, b0, b7, b5, c7, b8, b9, c3, c4⟩, ⟨g5, d4⟩, ⟨l5, k6⟩, ⟨m8, m9⟩, ⟨n5, n6⟩, -⟩ hHR; obtain rfl : hb = [] := hHR; have c8 : vs 5 = .tuple #[.slice (sb a2) a9 b0, .int .i64 j8] := by refine Eq.trans g5 ?_; show vs 4 = _; rw [b5] <;> rfl
  have h2 : vs 6 = .slice (sb a2) a9 b0 := by refine Eq.trans l5 ?_; show (Zku (vs 5) 0) = _; rw [c8] <;> rfl
  have n7 : vs 8 = .slice (sb a2) a9 b0 := by refine Eq.trans n5 ?_; show vs 6 = _; rw [h2] <;> rfl
  refine Z0k (D := [(16, vs 0), (17, vs 1), (18, vs 2), (19, vs 3), (20, vs 4), (15, vs 5), (21, vs 6), (22, vs 7), (8, vs 8)]) rfl ?_; refine Z2d (H := [(some g9, .cells #[.int .i64 r5.N, .int .i64 r5.S, .int .i64 r5.T, .slice (sb b6) n9 f5, .slice (sb a3) f6 f7, .slice (sb a4) f8 c18, .slice (sb a5) f9 g0, .slice (sb a6) g1 g2, .slice (sb a7) n29 c30] 64 (0, 0)), (b6, .cells (arr (intC .i64) r5.First e3).toArray 3 (0, 0)), (a3, .cells (arr (intC .i64) r5.Head e4).toArray 3 (0, 0)), (a4, .cells (arr (intC .i64) r5.Rev e5).toArray 3 (0, 0)), (a5, .cells (arr (intC .i64) r5.Cap e6).toArray 2 (0, 0)), (a6, .cells (arr (intC .i64) r5.Arc e8).toArray 3 (0, 0)), (a7, .cells (arr boolC r5.Back e9).toArray 4 (0, 0)), (some b3, .cells #[.int .i64 0, .int .i64 0, .int .i64 0, .slice none 0 0, .slice none 0 0, .slice none 0 0, .slice none 0 0, .slice none 0 0, .slice none 0 0] 64 (0, 0)), (some b1, .cells #[.int .i64 n0.N, .int .i64 n0.S, .int .i64 n0.T, .slice n0f3_b n0f3_n n0f3_c] 24 (0, 0)), (a8, .cells (arr (intC .i64) h3 f0).toArray 2 (0, 0)), (a2, .cells (arr (intC .i64) h0 b7).toArray 2 (0, 0))]) (by show _ ++ (_ ++ (es 0 ++ (es 1 ++ (es 2 ++ (es 3 ++ (es 4 ++ (es 5 ++ (es 6 ++ (es 7 ++ (es 8 ++ ([]))))))))))) = _; rw [k3, m3, m4, k5, c7, d4, k6, m9, n6]; rfl) ?_; rw [k2, j9, k1, k4, b5, c8, h2, m8, n7]; clear n7 m8 h2 c8 b5 k4 k1 j9 k2 g5 l5 n5 k3 m3 m4 k5 c7 d4 k6 m9 n6; refine Z06 rfl rfl rfl rfl ?_; refine Z04 ?_; refine Z01 ?_; refine Z0j (Z00 (t := 4) rfl (Z00 (t := 6) rfl (Z00 (t := 8) rfl Z08))) ?_; refine Z0a ?_; refine Z03 (ll := [0, 1, 2, 3]) rfl ?_; refine Z0s rfl rfl rfl rfl Z4r mm0 rfl ?_; refine Z05 rfl rfl rfl rfl ?_; refine Z1g rfl rfl rfl rfl tk7 Z5o rfl rfl rfl ?_; refine Z06 rfl rfl rfl rfl ?_; refine Z04 ?_; refine Z01 ?_; refine T.ret ?_; obtain ⟨rfl, rfl⟩ := ret2 H; exact Z5m rfl rfl rfl rfl (Z8h rfl Z4r mm0 rfl) (Res.tmp rfl) (Z02 tk2 (Z02 tk2 (Z02 tk2 (Z02 tk2 (Z02 tk2 (Z02 tk2 (Z02 tk4 Z09))))))) ⟨b6, n9, f5, e3, a3, f6, f7, e4, a4, f8, c18, e5, a5, f9, g0, e6, a6, g1, g2, e8, a7, n29, c30, e9, a2, a9, b0, b7, rfl, rfl, h8, h9, l7, i1, i2, i4, l8, i5, i6, i7, l9, i8, i9, j0, m0, j1, j2, j3, m1, j4, j5, j6, m2, j7, b8, b9, c3, c4⟩
theorem w_acequialaw24_CheckBest {n0 : Net} {l1 : List Int} {s2 : List Bool} {ways3 : Int} {n0f3_b : Option Addr} {n0f3_n : Nat} {n0f3_c : Nat} {l1_b : Option Addr} {l1_n : Nat} {l1_c : Nat} {s2_b : Option Addr} {s2_n : Nat} {s2_c : Nat} (w : World) (h_n0f3 : RS w [] Z4t 3 n0f3_b n0f3_n n0f3_c n0.Arcs) (g7 : RS w [] (intC .i64) 1 l1_b l1_n l1_c l1) (p0 : RS w [] boolC 1 s2_b s2_n s2_c s2) {r0 : Bool} (H : Z56 n0 l1 s2 ways3 = some r0) : Fnc Try.prog 9 #[.agg #[.int .i64 n0.N, .int .i64 n0.S, .int .i64 n0.T, .slice n0f3_b n0f3_n n0f3_c], .slice l1_b l1_n l1_c, .slice s2_b s2_n s2_c, .int .u8 ways3] w [] (fun v N => v = .bool r0 ∧ N = []) := by
 unfold Z56 at H; refine Fnc.enter (vs := [.agg #[.int .i64 n0.N, .int .i64 n0.S, .int .i64 n0.T, .slice n0f3_b n0f3_n n0f3_c], .slice l1_b l1_n l1_c, .slice s2_b s2_n s2_c, .int .u8 ways3]) Try.func9 rfl rfl (Inv.refl w) ?_; refine Z0a ?_; refine Z03 (ll := [0, 1]) rfl ?_; refine Z1w rfl rfl rfl rfl ?_; intro b1; refine Z06 rfl rfl rfl rfl ?_; refine Z04 ?_; refine Z01 ?_; refine Z0a ?_; obtain ⟨r3, e4, H⟩ := Z0m H; refine Z03 (ll := [0, 1, 2]) rfl ?_; refine Z0s rfl rfl rfl rfl Z1d mm0 rfl ?_; refine Z0p Zgh rfl rfl rfl rfl (fun wc hwc => Zfs (n0 := n0) (verts1 := 12) (arcs2 := 24) wc (h_n0f3.mono hwc) e4) ?_; rintro _ _ ⟨a6, n6, c7, j8, rfl, rfl, h1, f0, v6, f2⟩; refine Z1g rfl rfl rfl rfl tk1 Zg4 rfl rfl rfl ?_; refine Z04 ?_; refine Z01 ?_; refine Z0a ?_; obtain ⟨v7, H⟩ := Z0d H; obtain ⟨⟨f3, j9⟩, v8, H⟩ := Z0m H; apply Zd5 [⟨[], false, [], Z6p _⟩, ⟨[], false, [], Z6p _⟩, ⟨[1], false, [], Z6p _⟩, ⟨[2], false, [], Z6p _⟩, ⟨[3], false, [], fun _ v e => ∃ (i2 : Nat), v = .slice (some ⟨i2, 0, none⟩) ((r3.Arcs.length : Int).toNat) ((r3.Arcs.length : Int).toNat) ∧ e = [(some i2, .cells (arr (intC .i64) (List.replicate ((r3.Arcs.length : Int).toNat) (0 : Int)) ([])).toArray 2 (0, 0))]⟩, ⟨[0, 4], false, [4], fun _ v e => ∃ (a3 : Option Nat) (c3 : Nat) (c4 : Nat) (c8 : List Value), v = .tuple #[.slice (sb a3) c3 c4, .bool j9] ∧ e = [(a3, .cells (arr (intC .i64) f3 c8).toArray 2 (0, 0))] ∧ f3.length = c3 ∧ c3 ≤ c4 ∧ c8.length = (c4 - c3) * 1 ∧ (a3 = none → c4 = 0)⟩, ⟨[5], false, [], fun vl v e => v = (vl.getD 0 undef) ∧ e = []⟩, ⟨[5, 6], false, [], fun vl v e => v = (Zku (vl.getD 1 undef) 0) ∧ e = []⟩, ⟨[5, 6], false, [], Z6p _⟩, ⟨[5, 6, 7], false, [], fun vl v e => v = (vl.getD 2 undef) ∧ e = []⟩] [32, 33, 34, 35, 36, 37, 31, 38, 39, 9] 10 (HRk [[]]) [[]] [] [(some b1, .cells #[.int .i64 r3.N, .int .i64 r3.S, .int .i64 r3.T, .slice (sb a6) n6 c7] 24 (0, 0)), (a6, .cells (arr Z4t r3.Arcs j8).toArray 35 (0, 0))]
 · exact Z69
 · exact rfl
 · kernel_rfl
 · kernel_rfl
 · kernel_rfl
 · exact rfl
 · exact rfl
 · exact rfl
 · exact rfl
 · exact (by repeat (first | exact Z0b _ | exact Z09 | apply Pick.none | refine Z02 (by repeat (first | exact Take.head _ _ | apply Take.tail)) ?_))
 ·
  refine ⟨?_, ?_, ?_, ?_, ?_, ?_, ?_, ?_, ?_, ?_, trivial⟩
  · rintro vs es Es Hx -; refine Z0k (D := []) rfl ?_; refine Z0s rfl rfl rfl rfl Z1d mm0 rfl ?_; refine Z04 ?_; exact Z1v rfl ⟨rfl, rfl⟩ (Z0b _) rfl
  · rintro vs es Es Hx -; refine Z0k (D := []) rfl ?_; refine Z07 rfl rfl rfl rfl Z2j ?_; refine Z04 ?_; exact Z1v rfl ⟨rfl, rfl⟩ (Z0b _) rfl
  · rintro vs es Es Hx ⟨⟨f6, g8⟩, -⟩; refine Z0k (D := [(33, vs 1)]) rfl ?_; rw [f6]; refine Z0e rfl rfl rfl rfl Z31 mm0 rfl ?_; refine Z04 ?_; exact Z1v rfl ⟨rfl, rfl⟩ (Z0b _) (by show [(33, vs 1)] = _; rw [f6])
  · rintro vs es Es Hx ⟨⟨e7, g5⟩, -⟩; refine Z0k (D := [(34, vs 2)]) rfl ?_; rw [e7]; refine Z1n (xs := r3.Arcs) h1 rfl rfl rfl rfl rfl Z33 ?_; refine Z04 ?_; exact Z1v rfl ⟨rfl, rfl⟩ (Z0b _) (by show [(34, vs 2)] = _; rw [e7])
  · rintro vs es Es Hx ⟨⟨h2, j3⟩, -⟩; refine Z0k (D := [(35, vs 3)]) rfl ?_; rw [h2]; refine Zda v7 rfl rfl rfl rfl rfl Z15 Z1a Z59 Zai rfl ?_; intro i2; refine Z04 ?_; exact Z1v rfl ⟨i2, rfl, rfl⟩ (by repeat (first | exact Z0b _ | exact Z09 | apply Pick.none | refine Z02 (by repeat (first | exact Take.head _ _ | apply Take.tail)) ?_)) (by show [(35, vs 3)] = _; rw [h2])
  · rintro vs es Es Hx ⟨⟨e8, g6⟩, ⟨i2, f7, i4⟩, -⟩; refine Z0k (D := [(32, vs 0), (36, vs 4)]) rfl ?_; rw [e8, f7]; refine Z2d (H := [(some b1, .cells #[.int .i64 r3.N, .int .i64 r3.S, .int .i64 r3.T, .slice (sb a6) n6 c7] 24 (0, 0)), (a6, .cells (arr Z4t r3.Arcs j8).toArray 35 (0, 0))] ++ ([(some i2, .cells (arr (intC .i64) (List.replicate ((r3.Arcs.length : Int).toNat) (0 : Int)) ([])).toArray 2 (0, 0))] ++ Hx)) (by show _ ++ ((es 0 ++ (es 4 ++ ([]))) ++ _) = _; rw [g6, i4]; rfl) ?_; refine Zij Zgg rfl rfl rfl rfl (Z0x tk2 (Gone.refl _)) rfl (fun wc hwc => Zco (n0 := r3) (f1 := (List.replicate ((r3.Arcs.length : Int).toNat) (0 : Int))) (most2 := 600) wc (hwc.self (Z02 tk2 Z09) rfl) (hwc.rsM (f := Z4t) (s := 3) (xs := r3.Arcs) (j := j8) (fun _ => rfl) (Z0x tk2 (Gone.refl _)) rfl mm1 h1 f0 f2) List.length_replicate (Nat.le_refl _) (Z2u _ _) Z1j v8) ?_; rintro _ _ ⟨a3, c3, c4, c8, rfl, rfl, c9, d0, f4, d1⟩; refine Z04 ?_; exact Z1v rfl ⟨a3, c3, c4, c8, rfl, rfl, c9, d0, f4, d1⟩ (by show Pick (_ ++ (_ ++ ((es 0 ++ ([])) ++ _))) _; rw [g6]; exact (by repeat (first | exact Z0b _ | exact Z09 | apply Pick.none | refine Z02 (by repeat (first | exact Take.head _ _ | apply Take.tail)) ?_))) (by show [(32, vs 0), (36, vs 4)] = _; rw [e8, f7])
  · rintro vs es Es Hx ⟨⟨a3, c3, c4, c8, b6, b8, c9, d0, f4, d1⟩, -⟩; refine Z0k (D := [(37, vs 5)]) rfl ?_; rw [b6]; refine Z2d (H := [(some b1, .cells #[.int .i64 r3.N, .int .i64 r3.S, .int .i64 r3.T, .slice (sb a6) n6 c7] 24 (0, 0)), (a6, .cells (arr Z4t r3.Arcs j8).toArray 35 (0, 0))] ++ ([(a3, .cells (arr (intC .i64) f3 c8).toArray 2 (0, 0))] ++ Hx)) (by show _ ++ ((es 5 ++ ([])) ++ _) = _; rw [b8]; rfl) ?_; refine Z05 rfl rfl rfl rfl ?_; refine Z04 ?_; exact Z1v rfl ⟨by show _ = vs 5; rw [b6] <;> rfl, rfl⟩ (by show Pick (_ ++ (_ ++ ((es 5 ++ ([])) ++ _))) _; rw [b8]; exact (by repeat (first | exact Z0b _ | exact Z09 | apply Pick.none | refine Z02 (by repeat (first | exact Take.head _ _ | apply Take.tail)) ?_))) (by show [(37, vs 5)] = _; rw [b6])
  ·
   rintro vs es Es Hx ⟨⟨a3, c3, c4, c8, b6, b8, c9, d0, f4, d1⟩, ⟨h3, e5⟩, -⟩; have b7 : vs 6 = .tuple #[.slice (sb a3) c3 c4, .bool j9] := by refine Eq.trans h3 ?_; show vs 5 = _; rw [b6] <;> rfl
   refine Z0k (D := [(37, vs 5), (31, vs 6)]) rfl ?_; rw [b6, b7]; refine Z2d (H := [(some b1, .cells #[.int .i64 r3.N, .int .i64 r3.S, .int .i64 r3.T, .slice (sb a6) n6 c7] 24 (0, 0)), (a6, .cells (arr Z4t r3.Arcs j8).toArray 35 (0, 0))] ++ ([(a3, .cells (arr (intC .i64) f3 c8).toArray 2 (0, 0))] ++ Hx)) (by show _ ++ ((es 5 ++ (es 6 ++ ([]))) ++ _) = _; rw [b8, e5]; rfl) ?_; refine TO.extract rfl rfl rfl rfl rfl ?_; refine Z04 ?_; exact Z1v rfl ⟨by show _ = (Zku (vs 6) 0); rw [b7] <;> rfl, rfl⟩ (by show Pick (_ ++ (_ ++ ((es 5 ++ (es 6 ++ ([]))) ++ _))) _; rw [b8, e5]; exact (by repeat (first | exact Z0b _ | exact Z09 | apply Pick.none | refine Z02 (by repeat (first | exact Take.head _ _ | apply Take.tail)) ?_))) (by show [(37, vs 5), (31, vs 6)] = _; rw [b6, b7])
  ·
   rintro vs es Es Hx ⟨⟨a3, c3, c4, c8, b6, b8, c9, d0, f4, d1⟩, ⟨h3, e5⟩, -⟩; have b7 : vs 6 = .tuple #[.slice (sb a3) c3 c4, .bool j9] := by refine Eq.trans h3 ?_; show vs 5 = _; rw [b6] <;> rfl
   refine Z0k (D := [(37, vs 5), (31, vs 6)]) rfl ?_; rw [b6, b7]; refine Z2d (H := [(some b1, .cells #[.int .i64 r3.N, .int .i64 r3.S, .int .i64 r3.T, .slice (sb a6) n6 c7] 24 (0, 0)), (a6, .cells (arr Z4t r3.Arcs j8).toArray 35 (0, 0))] ++ ([(a3, .cells (arr (intC .i64) f3 c8).toArray 2 (0, 0))] ++ Hx)) (by show _ ++ ((es 5 ++ (es 6 ++ ([]))) ++ _) = _; rw [b8, e5]; rfl) ?_; refine TO.extract rfl rfl rfl rfl rfl ?_; refine Z04 ?_; exact Z1v rfl ⟨rfl, rfl⟩ (by show Pick (_ ++ (_ ++ ((es 5 ++ (es 6 ++ ([]))) ++ _))) _; rw [b8, e5]; exact (by repeat (first | exact Z0b _ | exact Z09 | apply Pick.none | refine Z02 (by repeat (first | exact Take.head _ _ | apply Take.tail)) ?_))) (by show [(37, vs 5), (31, vs 6)] = _; rw [b6, b7])
  ·
   rintro vs es Es Hx ⟨⟨a3, c3, c4, c8, b6, b8, c9, d0, f4, d1⟩, ⟨h3, e5⟩, ⟨n8, h4⟩, -⟩; have b7 : vs 6 = .tuple #[.slice (sb a3) c3 c4, .bool j9] := by refine Eq.trans h3 ?_; show vs 5 = _; rw [b6] <;> rfl
   have i5 : vs 7 = .slice (sb a3) c3 c4 := by refine Eq.trans n8 ?_; show (Zku (vs 6) 0) = _; rw [b7] <;> rfl
   refine Z0k (D := [(37, vs 5), (31, vs 6), (38, vs 7)]) rfl ?_; rw [b6, b7, i5]; refine Z2d (H := [(some b1, .cells #[.int .i64 r3.N, .int .i64 r3.S, .int .i64 r3.T, .slice (sb a6) n6 c7] 24 (0, 0)), (a6, .cells (arr Z4t r3.Arcs j8).toArray 35 (0, 0))] ++ ([(a3, .cells (arr (intC .i64) f3 c8).toArray 2 (0, 0))] ++ Hx)) (by show _ ++ ((es 5 ++ (es 6 ++ (es 7 ++ ([])))) ++ _) = _; rw [b8, e5, h4]; rfl) ?_; refine Z06 rfl rfl rfl rfl ?_; refine Z04 ?_; exact Z1v rfl ⟨by show _ = vs 7; rw [i5] <;> rfl, rfl⟩ (by show Pick (_ ++ (_ ++ ((es 5 ++ (es 6 ++ (es 7 ++ ([])))) ++ _))) _; rw [b8, e5, h4]; exact (by repeat (first | exact Z0b _ | exact Z09 | apply Pick.none | refine Z02 (by repeat (first | exact Take.head _ _ | apply Take.tail)) ?_))) (by show [(37, vs 5), (31, vs 6), (38, vs 7)] = _; rw [b6, b7, i5])
 ·
  rintro vs es hb ⟨⟨e8, g6⟩, ⟨f6, g8⟩, ⟨e7, g5⟩, ⟨h2, j3⟩, ⟨i2, f7, i4⟩, ⟨a3, c3, c4, c8, b6, b8, c9, d0, f4, d1⟩, ⟨h3, e5⟩, ⟨n8, h4⟩, ⟨t0, t1⟩, ⟨t4, t5⟩, -⟩ hHR; obtain rfl : hb = [] := hHR; have b7 : vs 6 = .tuple #[.slice (sb a3) c3 c4, .bool j9] := by refine Eq.trans h3 ?_; show vs 5 = _; rw [b6] <;> rfl
  have i5 : vs 7 = .slice (sb a3) c3 c4 := by refine Eq.trans n8 ?_; show (Zku (vs 6) 0) = _; rw [b7] <;> rfl
  have t6 : vs 9 = .slice (sb a3) c3 c4 := by refine Eq.trans t4 ?_; show vs 7 = _; rw [i5] <;> rfl
  refine Z0k (D := [(32, vs 0), (33, vs 1), (34, vs 2), (35, vs 3), (36, vs 4), (37, vs 5), (31, vs 6), (38, vs 7), (39, vs 8), (9, vs 9)]) rfl ?_; refine Z2d (H := [(some b1, .cells #[.int .i64 r3.N, .int .i64 r3.S, .int .i64 r3.T, .slice (sb a6) n6 c7] 24 (0, 0)), (a6, .cells (arr Z4t r3.Arcs j8).toArray 35 (0, 0)), (a3, .cells (arr (intC .i64) f3 c8).toArray 2 (0, 0))]) (by show _ ++ (_ ++ (es 0 ++ (es 1 ++ (es 2 ++ (es 3 ++ (es 5 ++ (es 6 ++ (es 7 ++ (es 8 ++ (es 9 ++ ([]))))))))))) = _; rw [g6, g8, g5, j3, b8, e5, h4, t1, t5]; rfl) ?_; rw [e8, f6, e7, h2, f7, b6, b7, i5, t0, t6]; clear t6 t0 i5 b7 b6 f7 h2 e7 f6 e8 h3 n8 t4 g6 g8 g5 j3 i4 b8 e5 h4 t1 t5; refine Z06 rfl rfl rfl rfl ?_; refine Z04 ?_; refine Z01 ?_; refine Z0j (Z00 (t := 1) rfl (Z00 (t := 2) rfl (Z00 (t := 3) rfl (Z00 (t := 4) rfl (Z00 (t := 9) rfl (Z00 (t := 10) rfl Z08)))))) ?_; refine Z0a ?_; refine Z0a ?_; refine Z03 (ll := [0, 1]) rfl ?_; refine Z05 rfl rfl rfl rfl ?_; refine TO.not rfl rfl rfl rfl ?_; refine Z04 ?_; refine Z01 ?_; rcases Z0g H with ⟨p1, H⟩ | ⟨p1, H⟩
  · refine Z1e rfl p1 ?_; refine Z0a ?_; refine Z03 (ll := [0]) rfl ?_; refine Z06 rfl rfl rfl rfl ?_; refine Z04 ?_; refine Z01 ?_; refine Z0j (Z00 (t := 8) rfl Z08) ?_; refine T.ret ?_; refine Z0f ?_; obtain rfl := ret1 H; exact Z12 rfl rfl rfl rfl (Res.tmp rfl) Z09 ⟨rfl, rfl⟩
  ·
   refine Z1s rfl (Bool.eq_false_iff.2 p1) ?_; refine T.skip ?_; refine Z01 ?_; refine Z0a ?_; obtain ⟨⟨n9, y0⟩, v9, H⟩ := Z0m H; refine Z03 (ll := [0, 1, 2, 3, 4, 5, 6, 7]) rfl ?_; refine Z0s rfl rfl rfl rfl Z1d mm0 rfl ?_; refine Z05 rfl rfl rfl rfl ?_; refine Z0p Zgf rfl rfl rfl rfl (fun wc hwc => Znu (n0 := r3) (f1 := f3) wc (hwc.rs (f := Z4t) (s := 3) (xs := r3.Arcs) (j := j8) (fun _ => rfl) mm1 h1 f0 f2) (hwc.rs (f := (intC .i64)) (s := 1) (xs := f3) (j := c8) (fun _ => rfl) mm2 c9 d0 d1) v9) ?_; rintro _ _ ⟨k1, y2, y3, p2, rfl, rfl, p3, p4, w0, p5⟩; refine Z05 rfl rfl rfl rfl ?_; refine TO.extract rfl rfl rfl rfl rfl ?_; refine TO.extract rfl rfl rfl rfl rfl ?_; refine Z06 rfl rfl rfl rfl ?_; refine Z06 rfl rfl rfl rfl ?_; refine Z04 ?_; refine Z01 ?_; refine Z0j (Z00 (t := 1) rfl (Z00 (t := 2) rfl (Z00 (t := 3) rfl (Z00 (t := 4) rfl (Z00 (t := 9) rfl (Z00 (t := 11) rfl (Z00 (t := 12) rfl Z08))))))) ?_; refine Z0a ?_; obtain ⟨⟨h5, y4⟩, w1, H⟩ := Z0m H; refine Z03 (ll := [0, 1, 2, 3, 4, 5, 6, 7, 8]) rfl ?_; refine Z0s rfl rfl rfl rfl Z1d mm1 rfl ?_; refine Z05 rfl rfl rfl rfl ?_; refine Z05 rfl rfl rfl rfl ?_; refine Z0p Zga rfl rfl rfl rfl (fun wc hwc => Zfb (n0 := r3) (f1 := f3) (s2 := n9) wc (hwc.rs (f := Z4t) (s := 3) (xs := r3.Arcs) (j := j8) (fun _ => rfl) mm2 h1 f0 f2) (hwc.rs (f := (intC .i64)) (s := 1) (xs := f3) (j := c8) (fun _ => rfl) mm3 c9 d0 d1) (hwc.rs (f := boolC) (s := 1) (xs := n9) (j := p2) (fun _ => rfl) mm0 p3 p4 p5) w1) ?_; rintro _ _ ⟨rfl, rfl⟩; refine Z05 rfl rfl rfl rfl ?_; refine TO.extract rfl rfl rfl rfl rfl ?_; refine TO.extract rfl rfl rfl rfl rfl ?_; refine Z06 rfl rfl rfl rfl ?_; refine Z06 rfl rfl rfl rfl ?_; refine Z04 ?_; refine Z01 ?_; refine Z0j (Z00 (t := 1) rfl (Z00 (t := 2) rfl (Z00 (t := 3) rfl (Z00 (t := 4) rfl (Z00 (t := 12) rfl (Z00 (t := 13) rfl (Z00 (t := 14) rfl Z08))))))) ?_; refine Z0a ?_; refine Z0a ?_; rcases Z0g H with ⟨p6, H⟩ | ⟨p6, H⟩
   · refine Z03 (ll := [0, 1, 2, 3, 4, 5]) rfl ?_; refine Z05 rfl rfl rfl rfl ?_; refine Z0q rfl rfl rfl rfl rfl rfl ?_; refine Z05 rfl rfl rfl rfl ?_; refine Z0v (t := 57) (b' := true) rfl (decide_eq_true p6) ?_; refine Z0c rfl rfl rfl rfl ?_; refine Z0c rfl rfl rfl rfl ?_; refine Z0y rfl rfl rfl rfl rfl ?_; refine Z04 ?_; refine Z01 ?_; refine Z1e rfl rfl ?_; refine Z0a ?_; refine Z03 (ll := [0]) rfl ?_; refine Z06 rfl rfl rfl rfl ?_; refine Z04 ?_; refine Z01 ?_; refine Z0j (Z00 (t := 8) rfl Z08) ?_; refine T.ret ?_; refine Z0f ?_; obtain rfl := ret1 H; exact Z12 rfl rfl rfl rfl (Res.tmp rfl) Z09 ⟨rfl, rfl⟩
   ·
    refine Z03 (ll := [0, 1, 2, 3, 4, 5]) rfl ?_; refine Z05 rfl rfl rfl rfl ?_; refine Z0q rfl rfl rfl rfl rfl rfl ?_; refine Z05 rfl rfl rfl rfl ?_; refine Z0v (t := 57) (b' := false) rfl (decide_eq_false p6) ?_; refine Z05 rfl rfl rfl rfl ?_; refine TO.not rfl rfl rfl rfl ?_; refine Z0z rfl rfl rfl rfl rfl ?_; refine Z04 ?_; refine Z01 ?_; rcases Z0g H with ⟨p7, H⟩ | ⟨p7, H⟩
    · refine Z1e rfl p7 ?_; refine Z0a ?_; refine Z03 (ll := [0]) rfl ?_; refine Z06 rfl rfl rfl rfl ?_; refine Z04 ?_; refine Z01 ?_; refine Z0j (Z00 (t := 8) rfl Z08) ?_; refine T.ret ?_; refine Z0f ?_; obtain rfl := ret1 H; exact Z12 rfl rfl rfl rfl (Res.tmp rfl) Z09 ⟨rfl, rfl⟩
    ·
     refine Z1s rfl (Bool.eq_false_iff.2 p7) ?_; refine T.skip ?_; refine Z01 ?_; refine Z0j (Z00 (t := 1) rfl (Z00 (t := 2) rfl (Z00 (t := 3) rfl (Z00 (t := 4) rfl (Z00 (t := 13) rfl Z08))))) ?_; refine Z0a ?_; obtain ⟨w2, H⟩ := Z0d H; refine Z03 (ll := [0, 1, 2, 3]) rfl ?_; refine Z07 rfl rfl rfl rfl Z3j ?_; refine Z0e rfl rfl rfl rfl Z0r mm1 rfl ?_; refine Zs4 w2 rfl rfl rfl rfl rfl Z32 Z2l Z8q Zd9 rfl ?_; intro h6; refine Z06 rfl rfl rfl rfl ?_; refine Z04 ?_; refine Z01 ?_; refine Z0a ?_; refine Z03 (ll := [0, 1, 2]) rfl ?_; refine Z05 rfl rfl rfl rfl ?_; refine Z05 rfl rfl rfl rfl ?_; refine Znq (f := boolC) (s := 1) (xs := (List.replicate r3.N.toNat (false : Bool))) (ob := some h6) (j := ([])) (ys := s2) (fun _ => rfl) (fun _ => rfl) List.length_replicate (Nat.le_refl _) Z1j rfl rfl rfl rfl rfl Z32 Z2l tk0 (fun wc hwc => (p0.mono hwc)) ?_; refine Z04 ?_; refine Z01 ?_; refine Z0a ?_; obtain ⟨t7, H⟩ := Z0d H; obtain ⟨t8, H⟩ := Z0d H; apply Zd5 [⟨[], false, [], Z6p _⟩, ⟨[], false, [], Z6p _⟩, ⟨[1], false, [], Z6p _⟩, ⟨[], false, [], Z6p _⟩, ⟨[], false, [], Z6p _⟩, ⟨[4], false, [], Z6p _⟩, ⟨[0, 2], false, [], Z6p _⟩, ⟨[0, 2, 6], true, [], relN⟩] [67, 68, 69, 70, 71, 72, 73] 8 (HRk [[(some h6, .cells (arr boolC (cpy (List.replicate r3.N.toNat (false : Bool)) s2) ([])).toArray 4 (0, 0))], [(some h6, .cells (arr boolC ((cpy (List.replicate r3.N.toNat (false : Bool)) s2).set r3.S.toNat true) ([])).toArray 4 (0, 0))]]) [[], []] [(some h6, .cells (arr boolC (cpy (List.replicate r3.N.toNat (false : Bool)) s2) ([])).toArray 4 (0, 0))] [(k1, .cells (arr boolC n9 p2).toArray 4 (0, 0)), (some b1, .cells #[.int .i64 r3.N, .int .i64 r3.S, .int .i64 r3.T, .slice (sb a6) n6 c7] 24 (0, 0)), (a6, .cells (arr Z4t r3.Arcs j8).toArray 35 (0, 0)), (a3, .cells (arr (intC .i64) f3 c8).toArray 2 (0, 0))]
     · exact Z69
     · exact rfl
     · kernel_rfl
     · kernel_rfl
     · kernel_rfl
     · exact rfl
     · exact rfl
     · exact rfl
     · exact rfl
     · exact (by repeat (first | exact Z0b _ | exact Z09 | apply Pick.none | refine Z02 (by repeat (first | exact Take.head _ _ | apply Take.tail)) ?_))
     ·
      refine ⟨?_, ?_, ?_, ?_, ?_, ?_, ?_, ?_, trivial⟩
      · rintro vs es Es Hx -; refine Z0k (D := []) rfl ?_; refine Z05 rfl rfl rfl rfl ?_; refine Z04 ?_; exact Z1v rfl ⟨rfl, rfl⟩ (Z0b _) rfl
      · rintro vs es Es Hx -; refine Z0k (D := []) rfl ?_; refine Z07 rfl rfl rfl rfl Z3i ?_; refine Z04 ?_; exact Z1v rfl ⟨rfl, rfl⟩ (Z0b _) rfl
      · rintro vs es Es Hx ⟨⟨f6, g8⟩, -⟩; refine Z0k (D := [(68, vs 1)]) rfl ?_; rw [f6]; refine Z0e rfl rfl rfl rfl Z0r mm1 rfl ?_; refine Z04 ?_; exact Z1v rfl ⟨rfl, rfl⟩ (Z0b _) (by show [(68, vs 1)] = _; rw [f6])
      · rintro vs es Es Hx -; refine Z0k (D := []) rfl ?_; refine Z05 rfl rfl rfl rfl ?_; refine Z04 ?_; exact Z1v rfl ⟨rfl, rfl⟩ (Z0b _) rfl
      · rintro vs es Es Hx -; refine Z0k (D := []) rfl ?_; refine Z07 rfl rfl rfl rfl Z4q ?_; refine Z04 ?_; exact Z1v rfl ⟨rfl, rfl⟩ (Z0b _) rfl
      · rintro vs es Es Hx ⟨⟨f7, i4⟩, -⟩; refine Z0k (D := [(71, vs 4)]) rfl ?_; rw [f7]; refine Z0e rfl rfl rfl rfl Z0r mm1 rfl ?_; refine Z04 ?_; exact Z1v rfl ⟨rfl, rfl⟩ (Z0b _) (by show [(71, vs 4)] = _; rw [f7])
      · rintro vs es Es Hx ⟨⟨e8, g6⟩, ⟨e7, g5⟩, -⟩; refine Z0k (D := [(67, vs 0), (69, vs 2)]) rfl ?_; rw [e8, e7]; refine Z6y (Zdp List.length_replicate) t7 rfl rfl rfl rfl rfl Z32 Z2l ?_; refine Z04 ?_; exact Z1v rfl ⟨rfl, rfl⟩ (Z0b _) (by show [(67, vs 0), (69, vs 2)] = _; rw [e8, e7])
      · rintro vs es Es Hx hb ⟨⟨e8, g6⟩, ⟨e7, g5⟩, ⟨b7, e5⟩, -⟩ hHR; obtain rfl : hb = [(some h6, .cells (arr boolC (cpy (List.replicate r3.N.toNat (false : Bool)) s2) ([])).toArray 4 (0, 0))] := hHR; refine Z0k (D := [(67, vs 0), (69, vs 2), (73, vs 6)]) rfl ?_; rw [e8, e7, b7]; refine Zkh t7 rfl rfl rfl rfl tk0 Z2l ?_; refine Z04 ?_; exact Zkb (hb' := [(some h6, .cells (arr boolC ((cpy (List.replicate r3.N.toNat (false : Bool)) s2).set r3.S.toNat true) ([])).toArray 4 (0, 0))]) rfl rfl rfl (by repeat (first | exact Z0b _ | exact Z09 | apply Pick.none | refine Z02 (by repeat (first | exact Take.head _ _ | apply Take.tail)) ?_)) (by show [(67, vs 0), (69, vs 2), (73, vs 6)] = _; rw [e8, e7, b7])
     ·
      rintro vs es hb ⟨⟨e8, g6⟩, ⟨f6, g8⟩, ⟨e7, g5⟩, ⟨h2, j3⟩, ⟨f7, i4⟩, ⟨b6, b8⟩, ⟨b7, e5⟩, h4, -⟩ hHR; obtain rfl : hb = [(some h6, .cells (arr boolC ((cpy (List.replicate r3.N.toNat (false : Bool)) s2).set r3.S.toNat true) ([])).toArray 4 (0, 0))] := hHR; refine Z0k (D := [(67, vs 0), (68, vs 1), (69, vs 2), (70, vs 3), (71, vs 4), (72, vs 5), (73, vs 6)]) rfl ?_; refine Z2d (H := [(some h6, .cells (arr boolC ((cpy (List.replicate r3.N.toNat (false : Bool)) s2).set r3.S.toNat true) ([])).toArray 4 (0, 0)), (k1, .cells (arr boolC n9 p2).toArray 4 (0, 0)), (some b1, .cells #[.int .i64 r3.N, .int .i64 r3.S, .int .i64 r3.T, .slice (sb a6) n6 c7] 24 (0, 0)), (a6, .cells (arr Z4t r3.Arcs j8).toArray 35 (0, 0)), (a3, .cells (arr (intC .i64) f3 c8).toArray 2 (0, 0))]) (by show _ ++ (_ ++ (es 0 ++ (es 1 ++ (es 2 ++ (es 3 ++ (es 4 ++ (es 5 ++ (es 6 ++ (es 7 ++ ([])))))))))) = _; rw [g6, g8, g5, j3, i4, b8, e5, h4]; rfl) ?_; rw [e8, f6, e7, h2, f7, b6, b7]; clear b7 b6 f7 h2 e7 f6 e8 g6 g8 g5 j3 i4 b8 e5 h4; refine Z6y (List.length_set.trans (Zdp List.length_replicate)) t8 rfl rfl rfl rfl rfl Z32 Z2l ?_; refine Zkh t8 rfl rfl rfl rfl tk0 Z2l ?_; refine Z04 ?_; refine Z01 ?_; refine Z0j (Z00 (t := 1) rfl (Z00 (t := 3) rfl (Z00 (t := 4) rfl (Z00 (t := 13) rfl (Z00 (t := 15) rfl Z08))))) ?_; refine Z0a ?_; refine Z0a ?_; obtain ⟨⟨y5, y6⟩, w3, H⟩ := Z0m H; refine Z03 (ll := [0, 1, 2, 3, 4, 5, 6, 7]) rfl ?_; refine Z0s rfl rfl rfl rfl Z1d mm2 rfl ?_; refine Z05 rfl rfl rfl rfl ?_; refine Z0p Zgb rfl rfl rfl rfl (fun wc hwc => Zqh (n0 := r3) (s1 := (((cpy (List.replicate r3.N.toNat (false : Bool)) s2).set r3.S.toNat true).set r3.T.toNat false)) wc (hwc.rs (f := Z4t) (s := 3) (xs := r3.Arcs) (j := j8) (fun _ => rfl) mm3 h1 f0 f2) (hwc.rs (f := boolC) (s := 1) (xs := (((cpy (List.replicate r3.N.toNat (false : Bool)) s2).set r3.S.toNat true).set r3.T.toNat false)) (j := ([])) (fun _ => rfl) mm0 (List.length_set.trans (List.length_set.trans (Zdp List.length_replicate))) (Nat.le_refl _) Z1j) w3) ?_; rintro _ _ ⟨rfl, rfl⟩; refine Z05 rfl rfl rfl rfl ?_; refine TO.extract rfl rfl rfl rfl rfl ?_; refine TO.extract rfl rfl rfl rfl rfl ?_; refine Z06 rfl rfl rfl rfl ?_; refine Z06 rfl rfl rfl rfl ?_; refine Z04 ?_; refine Z01 ?_; refine Z0a ?_; rcases Z0g H with ⟨p8, H⟩ | ⟨p8, H⟩
      · refine Z03 (ll := [0, 1, 2, 3, 4, 5, 6]) rfl ?_; refine Z05 rfl rfl rfl rfl ?_; refine Z0q rfl rfl rfl rfl rfl rfl ?_; refine Z05 rfl rfl rfl rfl ?_; refine Z0v (t := 83) (b' := true) rfl (decide_eq_true p8) ?_; refine Z0c rfl rfl rfl rfl ?_; refine Z0c rfl rfl rfl rfl ?_; refine Z0c rfl rfl rfl rfl ?_; refine Z0y rfl rfl rfl rfl rfl ?_; refine Z04 ?_; refine Z01 ?_; refine Z0j (Z00 (t := 1) rfl (Z00 (t := 3) rfl (Z00 (t := 4) rfl (Z00 (t := 13) rfl (Z00 (t := 87) rfl Z08))))) ?_; refine Z1e rfl rfl ?_; refine Z0a ?_; refine Z03 (ll := [0]) rfl ?_; refine Z06 rfl rfl rfl rfl ?_; refine Z04 ?_; refine Z01 ?_; refine T.ret ?_; refine Z0f ?_; obtain rfl := ret1 H; exact Z12 rfl rfl rfl rfl (Res.tmp rfl) Z09 ⟨rfl, rfl⟩
      ·
       refine Z03 (ll := [0, 1, 2, 3, 4, 5, 6]) rfl ?_; refine Z05 rfl rfl rfl rfl ?_; refine Z0q rfl rfl rfl rfl rfl rfl ?_; refine Z05 rfl rfl rfl rfl ?_; refine Z0v (t := 83) (b' := false) rfl (decide_eq_false p8) ?_; refine Z05 rfl rfl rfl rfl ?_; refine Z05 rfl rfl rfl rfl ?_; refine Z0q rfl rfl rfl rfl rfl rfl ?_; refine Z0z rfl rfl rfl rfl rfl ?_; refine Z04 ?_; refine Z01 ?_; refine Z0j (Z00 (t := 1) rfl (Z00 (t := 3) rfl (Z00 (t := 4) rfl (Z00 (t := 13) rfl (Z00 (t := 87) rfl Z08))))) ?_; rcases Z0g H with ⟨p9, H⟩ | ⟨p9, H⟩
       · refine Z13 rfl p9 ?_; refine Z0a ?_; refine Z03 (ll := [0]) rfl ?_; refine Z06 rfl rfl rfl rfl ?_; refine Z04 ?_; refine Z01 ?_; refine T.ret ?_; refine Z0f ?_; obtain rfl := ret1 H; exact Z12 rfl rfl rfl rfl (Res.tmp rfl) Z09 ⟨rfl, rfl⟩
       ·
        refine Z14 rfl p9 ?_; refine T.skip ?_; refine Z01 ?_; refine Z0a ?_; obtain ⟨w4, H⟩ := Z0d H; refine Z03 (ll := [0, 1, 2, 3, 4]) rfl ?_; refine Z07 rfl rfl rfl rfl Z2j ?_; refine Z0e rfl rfl rfl rfl Z31 mm2 rfl ?_; refine Z1n (xs := r3.Arcs) h1 rfl rfl rfl rfl rfl Z33 ?_; refine Zda w4 rfl rfl rfl rfl rfl Z15 Z1a Z59 Zai rfl ?_; intro e9; refine Z06 rfl rfl rfl rfl ?_; refine Z04 ?_; refine Z01 ?_; refine Z0a ?_; refine Z0a ?_; refine Z03 (ll := [0, 1, 2]) rfl ?_; refine Z05 rfl rfl rfl rfl ?_; refine TO.rem rfl rfl rfl rfl rfl (by decide) ?_; refine Z05 rfl rfl rfl rfl ?_; refine Z04 ?_; refine Z01 ?_; refine Z1i (fun (a9 : List Int) => Z2x r3 h5 a9 = some r0 ∧ a9.length = (r3.Arcs.length : Int).toNat) (fun (a9 : List Int) => [(4, .pointer (some ⟨b1, 0, none⟩)), (13, .int .i64 h5), (18, .slice (some ⟨e9, 0, none⟩) ((r3.Arcs.length : Int).toNat) ((r3.Arcs.length : Int).toNat))]) (fun (a9 : List Int) => [(some b1, .cells #[.int .i64 r3.N, .int .i64 r3.S, .int .i64 r3.T, .slice (sb a6) n6 c7] 24 (0, 0)), (a6, .cells (arr Z4t r3.Arcs j8).toArray 35 (0, 0)), (some e9, .cells (arr (intC .i64) a9 ([])).toArray 2 (0, 0))]) ?_ ?_
        ·
         refine T.block ?_; obtain ⟨w5, g8, t9⟩ := Z0m H; refine Z6o (fun (j4 : Nat) (a5 : List Int) (e6 : Int) => Z21 (fun s => Z2w l1 ways3 r3 s.1 s.2) j4 (a5, e6) = some w5 ∧ a5.length = (r3.Arcs.length : Int).toNat) (fun (j4 : Nat) (a5 : List Int) (e6 : Int) => [(1, .slice l1_b l1_n l1_c), (4, .pointer (some ⟨b1, 0, none⟩)), (13, .int .i64 h5), (18, .slice (some ⟨e9, 0, none⟩) ((r3.Arcs.length : Int).toNat) ((r3.Arcs.length : Int).toNat)), (93, .int .u8 (ways3.tmod 41)), (94, .int .u8 e6)]) (fun (j4 : Nat) (a5 : List Int) (e6 : Int) => [(some b1, .cells #[.int .i64 r3.N, .int .i64 r3.S, .int .i64 r3.T, .slice (sb a6) n6 c7] 24 (0, 0)), (a6, .cells (arr Z4t r3.Arcs j8).toArray 35 (0, 0)), (some e9, .cells (arr (intC .i64) a5 ([])).toArray 2 (0, 0))]) (fun (j4 : Nat) (a5 : List Int) (e6 : Int) => j4) Z3k (List.replicate ((r3.Arcs.length : Int).toNat) (0 : Int)) 0 ⟨g8, List.length_replicate⟩ (Z00 rfl (Z00 rfl (Z00 rfl (Z00 rfl (Z00 rfl (Z00 rfl Z08)))))) (Z02 tk3 (Z02 tk3 (Z02 tk0 Z09))) ?_; rintro j4 a5 e6 ⟨H, g9⟩; obtain ⟨w6, q0, rfl, H, q1⟩ := Z1f H; have H : Z2w l1 ways3 r3 a5 e6 = some q0 := H; unfold Z2w at H; refine Z0a ?_; refine Z03 (ll := [0]) rfl ?_; refine Z0q rfl rfl rfl rfl rfl rfl ?_; refine Z04 ?_; refine Z01 ?_; refine Z0a ?_; rcases Z0g H with ⟨q2, H⟩ | ⟨q2, H⟩
         ·
          refine Z13 rfl q2 ?_; refine T.skip ?_; refine Z01 ?_; refine Z0a ?_; refine Z1i (fun (b0 : List Int) => Z3w e6 b0 = some q0 ∧ b0.length = (r3.Arcs.length : Int).toNat) (fun (b0 : List Int) => [(1, .slice l1_b l1_n l1_c), (4, .pointer (some ⟨b1, 0, none⟩)), (13, .int .i64 h5), (18, .slice (some ⟨e9, 0, none⟩) ((r3.Arcs.length : Int).toNat) ((r3.Arcs.length : Int).toNat)), (93, .int .u8 (ways3.tmod 41)), (94, .int .u8 e6)]) (fun (b0 : List Int) => [(some b1, .cells #[.int .i64 r3.N, .int .i64 r3.S, .int .i64 r3.T, .slice (sb a6) n6 c7] 24 (0, 0)), (a6, .cells (arr Z4t r3.Arcs j8).toArray 35 (0, 0)), (some e9, .cells (arr (intC .i64) b0 ([])).toArray 2 (0, 0))]) ?_ ?_
          ·
           refine T.block ?_; refine Z0a ?_; obtain ⟨⟨a2, j5⟩, w7, H⟩ := Z0m H; refine Z03 (ll := [0, 1, 2, 3, 4, 5, 6, 7, 8]) rfl ?_; refine Z0s rfl rfl rfl rfl Z1d mm0 rfl ?_; refine Z05 rfl rfl rfl rfl ?_; refine Z0p Zg9 rfl rfl rfl rfl (fun wc hwc => Zep (n0 := r3) (l1 := a5) wc (hwc.rs (f := Z4t) (s := 3) (xs := r3.Arcs) (j := j8) (fun _ => rfl) mm1 h1 f0 f2) (hwc.rs (f := (intC .i64)) (s := 1) (xs := a5) (j := ([])) (fun _ => rfl) mm2 g9 (Nat.le_refl _) Z1j) w7) ?_; rintro _ _ ⟨d3, o0, c69, k2, d4, o1, c73, k3, d5, o2, o4, k4, d6, o5, o6, k5, d7, o7, c85, k6, d8, o8, c89, k7, f5, k8, q3, o9, rfl, rfl, q4, q5, w8, q6, q7, k9, u0, l0, l3, l4, u1, l5, l6, l7, u2, l8, d9, e0, u5, e1, f8, f9, u6, g0, h7, g1, u7, g2⟩; refine Z05 rfl rfl rfl rfl ?_; refine TO.extract rfl rfl rfl rfl rfl ?_; refine TO.extract rfl rfl rfl rfl rfl ?_; refine Z1k rfl rfl rfl Z6t ?_; intro e2; refine Z1g rfl rfl rfl rfl tk0 Z5o rfl rfl rfl ?_; refine Z06 rfl rfl rfl rfl ?_; refine Z04 ?_; refine Z01 ?_; refine Z0a ?_; refine Z0a ?_; refine Z03 (ll := [0, 1, 2]) rfl ?_; refine Z05 rfl rfl rfl rfl ?_; refine Z1n (xs := j5) h7 rfl rfl rfl rfl rfl Z15 ?_; refine Z05 rfl rfl rfl rfl ?_; refine Z04 ?_; refine Z01 ?_; refine Z0j (Z00 (t := 1) rfl (Z00 (t := 4) rfl (Z00 (t := 13) rfl (Z00 (t := 18) rfl (Z00 (t := 93) rfl (Z00 (t := 94) rfl (Z00 (t := 19) rfl (Z00 (t := 20) rfl (Z00 (t := 103) rfl (Z00 (t := 104) rfl Z08)))))))))) ?_; refine Z1i (fun (c143 : List Int) => Z3x r3 a5 e6 a2 c143 = some q0 ∧ c143.length = k8) (fun (c143 : List Int) => [(1, .slice l1_b l1_n l1_c), (4, .pointer (some ⟨b1, 0, none⟩)), (13, .int .i64 h5), (18, .slice (some ⟨e9, 0, none⟩) ((r3.Arcs.length : Int).toNat) ((r3.Arcs.length : Int).toNat)), (19, .pointer (some ⟨e2, 0, none⟩)), (20, .slice (sb f5) k8 q3), (93, .int .u8 (ways3.tmod 41)), (94, .int .u8 e6)]) (fun (c143 : List Int) => [(some b1, .cells #[.int .i64 r3.N, .int .i64 r3.S, .int .i64 r3.T, .slice (sb a6) n6 c7] 24 (0, 0)), (a6, .cells (arr Z4t r3.Arcs j8).toArray 35 (0, 0)), (some e9, .cells (arr (intC .i64) a5 ([])).toArray 2 (0, 0)), (some e2, .cells #[.int .i64 a2.N, .int .i64 a2.S, .int .i64 a2.T, .slice (sb d3) o0 c69, .slice (sb d4) o1 c73, .slice (sb d5) o2 o4, .slice (sb d6) o5 o6, .slice (sb d7) o7 c85, .slice (sb d8) o8 c89] 64 (0, 0)), (d3, .cells (arr (intC .i64) a2.First k2).toArray 3 (0, 0)), (d4, .cells (arr (intC .i64) a2.Head k3).toArray 3 (0, 0)), (d5, .cells (arr (intC .i64) a2.Rev k4).toArray 3 (0, 0)), (d6, .cells (arr (intC .i64) a2.Cap k5).toArray 2 (0, 0)), (d7, .cells (arr (intC .i64) a2.Arc k6).toArray 3 (0, 0)), (d8, .cells (arr boolC a2.Back k7).toArray 4 (0, 0)), (f5, .cells (arr (intC .i64) c143 o9).toArray 2 (0, 0))]) ?_ ?_
           ·
            refine T.block ?_; obtain ⟨w9, g5, x2⟩ := Z0m H; refine Z6o (fun (j6 : Nat) (c132 : List Int) (a7 : Int) => Z21 (fun s => Z2v l1 j5 s.1 s.2) j6 (c132, a7) = some w9 ∧ c132.length = k8) (fun (j6 : Nat) (c132 : List Int) (a7 : Int) => [(1, .slice l1_b l1_n l1_c), (4, .pointer (some ⟨b1, 0, none⟩)), (13, .int .i64 h5), (18, .slice (some ⟨e9, 0, none⟩) ((r3.Arcs.length : Int).toNat) ((r3.Arcs.length : Int).toNat)), (19, .pointer (some ⟨e2, 0, none⟩)), (20, .slice (sb f5) k8 q3), (93, .int .u8 (ways3.tmod 41)), (94, .int .u8 e6), (103, .int .i64 (j5.length : Int)), (104, .int .i64 a7)]) (fun (j6 : Nat) (c132 : List Int) (a7 : Int) => [(some b1, .cells #[.int .i64 r3.N, .int .i64 r3.S, .int .i64 r3.T, .slice (sb a6) n6 c7] 24 (0, 0)), (a6, .cells (arr Z4t r3.Arcs j8).toArray 35 (0, 0)), (some e9, .cells (arr (intC .i64) a5 ([])).toArray 2 (0, 0)), (some e2, .cells #[.int .i64 a2.N, .int .i64 a2.S, .int .i64 a2.T, .slice (sb d3) o0 c69, .slice (sb d4) o1 c73, .slice (sb d5) o2 o4, .slice (sb d6) o5 o6, .slice (sb d7) o7 c85, .slice (sb d8) o8 c89] 64 (0, 0)), (d3, .cells (arr (intC .i64) a2.First k2).toArray 3 (0, 0)), (d4, .cells (arr (intC .i64) a2.Head k3).toArray 3 (0, 0)), (d5, .cells (arr (intC .i64) a2.Rev k4).toArray 3 (0, 0)), (d6, .cells (arr (intC .i64) a2.Cap k5).toArray 2 (0, 0)), (d7, .cells (arr (intC .i64) a2.Arc k6).toArray 3 (0, 0)), (d8, .cells (arr boolC a2.Back k7).toArray 4 (0, 0)), (f5, .cells (arr (intC .i64) c132 o9).toArray 2 (0, 0))]) (fun (j6 : Nat) (c132 : List Int) (a7 : Int) => j6) Z3k j5 0 ⟨g5, h7⟩ (Z00 rfl (Z00 rfl (Z00 rfl (Z00 rfl (Z00 rfl (Z00 rfl (Z00 rfl (Z00 rfl (Z00 rfl (Z00 rfl Z08)))))))))) (Z02 tk8 (Z02 tk8 (Z02 tk8 (Z02 tk0 (Z02 tk0 (Z02 tk0 (Z02 tk0 (Z02 tk0 (Z02 tk0 (Z02 tk0 (Z02 tk0 Z09))))))))))) ?_; rintro j6 c132 a7 ⟨H, e3⟩; obtain ⟨u9, v3, rfl, H, q8⟩ := Z1f H; have H : Z2v l1 j5 c132 a7 = some v3 := H; unfold Z2v at H; refine Z0a ?_; refine Z03 (ll := [0]) rfl ?_; refine Z0q rfl rfl rfl rfl rfl rfl ?_; refine Z04 ?_; refine Z01 ?_; refine Z0a ?_; rcases Z0g H with ⟨i6, H⟩ | ⟨i6, H⟩
            ·
             refine Z13 rfl i6 ?_; refine T.skip ?_; refine Z01 ?_; refine Z0a ?_; refine T.block ?_; refine Z0a ?_; refine Z03 (ll := [0, 1]) rfl ?_; refine Z05 rfl rfl rfl rfl ?_; refine Z06 rfl rfl rfl rfl ?_; refine Z04 ?_; refine Z01 ?_; refine Z0a ?_; refine Z1i (fun (g3 : Bool) => Z2c c132 a7 g3 = some v3) (fun (g3 : Bool) => [(1, .slice l1_b l1_n l1_c), (4, .pointer (some ⟨b1, 0, none⟩)), (13, .int .i64 h5), (18, .slice (some ⟨e9, 0, none⟩) ((r3.Arcs.length : Int).toNat) ((r3.Arcs.length : Int).toNat)), (19, .pointer (some ⟨e2, 0, none⟩)), (20, .slice (sb f5) k8 q3), (21, .int .i64 a7), (93, .int .u8 (ways3.tmod 41)), (94, .int .u8 e6), (103, .int .i64 (j5.length : Int)), (104, .int .i64 a7), (118, .bool g3)]) (fun (g3 : Bool) => [(some b1, .cells #[.int .i64 r3.N, .int .i64 r3.S, .int .i64 r3.T, .slice (sb a6) n6 c7] 24 (0, 0)), (a6, .cells (arr Z4t r3.Arcs j8).toArray 35 (0, 0)), (some e9, .cells (arr (intC .i64) a5 ([])).toArray 2 (0, 0)), (some e2, .cells #[.int .i64 a2.N, .int .i64 a2.S, .int .i64 a2.T, .slice (sb d3) o0 c69, .slice (sb d4) o1 c73, .slice (sb d5) o2 o4, .slice (sb d6) o5 o6, .slice (sb d7) o7 c85, .slice (sb d8) o8 c89] 64 (0, 0)), (d3, .cells (arr (intC .i64) a2.First k2).toArray 3 (0, 0)), (d4, .cells (arr (intC .i64) a2.Head k3).toArray 3 (0, 0)), (d5, .cells (arr (intC .i64) a2.Rev k4).toArray 3 (0, 0)), (d6, .cells (arr (intC .i64) a2.Cap k5).toArray 2 (0, 0)), (d7, .cells (arr (intC .i64) a2.Arc k6).toArray 3 (0, 0)), (d8, .cells (arr boolC a2.Back k7).toArray 4 (0, 0)), (f5, .cells (arr (intC .i64) c132 o9).toArray 2 (0, 0))]) ?_ ?_
             ·
              rcases Z0g H with ⟨i7, H⟩ | ⟨i7, H⟩
              · obtain ⟨l9, H⟩ := Z0d H; refine Z03 (ll := [0, 1, 2, 3, 4, 5, 6, 7, 8, 9, 10, 11]) rfl ?_; refine Z05 rfl rfl rfl rfl ?_; refine Z05 rfl rfl rfl rfl ?_; refine Z1n (xs := l1) g7.len rfl rfl rfl rfl rfl Z15 ?_; refine Z0q rfl rfl rfl rfl rfl rfl ?_; refine Z05 rfl rfl rfl rfl ?_; refine Z0v (t := 111) (b' := true) rfl (decide_eq_true i7) ?_; refine Z05 rfl rfl rfl rfl ?_; refine Z05 rfl rfl rfl rfl ?_; refine Z28 g7 l9 rfl rfl rfl rfl rfl Z15 Z1a ?_; refine Z3a g7 l9 rfl rfl rfl rfl Z26 ?_; refine TO.rem rfl rfl rfl rfl rfl (by decide) ?_; refine Z0q rfl rfl rfl rfl rfl rfl ?_; refine Z0y rfl rfl rfl rfl rfl ?_; refine Z04 ?_; exact Z1l (decide (((l1.getD a7.toNat 0).tmod 3) = 0)) H (Z00 rfl (Z00 rfl (Z00 rfl (Z00 rfl (Z00 rfl (Z00 rfl (Z00 rfl (Z00 rfl (Z00 rfl (Z00 rfl (Z00 rfl (Z00 rfl Z08)))))))))))) (Z02 tk0 (Z02 tk0 (Z02 tk0 (Z02 tk0 (Z02 tk0 (Z02 tk0 (Z02 tk0 (Z02 tk0 (Z02 tk0 (Z02 tk0 (Z02 tk0 Z09)))))))))))
              · refine Z03 (ll := [0, 1, 2, 3, 4, 5, 6, 7, 8, 9, 10, 11]) rfl ?_; refine Z05 rfl rfl rfl rfl ?_; refine Z05 rfl rfl rfl rfl ?_; refine Z1n (xs := l1) g7.len rfl rfl rfl rfl rfl Z15 ?_; refine Z0q rfl rfl rfl rfl rfl rfl ?_; refine Z05 rfl rfl rfl rfl ?_; refine Z0v (t := 111) (b' := false) rfl (decide_eq_false i7) ?_; refine Z0c rfl rfl rfl rfl ?_; refine Z0c rfl rfl rfl rfl ?_; refine Z0c rfl rfl rfl rfl ?_; refine Z0c rfl rfl rfl rfl ?_; refine Z0c rfl rfl rfl rfl ?_; refine Z0c rfl rfl rfl rfl ?_; refine Z0z rfl rfl rfl rfl rfl ?_; refine Z04 ?_; exact Z1l false H (Z00 rfl (Z00 rfl (Z00 rfl (Z00 rfl (Z00 rfl (Z00 rfl (Z00 rfl (Z00 rfl (Z00 rfl (Z00 rfl (Z00 rfl (Z00 rfl Z08)))))))))))) (Z02 tk0 (Z02 tk0 (Z02 tk0 (Z02 tk0 (Z02 tk0 (Z02 tk0 (Z02 tk0 (Z02 tk0 (Z02 tk0 (Z02 tk0 (Z02 tk0 Z09)))))))))))
             ·
              rintro g3 H; unfold Z2c at H; rcases Z0g H with ⟨i8, H⟩ | ⟨i8, H⟩
              · refine Z1e rfl i8 ?_; obtain ⟨m0, H⟩ := Z0d H; refine Z03 (ll := [0, 1, 2, 3]) rfl ?_; refine Z05 rfl rfl rfl rfl ?_; refine Z05 rfl rfl rfl rfl ?_; refine Z5n g2 g1 e3 m0 rfl rfl rfl rfl rfl Z15 Z1a ?_; refine Zd3 g2 g1 e3 m0 rfl rfl rfl rfl tk10 Z1a ?_; refine Z04 ?_; refine Z0h ?_; refine Z01 ?_; obtain ⟨q9, H⟩ := Z0d H; refine Z03 (ll := [0, 1]) rfl ?_; refine Z17 q9 rfl rfl rfl rfl rfl ?_; refine Z05 rfl rfl rfl rfl ?_; refine Z04 ?_; have H := Z10 H q8; exact Z2k u9 (c132.set a7.toNat 0) (a7 + 1) ⟨H, (List.length_set.trans e3)⟩ (Nat.lt_succ_self _) (Z00 rfl (Z00 rfl (Z00 rfl (Z00 rfl (Z00 rfl (Z00 rfl (Z00 rfl (Z00 rfl (Z00 rfl (Z00 rfl Z08)))))))))) (Z02 tk1 (Z02 tk1 (Z02 tk1 (Z02 tk1 (Z02 tk1 (Z02 tk1 (Z02 tk1 (Z02 tk1 (Z02 tk1 (Z02 tk1 (Z02 tk0 Z09)))))))))))
              · refine Z1s rfl (Bool.eq_false_iff.2 i8) ?_; refine T.skip ?_; refine Z0h ?_; refine Z01 ?_; obtain ⟨r1, H⟩ := Z0d H; refine Z03 (ll := [0, 1]) rfl ?_; refine Z17 r1 rfl rfl rfl rfl rfl ?_; refine Z05 rfl rfl rfl rfl ?_; refine Z04 ?_; have H := Z10 H q8; exact Z2k u9 c132 (a7 + 1) ⟨H, e3⟩ (Nat.lt_succ_self _) (Z00 rfl (Z00 rfl (Z00 rfl (Z00 rfl (Z00 rfl (Z00 rfl (Z00 rfl (Z00 rfl (Z00 rfl (Z00 rfl Z08)))))))))) (Z02 tk0 (Z02 tk0 (Z02 tk0 (Z02 tk0 (Z02 tk0 (Z02 tk0 (Z02 tk0 (Z02 tk0 (Z02 tk0 (Z02 tk0 (Z02 tk0 Z09)))))))))))
            · refine Z14 rfl i6 ?_; refine T.exit ?_; refine Z0i ?_; have H := Z0t H q8 ▸ x2; refine Z0i ?_; refine Z0u ?_; exact Z1l c132 ⟨H, e3⟩ (Z00 rfl (Z00 rfl (Z00 rfl (Z00 rfl (Z00 rfl (Z00 rfl (Z00 rfl (Z00 rfl Z08)))))))) (Z02 tk0 (Z02 tk0 (Z02 tk0 (Z02 tk0 (Z02 tk0 (Z02 tk0 (Z02 tk0 (Z02 tk0 (Z02 tk0 (Z02 tk0 (Z02 tk0 Z09)))))))))))
           ·
            rintro c143 ⟨H, m1⟩; unfold Z3x at H; refine Z0a ?_; obtain ⟨⟨b9, x3⟩, r2, H⟩ := Z0m H; refine Z03 (ll := [0, 1, 2, 3, 4, 5, 6, 7, 8, 9, 10, 11]) rfl ?_; refine Z0s rfl rfl rfl rfl Z4r mm3 rfl ?_; refine Z05 rfl rfl rfl rfl ?_; refine Z07 rfl rfl rfl rfl Z3i ?_; refine Z0e rfl rfl rfl rfl Z0r mm0 rfl ?_; refine Z07 rfl rfl rfl rfl Z4q ?_; refine Z0e rfl rfl rfl rfl Z0r mm0 rfl ?_; refine Z0p Zg8 rfl rfl rfl rfl (fun wc hwc => Zir (c0 := a2) (res1 := c143) (s2 := r3.S) (t3 := r3.T) wc (hwc.rs (f := (intC .i64)) (s := 1) (xs := a2.First) (j := k2) (fun _ => rfl) mm4 q4 q5 q6) (hwc.rs (f := (intC .i64)) (s := 1) (xs := a2.Head) (j := k3) (fun _ => rfl) mm5 q7 k9 l0) (hwc.rs (f := (intC .i64)) (s := 1) (xs := a2.Rev) (j := k4) (fun _ => rfl) mm6 l3 l4 l5) (hwc.rs (f := (intC .i64)) (s := 1) (xs := a2.Cap) (j := k5) (fun _ => rfl) mm7 l6 l7 l8) (hwc.rs (f := (intC .i64)) (s := 1) (xs := a2.Arc) (j := k6) (fun _ => rfl) mm8 d9 e0 e1) (hwc.rs (f := boolC) (s := 1) (xs := a2.Back) (j := k7) (fun _ => rfl) mm9 f8 f9 g0) (hwc.rs (f := (intC .i64)) (s := 1) (xs := c143) (j := o9) (fun _ => rfl) mm10 m1 g1 g2) r2) ?_; rintro _ _ ⟨h8, r4, r5, r6, rfl, rfl, g4, h9, v4, i1⟩; refine Z05 rfl rfl rfl rfl ?_; refine TO.extract rfl rfl rfl rfl rfl ?_; refine TO.extract rfl rfl rfl rfl rfl ?_; refine Z06 rfl rfl rfl rfl ?_; refine Z06 rfl rfl rfl rfl ?_; refine Z04 ?_; refine Z01 ?_; refine Z0j (Z00 (t := 1) rfl (Z00 (t := 4) rfl (Z00 (t := 13) rfl (Z00 (t := 18) rfl (Z00 (t := 19) rfl (Z00 (t := 93) rfl (Z00 (t := 94) rfl (Z00 (t := 22) rfl (Z00 (t := 23) rfl Z08))))))))) ?_; refine Z0a ?_; refine Z0a ?_; refine Z03 (ll := [0, 1]) rfl ?_; refine Z05 rfl rfl rfl rfl ?_; refine TO.not rfl rfl rfl rfl ?_; refine Z04 ?_; refine Z01 ?_; rcases Z0g H with ⟨i9, H⟩ | ⟨i9, H⟩
            · refine Z1e rfl i9 ?_; refine T.exit ?_; refine Z0i ?_; refine Zgs rfl ?_; refine Z0i ?_; have H := Z0t H q1 ▸ t9; refine Z0i ?_; refine Z0u ?_; exact Z1l a5 ⟨H, g9⟩ (Z00 rfl (Z00 rfl (Z00 rfl Z08))) (Z02 tk1 (Z02 tk1 (Z02 tk1 Z09)))
            ·
             refine Z1s rfl (Bool.eq_false_iff.2 i9) ?_; refine T.skip ?_; refine Z01 ?_; refine Z0a ?_; refine Z03 (ll := [0]) rfl ?_; refine Z06 rfl rfl rfl rfl ?_; refine Z04 ?_; refine Z01 ?_; refine Z0a ?_; refine Z03 (ll := [0, 1, 2]) rfl ?_; refine Z05 rfl rfl rfl rfl ?_; refine Z1n (xs := b9) g4 rfl rfl rfl rfl rfl Z16 ?_; refine Z05 rfl rfl rfl rfl ?_; refine Z04 ?_; refine Z01 ?_; refine T.block ?_; obtain ⟨x4, b8, x5⟩ := Z0m H; refine Z6o (fun (j7 : Nat) (a4 : List Int) (a8 : Int) => Z21 (fun s => Z2b a2 b9 s.1 s.2) j7 (a4, a8) = some x4 ∧ a4.length = (r3.Arcs.length : Int).toNat) (fun (j7 : Nat) (a4 : List Int) (a8 : Int) => [(1, .slice l1_b l1_n l1_c), (4, .pointer (some ⟨b1, 0, none⟩)), (13, .int .i64 h5), (18, .slice (some ⟨e9, 0, none⟩) ((r3.Arcs.length : Int).toNat) ((r3.Arcs.length : Int).toNat)), (19, .pointer (some ⟨e2, 0, none⟩)), (24, .int .i64 1), (93, .int .u8 (ways3.tmod 41)), (94, .int .u8 e6), (135, .slice (sb h8) r4 r5), (136, .int .i64 (b9.length : Int)), (137, .int .i64 a8)]) (fun (j7 : Nat) (a4 : List Int) (a8 : Int) => [(some b1, .cells #[.int .i64 r3.N, .int .i64 r3.S, .int .i64 r3.T, .slice (sb a6) n6 c7] 24 (0, 0)), (a6, .cells (arr Z4t r3.Arcs j8).toArray 35 (0, 0)), (some e9, .cells (arr (intC .i64) a4 ([])).toArray 2 (0, 0)), (some e2, .cells #[.int .i64 a2.N, .int .i64 a2.S, .int .i64 a2.T, .slice (sb d3) o0 c69, .slice (sb d4) o1 c73, .slice (sb d5) o2 o4, .slice (sb d6) o5 o6, .slice (sb d7) o7 c85, .slice (sb d8) o8 c89] 64 (0, 0)), (d3, .cells (arr (intC .i64) a2.First k2).toArray 3 (0, 0)), (d4, .cells (arr (intC .i64) a2.Head k3).toArray 3 (0, 0)), (d5, .cells (arr (intC .i64) a2.Rev k4).toArray 3 (0, 0)), (d6, .cells (arr (intC .i64) a2.Cap k5).toArray 2 (0, 0)), (d7, .cells (arr (intC .i64) a2.Arc k6).toArray 3 (0, 0)), (d8, .cells (arr boolC a2.Back k7).toArray 4 (0, 0)), (h8, .cells (arr (intC .i64) b9 r6).toArray 3 (0, 0))]) (fun (j7 : Nat) (a4 : List Int) (a8 : Int) => j7) Z3k a5 0 ⟨b8, g9⟩ (Z00 rfl (Z00 rfl (Z00 rfl (Z00 rfl (Z00 rfl (Z00 rfl (Z00 rfl (Z00 rfl (Z00 rfl (Z00 rfl (Z00 rfl Z08))))))))))) (Z02 tk1 (Z02 tk1 (Z02 tk1 (Z02 tk1 (Z02 tk1 (Z02 tk1 (Z02 tk1 (Z02 tk1 (Z02 tk1 (Z02 tk1 (Z02 tk0 Z09))))))))))) ?_; rintro j7 a4 a8 ⟨H, b5⟩; obtain ⟨v5, x6, rfl, H, r7⟩ := Z1f H; have H : Z2b a2 b9 a4 a8 = some x6 := H; unfold Z2b at H; refine Z0a ?_; refine Z03 (ll := [0]) rfl ?_; refine Z0q rfl rfl rfl rfl rfl rfl ?_; refine Z04 ?_; refine Z01 ?_; refine Z0a ?_; rcases Z0g H with ⟨j0, H⟩ | ⟨j0, H⟩
             ·
              refine Z13 rfl j0 ?_; refine T.skip ?_; refine Z01 ?_; refine Z0a ?_; refine T.block ?_; refine Z0a ?_; obtain ⟨m2, H⟩ := Z0d H; refine Z03 (ll := [0, 1, 2]) rfl ?_; refine Z5n i1 h9 g4 m2 rfl rfl rfl rfl rfl Z16 Z1m ?_; refine Z7i i1 h9 g4 m2 rfl rfl rfl rfl Z0r mm10 ?_; refine Z06 rfl rfl rfl rfl ?_; refine Z04 ?_; refine Z01 ?_; refine Z0a ?_; obtain ⟨m3, H⟩ := Z0d H; refine Z03 (ll := [0, 1, 2, 3, 4]) rfl ?_; refine Z07 rfl rfl rfl rfl Z4o ?_; refine Z0e rfl rfl rfl rfl Z89 mm3 rfl ?_; refine Z05 rfl rfl rfl rfl ?_; refine Z5n g0 f9 f8 m3 rfl rfl rfl rfl rfl Z32 Z2l ?_; refine Zmr g0 f9 f8 m3 rfl rfl rfl rfl Zd8 mm9 ?_; refine Z04 ?_; refine Z01 ?_; rcases Z0g H with ⟨j1, H⟩ | ⟨j1, H⟩
              · refine Z1e rfl j1 ?_; obtain ⟨m4, H⟩ := Z0d H; obtain ⟨m5, H⟩ := Z0d H; obtain ⟨r8, H⟩ := Z0d H; obtain ⟨m6, H⟩ := Z0d H; refine Z03 (ll := [0, 1, 2, 3, 4, 5, 6, 7, 8, 9, 10, 11]) rfl ?_; refine Z05 rfl rfl rfl rfl ?_; refine Z07 rfl rfl rfl rfl Z1z ?_; refine Z0e rfl rfl rfl rfl Z1b mm3 rfl ?_; refine Z05 rfl rfl rfl rfl ?_; refine Z5n e1 e0 d9 m4 rfl rfl rfl rfl rfl Z16 Z1m ?_; refine Z7i e1 e0 d9 m4 rfl rfl rfl rfl Z0r mm8 ?_; refine Z6y b5 m5 rfl rfl rfl rfl rfl Z15 Z1a ?_; refine Zc0 m5 rfl rfl rfl rfl Z26 mm2 ?_; refine Z05 rfl rfl rfl rfl ?_; refine Zbg r8 rfl rfl rfl rfl rfl ?_; refine Z6y b5 m6 rfl rfl rfl rfl rfl Z15 Z1a ?_; refine Z8y m6 rfl rfl rfl rfl tk2 Z1a ?_; refine Z04 ?_; refine Z0h ?_; refine Z01 ?_; refine Z0j (Z00 (t := 1) rfl (Z00 (t := 4) rfl (Z00 (t := 13) rfl (Z00 (t := 18) rfl (Z00 (t := 19) rfl (Z00 (t := 24) rfl (Z00 (t := 93) rfl (Z00 (t := 94) rfl (Z00 (t := 135) rfl (Z00 (t := 136) rfl (Z00 (t := 137) rfl Z08))))))))))) ?_; obtain ⟨r9, H⟩ := Z0d H; refine Z03 (ll := [0, 1]) rfl ?_; refine Z17 r9 rfl rfl rfl rfl rfl ?_; refine Z05 rfl rfl rfl rfl ?_; refine Z04 ?_; have H := Z10 H r7; exact Z2k v5 (a4.set (a2.Arc.getD (b9.getD a8.toNat 0).toNat 0).toNat ((a4.getD (a2.Arc.getD (b9.getD a8.toNat 0).toNat 0).toNat 0) - 1)) (a8 + 1) ⟨H, (List.length_set.trans b5)⟩ (Nat.lt_succ_self _) (Z00 rfl (Z00 rfl (Z00 rfl (Z00 rfl (Z00 rfl (Z00 rfl (Z00 rfl (Z00 rfl (Z00 rfl (Z00 rfl (Z00 rfl Z08))))))))))) (Z02 tk1 (Z02 tk1 (Z02 tk0 (Z02 tk0 (Z02 tk0 (Z02 tk0 (Z02 tk0 (Z02 tk0 (Z02 tk0 (Z02 tk0 (Z02 tk0 Z09)))))))))))
              · refine Z1s rfl (Bool.eq_false_iff.2 j1) ?_; obtain ⟨m7, H⟩ := Z0d H; obtain ⟨m8, H⟩ := Z0d H; obtain ⟨s5, H⟩ := Z0d H; obtain ⟨m9, H⟩ := Z0d H; refine Z03 (ll := [0, 1, 2, 3, 4, 5, 6, 7, 8, 9, 10, 11]) rfl ?_; refine Z05 rfl rfl rfl rfl ?_; refine Z07 rfl rfl rfl rfl Z1z ?_; refine Z0e rfl rfl rfl rfl Z1b mm3 rfl ?_; refine Z05 rfl rfl rfl rfl ?_; refine Z5n e1 e0 d9 m7 rfl rfl rfl rfl rfl Z16 Z1m ?_; refine Z7i e1 e0 d9 m7 rfl rfl rfl rfl Z0r mm8 ?_; refine Z6y b5 m8 rfl rfl rfl rfl rfl Z15 Z1a ?_; refine Zc0 m8 rfl rfl rfl rfl Z26 mm2 ?_; refine Z05 rfl rfl rfl rfl ?_; refine Z17 s5 rfl rfl rfl rfl rfl ?_; refine Z6y b5 m9 rfl rfl rfl rfl rfl Z15 Z1a ?_; refine Z8y m9 rfl rfl rfl rfl tk2 Z1a ?_; refine Z04 ?_; refine Z0h ?_; refine Z01 ?_; refine Z0j (Z00 (t := 1) rfl (Z00 (t := 4) rfl (Z00 (t := 13) rfl (Z00 (t := 18) rfl (Z00 (t := 19) rfl (Z00 (t := 24) rfl (Z00 (t := 93) rfl (Z00 (t := 94) rfl (Z00 (t := 135) rfl (Z00 (t := 136) rfl (Z00 (t := 137) rfl Z08))))))))))) ?_; obtain ⟨s6, H⟩ := Z0d H; refine Z03 (ll := [0, 1]) rfl ?_; refine Z17 s6 rfl rfl rfl rfl rfl ?_; refine Z05 rfl rfl rfl rfl ?_; refine Z04 ?_; have H := Z10 H r7; exact Z2k v5 (a4.set (a2.Arc.getD (b9.getD a8.toNat 0).toNat 0).toNat ((a4.getD (a2.Arc.getD (b9.getD a8.toNat 0).toNat 0).toNat 0) + 1)) (a8 + 1) ⟨H, (List.length_set.trans b5)⟩ (Nat.lt_succ_self _) (Z00 rfl (Z00 rfl (Z00 rfl (Z00 rfl (Z00 rfl (Z00 rfl (Z00 rfl (Z00 rfl (Z00 rfl (Z00 rfl (Z00 rfl Z08))))))))))) (Z02 tk1 (Z02 tk1 (Z02 tk0 (Z02 tk0 (Z02 tk0 (Z02 tk0 (Z02 tk0 (Z02 tk0 (Z02 tk0 (Z02 tk0 (Z02 tk0 Z09)))))))))))
             · refine Z14 rfl j0 ?_; refine T.exit ?_; refine Z0i ?_; have H := Z0t H r7 ▸ x5; refine Z0i ?_; refine Z0u ?_; refine Z0h ?_; exact Z1l a4 ⟨H, b5⟩ (Z00 rfl (Z00 rfl (Z00 rfl (Z00 rfl (Z00 rfl (Z00 rfl Z08)))))) (Z02 tk0 (Z02 tk0 (Z02 tk0 Z09)))
          · rintro b0 ⟨H, n5⟩; unfold Z3w at H; obtain ⟨s7, H⟩ := Z0d H; refine Z03 (ll := [0, 1]) rfl ?_; refine Zik (Zns s7) rfl rfl rfl rfl rfl ?_; refine Z05 rfl rfl rfl rfl ?_; refine Z04 ?_; have H := Z10 H q1; exact Z2k w6 b0 (e6 + 1) ⟨H, n5⟩ (Nat.lt_succ_self _) (Z00 rfl (Z00 rfl (Z00 rfl (Z00 rfl (Z00 rfl (Z00 rfl Z08)))))) (Z02 tk0 (Z02 tk0 (Z02 tk0 Z09)))
         · refine Z14 rfl q2 ?_; refine T.exit ?_; refine Z0i ?_; have H := Z0t H q1 ▸ t9; refine Z0i ?_; refine Z0u ?_; exact Z1l a5 ⟨H, g9⟩ (Z00 rfl (Z00 rfl (Z00 rfl Z08))) (Z02 tk0 (Z02 tk0 (Z02 tk0 Z09)))
        ·
         rintro a9 ⟨H, n7⟩; unfold Z2x at H; refine Z0a ?_; obtain ⟨⟨x7, x8⟩, s8, H⟩ := Z0m H; refine Z03 (ll := [0, 1, 2, 3, 4, 5, 6, 7]) rfl ?_; refine Z0s rfl rfl rfl rfl Z1d mm0 rfl ?_; refine Z05 rfl rfl rfl rfl ?_; refine Z0p Zgc rfl rfl rfl rfl (fun wc hwc => Zkn (n0 := r3) (f1 := a9) wc (hwc.rs (f := Z4t) (s := 3) (xs := r3.Arcs) (j := j8) (fun _ => rfl) mm1 h1 f0 f2) (hwc.rs (f := (intC .i64)) (s := 1) (xs := a9) (j := ([])) (fun _ => rfl) mm2 n7 (Nat.le_refl _) Z1j) s8) ?_; rintro _ _ ⟨rfl, rfl⟩; refine Z05 rfl rfl rfl rfl ?_; refine TO.extract rfl rfl rfl rfl rfl ?_; refine TO.extract rfl rfl rfl rfl rfl ?_; refine Z06 rfl rfl rfl rfl ?_; refine Z06 rfl rfl rfl rfl ?_; refine Z04 ?_; refine Z01 ?_; refine Z0j (Z00 (t := 13) rfl (Z00 (t := 27) rfl (Z00 (t := 28) rfl Z08))) ?_; refine Z0a ?_; rcases Z0g H with ⟨h0, H⟩ | ⟨h0, H⟩
         ·
          rcases Z0g H with ⟨j2, H⟩ | ⟨j2, H⟩
          · obtain ⟨x9, s9, H⟩ := Z0m H; refine Z03 (ll := [0, 1, 2, 3, 4, 5, 6, 7, 8, 9, 10]) rfl ?_; refine Z05 rfl rfl rfl rfl ?_; refine Z0q rfl rfl rfl rfl rfl rfl ?_; refine Z05 rfl rfl rfl rfl ?_; refine Z0v (t := 178) (b' := true) rfl (decide_eq_true h0) ?_; refine Z05 rfl rfl rfl rfl ?_; refine Z05 rfl rfl rfl rfl ?_; refine Z0q rfl rfl rfl rfl rfl rfl ?_; refine Z0y rfl rfl rfl rfl rfl ?_; refine Z05 rfl rfl rfl rfl ?_; refine Z0v (t := 183) (b' := true) rfl (decide_eq_true j2) ?_; refine Z0p Zge rfl rfl rfl rfl (fun wc hwc => Zei  wc  s9) ?_; rintro _ _ ⟨rfl, rfl⟩; refine Z0y rfl rfl rfl rfl rfl ?_; refine Z06 rfl rfl rfl rfl ?_; refine Z04 ?_; refine Z01 ?_; refine Z0j (Z00 (t := 8) rfl Z08) ?_; refine T.ret ?_; obtain rfl := ret1 H; exact Z12 rfl rfl rfl rfl (Res.tmp rfl) Z09 ⟨rfl, rfl⟩
          · refine Z03 (ll := [0, 1, 2, 3, 4, 5, 6, 7, 8, 9, 10]) rfl ?_; refine Z05 rfl rfl rfl rfl ?_; refine Z0q rfl rfl rfl rfl rfl rfl ?_; refine Z05 rfl rfl rfl rfl ?_; refine Z0v (t := 178) (b' := true) rfl (decide_eq_true h0) ?_; refine Z05 rfl rfl rfl rfl ?_; refine Z05 rfl rfl rfl rfl ?_; refine Z0q rfl rfl rfl rfl rfl rfl ?_; refine Z0y rfl rfl rfl rfl rfl ?_; refine Z05 rfl rfl rfl rfl ?_; refine Z0v (t := 183) (b' := false) rfl (decide_eq_false j2) ?_; refine Z0c rfl rfl rfl rfl ?_; refine Z0z rfl rfl rfl rfl rfl ?_; refine Z06 rfl rfl rfl rfl ?_; refine Z04 ?_; refine Z01 ?_; refine Z0j (Z00 (t := 8) rfl Z08) ?_; refine T.ret ?_; obtain rfl := ret1 H; exact Z12 rfl rfl rfl rfl (Res.tmp rfl) Z09 ⟨rfl, rfl⟩
         · refine Z03 (ll := [0, 1, 2, 3, 4, 5, 6, 7, 8, 9, 10]) rfl ?_; refine Z05 rfl rfl rfl rfl ?_; refine Z0q rfl rfl rfl rfl rfl rfl ?_; refine Z05 rfl rfl rfl rfl ?_; refine Z0v (t := 178) (b' := false) rfl (decide_eq_false h0) ?_; refine Z0c rfl rfl rfl rfl ?_; refine Z0c rfl rfl rfl rfl ?_; refine Z0c rfl rfl rfl rfl ?_; refine Z0z rfl rfl rfl rfl rfl ?_; refine Z05 rfl rfl rfl rfl ?_; refine Z0c rfl rfl rfl rfl ?_; refine Z0z rfl rfl rfl rfl rfl ?_; refine Z06 rfl rfl rfl rfl ?_; refine Z04 ?_; refine Z01 ?_; refine Z0j (Z00 (t := 8) rfl Z08) ?_; refine T.ret ?_; obtain rfl := ret1 H; exact Z12 rfl rfl rfl rfl (Res.tmp rfl) Z09 ⟨rfl, rfl⟩
end Go.Proofs.Ytfdhelnfgfaeaaa.Ax
namespace Go.Acq
open Go
def hit (a : Arc) (v : Nat) : Nat := if a.fr = a.to then 0 else if a.fr = v ∨ a.to = v then 1 else 0
def cnt (al : List Arc) (v : Nat) : Nat → Nat
  | 0 => 0
  | k + 1 => cnt al v k + hit (al.getD k default) v
def Z11 (al : List Arc) : Nat → Nat
  | 0 => 0
  | v + 1 => Z11 al v + cnt al v al.length
def vtx (a : Arc) (s : Bool) : Int := if s then a.to else a.fr
def pos (al : List Arc) (i : Nat) (s : Bool) : Nat := Z11 al (vtx (al.getD i default) s).toNat + cnt al (vtx (al.getD i default) s).toNat i
def Z52 (n : Nat) (al : List Arc) : Prop := ∀ i, i < al.length → ∀ s, 0 ≤ vtx (al.getD i default) s ∧ vtx (al.getD i default) s < n
theorem Ze4 {α : Type} (xs : List α) (i j : Nat) (v d : α) : (xs.set i v).getD j d = if i = j ∧ i < xs.length then v else xs.getD j d := by
 rw [List.getD_eq_getElem?_getD, List.getD_eq_getElem?_getD, List.getElem?_set]
 split
 ·
  rename_i h; subst h
  split
  · rename_i h2; simp [h2]
  · rename_i h2; simp [h2]
 · rename_i h; simp [h]
theorem Zby {α : Type} {xs : List α} {i j : Nat} {v d : α} (h : i ≠ j) : (xs.set i v).getD j d = xs.getD j d := by
 rw [Ze4, if_neg (fun e => h e.1)]
theorem Zhv {α : Type} {xs : List α} {i : Nat} {v d : α} (h : i < xs.length) : (xs.set i v).getD i d = v := by
 rw [Ze4, if_pos ⟨rfl, h⟩]
theorem Z3f {α : Type} (n j : Nat) (v : α) : (List.replicate n v).getD j v = v := by
 rw [List.getD_eq_getElem?_getD, List.getElem?_replicate]; split <;> simp
theorem Zr1 (a : Arc) (v : Nat) : hit a v ≤ 1 := by unfold hit; split; omega; split <;> omega
theorem Znb {al : List Arc} {v i j : Nat} (h : i ≤ j) : cnt al v i ≤ cnt al v j := by
 induction h with
 | refl => exact Nat.le_refl _
 | step _ ih => exact Nat.le_trans ih (Nat.le_add_right _ _)
theorem Znc (al : List Arc) (v k : Nat) : cnt al v k ≤ k := by
 induction k with
 | zero => exact Nat.le_refl _
 | succ k ih => have := Zr1 (al.getD k default) v; simp only [cnt]; omega
theorem Z57 {al : List Arc} {u v : Nat} (h : u ≤ v) : Z11 al u ≤ Z11 al v := by
 induction h with
 | refl => exact Nat.le_refl _
 | step _ ih => exact Nat.le_trans ih (Nat.le_add_right _ _)
theorem Zr9 (al : List Arc) (v : Nat) : Z11 al v ≤ v * al.length := by
 induction v with
 | zero => exact Nat.zero_le _
 | succ v ih => have := Znc al v al.length; simp only [Z11, Nat.succ_mul]; omega
theorem hit_vtx {a : Arc} {s : Bool} (h : a.fr ≠ a.to) (h0 : 0 ≤ vtx a s) : hit a (vtx a s).toNat = 1 := by
 unfold hit; rw [if_neg h, if_pos]
 cases s
 · left; simp only [vtx] at h0 ⊢; simp only [Bool.false_eq_true, if_false] at h0 ⊢; omega
 · right; simp only [vtx] at h0 ⊢; simp only [if_true] at h0 ⊢; omega
theorem Zgr {al : List Arc} {i j : Nat} {s : Bool} (hij : i < j) (h : (al.getD i default).fr ≠ (al.getD i default).to) (h0 : 0 ≤ vtx (al.getD i default) s) :
    cnt al (vtx (al.getD i default) s).toNat i < cnt al (vtx (al.getD i default) s).toNat j := by
  have h1 := Znb (al := al) (v := (vtx (al.getD i default) s).toNat) (i := i + 1) (j := j) hij
  have h2 := hit_vtx h h0
  simp only [cnt] at h1
  omega
theorem Zdi {al : List Arc} {n i : Nat} {s : Bool} (hi : i < al.length) (h : (al.getD i default).fr ≠ (al.getD i default).to) (he : Z52 n al) : pos al i s < Z11 al n := by
 have h1 := Zgr (s := s) hi h (he i hi s).1
 have h2 := Z57 (al := al) (u := (vtx (al.getD i default) s).toNat + 1) (v := n) (by have := he i hi s; omega)
 simp only [Z11] at h2
 unfold pos; omega
theorem Z8r {al : List Arc} {n i j : Nat} {s t : Bool} (he : Z52 n al) (hi : i < al.length) (hj : j < al.length) (h : (al.getD i default).fr ≠ (al.getD i default).to) (g : (al.getD j default).fr ≠ (al.getD j default).to)
    (e : pos al i s = pos al j t) : i = j ∧ s = t := by
  have hi1 := Zgr (s := s) hi h (he i hi s).1
  have hj1 := Zgr (s := t) hj g (he j hj t).1
  have hv : (vtx (al.getD i default) s).toNat = (vtx (al.getD j default) t).toNat := by
    rcases Nat.lt_trichotomy (vtx (al.getD i default) s).toNat (vtx (al.getD j default) t).toNat with h1 | h1 | h1
    · have := Z57 (al := al) (u := (vtx (al.getD i default) s).toNat + 1) h1
      simp only [Z11] at this
      unfold pos at e; omega
    · exact h1
    · have := Z57 (al := al) (u := (vtx (al.getD j default) t).toNat + 1) h1
      simp only [Z11] at this
      unfold pos at e; omega
  have hij : i = j := by
    rcases Nat.lt_trichotomy i j with h1 | h1 | h1
    · have h2 := Zgr (s := s) h1 h (he i hi s).1
      unfold pos at e; rw [hv] at e h2; omega
    · exact h1
    · have h2 := Zgr (s := t) h1 g (he j hj t).1
      unfold pos at e; rw [hv] at e; omega
  refine ⟨hij, ?_⟩
  subst hij
  have h1 := (he i hi s).1
  have h2 := (he i hi t).1
  cases s <;> cases t <;> first | rfl | (simp only [vtx, Bool.false_eq_true, if_false, if_true] at hv h1 h2; omega)
theorem Znd {al : List Arc} {v r : Nat} : ∀ {k : Nat}, r < cnt al v k → ∃ i, i < k ∧ cnt al v i = r ∧ hit (al.getD i default) v = 1
 | 0, h => by simp [cnt] at h
 | k + 1, h => by
  by_cases h1 : r < cnt al v k
  · obtain ⟨i, h2, h3⟩ := Znd h1; exact ⟨i, by omega, h3⟩
  ·
   have := Zr1 (al.getD k default) v
   simp only [cnt] at h
   exact ⟨k, by omega, by omega, by omega⟩
theorem Zi0 {al : List Arc} {p : Nat} : ∀ {n : Nat}, p < Z11 al n → ∃ v, v < n ∧ Z11 al v ≤ p ∧ p < Z11 al (v + 1)
 | 0, h => by simp [Z11] at h
 | n + 1, h => by
  by_cases h1 : p < Z11 al n
  · obtain ⟨v, h2, h3⟩ := Zi0 h1; exact ⟨v, by omega, h3⟩
  · exact ⟨n, by omega, by omega, h⟩
theorem Zhf {al : List Arc} {n p : Nat} (h : p < Z11 al n) : ∃ i s, i < al.length ∧ (al.getD i default).fr ≠ (al.getD i default).to ∧ pos al i s = p ∧ 0 ≤ vtx (al.getD i default) s ∧ vtx (al.getD i default) s < n ∧
    Z11 al (vtx (al.getD i default) s).toNat ≤ p ∧ p < Z11 al ((vtx (al.getD i default) s).toNat + 1) := by
  obtain ⟨v, hv, h1, h2⟩ := Zi0 h
  simp only [Z11] at h2
  obtain ⟨i, hi, h3, h4⟩ := Znd (al := al) (v := v) (r := p - Z11 al v) (k := al.length) (by omega)
  unfold hit at h4
  split at h4
  · omega
  · rename_i hne
    split at h4
    · rename_i ho
      rcases ho with ho | ho
      · refine ⟨i, false, hi, hne, ?_, ?_, ?_, ?_, ?_⟩ <;> simp only [pos, vtx, Bool.false_eq_true, if_false, ho, Int.toNat_natCast, Z11] <;> omega
      · refine ⟨i, true, hi, hne, ?_, ?_, ?_, ?_, ?_⟩ <;> simp only [pos, vtx, if_true, ho, Int.toNat_natCast, Z11] <;> omega
    · omega
def CsrAt (al : List Arc) (hs rs cs aa : List Int) (bs : List Bool) (k : Nat) : Prop :=
  ∀ i, i < k → (al.getD i default).fr ≠ (al.getD i default).to → ∀ s,
    hs.getD (pos al i s) 0 = vtx (al.getD i default) (!s) ∧ rs.getD (pos al i s) 0 = pos al i (!s) ∧ cs.getD (pos al i s) 0 = (if s then 0 else (al.getD i default).cap) ∧
    aa.getD (pos al i s) 0 = i ∧ bs.getD (pos al i s) false = s
structure CsrOK (al : List Arc) (n : Nat) (fs hs rs cs aa : List Int) (bs : List Bool) : Prop where
  lf : fs.length = n + 1
  lh : hs.length = Z11 al n
  lr : rs.length = Z11 al n
  lc : cs.length = Z11 al n
  la : aa.length = Z11 al n
  lb : bs.length = Z11 al n
  hf : ∀ v, v ≤ n → fs.getD v 0 = Z11 al v
  hat : CsrAt al hs rs cs aa bs al.length
theorem CsrAt.skip {al : List Arc} {hs rs cs aa : List Int} {bs : List Bool} {k : Nat} (h : CsrAt al hs rs cs aa bs k) (e : (al.getD k default).fr = (al.getD k default).to) : CsrAt al hs rs cs aa bs (k + 1) := by
 intro i hi hne s
 rcases Nat.lt_succ_iff_lt_or_eq.1 hi with h1 | h1
 · exact h i h1 hne s
 · subst h1; exact absurd e hne
theorem set2 {α : Type} {xs : List α} {p q j : Nat} {u v d : α} (hp : p < xs.length) (hq : q < xs.length) (hpq : p ≠ q) :
    ((xs.set p u).set q v).getD j d = if j = p then u else if j = q then v else xs.getD j d := by
  rw [Ze4, Ze4]
  by_cases h1 : j = p
  · subst h1; rw [if_pos rfl, if_neg (fun e => hpq e.1.symm), if_pos ⟨rfl, hp⟩]
  · rw [if_neg h1]
    by_cases h2 : j = q
    · subst h2; rw [if_pos rfl, if_pos ⟨rfl, by simpa using hq⟩]
    · rw [if_neg h2, if_neg (fun e => h2 e.1.symm), if_neg (fun e => h1 e.1.symm)]
theorem CsrAt.put {al : List Arc} {n : Nat} {hs rs cs aa : List Int} {bs : List Bool} {k : Nat} (h : CsrAt al hs rs cs aa bs k) (he : Z52 n al) (hk : k < al.length) (hne : (al.getD k default).fr ≠ (al.getD k default).to)
    (lh : hs.length = Z11 al n) (lr : rs.length = Z11 al n) (lc : cs.length = Z11 al n) (la : aa.length = Z11 al n) (lb : bs.length = Z11 al n) :
    CsrAt al ((hs.set (pos al k false) (al.getD k default).to).set (pos al k true) (al.getD k default).fr) ((rs.set (pos al k false) (pos al k true)).set (pos al k true) (pos al k false))
      ((cs.set (pos al k false) (al.getD k default).cap).set (pos al k true) 0) ((aa.set (pos al k false) k).set (pos al k true) k) ((bs.set (pos al k false) false).set (pos al k true) true) (k + 1) := by
  have hp : pos al k false < Z11 al n := Zdi hk hne he
  have hq : pos al k true < Z11 al n := Zdi hk hne he
  have hpq : pos al k false ≠ pos al k true := fun e => by have := (Z8r he hk hk hne hne e).2; cases this
  intro i hi hni s
  have hil : i < al.length := by omega
  rw [set2 (by omega) (by omega) hpq, set2 (by omega) (by omega) hpq, set2 (by omega) (by omega) hpq, set2 (by omega) (by omega) hpq, set2 (by omega) (by omega) hpq]
  by_cases hik : i = k
  · subst hik
    cases s
    · simp [vtx]
    · simp [vtx, hpq.symm]
  · have h1 : pos al i s ≠ pos al k false := fun e => hik (Z8r he hil hk hni hne e).1
    have h2 : pos al i s ≠ pos al k true := fun e => hik (Z8r he hil hk hni hne e).1
    simp only [if_neg h1, if_neg h2]
    exact h i (by omega) hni s
def Counted (al : List Arc) (m k : Nat) (fs : List Int) : Prop := fs.length = m + 1 ∧ fs.getD 0 0 = 0 ∧ ∀ v : Int, 0 ≤ v → v < m → fs.getD (v + 1).toNat 0 = cnt al v.toNat k
def Summed (al : List Arc) (m k : Nat) (fs : List Int) : Prop := fs.length = m + 1 ∧ (∀ u, u ≤ k → fs.getD u 0 = Z11 al u) ∧ ∀ u, k ≤ u → u < m → fs.getD (u + 1) 0 = cnt al u al.length
theorem Z7u {al : List Arc} {v : Nat} (hv : v ≤ 4096) (hl : al.length ≤ 16384) : Z11 al v ≤ 67108864 :=
 Nat.le_trans (Zr9 al v) (Nat.mul_le_mul hv hl)
theorem Counted.start (al : List Arc) (m : Nat) {p : Nat} (h : p = m + 1) : Counted al m 0 (List.replicate p 0) :=
 ⟨by simp [h], Z3f _ _ _, fun v _ _ => by rw [Z3f]; rfl⟩
theorem Counted.skip {al : List Arc} {m k : Nat} {fs : List Int} (h : Counted al m k fs) (e : (al.getD k default).fr = (al.getD k default).to) : Counted al m (k + 1) fs :=
 ⟨h.1, h.2.1, fun v h0 h1 => by rw [h.2.2 v h0 h1]; simp only [cnt, hit, if_pos e, Nat.add_zero]⟩
theorem Counted.put {al : List Arc} {m k : Nat} {fs : List Int} (h : Counted al m k fs) (he : Z52 m al) (hk : k < al.length) (hne : (al.getD k default).fr ≠ (al.getD k default).to) :
    Counted al m (k + 1) ((fs.set ((al.getD k default).fr + 1).toNat (fs.getD ((al.getD k default).fr + 1).toNat 0 + 1)).set ((al.getD k default).to + 1).toNat
      ((fs.set ((al.getD k default).fr + 1).toNat (fs.getD ((al.getD k default).fr + 1).toNat 0 + 1)).getD ((al.getD k default).to + 1).toNat 0 + 1)) := by
  have e0 := he k hk false
  have e1 := he k hk true
  simp only [vtx, Bool.false_eq_true, if_false, if_true] at e0 e1
  obtain ⟨hl, hz, hv⟩ := h
  refine ⟨by simpa using hl, ?_, ?_⟩
  · rw [Zby (by omega), Zby (by omega)]; exact hz
  · intro v h0 h1
    have hvv := hv v h0 h1
    rw [Zby (i := ((al.getD k default).fr + 1).toNat) (j := ((al.getD k default).to + 1).toNat) (by omega), set2 (by omega) (by omega) (by omega)]
    simp only [cnt, hit, if_neg hne]
    by_cases a1 : v = (al.getD k default).fr
    · rw [if_pos (by omega), if_pos (by omega), ← a1, hvv]; omega
    · rw [if_neg (by omega)]
      by_cases a2 : v = (al.getD k default).to
      · rw [if_pos (by omega), if_pos (by omega), ← a2, hvv]; omega
      · rw [if_neg (by omega), if_neg (by omega), hvv]; omega
theorem Counted.summed {al : List Arc} {m : Nat} {fs : List Int} (h : Counted al m al.length fs) : Summed al m 0 fs :=
 ⟨h.1, fun u hu => by rw [Nat.le_zero.1 hu]; exact h.2.1, fun u _ hu => by have := h.2.2 u (by omega) (by omega); rw [show ((u : Int) + 1).toNat = u + 1 by omega] at this; simpa using this⟩
theorem Summed.put {al : List Arc} {m k : Nat} {fs : List Int} (h : Summed al m k fs) (hk : k < m) {i : Nat} (hi : i = k + 1) : Summed al m (k + 1) (fs.set i (fs.getD i 0 + fs.getD k 0)) := by
 subst hi
 obtain ⟨hl, h1, h2⟩ := h
 refine ⟨by simpa using hl, fun u hu => ?_, fun u h3 h4 => ?_⟩
 ·
  by_cases e : u = k + 1
  · subst e; rw [Zhv (by omega), h1 k (Nat.le_refl _), h2 k (Nat.le_refl _) hk]; simp [Z11]; omega
  · rw [Zby (by omega)]; exact h1 u (by omega)
 · rw [Zby (by omega)]; exact h2 u (by omega) h4
theorem Z1t {N S T : Int} {al : List Arc} (h : Z7t N S T al = 0) : (2 ≤ N ∧ N ≤ 4096) ∧ (al.length : Int) ≤ 16384 ∧ (Z3q N S = true ∧ Z3q N T = true ∧ S ≠ T) ∧ al.all (Zfz N) = true ∧ al.all Zr7 = true ∧ (Zkl 4611686018427387904 al).isSome = true := by
 unfold Z7t at h
 split at h
 · omega
 ·
  rename_i h1
  split at h
  · omega
  ·
   rename_i h2
   split at h
   · omega
   ·
    rename_i h3
    split at h
    · omega
    ·
     rename_i h4
     split at h
     · omega
     ·
      rename_i h5
      split at h
      · omega
      ·
       rename_i h6
       refine ⟨Classical.not_not.1 h1, Classical.not_not.1 h2, Classical.not_not.1 h3, by simpa using h4, by simpa using h5, ?_⟩
       cases e : Zkl 4611686018427387904 al <;> simp_all
theorem Z7f {m : Nat} {al : List Arc} (h : al.all (Zfz (m : Int)) = true) : Z52 m al := by
 intro i hi s
 have h1 := List.all_eq_true.1 h _ (Za2 hi default)
 simp only [Zfz, Z3q, Bool.and_eq_true, decide_eq_true_eq] at h1
 cases s
 · simp only [vtx, Bool.false_eq_true, if_false]; exact h1.1
 · simp only [vtx, if_true]; exact h1.2
def MakeAt (al : List Arc) (m k : Nat) (nx hs rs cs aa : List Int) (bs : List Bool) : Prop :=
  (nx.length = m + 1 ∧ hs.length = Z11 al m ∧ rs.length = Z11 al m ∧ cs.length = Z11 al m ∧ aa.length = Z11 al m ∧ bs.length = Z11 al m) ∧
  CsrAt al hs rs cs aa bs k ∧ ∀ v : Int, 0 ≤ v → v < m → nx.getD v.toNat 0 = Z11 al v.toNat + cnt al v.toNat k
theorem MakeAt.start {al : List Arc} {m : Nat} {fs : List Int} (hl : fs.length = m + 1) (hf : ∀ u, u ≤ m → fs.getD u 0 = Z11 al u) :
    MakeAt al m 0 fs (List.replicate (Z11 al m) 0) (List.replicate (Z11 al m) 0) (List.replicate (Z11 al m) 0) (List.replicate (Z11 al m) 0) (List.replicate (Z11 al m) false) := by
  refine ⟨⟨hl, by simp, by simp, by simp, by simp, by simp⟩, fun i hi => by omega, fun v h0 h1 => ?_⟩
  rw [hf _ (by omega)]; simp [cnt]
theorem MakeAt.skip {al : List Arc} {m k : Nat} {nx hs rs cs aa : List Int} {bs : List Bool} (h : MakeAt al m k nx hs rs cs aa bs) (e : (al.getD k default).fr = (al.getD k default).to) : MakeAt al m (k + 1) nx hs rs cs aa bs :=
 ⟨h.1, h.2.1.skip e, fun v h0 h1 => by rw [h.2.2 v h0 h1]; simp only [cnt, hit, if_pos e, Nat.add_zero]⟩
theorem MakeAt.at {al : List Arc} {m k : Nat} {nx hs rs cs aa : List Int} {bs : List Bool} (h : MakeAt al m k nx hs rs cs aa bs) (he : Z52 m al) (hk : k < al.length) (s : Bool) : nx.getD (vtx (al.getD k default) s).toNat 0 = (pos al k s : Nat) := by
 rw [h.2.2 _ (he k hk s).1 (he k hk s).2]; simp only [pos]; omega
theorem MakeAt.put {al : List Arc} {m k : Nat} {nx hs rs cs aa : List Int} {bs : List Bool} (h : MakeAt al m k nx hs rs cs aa bs) (he : Z52 m al) (hk : k < al.length) (hne : (al.getD k default).fr ≠ (al.getD k default).to) :
    MakeAt al m (k + 1) ((nx.set (al.getD k default).fr.toNat ((pos al k false : Nat) + 1)).set (al.getD k default).to.toNat ((pos al k true : Nat) + 1))
      ((hs.set (pos al k false) (al.getD k default).to).set (pos al k true) (al.getD k default).fr) ((rs.set (pos al k false) (pos al k true)).set (pos al k true) (pos al k false))
      ((cs.set (pos al k false) (al.getD k default).cap).set (pos al k true) 0) ((aa.set (pos al k false) k).set (pos al k true) k) ((bs.set (pos al k false) false).set (pos al k true) true) := by
  have g0 := h.at he hk false
  have g1 := h.at he hk true
  obtain ⟨⟨l0, l1, l2, l3, l4, l5⟩, hA, hv⟩ := h
  have e0 := he k hk false
  have e1 := he k hk true
  simp only [vtx, Bool.false_eq_true, if_false, if_true] at e0 e1 g0 g1
  refine ⟨⟨by simpa using l0, by simpa using l1, by simpa using l2, by simpa using l3, by simpa using l4, by simpa using l5⟩, hA.put he hk hne l1 l2 l3 l4 l5, fun v h0 h1 => ?_⟩
  have hvv := hv v h0 h1
  rw [set2 (by omega) (by omega) (by omega)]
  simp only [cnt, hit, if_neg hne]
  by_cases a1 : v = (al.getD k default).fr
  · rw [if_pos (by omega), if_pos (by omega), ← g0, ← a1, hvv]; omega
  · rw [if_neg (by omega)]
    by_cases a2 : v = (al.getD k default).to
    · rw [if_pos (by omega), if_pos (by omega), ← g1, ← a2, hvv]; omega
    · rw [if_neg (by omega), if_neg (by omega), hvv]; omega
theorem MakeAt.done {al : List Arc} {m : Nat} {fs nx hs rs cs aa : List Int} {bs : List Bool} (h : MakeAt al m al.length nx hs rs cs aa bs) (hl : fs.length = m + 1) (hf : ∀ u, u ≤ m → fs.getD u 0 = Z11 al u) : CsrOK al m fs hs rs cs aa bs :=
 ⟨hl, h.1.2.1, h.1.2.2.1, h.1.2.2.2.1, h.1.2.2.2.2.1, h.1.2.2.2.2.2, hf, h.2.1⟩
end Go.Acq
namespace Go.Acq
open Go
theorem next_ne {S m : Int} (h0 : 0 ≤ S) (h1 : S < m) (h2 : 2 ≤ m) : 0 ≤ (S + 1).tmod m ∧ (S + 1).tmod m < m ∧ (S + 1).tmod m ≠ S := by
 rw [Int.tmod_eq_emod_of_nonneg (by omega)]
 refine ⟨Int.emod_nonneg _ (by omega), Int.emod_lt_of_pos _ (by omega), ?_⟩
 by_cases h : S + 1 < m
 · rw [Int.emod_eq_of_lt (by omega) h]; omega
 · rw [show S + 1 = m by omega, Int.emod_self]; omega
theorem Znx {x n : Int} (h : 0 ≤ x) (hn : 0 < n) : 0 ≤ x.tmod n ∧ x.tmod n < n := by
 rw [Int.tmod_eq_emod_of_nonneg h]
 exact ⟨Int.emod_nonneg _ (by omega), Int.emod_lt_of_pos _ hn⟩
def SomeAt (m : Nat) (ol : List Arc) : Prop := ∀ a, a ∈ ol → Zfz m a = true ∧ 0 ≤ a.cap ∧ a.cap < 1125899906842624
theorem SomeAt.put {m : Nat} {ol : List Arc} {a : Arc} (h : SomeAt m ol) (h1 : 0 ≤ a.fr ∧ a.fr < m) (h2 : 0 ≤ a.to ∧ a.to < m) (h3 : 0 ≤ a.cap ∧ a.cap < 1125899906842624) : SomeAt m (ol ++ [a]) := by
 intro b hb
 rcases List.mem_append.1 hb with hb | hb
 · exact h b hb
 ·
  simp only [List.mem_singleton] at hb
  subst hb
  exact ⟨by simp [Zfz, Z3q, h1, h2], h3⟩
theorem Zqk {m : Nat} {ol : List Arc} {left : Int} (h : SomeAt m ol) (hl : (ol.length : Int) * 1125899906842624 ≤ left) : (Zkl left ol).isSome = true := by
 induction ol generalizing left with
 | nil => simp [Zkl]
 | cons a ol ih =>
  have ha := (h a (.head _)).2
  simp only [List.length_cons] at hl
  have h2 : (0 : Int) ≤ (ol.length : Int) * 1125899906842624 := by omega
  simp only [Zkl]
  rw [if_neg (by omega)]
  exact ih (fun b hb => h b (.tail _ hb)) (by omega)
theorem Zny {m : Nat} {S T : Int} {ol : List Arc} (hm : 2 ≤ m) (hm2 : m ≤ 4096) (hS : 0 ≤ S ∧ S < m) (hT : 0 ≤ T ∧ T < m) (hST : T ≠ S) (h : SomeAt m ol) (hl : ol.length ≤ 4096) : Z7t m S T ol = 0 := by
 have h1 : ol.all (Zfz m) = true := List.all_eq_true.2 fun a ha => (h a ha).1
 have h2 : ol.all Zr7 = true := List.all_eq_true.2 fun a ha => by simp [Zr7, (h a ha).2.1]
 have h3 : (Zkl 4611686018427387904 ol).isSome = true := Zqk h (by omega)
 unfold Z7t
 rw [if_neg (by omega), if_neg (by omega), if_neg (by simp [Z3q, hS, hT, Ne.symm hST]), if_neg (by simp [h1]), if_neg (by simp [h2]), if_neg (by
  cases e : Zkl 4611686018427387904 ol with
  | none => rw [e] at h3; cases h3
  | some x => simp)]
def WithinAt (al : List Arc) (n k : Nat) (fl : List Int) : Prop := fl.length = n ∧
  (∀ i, i < k → 0 ≤ fl.getD i 0 ∧ fl.getD i 0 ≤ (al.getD i default).cap ∧ ((al.getD i default).fr = (al.getD i default).to → fl.getD i 0 = 0)) ∧ ∀ i, k ≤ i → fl.getD i 0 = 0
theorem WithinAt.start (al : List Arc) (n : Nat) : WithinAt al n 0 (List.replicate n 0) := ⟨by simp, fun i h => by omega, fun i _ => Z3f _ _ _⟩
theorem WithinAt.skip {al : List Arc} {n k : Nat} {fl : List Int} (h : WithinAt al n k fl) (hc : 0 ≤ (al.getD k default).cap) : WithinAt al n (k + 1) fl := by
 refine ⟨h.1, fun i hi => ?_, fun i hi => h.2.2 i (by omega)⟩
 rcases Nat.lt_succ_iff_lt_or_eq.1 hi with h1 | h1
 · exact h.2.1 i h1
 · subst h1; have := h.2.2 i (Nat.le_refl _); rw [this]; exact ⟨Int.le_refl _, hc, fun _ => rfl⟩
theorem WithinAt.put {al : List Arc} {n k : Nat} {fl : List Int} {v : Int} (h : WithinAt al n k fl) (hk : k < n) (h0 : 0 ≤ v) (h1 : v ≤ (al.getD k default).cap) (hne : (al.getD k default).fr ≠ (al.getD k default).to) : WithinAt al n (k + 1) (fl.set k v) := by
 refine ⟨by simpa using h.1, fun i hi => ?_, fun i hi => by rw [Zby (by omega)]; exact h.2.2 i (by omega)⟩
 by_cases e : i = k
 · subst e; rw [Zhv (by rw [h.1]; exact hk)]; exact ⟨h0, h1, fun e => absurd e hne⟩
 · rw [Zby (by omega)]; exact h.2.1 i (by omega)
def Zio (aa cs : List Int) (bs : List Bool) (fl : List Int) (j : Nat) : Prop := aa.getD j 0 < fl.length ∧ (bs.getD j false = true ∨ (0 ≤ fl.getD (aa.getD j 0).toNat 0 ∧ fl.getD (aa.getD j 0).toNat 0 ≤ cs.getD j 0))
def Zqs (aa cs : List Int) (bs : List Bool) (fl : List Int) (j : Nat) : Int := if bs.getD j false = true then fl.getD (aa.getD j 0).toNat 0 else cs.getD j 0 - fl.getD (aa.getD j 0).toNat 0
def ResAt (aa cs : List Int) (bs : List Bool) (fl : List Int) (L k : Nat) (rl : List Int) : Prop := rl.length = L ∧ ∀ j, j < k → Zio aa cs bs fl j ∧ rl.getD j 0 = Zqs aa cs bs fl j
theorem ResAt.put {aa cs : List Int} {bs : List Bool} {fl : List Int} {L k : Nat} {rl : List Int} {v : Int} (h : ResAt aa cs bs fl L k rl) (hk : k < L) (h1 : Zio aa cs bs fl k) (h2 : v = Zqs aa cs bs fl k) : ResAt aa cs bs fl L (k + 1) (rl.set k v) := by
 refine ⟨by simpa using h.1, fun j hj => ?_⟩
 by_cases e : j = k
 · subst e; rw [Zhv (by rw [h.1]; exact hk)]; exact ⟨h1, h2⟩
 · rw [Zby (by omega)]; exact h.2 j (by omega)
end Go.Acq
namespace Go.Acq
open Go
theorem CsrOK.place {al : List Arc} {m : Nat} {fs hs rs cs aa : List Int} {bs : List Bool} (h : CsrOK al m fs hs rs cs aa bs) {j : Nat} (hj : j < Z11 al m) :
    ∃ i s, i < al.length ∧ (al.getD i default).fr ≠ (al.getD i default).to ∧ pos al i s = j ∧ hs.getD j 0 = vtx (al.getD i default) (!s) ∧ rs.getD j 0 = pos al i (!s) ∧ cs.getD j 0 = (if s then 0 else (al.getD i default).cap) ∧ aa.getD j 0 = i ∧ bs.getD j false = s := by
  obtain ⟨i, s, hi, hne, hp, _⟩ := Zhf hj
  have := h.hat i hi hne s
  rw [hp] at this
  exact ⟨i, s, hi, hne, hp, this⟩
theorem CsrOK.aa0 {al : List Arc} {m : Nat} {fs hs rs cs aa : List Int} {bs : List Bool} (h : CsrOK al m fs hs rs cs aa bs) : ∀ j, j < Z11 al m → 0 ≤ aa.getD j 0 := by
 intro j hj
 obtain ⟨i, s, _, _, _, _, _, _, h4, _⟩ := h.place hj
 omega
end Go.Acq
namespace Go.Acq
open Go
theorem Zl6 {α : Type} {m : Option α} {v : α} (h : Ok m (fun a => a = v)) : m = some v := by obtain ⟨a, h1, h2⟩ := h; rw [h1, h2]
theorem Zcr {α : Type} {m : Option α} {v : α} {Q : α → Prop} (h : m = some v) (q : Q v) : Ok m Q := ⟨v, h, q⟩
abbrev lenok (n : Nat) : Prop := n ≤ 9223372036854775807
theorem Zhn {x n : Int} (h1 : n ≤ 4611686018427387904) : Z2n x n = some (Zi2 x n) := by
 unfold Z2n Zi2
 by_cases h : n < 1
 · rw [if_pos h, if_pos h]
 ·
  have a1 := Int.tmod_lt_of_pos x (show 0 < n by omega)
  have a2 := Zhs x (show 0 < n by omega)
  rw [if_neg h, if_neg h, Zaj (by omega), Zaj (by constructor <;> omega), Zaj (by omega)]
theorem Zhe (n : Net) (v : Int) : Z6x n v = some (Z3q n.N v) := by
 unfold Z6x Z3q
 by_cases h : 0 ≤ v <;> simp [h]
theorem s_rules4 (n : Net) (a : Arc) : Z9c n a = some (Zfz n.N a) := by
 unfold Z9c Zfz
 rw [Zhe, Zhe]
 simp only [Option.bind_some]
 cases Z3q n.N a.fr <;> simp
theorem s_of4 (n : Net) (h : lenok n.Arcs.length) : Z6c n = some (n.Arcs.all (Zfz n.N)) := by
 refine Zl6 ?_
 unfold Z6c Z23 Z2a
 refine Ok.bind.2 (Ok.bind.2 (Ok.bind.2 (Zkj (fun x => 0 ≤ x ∧ x ≤ n.Arcs.length ∧ ∀ i, i < x.toNat → Zfz n.N (n.Arcs.getD i default) = true) (fun x => (n.Arcs.length - x).toNat) ⟨by omega, by omega, fun i hi => by omega⟩ (by unfold Z3k; omega) ?_)))
 rintro x ⟨h0, h1, h2⟩
 unfold Z1q Z6m
 refine Ok.ite.2 ⟨fun hx => ?_, fun hx => ?_⟩
 ·
  refine Ok.gd.2 ⟨(by omega), Ok.bind.2 (Ok.bind.2 (Zcr (s_rules4 _ _) (Ok.some.2 (Ok.ite.2 ⟨fun hb => ?_, fun hb => ?_⟩))))⟩
  ·
   refine Ok.some.2 (Ok.some.2 (Ok.some.2 (Ok.some.2 ?_)))
   simp only [h0, decide_true, Bool.not_true]
   refine Eq.symm (Bool.eq_false_iff.2 fun hall => ?_)
   have := List.all_eq_true.1 hall _ (Za2 (show x.toNat < n.Arcs.length by omega) default)
   rw [this] at hb; cases hb
  ·
   refine Ok.gd.2 ⟨(by omega), Ok.some.2 ⟨⟨by omega, by omega, fun i hi => ?_⟩, by omega⟩⟩
   rcases Nat.lt_or_ge i x.toNat with h3 | h3
   · exact h2 i h3
   · rw [show i = x.toNat by omega]; simpa using hb
 ·
  refine Ok.some.2 (Ok.some.2 (Ok.some.2 (Ok.some.2 ?_)))
  refine Eq.symm (List.all_eq_true.2 fun a ha => ?_)
  obtain ⟨i, hi, rfl⟩ := List.getElem_of_mem ha
  have := h2 i (by omega)
  rwa [List.getD_eq_getElem?_getD, List.getElem?_eq_getElem hi] at this
theorem s_of5 (n : Net) (h : lenok n.Arcs.length) : Z6b n = some (n.Arcs.all Zr7) := by
 refine Zl6 ?_
 unfold Z6b Z22 Z29
 refine Ok.bind.2 (Ok.bind.2 (Ok.bind.2 (Zkj (fun x => 0 ≤ x ∧ x ≤ n.Arcs.length ∧ ∀ i, i < x.toNat → Zr7 (n.Arcs.getD i default) = true) (fun x => (n.Arcs.length - x).toNat) ⟨by omega, by omega, fun i hi => by omega⟩ (by unfold Z3k; omega) ?_)))
 rintro x ⟨h0, h1, h2⟩
 unfold Z1p Z6l Zam
 refine Ok.ite.2 ⟨fun hx => ?_, fun hx => ?_⟩
 ·
  refine Ok.gd.2 ⟨(by omega), Ok.bind.2 (Ok.bind.2 (Ok.some.2 (Ok.some.2 (Ok.ite.2 ⟨fun hb => ?_, fun hb => ?_⟩))))⟩
  ·
   refine Ok.some.2 (Ok.some.2 (Ok.some.2 (Ok.some.2 ?_)))
   simp only [h0, decide_true, Bool.not_true]
   refine Eq.symm (Bool.eq_false_iff.2 fun hall => ?_)
   have := List.all_eq_true.1 hall _ (Za2 (show x.toNat < n.Arcs.length by omega) default)
   simp only [Zr7] at this
   rw [this] at hb; cases hb
  ·
   refine Ok.gd.2 ⟨(by omega), Ok.some.2 ⟨⟨by omega, by omega, fun i hi => ?_⟩, by omega⟩⟩
   rcases Nat.lt_or_ge i x.toNat with h3 | h3
   · exact h2 i h3
   · rw [show i = x.toNat by omega]; simpa [Zr7] using hb
 ·
  refine Ok.some.2 (Ok.some.2 (Ok.some.2 (Ok.some.2 ?_)))
  refine Eq.symm (List.all_eq_true.2 fun a ha => ?_)
  obtain ⟨i, hi, rfl⟩ := List.getElem_of_mem ha
  have := h2 i (by omega)
  rwa [List.getD_eq_getElem?_getD, List.getElem?_eq_getElem hi] at this
theorem s_Sum (n : Net) (h : lenok n.Arcs.length) : Zdl n = some (match Zkl 4611686018427387904 n.Arcs with | some l => (4611686018427387904 - l, true) | none => (0, false)) := by
 refine Zl6 ?_
 unfold Zdl
 refine Ok.bind.2 (Zkj (fun s => 0 ≤ s.2 ∧ s.2 ≤ n.Arcs.length ∧ 0 ≤ s.1 ∧ s.1 ≤ 4611686018427387904 ∧ Zkl 4611686018427387904 n.Arcs = Zkl s.1 (n.Arcs.drop s.2.toNat)) (fun s => (n.Arcs.length - s.2).toNat) ⟨by simp, by simp, by simp, by simp, by simp⟩ (by unfold Z3k; simp; omega) ?_)
 rintro ⟨left, x⟩ ⟨h0, h1, h2, h3, h4⟩
 simp only at h0 h1 h2 h3 h4 ⊢
 unfold Za4 Za5
 refine Ok.ite.2 ⟨fun hx => ?_, fun hx => ?_⟩
 ·
  rw [Zkx (by omega)] at h4
  refine Ok.gd.2 ⟨(by omega), Ok.ite.2 ⟨fun hb => ?_, fun hb => ?_⟩⟩
  ·
   rw [if_pos rfl]
   refine Ok.some.2 (Ok.some.2 ?_)
   rw [h4, if_pos (.inl hb)]
  ·
   by_cases hc : left < (n.Arcs.getD x.toNat default).cap
   ·
    rw [if_pos (decide_eq_true hc)]
    refine Ok.some.2 (Ok.some.2 ?_)
    rw [h4, if_pos (.inr hc)]
   ·
    rw [if_neg (by simpa using hc)]
    refine Ok.gd.2 ⟨(by omega), Ok.gd.2 ⟨(by omega), Ok.some.2 ⟨⟨by simp only; omega, by simp only; omega, by simp only; omega, by simp only; omega, ?_⟩, by simp only; omega⟩⟩⟩
    rw [h4, if_neg (by omega)]
    simp only
    rw [show (x + 1).toNat = x.toNat + 1 by omega]
 ·
  unfold Zbp
  refine Ok.some.2 (Ok.gd.2 ⟨(by omega), Ok.some.2 ?_⟩)
  rw [h4, List.drop_eq_nil_of_le (by omega)]
  rfl
theorem Zjy (n : Net) (h : lenok n.Arcs.length) : Z7p n = some (Z7t n.N n.S n.T n.Arcs) := by
 unfold Z7p Zcs Z8k Z8j Zap Zao Zan Zal Za0
 rw [Zhe, Zhe, s_of4 n h, s_of5 n h, s_Sum n h]
 unfold Z7t
 simp only [Option.bind_some]
 by_cases h1 : 2 ≤ n.N ∧ n.N ≤ 4096
 ·
  rw [if_pos h1.1, if_neg (not_not_intro h1)]
  simp only [Option.bind_some, decide_eq_true h1.2, Bool.not_true, Bool.false_eq_true, if_false]
  by_cases h2 : (n.Arcs.length : Int) ≤ 16384
  ·
   rw [if_neg (by simp [h2]), if_neg (not_not_intro h2)]
   by_cases h3 : Z3q n.N n.S = true ∧ Z3q n.N n.T = true ∧ n.S ≠ n.T
   ·
    rw [if_pos h3.1, if_pos h3.2.1, if_neg (not_not_intro h3)]
    simp only [Option.bind_some, decide_eq_true h3.2.2, Bool.not_true, Bool.false_eq_true, if_false]
    cases h4 : n.Arcs.all (Zfz n.N)
    · simp
    ·
     cases h5 : n.Arcs.all Zr7
     · simp
     · cases h6 : Zkl 4611686018427387904 n.Arcs <;> simp
   ·
    rw [if_pos h3]
    by_cases a1 : Z3q n.N n.S = true
    ·
     by_cases a2 : Z3q n.N n.T = true
     ·
      have a3 : ¬ n.S ≠ n.T := fun e => h3 ⟨a1, a2, e⟩
      simp [a1, a2, a3]
     · simp [a1, a2]
    · simp [a1]
  · rw [if_pos (by simp [h2]), if_pos h2]
 ·
  rw [if_pos h1]
  by_cases a1 : 2 ≤ n.N
  ·
   have a2 : ¬ n.N ≤ 4096 := fun e => h1 ⟨a1, e⟩
   simp [a1, a2]
  · simp [a1]
end Go.Acq
namespace Go.Acq
open Go
set_option linter.unusedSimpArgs false
structure NetIn (n : Net) : Prop where
  nN : i64ok n.N
  nS : i64ok n.S
  nT : i64ok n.T
  arcs : ∀ a, a ∈ n.Arcs → i64ok a.fr ∧ i64ok a.to ∧ i64ok a.cap
  len : n.Arcs.length ≤ 9223372036854775807
structure RowIn (l : List Int) : Prop where
  row : ∀ x, x ∈ l → i64ok x
  len : l.length ≤ 9223372036854775807
structure Made (n : Net) (v a : Int) : Prop where
  check : Z7t n.N n.S n.T n.Arcs = 0
  rows : SomeAt n.N.toNat n.Arcs
  verts : n.N ≤ v
  arcs : (n.Arcs.length : Int) ≤ a
  ends : 2 ≤ n.N ∧ 0 ≤ n.S ∧ n.S < n.N ∧ 0 ≤ n.T ∧ n.T < n.N ∧ n.S ≠ n.T
theorem Made.nat {n : Net} {v a : Int} (h : Made n v a) : ∃ m : Nat, n.N = m ∧ SomeAt m n.Arcs := ⟨n.N.toNat, by have := h.ends.1; omega, h.rows⟩
theorem Made.caps {n : Net} {m : Nat} (h : SomeAt m n.Arcs) : ∀ i, i < n.Arcs.length → 0 ≤ (n.Arcs.getD i default).cap ∧ (n.Arcs.getD i default).cap < 1125899906842624 := fun _ hi => (h _ (Za2 hi default)).2
theorem s_Some {n : Net} {v a : Int} (h : NetIn n) (hv0 : 2 ≤ v) (hv1 : v ≤ 4096) (ha0 : 0 ≤ a) (ha1 : a ≤ 4096) : Ok (Z6s n v a) (fun r => Made r v a) := by
 have hN := Zb8 (x := n.N) (n := v - 1) (by omega)
 unfold Z6s
 refine Ok.gd.2 ⟨(by omega), Ok.bind.2 (Zcr (Zhn (by omega)) (Ok.gd.2 ⟨(by omega), ?_⟩))⟩
 obtain ⟨m, hm⟩ : ∃ m : Nat, 2 + Zi2 n.N (v - 1) = m := ⟨(2 + Zi2 n.N (v - 1)).toNat, by omega⟩
 rw [hm]
 have hS := Zb8 (x := n.S) (n := (m : Int)) (by omega)
 have hT := Zb8 (x := n.T) (n := (m : Int)) (by omega)
 refine Ok.bind.2 (Zcr (Zhn (by omega)) (Ok.bind.2 (Zcr (Zhn (by omega)) ?_)))
 have key : ∀ t : Int, 0 ≤ t → t < m → t ≠ Zi2 n.S m → Ok (Z44 n a (Zi2 n.N (v - 1)) (Zi2 n.S m) t) (fun r => Made r v a) := by
  intro t t0 t1 t2
  unfold Z44
  refine Ok.gd.2 ⟨(by omega), Ok.bind.2 ?_⟩
  obtain ⟨q, hq⟩ : ∃ q : Nat, min (n.Arcs.length : Int) a = q := ⟨(min (n.Arcs.length : Int) a).toNat, by omega⟩
  obtain ⟨al, hal⟩ : ∃ l, l = n.Arcs.take (q : Int).toNat := ⟨_, rfl⟩
  have hlen : al.length = q := by rw [hal, List.length_take]; omega
  have hcap : ∀ b, b ∈ al → i64ok b.cap := fun b hb => (h.arcs b (List.mem_of_mem_take (by rw [← hal]; exact hb))).2.2
  refine Z7g (fun s => ∃ k : Nat, s.2 = k ∧ k ≤ q ∧ s.1.length = k ∧ SomeAt m s.1) (fun s => (q - s.2).toNat) ⟨0, rfl, by omega, rfl, fun b hb => by cases hb⟩ (by unfold Z3k; simp only; omega) ?_
  rintro ⟨ol, x⟩ ⟨k, h1, h2, h3, h4⟩ P next exit
  simp only at h1 h2 h3 h4 next ⊢
  subst h1
  unfold Z5c
  rw [hq, ← hal]
  simp only [Int.toNat_natCast]
  refine Ok.ite.2 ⟨fun hx => ?_, fun hx => ?_⟩
  ·
   have hkl : k < al.length := by omega
   have hc := hcap _ (Za2 hkl default)
   have hj : ∀ c : Int, 0 ≤ c → Ok (Z43 n a (Zi2 n.N (v - 1)) ol k c) P := by
    intro c hc0
    unfold Z43
    rw [hq, ← hal, hm]
    refine Ok.bind.2 (Zcr (Zhn (by omega)) (Ok.bind.2 (Zcr (Zhn (by omega)) (Ok.gd.2 ⟨?_, Ok.gd.2 ⟨(by omega), Ok.some.2 (next _ ⟨k + 1, by simp, by omega, by simp [h3], ?_⟩ (by simp only; omega))⟩⟩))))
    · rw [List.length_append, h3]; simp only [List.length_cons, List.length_nil]; constructor <;> omega
    · exact h4.put (Zb8 (by omega)) (Zb8 (by omega)) (Znx hc0 (by omega))
   refine Ok.gd.2 ⟨(by omega), Ok.ite.2 ⟨fun hn => ?_, fun hn => ?_⟩⟩
   · exact Ok.gd.2 ⟨by constructor <;> omega, Ok.gd.2 ⟨by constructor <;> omega, hj (-((al.getD k default).cap + 1)) (by omega)⟩⟩
   · exact hj (al.getD k default).cap (by omega)
  ·
   refine Ok.some.2 (exit _ ?_)
   unfold Z6n
   refine Ok.some.2 ?_
   rw [hm]
   exact ⟨Zny (by omega) (by omega) hS ⟨t0, t1⟩ t2 h4 (show ol.length ≤ 4096 by omega), by simpa using h4, by simp only; omega, by show (ol.length : Int) ≤ a; omega, ⟨by simp only; omega, hS.1, hS.2, t0, t1, fun e => t2 e.symm⟩⟩
 refine Ok.ite.2 ⟨fun he => ?_, fun he => ?_⟩
 ·
  refine Ok.gd.2 ⟨(by omega), Ok.gd.2 ⟨by omega, ?_⟩⟩
  obtain ⟨n1, n2, n3⟩ := next_ne hS.1 hS.2 (by omega)
  exact key _ n1 n2 n3
 · exact key _ hT.1 hT.2 (fun e => he e.symm)
theorem Zqn {n : Net} {m : Nat} (hN : n.N = m) (hm : m ≤ 4096) (hl : n.Arcs.length ≤ 16384) (he : Z52 m n.Arcs) :
    Ok (Z9f n) (fun fs => fs.length = m + 1 ∧ ∀ u, u ≤ m → fs.getD u 0 = Z11 n.Arcs u) := by
  unfold Z9f
  simp only [hN]
  refine Ok.gd.2 ⟨(by omega), Ok.gd.2 ⟨(by omega), Ok.bind.2 (Z7g (fun s => ∃ k : Nat, s.2 = k ∧ k ≤ n.Arcs.length ∧ Counted n.Arcs m k s.1) (fun s => (n.Arcs.length - s.2).toNat) ⟨0, rfl, by omega, Counted.start n.Arcs m (by omega)⟩ (by unfold Z3k; simp only; omega) ?_)⟩⟩
  rintro ⟨fs, x⟩ ⟨k, h1, h2, h3⟩ P next exit
  simp only at h1 h2 h3 next ⊢
  subst h1
  unfold Z7e
  simp only [Int.toNat_natCast]
  refine Ok.ite.2 ⟨fun hx => ?_, fun hx => ?_⟩
  · have hkl : k < n.Arcs.length := by omega
    have hfl := h3.1
    have e0 := he k hkl false
    have e1 := he k hkl true
    simp only [vtx, Bool.false_eq_true, if_false, if_true] at e0 e1
    have c0 := h3.2.2 _ e0.1 e0.2
    have c1 := h3.2.2 _ e1.1 e1.2
    have d0 := Znc n.Arcs (n.Arcs.getD k default).fr.toNat k
    have d1 := Znc n.Arcs (n.Arcs.getD k default).to.toNat k
    refine Ok.gd.2 ⟨(by omega), Ok.ite.2 ⟨fun hne => ?_, fun hne => ?_⟩⟩
    · have c2 : (fs.set ((n.Arcs.getD k default).fr + 1).toNat (fs.getD ((n.Arcs.getD k default).fr + 1).toNat 0 + 1)).getD ((n.Arcs.getD k default).to + 1).toNat 0 = cnt n.Arcs (n.Arcs.getD k default).to.toNat k := by rw [Zby (by omega)]; exact c1
      refine Ok.gd.2 ⟨(by omega), Ok.gd.2 ⟨(by omega), Ok.gd.2 ⟨(by omega), Ok.gd.2 ⟨(by omega), Ok.gd.2 ⟨(by omega), Ok.gd.2 ⟨(by simp only [List.length_set, List.length_replicate]; omega), Ok.gd.2 ⟨(by omega), Ok.gd.2 ⟨(by simp only [List.length_set, List.length_replicate]; omega), Ok.gd.2 ⟨(by omega), Ok.some.2 (next _ ⟨k + 1, by simp, by omega, ?_⟩ (by simp only; omega))⟩⟩⟩⟩⟩⟩⟩⟩⟩
      exact h3.put he hkl hne
    · refine Ok.gd.2 ⟨(by omega), Ok.some.2 (next _ ⟨k + 1, by simp, by omega, h3.skip (Classical.not_not.1 hne)⟩ (by simp only; omega))⟩
  · refine Ok.some.2 (exit _ ?_)
    have hk : k = n.Arcs.length := by omega
    subst hk
    unfold Z8p
    refine Ok.bind.2 (Z7g (fun s => ∃ v : Nat, s.2 = v ∧ v ≤ m ∧ Summed n.Arcs m v s.1) (fun s => (m - s.2).toNat) ⟨0, rfl, by omega, h3.summed⟩ (by unfold Z3k; simp only; omega) ?_)
    rintro ⟨gs, y⟩ ⟨v, g1, g2, g3⟩ P2 next2 exit2
    simp only at g1 g2 g3 next2 ⊢
    subst g1
    unfold Z7d
    simp only [hN, Int.toNat_natCast]
    have hgl := g3.1
    have b0 := g3.2.1 v (Nat.le_refl _)
    refine Ok.ite.2 ⟨fun hv => ?_, fun hv => ?_⟩
    · have b1 := g3.2.2 v (Nat.le_refl _) (by omega)
      have b2 := Z7u (al := n.Arcs) (v := v) (by omega) hl
      have b3 := Znc n.Arcs v n.Arcs.length
      have b5 : ((v : Int) + 1).toNat = v + 1 := by omega
      simp only [b5]
      refine Ok.gd.2 ⟨(by omega), Ok.gd.2 ⟨(by omega), Ok.gd.2 ⟨(by omega), Ok.gd.2 ⟨(by omega), Ok.gd.2 ⟨(by omega), Ok.gd.2 ⟨(by omega), Ok.some.2 (next2 _ ⟨v + 1, by simp, by omega, ?_⟩ (by simp only; omega))⟩⟩⟩⟩⟩⟩
      exact g3.put (by omega) rfl
    · refine Ok.some.2 (exit2 _ ?_)
      unfold Z8o
      have : v = m := by omega
      subst this
      exact Ok.some.2 ⟨hgl, g3.2.1⟩
structure CsrIs (n : Net) (m : Nat) (c : Csr) : Prop where
  hN : c.N = m
  hS : c.S = n.S
  hT : c.T = n.T
  ok : CsrOK n.Arcs m c.First c.Head c.Rev c.Cap c.Arc c.Back
theorem Zmw {n : Net} {m : Nat} (hN : n.N = m) (hc : Z7t n.N n.S n.T n.Arcs = 0) (hl : lenok n.Arcs.length) :
    Ok (Z92 n) (fun r => CsrIs n m r.1 ∧ r.2 = 0) := by
  have hz := Z1t hc
  have hm : m ≤ 4096 := by omega
  have he : Z52 m n.Arcs := Z7f (by rw [← hN]; exact hz.2.2.2.1)
  unfold Z92
  refine Ok.bind.2 (Zcr (Zjy n hl) (Ok.ite.2 ⟨fun h => absurd hc h, fun _ => Ok.bind.2 (Ok.mono (Zqn hN hm (by omega) he) ?_)⟩))
  rintro fs ⟨hfl, hfs⟩
  simp only [hN, Int.toNat_natCast, hfs m (Nat.le_refl _)]
  have hbs := Z7u (al := n.Arcs) (v := m) hm (by omega)
  unfold Z7k
  refine Ok.gd.2 ⟨(by omega), Ok.gd.2 ⟨(by omega), Ok.gd.2 ⟨(by omega), Ok.gd.2 ⟨(by omega), Ok.gd.2 ⟨(by omega), Ok.gd.2 ⟨(by omega), Ok.bind.2 (Ok.gd.2 ⟨(by omega), Ok.some.2 (Ok.bind.2 ?_)⟩)⟩⟩⟩⟩⟩⟩
  refine Z7g (fun s => ∃ k : Nat, s.2.2.2.2.2.2 = k ∧ k ≤ n.Arcs.length ∧ MakeAt n.Arcs m k s.2.2.2.2.2.1 s.1 s.2.1 s.2.2.1 s.2.2.2.1 s.2.2.2.2.1) (fun s => (n.Arcs.length - s.2.2.2.2.2.2).toNat) ⟨0, rfl, by omega, MakeAt.start hfl hfs⟩ (by unfold Z3k; simp only; omega) ?_
  rintro ⟨hs, rs, cs, aa, bs, nx, x⟩ ⟨k, h1, h2, h3⟩ P next exit
  simp only at h1 h2 h3 next ⊢
  subst h1
  unfold Z9g
  simp only [Int.toNat_natCast]
  refine Ok.ite.2 ⟨fun hx => ?_, fun hx => ?_⟩
  · have hkl : k < n.Arcs.length := by omega
    refine Ok.gd.2 ⟨(by omega), Ok.ite.2 ⟨fun heq => ?_, fun hne => ?_⟩⟩
    · exact Ok.gd.2 ⟨(by omega), Ok.some.2 (next _ ⟨k + 1, by simp, by omega, h3.skip heq⟩ (by simp only; omega))⟩
    · have e0 := he k hkl false
      have e1 := he k hkl true
      have n0 := h3.at he hkl false
      have n1 := h3.at he hkl true
      have p0 : pos n.Arcs k false < Z11 n.Arcs m := Zdi hkl hne he
      have p1 : pos n.Arcs k true < Z11 n.Arcs m := Zdi hkl hne he
      simp only [vtx, Bool.false_eq_true, if_false, if_true] at e0 e1 n0 n1
      have hh := h3
      obtain ⟨⟨l0, l1, l2, l3, l4, l5⟩, _, _⟩ := h3
      unfold Zaa
      simp only [n0, Int.toNat_natCast]
      have n2 : (nx.set (n.Arcs.getD k default).fr.toNat ((pos n.Arcs k false : Int) + 1)).getD (n.Arcs.getD k default).to.toNat 0 = (pos n.Arcs k true : Nat) := by rw [Zby (by omega)]; exact n1
      refine Ok.bind.2 (Ok.gd.2 ⟨(by omega), Ok.gd.2 ⟨(by omega), Ok.gd.2 ⟨(by omega), Ok.gd.2 ⟨(by omega), Ok.gd.2 ⟨(by omega), Ok.gd.2 ⟨(by omega), Ok.gd.2 ⟨(by omega), Ok.gd.2 ⟨(by omega), Ok.some.2 (Ok.bind.2 ?_)⟩⟩⟩⟩⟩⟩⟩⟩)
      simp only [n2, Int.toNat_natCast]
      refine Ok.gd.2 ⟨(by simp only [List.length_set, List.length_replicate]; omega), Ok.gd.2 ⟨(by simp only [List.length_set, List.length_replicate]; omega), Ok.gd.2 ⟨(by omega), Ok.gd.2 ⟨(by simp only [List.length_set, List.length_replicate]; omega), Ok.gd.2 ⟨(by simp only [List.length_set, List.length_replicate]; omega), Ok.gd.2 ⟨(by simp only [List.length_set, List.length_replicate]; omega), Ok.gd.2 ⟨(by simp only [List.length_set, List.length_replicate]; omega), Ok.gd.2 ⟨(by simp only [List.length_set, List.length_replicate]; omega), Ok.some.2 (Ok.gd.2 ⟨(by omega), Ok.gd.2 ⟨(by simp only [List.length_set, List.length_replicate]; omega), Ok.gd.2 ⟨(by omega), Ok.some.2 (next _ ⟨k + 1, by simp, by omega, ?_⟩ (by simp only; omega))⟩⟩⟩)⟩⟩⟩⟩⟩⟩⟩⟩
      exact hh.put he hkl hne
  · refine Ok.some.2 (exit _ ?_)
    unfold Zar
    have hk : k = n.Arcs.length := by omega
    subst hk
    exact Ok.some.2 ⟨⟨hN, rfl, rfl, h3.done hfl hfs⟩, rfl⟩
theorem s_Res {c : Csr} {f : List Int} {L : Nat} (hh : c.Head.length = L) (hc : c.Cap.length = L) (ha : c.Arc.length = L) (hb : c.Back.length = L) (hL : L ≤ 67108864)
    (h0 : ∀ j, j < L → 0 ≤ c.Arc.getD j 0) (h1 : ∀ j, j < L → 0 ≤ c.Cap.getD j 0 ∧ c.Cap.getD j 0 ≤ 9223372036854775807) :
    Ok (Zc4 c f) (fun r => ((∀ j, j < L → Zio c.Arc c.Cap c.Back f j) ∧ r.2 = 0 ∧ ResAt c.Arc c.Cap c.Back f L L r.1) ∨ ((∃ j, j < L ∧ ¬Zio c.Arc c.Cap c.Back f j) ∧ r = ([], 20))) := by
  unfold Zc4 Zc5
  simp only [hh]
  refine Ok.bind.2 (Ok.some.2 (Ok.gd.2 ⟨(by omega), Ok.bind.2 (Z7g (fun s => ∃ k : Nat, s.2 = k ∧ k ≤ L ∧ ResAt c.Arc c.Cap c.Back f L k s.1) (fun s => (L - s.2).toNat) ⟨0, rfl, by omega, by simp, fun j hj => by omega⟩ (by unfold Z3k; simp only; omega) ?_)⟩))
  rintro ⟨rl, x⟩ ⟨k, g1, g2, g3⟩ P next exit
  simp only at g1 g2 g3 next ⊢
  subst g1
  unfold Za9
  simp only [Int.toNat_natCast, List.length_replicate]
  have hrl := g3.1
  refine Ok.ite.2 ⟨fun hx => ?_, fun hx => ?_⟩
  · have hkl : k < L := by omega
    have a0 := h0 k hkl
    have c1 := h1 k hkl
    have bad : ¬Zio c.Arc c.Cap c.Back f k → P (.inr (.inl ([], 20))) := fun hr => exit _ (Ok.some.2 (.inr ⟨⟨k, hkl, hr⟩, rfl⟩))
    have step : ∀ v : Int, Zio c.Arc c.Cap c.Back f k → v = Zqs c.Arc c.Cap c.Back f k → Ok (gd (i64ok ((k : Int) + 1)) (some (.inl (rl.set k v, (k : Int) + 1)))) P := fun v hr hv =>
      Ok.gd.2 ⟨(by omega), Ok.some.2 (next _ ⟨k + 1, by simp, by omega, g3.put hkl hr hv⟩ (by simp only; omega))⟩
    refine Ok.gd.2 ⟨(by omega), Ok.ite.2 ⟨fun hk => ?_, fun hk => ?_⟩⟩
    · exact Ok.some.2 (bad fun hr => by have := hr.1; omega)
    · refine Ok.gd.2 ⟨(by omega), Ok.ite.2 ⟨fun hbk => ?_, fun hbk => ?_⟩⟩
      · exact Ok.gd.2 ⟨(by omega), Ok.gd.2 ⟨(by omega), step _ ⟨by omega, .inl hbk⟩ (by unfold Zqs; rw [if_pos hbk])⟩⟩
      · refine Ok.gd.2 ⟨(by omega), Ok.ite.2 ⟨fun hn => ?_, fun hn => ?_⟩⟩
        · unfold Z91
          rw [if_pos rfl]
          exact Ok.some.2 (bad fun hr => by rcases hr.2 with h | h; exact hbk h; omega)
        · refine Ok.gd.2 ⟨(by omega), Ok.gd.2 ⟨(by omega), ?_⟩⟩
          unfold Z91
          simp only [Int.toNat_natCast]
          refine Ok.ite.2 ⟨fun hd => ?_, fun hd => ?_⟩
          · have hd := of_decide_eq_true hd
            exact Ok.some.2 (bad fun hr => by rcases hr.2 with h | h; exact hbk h; omega)
          · have hd : ¬ c.Cap.getD k 0 < f.getD (c.Arc.getD k 0).toNat 0 := fun h => hd (decide_eq_true h)
            exact Ok.gd.2 ⟨(by omega), Ok.gd.2 ⟨(by omega), Ok.gd.2 ⟨(by omega), Ok.gd.2 ⟨(by omega), step _ ⟨by omega, .inr ⟨by omega, by omega⟩⟩ (by unfold Zqs; rw [if_neg hbk])⟩⟩⟩⟩
  · refine Ok.some.2 (exit _ ?_)
    unfold Zbr
    have : k = L := by omega
    subst this
    exact Ok.some.2 (.inl ⟨fun j hj => (g3.2 j hj).1, rfl, g3⟩)
end Go.Acq
namespace Go.Acq
open Go
set_option linter.unusedSimpArgs false
end Go.Acq
namespace Go.Acq
open Go
set_option linter.unusedSimpArgs false
def ex (al : List Arc) (f : List Int) (v : Int) : Nat → Int
  | 0 => 0
  | k + 1 => ex al f v k - (if (al.getD k default).fr = v then f.getD k 0 else 0) + (if (al.getD k default).to = v then f.getD k 0 else 0)
def tot (f : List Int) : Nat → Int
  | 0 => 0
  | k + 1 => tot f k + f.getD k 0
def part (al : List Arc) (f : List Int) (j : Int) : Nat → Int
  | 0 => 0
  | k + 1 => part al f j k - (if (al.getD k default).fr < j then f.getD k 0 else 0) + (if (al.getD k default).to < j then f.getD k 0 else 0)
theorem Zoe {al : List Arc} {f : List Int} (v : Int) {n : Nat} (h : ∀ i, i < n → 0 ≤ f.getD i 0) : ∀ k, k ≤ n → -tot f k ≤ ex al f v k ∧ ex al f v k ≤ tot f k
 | 0, _ => by simp [ex, tot]
 | k + 1, hk => by
  have ih := Zoe (al := al) v h k (by omega)
  have := h k hk
  simp only [ex, tot]
  split <;> split <;> omega
theorem Zl3 {al : List Arc} {f : List Int} (j : Int) : ∀ k, part al f (j + 1) k = part al f j k + ex al f j k
 | 0 => by simp [part, ex]
 | k + 1 => by
  have ih := Zl3 (al := al) (f := f) j k
  simp only [part, ex, ih]
  have e1 : ∀ x : Int, (if x < j + 1 then f.getD k 0 else 0) = (if x < j then f.getD k 0 else 0) + (if x = j then f.getD k 0 else 0) := fun x => by
   by_cases h1 : x < j
   · rw [if_pos h1, if_pos (by omega), if_neg (by omega)]; omega
   ·
    by_cases h2 : x = j
    · rw [if_neg h1, if_pos (by omega), if_pos h2]; omega
    · rw [if_neg h1, if_neg (by omega), if_neg h2]; omega
  rw [e1, e1]; omega
theorem Zl4 {al : List Arc} {f : List Int} {m : Nat} (he : Z52 m al) : ∀ k, k ≤ al.length → part al f 0 k = 0
 | 0, _ => rfl
 | k + 1, hk => by
  have h0 := he k hk false
  have h1 := he k hk true
  simp only [vtx, Bool.false_eq_true, if_false, if_true] at h0 h1
  simp only [part, Zl4 he k (by omega)]
  rw [if_neg (by omega), if_neg (by omega)]; rfl
theorem Zn3 {al : List Arc} {f : List Int} {m : Nat} (he : Z52 m al) : ∀ k, k ≤ al.length → part al f m k = 0
 | 0, _ => rfl
 | k + 1, hk => by
  have h0 := he k hk false
  have h1 := he k hk true
  simp only [vtx, Bool.false_eq_true, if_false, if_true] at h0 h1
  simp only [part, Zn3 he k (by omega)]
  rw [if_pos h0.2, if_pos h1.2]; omega
theorem Zju {f : List Int} {n : Nat} (h : ∀ i, i < n → 0 ≤ f.getD i 0) : ∀ j k, j ≤ k → k ≤ n → tot f j ≤ tot f k
  | j, 0, hj, _ => by have : j = 0 := by omega
                      subst this; exact Int.le_refl _
  | j, k + 1, hj, hk => by
    rcases Nat.lt_or_ge j (k + 1) with h1 | h1
    · have := Zju h j k (by omega) (by omega)
      have := h k hk
      simp only [tot]; omega
    · rw [show j = k + 1 by omega]; exact Int.le_refl _
theorem sumL_tot {f : List Int} : ∀ (al : List Arc) (left : Int) (k : Nat), (Zkl left (al.drop k)).isSome = true → 0 ≤ left → k ≤ al.length → (∀ i, i < al.length → 0 ≤ f.getD i 0 ∧ f.getD i 0 ≤ (al.getD i default).cap) → tot f al.length - tot f k ≤ left := by
 intro al left k
 induction hn : al.length - k generalizing left k with
 | zero =>
  intro _ h0 hk _
  rw [show k = al.length by omega]; omega
 | succ n ih =>
  intro hs h0 hk hf
  have hkl : k < al.length := by omega
  rw [Zkx hkl] at hs
  by_cases hc : (al.getD k default).cap < 0 ∨ left < (al.getD k default).cap
  · rw [if_pos hc] at hs; cases hs
  ·
   rw [if_neg hc] at hs
   have := ih (left - (al.getD k default).cap) (k + 1) (by omega) hs (by omega) (by omega) hf
   have hfk := hf k hkl
   simp only [tot] at this
   omega
def FwithinP (n : Net) (f : List Int) : Prop := Z7t n.N n.S n.T n.Arcs = 0 ∧ f.length = n.Arcs.length ∧ ∀ i, i < n.Arcs.length → 0 ≤ f.getD i 0 ∧ f.getD i 0 ≤ (n.Arcs.getD i default).cap
theorem FwithinP.tot {n : Net} {f : List Int} (h : FwithinP n f) : ∀ k, k ≤ n.Arcs.length → 0 ≤ tot f k ∧ tot f k ≤ 4611686018427387904 := by
 intro k hk
 have hz := Z1t h.1
 have h1 := sumL_tot (f := f) n.Arcs 4611686018427387904 0 (by simpa using hz.2.2.2.2.2) (by omega) (by omega) h.2.2
 have h2 := Zju (fun i hi => (h.2.2 i hi).1) k n.Arcs.length hk (Nat.le_refl _)
 have h3 := Zju (fun i hi => (h.2.2 i hi).1) 0 k (by omega) hk
 simp only [Acq.tot] at h1 h3
 omega
theorem Zl1 {n : Net} {f : List Int} (hl : lenok n.Arcs.length) : Ok (Z85 n f) (fun b => b = true ↔ FwithinP n f) := by
 unfold Z85
 refine Ok.bind.2 (Zcr (Zjy n hl) (Ok.ite.2 ⟨fun h => Ok.some.2 ⟨fun h2 => (by cases h2), fun h2 => absurd h2.1 h⟩, fun h1 => Ok.ite.2 ⟨fun h => Ok.some.2 ⟨fun h2 => (by cases h2), fun h2 => absurd h2.2.1 (by omega)⟩, fun h2 => Ok.bind.2 ?_⟩⟩))
 have hz := Z1t (Classical.not_not.1 h1)
 refine Z7g (fun x => ∃ k : Nat, x = k ∧ k ≤ n.Arcs.length ∧ ∀ i, i < k → 0 ≤ f.getD i 0 ∧ f.getD i 0 ≤ (n.Arcs.getD i default).cap) (fun x => (n.Arcs.length - x).toNat) ⟨0, rfl, by omega, fun i hi => by omega⟩ (by unfold Z3k; omega) ?_
 rintro x ⟨k, rfl, hk, h3⟩ P next exit
 unfold Z7a
 simp only [Int.toNat_natCast]
 refine Ok.ite.2 ⟨fun hx => ?_, fun hx => ?_⟩
 ·
  refine Ok.gd.2 ⟨(by omega), Ok.gd.2 ⟨(by omega), Ok.ite.2 ⟨fun h => Ok.some.2 (exit _ (Ok.some.2 ⟨fun h2 => (by cases h2), fun h2 => by have := h2.2.2 k (by omega); omega⟩)), fun h4 => Ok.gd.2 ⟨(by omega), Ok.ite.2 ⟨fun h => Ok.some.2 (exit _ (Ok.some.2 ⟨fun h2 => (by cases h2), fun h2 => by have := h2.2.2 k (by omega); omega⟩)), fun h5 => Ok.gd.2 ⟨(by omega), Ok.some.2 (next _ ⟨k + 1, by simp, by omega, fun i hi => ?_⟩ (by omega))⟩⟩⟩⟩⟩⟩
  rcases Nat.lt_or_ge i k with h | h
  · exact h3 i h
  · rw [show i = k by omega]; omega
 ·
  refine Ok.some.2 (exit _ ?_)
  unfold Z8l
  exact Ok.some.2 ⟨fun _ => ⟨Classical.not_not.1 h1, by omega, fun i hi => h3 i (by omega)⟩, fun _ => rfl⟩
theorem Zmx {n : Net} {f : List Int} (hl : lenok n.Arcs.length) : Ok (Z86 n f) (fun r => (FwithinP n f ∧ r.2 = 0 ∧ r.1.length = n.N.toNat ∧ ∀ v : Nat, v < n.N.toNat → r.1.getD v 0 = ex n.Arcs f v n.Arcs.length) ∨ (¬ FwithinP n f ∧ r = ([], 20))) := by
 unfold Z86
 refine Ok.bind.2 (Ok.mono (Zl1 hl) fun b hb => Ok.ite.2 ⟨fun h => Ok.some.2 (.inr ⟨fun h2 => (by rw [hb.2 h2] at h; cases h), rfl⟩), fun h => ?_⟩)
 have hw : FwithinP n f := hb.1 (by cases b; exact absurd rfl h; rfl)
 have hz := Z1t hw.1
 obtain ⟨m, hm⟩ : ∃ m : Nat, n.N = m := ⟨n.N.toNat, by omega⟩
 have he : Z52 m n.Arcs := Z7f (by rw [← hm]; exact hz.2.2.2.1)
 have hfl := hw.2.1
 refine Ok.gd.2 ⟨(by omega), Ok.bind.2 ?_⟩
 rw [hm]
 simp only [Int.toNat_natCast]
 refine Z7g (fun s => ∃ k : Nat, s.2 = k ∧ k ≤ n.Arcs.length ∧ s.1.length = m ∧ ∀ v : Nat, v < m → s.1.getD v 0 = ex n.Arcs f v k) (fun s => (n.Arcs.length - s.2).toNat) ⟨0, rfl, by omega, List.length_replicate, fun v _ => by rw [Z3f]; rfl⟩ (by unfold Z3k; simp only; omega) ?_
 rintro ⟨xs, x⟩ ⟨k, h1, hk, h3, h4⟩ P next exit
 simp only at h1 h3 h4 next ⊢
 subst h1
 unfold Z7b
 simp only [Int.toNat_natCast]
 refine Ok.ite.2 ⟨fun hx => ?_, fun hx => ?_⟩
 ·
  have hkl : k < n.Arcs.length := by omega
  have e0 := he k hkl false
  have e1 := he k hkl true
  simp only [vtx, Bool.false_eq_true, if_false, if_true] at e0 e1
  obtain ⟨p, hp⟩ : ∃ p : Nat, (n.Arcs.getD k default).fr = p := ⟨(n.Arcs.getD k default).fr.toNat, by omega⟩
  obtain ⟨q, hq⟩ : ∃ q : Nat, (n.Arcs.getD k default).to = q := ⟨(n.Arcs.getD k default).to.toNat, by omega⟩
  have hfk := hw.2.2 k hkl
  have b0 := Zoe (al := n.Arcs) (f := f) (p : Int) (fun i hi => (hw.2.2 i hi).1) k hk
  have b1 := Zoe (al := n.Arcs) (f := f) (q : Int) (fun i hi => (hw.2.2 i hi).1) k hk
  have t0 := hw.tot k hk
  have t1 := hw.tot (k + 1) hkl
  simp only [tot] at t1
  rw [hp] at e0
  rw [hq] at e1
  have v0 := h4 p (by omega)
  have v1 := h4 q (by omega)
  simp only [hp, hq, Int.toNat_natCast, v0, Ze4, List.length_set, h3]
  refine Ok.gd.2 ⟨(by omega), Ok.gd.2 ⟨(by omega), Ok.gd.2 ⟨(by omega), Ok.gd.2 ⟨(by omega), Ok.gd.2 ⟨(by omega), Ok.gd.2 ⟨(by omega), Ok.gd.2 ⟨(by omega), Ok.gd.2 ⟨by split <;> constructor <;> omega, Ok.gd.2 ⟨(by omega), Ok.gd.2 ⟨(by omega), Ok.some.2 (next _ ⟨k + 1, by simp, by omega, by simp [h3], fun v hv => ?_⟩ (by simp only; omega))⟩⟩⟩⟩⟩⟩⟩⟩⟩⟩
  simp only [Ze4, List.length_set, h3, ex, hp, hq]
  rw [h4 v hv]
  by_cases c1 : p = v
  ·
   subst c1
   by_cases c2 : q = p
   ·
    subst c2
    simp only [true_and, if_true]
    rw [if_pos (by omega)]; simp [show q < m by omega]
   · rw [if_neg (fun h => c2 h.1), if_pos ⟨rfl, by omega⟩, if_pos rfl, if_neg (by omega)]; omega
  ·
   by_cases c2 : q = v
   ·
    subst c2
    rw [if_pos ⟨rfl, by omega⟩, if_neg (fun h => c1 h.1), if_neg (by omega), if_pos rfl, v1]; omega
   · rw [if_neg (fun h => c2 h.1), if_neg (fun h => c1 h.1), if_neg (by omega), if_neg (by omega)]; omega
 ·
  refine Ok.some.2 (exit _ ?_)
  unfold Z8m
  rw [show k = n.Arcs.length by omega] at h4
  exact Ok.some.2 (.inl ⟨hw, rfl, h3, h4⟩)
theorem Zo3 {s : List Int} {v : Int} (hl : lenok s.length) : Z4v s v = some (s.contains v) := by
 refine Zl6 ?_
 unfold Z4v Z7j
 refine Ok.bind.2 (Ok.bind.2 (Z7g (fun x => ∃ k : Nat, x = k ∧ k ≤ s.length ∧ ∀ j, j < k → s.getD j 0 ≠ v) (fun x => (s.length - x).toNat) ⟨0, rfl, by omega, fun j hj => by omega⟩ (by unfold Z3k; omega) ?_))
 rintro x ⟨k, rfl, g2, g3⟩ P next exit
 unfold Z4u
 simp only [Int.toNat_natCast]
 refine Ok.ite.2 ⟨fun hx => ?_, fun hx => ?_⟩
 ·
  refine Ok.gd.2 ⟨(by omega), Ok.ite.2 ⟨fun h => Ok.some.2 (exit _ (Ok.some.2 (Ok.some.2 ?_))), fun h => Ok.gd.2 ⟨(by omega), Ok.some.2 (next _ ⟨k + 1, by simp, by omega, fun j hj => ?_⟩ (by omega))⟩⟩⟩
  ·
   rw [show s.contains v = true from List.contains_iff_mem.2 (by rw [h]; exact Za2 (by omega) 0)]
   exact decide_eq_true (by omega)
  ·
   rcases Nat.lt_or_ge j k with h1 | h1
   · exact g3 j h1
   · rw [show j = k by omega]; exact fun e => h e.symm
 ·
  refine Ok.some.2 (exit _ ?_)
  unfold Z6a
  refine Ok.some.2 (Ok.some.2 ?_)
  have : s.contains v = false := by
   rw [Bool.eq_false_iff]
   intro hc
   obtain ⟨j, hj, e⟩ := List.mem_iff_getElem.1 (List.contains_iff_mem.1 hc)
   have := g3 j (by omega)
   rw [List.getD_eq_getElem?_getD, List.getElem?_eq_getElem hj] at this
   exact this e
  rw [this]
  exact decide_eq_false (by omega)
theorem Zcy {b : Bool} (h : ¬(!b) = true) : b = true := by cases b; exact absurd rfl h; rfl
theorem Zo9 {l : List Int} {x : Int} (h : ¬(!l.contains x) = true) : x ∈ l := List.contains_iff_mem.1 (Zcy h)
def Zqb (n : Net) (f : List Int) (so : Int → Prop) (but : List Int) : Prop := FwithinP n f ∧ ∀ v : Nat, v < n.N.toNat → so (ex n.Arcs f v n.Arcs.length) ∨ (v : Int) ∈ but
theorem s_Right {n : Net} {f : List Int} (hl : lenok n.Arcs.length) : Ok (Za7 n f) (fun b => b = true ↔ Zqb n f (fun x => x = 0) [n.S, n.T]) := by
 unfold Za7 Z7l
 refine Ok.bind.2 (Ok.mono (Q := fun b => b = true ↔ Zqb n f (fun x => x = 0) [n.S, n.T]) ?_ fun b hb => Ok.some.2 hb)
 refine Ok.bind.2 (Ok.mono (Zmx hl) ?_)
 rintro ⟨l, e⟩ hle
 refine Ok.bind.2 (Z7g (fun x => ∃ k : Nat, x = k ∧ k ≤ l.length ∧ ∀ v, v < k → l.getD v 0 = 0 ∨ (v : Int) ∈ [n.S, n.T]) (fun x => (l.length - x).toNat) ⟨0, rfl, by omega, fun j hj => by omega⟩ ?_ ?_)
 ·
  rcases hle with ⟨hw, -, h2, -⟩ | ⟨-, h2⟩
  · have := Z1t hw.1; simp only at h2; unfold Z3k; omega
  · injection h2 with h2 h3; subst h2; unfold Z3k; simp
 rintro x ⟨k, rfl, g2, g3⟩ P next exit
 unfold Z4w Za1
 simp only [Int.toNat_natCast]
 have hlen : l.length ≤ 4096 := by
  rcases hle with ⟨hw, -, h2, -⟩ | ⟨-, h2⟩
  · have := Z1t hw.1; simp only at h2; omega
  · injection h2 with h2 h3; subst h2; simp
 refine Ok.ite.2 ⟨fun hx => ?_, fun hx => ?_⟩
 ·
  refine Ok.gd.2 ⟨(by omega), Ok.bind.2 (Ok.some.2 (Ok.ite.2 ⟨fun h => Ok.bind.2 (Zcr (Zo3 (by simp)) (Ok.ite.2 ⟨fun h2 => Ok.some.2 (exit _ (Ok.some.2 ⟨fun h3 => (by cases h3), fun h3 => ?_⟩)), fun h2 => Ok.gd.2 ⟨(by omega), Ok.some.2 (next _ ⟨k + 1, by simp, by omega, fun j hj => ?_⟩ (by omega))⟩⟩)), fun h => Ok.gd.2 ⟨(by omega), Ok.some.2 (next _ ⟨k + 1, by simp, by omega, fun j hj => ?_⟩ (by omega))⟩⟩))⟩
  ·
   exfalso
   rcases hle with ⟨hw, -, h5, h6⟩ | ⟨h5, -⟩
   ·
    simp only at h5 h6
    rcases h3.2 k (by omega) with h7 | h7
    · rw [← h6 k (by omega)] at h7; rw [decide_eq_true h7] at h; cases h
    · rw [List.contains_iff_mem.2 h7] at h2; cases h2
   · exact h5 h3.1
  ·
   rcases Nat.lt_or_ge j k with h1 | h1
   · exact g3 j h1
   · rw [show j = k by omega]; right; exact Zo9 h2
  ·
   rcases Nat.lt_or_ge j k with h1 | h1
   · exact g3 j h1
   · rw [show j = k by omega]; left; exact of_decide_eq_true (Zcy h)
 ·
  refine Ok.some.2 (exit _ ?_)
  unfold Z6d
  refine Ok.some.2 ?_
  rcases hle with ⟨hw, h4, h5, h6⟩ | ⟨h5, h6⟩
  ·
   simp only at h4 h5 h6
   refine ⟨fun _ => ⟨hw, fun v hv => ?_⟩, fun _ => decide_eq_true h4⟩
   rw [← h6 v hv]; exact g3 v (by omega)
  ·
   injection h6 with h6 h7
   simp only [h7]
   exact ⟨fun h => (by cases h), fun h => absurd h.1 h5⟩
theorem s_Value {n : Net} {f : List Int} (hl : lenok n.Arcs.length) : Ok (Za6 n f) (fun r => (Zqb n f (fun x => x = 0) [n.S, n.T] ∧ r = (ex n.Arcs f n.T n.Arcs.length, 0)) ∨ (¬ Zqb n f (fun x => x = 0) [n.S, n.T] ∧ r = (0, 20))) := by
 unfold Za6
 refine Ok.bind.2 (Ok.mono (s_Right hl) fun b hb => Ok.ite.2 ⟨fun h => Ok.some.2 (.inr ⟨fun h2 => (by rw [hb.2 h2] at h; cases h), rfl⟩), fun h => ?_⟩)
 have hw := hb.1 (by cases b; exact absurd rfl h; rfl)
 refine Ok.bind.2 (Ok.mono (Zmx hl) ?_)
 rintro ⟨l, e⟩ (⟨-, h2, h3, h4⟩ | ⟨h2, -⟩)
 ·
  simp only at h2 h3 h4 ⊢
  have hz := Z1t hw.1.1
  have hT := of_decide_eq_true hz.2.2.1.2.1
  refine Ok.gd.2 ⟨(by omega), Ok.some.2 (.inl ⟨hw, ?_⟩)⟩
  rw [h4 n.T.toNat (by omega), h2, Int.toNat_of_nonneg hT.1]
 · exact absurd hw.1 h2
end Go.Acq
namespace Go.Acq
open Go
set_option linter.unusedSimpArgs false
theorem Z2o {α : Type} {xs ys : List α} {d : α} {i : Nat} (h : i < xs.length) : (xs ++ ys).getD i d = xs.getD i d := by
 rw [List.getD_eq_getElem?_getD, List.getElem?_append_left h, List.getD_eq_getElem?_getD]
theorem Zb7 {α : Type} {xs ys : List α} {d : α} {i : Nat} (h : xs.length ≤ i) : (xs ++ ys).getD i d = ys.getD (i - xs.length) d := by
 rw [List.getD_eq_getElem?_getD, List.getElem?_append_right h, List.getD_eq_getElem?_getD]
theorem Zfy {α : Type} {xs : List α} {d : α} {i k : Nat} (h : i < k) : (xs.take k).getD i d = xs.getD i d := by
 simp [List.getD_eq_getElem?_getD, List.getElem?_take, h]
theorem Zob {α : Type} {xs : List α} {d : α} {i k : Nat} : (xs.drop k).getD i d = xs.getD (k + i) d := by
 simp [List.getD_eq_getElem?_getD]
theorem Zna {α : Type} {xs ys : List α} {d : α} {i : Nat} (h : i < xs.length) : (cpy xs ys).getD i d = if i < ys.length then ys.getD i d else xs.getD i d := by
 unfold cpy
 by_cases c : i < ys.length
 · rw [if_pos c, Z2o (by rw [List.length_take]; omega), Zfy (by omega)]
 ·
  rw [if_neg c, Zb7 (by rw [List.length_take]; omega), Zob, List.length_take]
  congr 1; omega
theorem fdiv0 {y : Int} (h : 0 ≤ y) (h2 : y < 4294967296) : Int.fdiv y (2 ^ 32) = 0 := by
 rw [Int.fdiv_eq_ediv_of_nonneg _ (by decide)]
 exact Int.ediv_eq_zero_of_lt h (by omega)
theorem s_Mul1 {m : Int → Int → Option (Int × Int)} {y : Int} (h : 0 ≤ y) (h2 : y < 4294967296)
    (hm : m = fun x0 y1 =>
      gd (u64ok x0) <| gd (u64ok y1) <| gd (u64ok ((x0 % 4294967296) * (y1 % 4294967296))) <| gd (u64ok ((Int.fdiv x0 (2 ^ 32)) * (y1 % 4294967296))) <|
      gd (u64ok (((Int.fdiv x0 (2 ^ 32)) * (y1 % 4294967296)) + (Int.fdiv ((x0 % 4294967296) * (y1 % 4294967296)) (2 ^ 32)))) <|
      gd (u64ok (((Int.fdiv x0 (2 ^ 32)) * (y1 % 4294967296)) + (Int.fdiv ((x0 % 4294967296) * (y1 % 4294967296)) (2 ^ 32)))) <|
      gd (u64ok ((x0 % 4294967296) * (Int.fdiv y1 (2 ^ 32)))) <|
      gd (u64ok (((((Int.fdiv x0 (2 ^ 32)) * (y1 % 4294967296)) + (Int.fdiv ((x0 % 4294967296) * (y1 % 4294967296)) (2 ^ 32))) % 4294967296) + ((x0 % 4294967296) * (Int.fdiv y1 (2 ^ 32))))) <|
      gd (u64ok ((Int.fdiv x0 (2 ^ 32)) * (Int.fdiv y1 (2 ^ 32)))) <|
      gd (u64ok (((Int.fdiv x0 (2 ^ 32)) * (Int.fdiv y1 (2 ^ 32))) + (Int.fdiv (((Int.fdiv x0 (2 ^ 32)) * (y1 % 4294967296)) + (Int.fdiv ((x0 % 4294967296) * (y1 % 4294967296)) (2 ^ 32))) (2 ^ 32)))) <|
      gd (u64ok ((((Int.fdiv x0 (2 ^ 32)) * (Int.fdiv y1 (2 ^ 32))) + (Int.fdiv (((Int.fdiv x0 (2 ^ 32)) * (y1 % 4294967296)) + (Int.fdiv ((x0 % 4294967296) * (y1 % 4294967296)) (2 ^ 32))) (2 ^ 32))) + (Int.fdiv (((((Int.fdiv x0 (2 ^ 32)) * (y1 % 4294967296)) + (Int.fdiv ((x0 % 4294967296) * (y1 % 4294967296)) (2 ^ 32))) % 4294967296) + ((x0 % 4294967296) * (Int.fdiv y1 (2 ^ 32)))) (2 ^ 32)))) <|
      gd (u64ok (x0 * y1)) <|
      some (((((Int.fdiv x0 (2 ^ 32)) * (Int.fdiv y1 (2 ^ 32))) + (Int.fdiv (((Int.fdiv x0 (2 ^ 32)) * (y1 % 4294967296)) + (Int.fdiv ((x0 % 4294967296) * (y1 % 4294967296)) (2 ^ 32))) (2 ^ 32))) + (Int.fdiv (((((Int.fdiv x0 (2 ^ 32)) * (y1 % 4294967296)) + (Int.fdiv ((x0 % 4294967296) * (y1 % 4294967296)) (2 ^ 32))) % 4294967296) + ((x0 % 4294967296) * (Int.fdiv y1 (2 ^ 32)))) (2 ^ 32))), (x0 * y1))) : m 1 y = some (0, y) := by
  subst hm
  have e1 : Int.fdiv 1 (2 ^ 32) = 0 := by decide
  have e2 : Int.fdiv y (2 ^ 32) = 0 := fdiv0 h h2
  have e3 : y % 4294967296 = y := Int.emod_eq_of_lt h h2
  have e4 : (1 : Int) % 4294967296 = 1 := by decide
  have e5 : Int.fdiv 0 (2 ^ 32) = 0 := by decide
  simp only [e1, e2, e3, e4, e5, Int.one_mul, Int.zero_mul, Int.mul_zero, Int.zero_add, Int.add_zero, Int.zero_emod]
  repeat rw [Zaj (by constructor <;> omega)]
theorem s_double {v : Int} {n : Nat} {step : List Int → Int → Option ((List Int × Int) ⊕ (List Int))} (hn : n ≤ 4611686018427387904)
    (hs : step = fun xs k => if k < (xs.length : Int) then (gd (0 ≤ k ∧ k ≤ (xs.length : Int)) <| gd (0 ≤ k ∧ k ≤ (xs.length : Int)) <|
      gd (i64ok (k + ((min (xs.drop k.toNat).length (xs.take k.toNat).length : Nat) : Int))) <|
      some (.inl ((xs.take k.toNat ++ cpy (xs.drop k.toNat) (xs.take k.toNat)), (k + ((min (xs.drop k.toNat).length (xs.take k.toNat).length : Nat) : Int))))) else some (.inr xs)) :
    Ok (Z21 (fun s => step s.1 s.2) Z3k ((cpy (List.replicate n (0 : Int)) [v]), ((min (List.replicate n (0 : Int)).length [v].length : Nat) : Int))) (fun r => r = List.replicate n v) := by
  subst hs
  refine Z7g (fun s => ∃ k : Nat, s.2 = k ∧ k ≤ n ∧ (0 < n → 0 < k) ∧ s.1.length = n ∧ ∀ i, i < k → s.1.getD i 0 = v) (fun s => (n - s.2).toNat) ⟨min n 1, by simp, by omega, by omega, Zdp (by simp), fun i hi => ?_⟩ (by unfold Z3k; simp only [List.length_replicate, List.length_singleton]; omega) ?_
  · rw [Zna (by simp; omega), if_pos (by simp; omega), show i = 0 by omega]; rfl
  rintro ⟨xs, x⟩ ⟨k, h1, hk, hk0, hl, hv⟩ P next exit
  simp only at h1 hl hv next ⊢
  subst h1
  simp only [Int.toNat_natCast, List.length_drop, List.length_take, hl]
  refine Ok.ite.2 ⟨fun hx => Ok.gd.2 ⟨(by omega), Ok.gd.2 ⟨(by omega), Ok.gd.2 ⟨by constructor <;> omega, Ok.some.2 (next _ ⟨k + min (n - k) (min k n), by simp, by omega, by omega, ?_, fun i hi => ?_⟩ (by simp only; omega))⟩⟩⟩, fun hx => Ok.some.2 (exit _ ?_)⟩
  · simp only
    rw [List.length_append, Zdp (n := n - k) (by rw [List.length_drop, hl]), List.length_take]; omega
  · simp only
    rcases Nat.lt_or_ge i k with h | h
    · rw [Z2o (by rw [List.length_take]; omega), Zfy h]; exact hv i h
    · have e : (xs.take k).length = k := by rw [List.length_take]; omega
      rw [Zb7 (by omega), e, Zna (by rw [List.length_drop]; omega), e, if_pos (by omega), Zfy (by omega)]
      exact hv _ (by omega)
  · exact Zc7 0 (by simp [hl]) fun i hi => by
      rw [hl] at hi
      rw [hv i (by omega), List.getD_eq_getElem?_getD, List.getElem?_replicate, if_pos hi]; rfl
theorem Zqv {al : List Arc} {i v : Nat} {s : Bool} (hi : i < al.length) (hne : (al.getD i default).fr ≠ (al.getD i default).to) (h0 : 0 ≤ vtx (al.getD i default) s) (h1 : Z11 al v ≤ pos al i s) (h2 : pos al i s < Z11 al (v + 1)) : vtx (al.getD i default) s = v ∧ pos al i s = Z11 al v + cnt al v i := by
 obtain ⟨u, hu⟩ : ∃ u : Nat, vtx (al.getD i default) s = u := ⟨(vtx (al.getD i default) s).toNat, by omega⟩
 have hcl := Zgr (s := s) hi hne h0
 have hpos : pos al i s = Z11 al u + cnt al u i := by unfold pos; rw [hu, Int.toNat_natCast]
 rw [hu, Int.toNat_natCast] at hcl
 have hb1 : Z11 al (u + 1) = Z11 al u + cnt al u al.length := rfl
 have : u = v := by
  rcases Nat.lt_trichotomy u v with h | h | h
  · have := Z57 (al := al) (show u + 1 ≤ v by omega); omega
  · exact h
  · have := Z57 (al := al) (show v + 1 ≤ u by omega); omega
 subst this
 exact ⟨hu, hpos⟩
end Go.Acq
namespace Go.Acq
open Go
set_option linter.unusedSimpArgs false
def inS (c : List Bool) (v : Int) : Bool := c.getD v.toNat false
def CutR (n : Net) (c : List Bool) : Prop := Z7t n.N n.S n.T n.Arcs = 0 ∧ (c.length : Int) = n.N ∧ inS c n.S = true ∧ inS c n.T = false
theorem Zo2 {n : Net} {c : List Bool} (hl : lenok n.Arcs.length) : Ok (Zb6 n c) (fun b => b = true ↔ CutR n c) := by
 unfold Zb6
 refine Ok.bind.2 (Zcr (Zjy n hl) (Ok.ite.2 ⟨fun h0 => Ok.ite.2 ⟨fun h1 => ?_, fun h1 => Ok.some.2 ⟨fun h => (by cases h), fun h => absurd h.2.1 h1⟩⟩, fun h0 => Ok.some.2 ⟨fun h => (by cases h), fun h => absurd h.1 h0⟩⟩))
 have hz := Z1t h0
 simp only [Z3q, decide_eq_true_eq] at hz
 refine Ok.gd.2 ⟨(by omega), Ok.ite.2 ⟨fun h2 => Ok.gd.2 ⟨(by omega), Ok.some.2 ⟨fun h3 => ⟨h0, h1, h2, by simpa [inS] using h3⟩, fun h3 => by have := h3.2.2.2; simpa [inS] using this⟩⟩, fun h2 => Ok.some.2 ⟨fun h => (by cases h), fun h => absurd h.2.2.1 h2⟩⟩⟩
theorem s_has {c : List Bool} {v : Int} (h0 : 0 ≤ v) (h : v < c.length) : Zc2 c v = some (inS c v) := by
 unfold Zc2
 rw [if_pos h, Zaj ⟨h0, h⟩]; rfl
theorem s_across {S X : Type} {y : S → Int × Bool → Option (S ⊕ X)} {n : Net} {c : List Bool} {m : Nat} {s0 : S} (I : Nat → S → Prop) (J : X → Prop) (he : Z52 m n.Arcs) (hc : c.length = m) (hl : lenok n.Arcs.length) (h0 : I 0 s0)
    (hstep : ∀ k s, k < n.Arcs.length → I k s → (inS c (n.Arcs.getD k default).fr ≠ inS c (n.Arcs.getD k default).to → Ok (y s ((k : Int), inS c (n.Arcs.getD k default).fr)) (fun r => match r with | .inl s' => I (k + 1) s' | .inr x => J x)) ∧
      (inS c (n.Arcs.getD k default).fr = inS c (n.Arcs.getD k default).to → I (k + 1) s)) :
    Ok (Z8f y n c (.inl s0)) (fun t => match t with | .inl s => I n.Arcs.length s | .inr x => J x) := by
  unfold Z8f
  refine Ok.bind.2 (Z7g (fun s => ∃ (k : Nat) (st : S), s = ((k : Int), Sum.inl st) ∧ k ≤ n.Arcs.length ∧ I k st) (fun s => (n.Arcs.length - s.1).toNat) ⟨0, s0, rfl, by omega, h0⟩ (by unfold Z3k; simp only; omega) ?_)
  rintro s ⟨k, st, rfl, hk, hI⟩ P next exit
  unfold Z6q
  simp only [Int.toNat_natCast]
  refine Ok.ite.2 ⟨fun hx => ?_, fun hx => Ok.some.2 (exit _ (Ok.some.2 ?_))⟩
  · have hkl : k < n.Arcs.length := by omega
    have e0 := he k hkl false
    have e1 := he k hkl true
    simp only [vtx, Bool.false_eq_true, if_false, if_true] at e0 e1
    obtain ⟨g1, g2⟩ := hstep k st hkl hI
    refine Ok.gd.2 ⟨(by omega), Ok.bind.2 (Zcr (s_has e0.1 (by omega)) (Ok.bind.2 (Zcr (s_has e1.1 (by omega)) (Ok.ite.2 ⟨fun h => ?_, fun h => ?_⟩))))⟩
    · have hne : inS c (n.Arcs.getD k default).fr ≠ inS c (n.Arcs.getD k default).to := fun e => by rw [e] at h; simp at h
      refine Ok.bind.2 ?_
      show Ok (y st _) _
      refine Ok.mono (g1 hne) ?_
      rintro (s' | x) hr
      · exact Ok.ite.2 ⟨fun h => by simp at h, fun _ => Ok.gd.2 ⟨(by omega), Ok.some.2 (next _ ⟨k + 1, s', by simp, by omega, hr⟩ (by simp only; omega))⟩⟩
      · exact Ok.ite.2 ⟨fun _ => Ok.some.2 (exit _ (Ok.some.2 hr)), fun h => by simp at h⟩
    · have heq : inS c (n.Arcs.getD k default).fr = inS c (n.Arcs.getD k default).to := by simpa using h
      exact Ok.gd.2 ⟨(by omega), Ok.some.2 (next _ ⟨k + 1, st, by simp, by omega, g2 heq⟩ (by simp only; omega))⟩
  · obtain rfl : k = n.Arcs.length := by omega
    exact hI
def Zim (al : List Arc) (c : List Bool) : Nat → Int
  | 0 => 0
  | k + 1 => Zim al c k + (if inS c (al.getD k default).fr = true ∧ inS c (al.getD k default).to = false then (al.getD k default).cap else 0)
def acK (al : List Arc) (f : List Int) (c : List Bool) : Nat → Int
  | 0 => 0
  | k + 1 => acK al f c k + (if inS c (al.getD k default).fr = true ∧ inS c (al.getD k default).to = false then f.getD k 0 else 0) - (if inS c (al.getD k default).fr = false ∧ inS c (al.getD k default).to = true then f.getD k 0 else 0)
def Znw (al : List Arc) : Nat → Int
  | 0 => 0
  | k + 1 => Znw al k + (al.getD k default).cap
theorem Zk7 {al : List Arc} {c : List Bool} (h : ∀ i, i < al.length → 0 ≤ (al.getD i default).cap) : ∀ k, k ≤ al.length → 0 ≤ Zim al c k ∧ Zim al c k ≤ Znw al k
 | 0, _ => by simp [Zim, Znw]
 | k + 1, hk => by
  have ih := Zk7 (c := c) h k (by omega)
  have := h k (by omega)
  simp only [Zim, Znw]
  split <;> omega
theorem Zmu (al : List Arc) : ∀ k, k ≤ al.length → Znw al k = tot (al.map (·.cap)) k
 | 0, _ => rfl
 | k + 1, hk => by
  simp only [Znw, tot, Zmu al k (by omega)]
  rw [List.getD_eq_getElem?_getD, List.getD_eq_getElem?_getD, List.getElem?_map, List.getElem?_eq_getElem (show k < al.length by omega)]; rfl
theorem Zr3 {al : List Arc} {i : Nat} (hi : i < al.length) : (al.map (·.cap)).getD i 0 = (al.getD i default).cap := by
 rw [List.getD_eq_getElem?_getD, List.getD_eq_getElem?_getD, List.getElem?_map, List.getElem?_eq_getElem hi]; rfl
theorem Zmk {n : Net} (h : Z7t n.N n.S n.T n.Arcs = 0) (hc : ∀ i, i < n.Arcs.length → 0 ≤ (n.Arcs.getD i default).cap) : FwithinP n (n.Arcs.map (·.cap)) :=
 ⟨h, by simp, fun i hi => by rw [Zr3 hi]; exact ⟨hc i hi, Int.le_refl _⟩⟩
theorem Z9t {n : Net} (h : Z7t n.N n.S n.T n.Arcs = 0) : ∀ i, i < n.Arcs.length → 0 ≤ (n.Arcs.getD i default).cap := fun i hi => by
 have := List.all_eq_true.1 (Z1t h).2.2.2.2.1 _ (Za2 hi default)
 simpa [Zr7] using this
theorem Zdd {n : Net} (h : Z7t n.N n.S n.T n.Arcs = 0) : ∀ k, k ≤ n.Arcs.length → 0 ≤ Znw n.Arcs k ∧ Znw n.Arcs k ≤ 4611686018427387904 := fun k hk => by
 rw [Zmu _ k hk]
 have := (Zmk h (Z9t h)).tot k (by simpa using hk)
 exact this
theorem Zhh {n : Net} (h : Z7t n.N n.S n.T n.Arcs = 0) : ∃ m : Nat, n.N = m ∧ Z52 m n.Arcs := by
 have hz := Z1t h
 obtain ⟨m, hm⟩ : ∃ m : Nat, n.N = m := ⟨n.N.toNat, by omega⟩
 exact ⟨m, hm, Z7f (by rw [← hm]; exact hz.2.2.2.1)⟩
theorem s_Cap {n : Net} {c : List Bool} (hl : lenok n.Arcs.length) : Ok (Zdo n c) (fun r => (CutR n c ∧ r = (Zim n.Arcs c n.Arcs.length, 0)) ∨ (¬CutR n c ∧ r = (0, 2))) := by
 unfold Zdo
 refine Ok.bind.2 (Ok.mono (Zo2 hl) fun b hb => Ok.ite.2 ⟨fun h => Ok.some.2 (.inr ⟨fun h2 => (by rw [hb.2 h2] at h; cases h), rfl⟩), fun h => ?_⟩)
 have hR := hb.1 (Zcy h)
 obtain ⟨m, hm, he⟩ := Zhh hR.1
 refine Ok.bind.2 (Ok.some.2 (Ok.bind.2 (Ok.mono (s_across (m := m) (fun k s => s = Zim n.Arcs c k) (fun _ => True) he (by have := hR.2.1; omega) hl rfl ?_) ?_)))
 ·
  rintro k s hk rfl
  refine ⟨fun hne => ?_, fun heq => ?_⟩
  ·
   unfold Z90
   have b1 := Zk7 (c := c) (Z9t hR.1) (k + 1) hk
   have b2 := Zdd hR.1 (k + 1) hk
   simp only [Int.toNat_natCast]
   refine Ok.ite.2 ⟨fun h => ?_, fun h => Ok.some.2 ?_⟩
   ·
    have h' : inS c (n.Arcs.getD k default).to = false := by cases hq : inS c (n.Arcs.getD k default).to; rfl; rw [h, hq] at hne; exact absurd rfl hne
    simp only [Zim] at b1 ⊢
    rw [if_pos ⟨h, h'⟩] at b1 ⊢
    exact Ok.gd.2 ⟨(by omega), Ok.gd.2 ⟨(by omega), Ok.some.2 rfl⟩⟩
   ·
    simp only [Zim]
    rw [if_neg (fun h2 => h h2.1), Int.add_zero]
  ·
   simp only [Zim]
   rw [if_neg (fun h2 => (by rw [heq, h2.2] at h2; cases h2.1)), Int.add_zero]
 ·
  rintro (s | x) hs
  · exact Ok.some.2 (.inl ⟨hR, by rw [hs]⟩)
  · exact nomatch x
def Zgk (al : List Arc) (f : List Int) (c : List Bool) (i : Nat) : Prop :=
  (inS c (al.getD i default).fr = true → inS c (al.getD i default).to = false → (al.getD i default).cap ≤ f.getD i 0) ∧ (inS c (al.getD i default).fr = false → inS c (al.getD i default).to = true → f.getD i 0 ≤ 0)
end Go.Acq
namespace Go.Acq
open Go
set_option linter.unusedSimpArgs false
inductive Reach (G : Nat → Nat → Prop) (s : Nat) : Nat → Prop
  | refl : Reach G s s
  | step {u v : Nat} : Reach G s u → G u v → Reach G s v
theorem Reach.trans {G : Nat → Nat → Prop} {a b c : Nat} (h : Reach G a b) (g : Reach G b c) : Reach G a c := by
 induction g with
 | refl => exact h
 | step _ h2 ih => exact .step ih h2
theorem Reach.mono {G K : Nat → Nat → Prop} {a b : Nat} (h : Reach G a b) (hk : ∀ u v, G u v → K u v) : Reach K a b := by
 induction h with
 | refl => exact .refl
 | step _ h2 ih => exact .step ih (hk _ _ h2)
def tc (l : List Bool) : Nat → Nat
  | 0 => 0
  | k + 1 => tc l k + if l.getD k false = true then 1 else 0
theorem tc_le (l : List Bool) : ∀ k, tc l k ≤ k
 | 0 => Nat.le_refl _
 | k + 1 => by have := tc_le l k; simp only [tc]; split <;> omega
theorem Zkv {l : List Bool} {i : Nat} (hi : i < l.length) (hf : l.getD i false = false) : ∀ k : Nat, tc (l.set i true) k = tc l k + (if i < k then 1 else 0)
 | 0 => by simp [tc]
 | k + 1 => by
  have ih := Zkv hi hf k
  simp only [tc, ih, Ze4]
  by_cases c : i = k
  ·
   subst c
   rw [if_neg (show ¬ i < i by omega), if_pos (show i = i ∧ i < l.length from ⟨rfl, hi⟩), hf, if_pos rfl, if_pos (show i < i + 1 by omega)]; rfl
  ·
   rw [if_neg (show ¬(i = k ∧ i < l.length) from fun h => c h.1)]
   by_cases c2 : i < k
   · rw [if_pos c2, if_pos (show i < k + 1 by omega)]; omega
   · rw [if_neg c2, if_neg (show ¬ i < k + 1 by omega)]; omega
theorem Zmc (n : Nat) : ∀ k, tc (List.replicate n false) k = 0
 | 0 => rfl
 | k + 1 => by simp only [tc, Zmc n k, Z3f]; rfl
def g_s2 (c0 : Csr) (my : Int → Option Bool) (i25 : Int) (xs29 : List Bool) (row31 : List Int) (a41 : Int) : Option ((List Bool × List Int × Int) ⊕ (List Bool × List Int)) :=
  gd (inb i25 row31.length) <|
  gd (i64ok ((row31.getD i25.toNat 0) + 1)) <|
  gd (inb ((row31.getD i25.toNat 0) + 1) c0.First.length) <|
  if a41 < (c0.First.getD ((row31.getD i25.toNat 0) + 1).toNat 0) then
  (Option.bind (my a41) fun r46 =>
  if r46 = true then
  (gd (inb a41 c0.Head.length) <|
  Option.bind (Zb5 (c0.Head.getD a41.toNat 0) xs29 row31) fun (r50, r51) =>
  gd (i64ok (a41 + 1)) <|
  some (.inl (r50, r51, (a41 + 1))))
  else
  gd (i64ok (a41 + 1)) <|
  some (.inl (xs29, row31, (a41 + 1))))
  else
  some (.inr (xs29, row31))
def g_s1 (c0 : Csr) (my : Int → Option Bool) (xs13 : List Bool) (row15 : List Int) (i25 : Int) : Option ((List Bool × List Int × Int) ⊕ (List Bool)) :=
  if i25 < (row15.length : Int) then
  (gd (inb i25 row15.length) <|
  gd (inb (row15.getD i25.toNat 0) c0.First.length) <|
  Option.bind (Z21 (fun s => g_s2 c0 my i25 s.1 s.2.1 s.2.2) Z3k (xs13, row15, (c0.First.getD (row15.getD i25.toNat 0).toNat 0))) fun (p2_0_0, p2_0_1) => gd (i64ok (i25 + 1)) <| some (.inl (p2_0_0, p2_0_1, (i25 + 1))))
  else
  some (.inr xs13)
def g_met (c0 : Csr) (from1 : Int) (my : Int → Option Bool) : Option (List Bool) :=
  gd (mkok c0.N) <|
  gd (inb from1 (List.replicate c0.N.toNat (false : Bool)).length) <|
  Option.bind (Z21 (fun s => g_s1 c0 my s.1 s.2.1 s.2.2) Z3k (((List.replicate c0.N.toNat (false : Bool)).set from1.toNat true), [from1], 0)) fun p1_0_0 => some p1_0_0
theorem g_From (c : Csr) (s : Int) (r : List Int) : Z8n c s r = g_met c s (fun a => Za8 a r) := rfl
structure MetI (G : Nat → Nat → Prop) (s m : Nat) (xs : List Bool) (row : List Int) : Prop where
  len : xs.length = m
  nat : ∀ q, q < row.length → ∃ v : Nat, row.getD q 0 = v ∧ v < m ∧ xs.getD v false = true ∧ Reach G s v
  has : ∀ v, v < m → xs.getD v false = true → ∃ q, q < row.length ∧ row.getD q 0 = (v : Int)
  cnt : row.length = tc xs m
theorem MetI.le {G : Nat → Nat → Prop} {s m : Nat} {xs : List Bool} {row : List Int} (h : MetI G s m xs row) : row.length ≤ m := by rw [h.cnt]; exact tc_le _ _
theorem MetI.put {G : Nat → Nat → Prop} {s m v : Nat} {xs : List Bool} {row : List Int} (h : MetI G s m xs row) (hv : v < m) (hf : xs.getD v false = false) (hr : Reach G s v) : MetI G s m (xs.set v true) (row ++ [(v : Int)]) := by
 have hl := h.len
 refine ⟨by simp [hl], fun q hq => ?_, fun u hu hx => ?_, ?_⟩
 ·
  rw [List.length_append, List.length_singleton] at hq
  rcases Nat.lt_or_ge q row.length with h1 | h1
  ·
   obtain ⟨u, h2, h3, h4, h5⟩ := h.nat q h1
   refine ⟨u, by rw [Z2o h1]; exact h2, h3, ?_, h5⟩
   rw [Ze4]; split
   · rfl
   · exact h4
  ·
   refine ⟨v, ?_, hv, by rw [Ze4, if_pos ⟨rfl, by omega⟩], hr⟩
   rw [Zb7 h1, show q - row.length = 0 by omega]; rfl
 ·
  rw [Ze4] at hx
  by_cases c : v = u
  ·
   refine ⟨row.length, by simp, ?_⟩
   rw [Zb7 (Nat.le_refl _), Nat.sub_self, ← c]; rfl
  ·
   rw [if_neg (fun h => c h.1)] at hx
   obtain ⟨q, h1, h2⟩ := h.has u hu hx
   exact ⟨q, by rw [List.length_append]; omega, by rw [Z2o h1]; exact h2⟩
 · rw [List.length_append, List.length_singleton, Zkv (by omega) hf, if_pos hv, h.cnt]
theorem s_met {n : Net} {m s : Nat} {c : Csr} {my : Int → Option Bool} {mb : Nat → Bool} (hc : CsrIs n m c) (he : Z52 m n.Arcs) (hm : m ≤ 4096) (hl : n.Arcs.length ≤ 16384) (hs : s < m) (hmy : ∀ j : Nat, j < Z11 n.Arcs m → my j = some (mb j)) :
    Ok (g_met c s my) (fun r => r.length = m ∧ ∀ v, v < m → (r.getD v false = true ↔ Reach (fun u w => ∃ j, Z11 n.Arcs u ≤ j ∧ j < Z11 n.Arcs (u + 1) ∧ mb j = true ∧ c.Head.getD j 0 = w) s v)) := by
  obtain ⟨G, hG⟩ : ∃ G : Nat → Nat → Prop, (fun (u w : Nat) => ∃ j, Z11 n.Arcs u ≤ j ∧ j < Z11 n.Arcs (u + 1) ∧ mb j = true ∧ c.Head.getD j 0 = (w : Int)) = G := ⟨_, rfl⟩
  rw [hG]
  have hbs := Z7u (al := n.Arcs) (v := m) hm hl
  have lf := hc.ok.lf
  have lh := hc.ok.lh
  have hf := hc.ok.hf
  unfold g_met
  rw [hc.hN]
  simp only [Int.toNat_natCast]
  refine Ok.gd.2 ⟨(by omega), Ok.gd.2 ⟨by rw [List.length_replicate]; constructor <;> omega, Ok.bind.2 ?_⟩⟩
  refine Z7g (fun st => ∃ k : Nat, st.2.2 = k ∧ k ≤ st.2.1.length ∧ MetI G s m st.1 st.2.1 ∧ st.1.getD s false = true ∧ ∀ q, q < k → ∀ w, w < m → G (st.2.1.getD q 0).toNat w → st.1.getD w false = true) (fun st => (m - st.2.2).toNat)
    ⟨0, rfl, by omega, ⟨by simp, fun q hq => ?_, fun v hv hx => ?_, ?_⟩, by rw [Ze4, if_pos ⟨rfl, by simpa using hs⟩], fun q hq => by omega⟩ (by unfold Z3k; simp only; omega) ?_
  · have : q = 0 := by simp at hq; exact hq
    subst this
    exact ⟨s, rfl, hs, by rw [Ze4, if_pos ⟨rfl, by simpa using hs⟩], .refl⟩
  · rw [Ze4] at hx
    by_cases c1 : s = v
    · exact ⟨0, by simp, by rw [← c1]; rfl⟩
    · rw [if_neg (fun h => c1 h.1), Z3f] at hx; cases hx
  · rw [Zkv (by simpa using hs) (Z3f _ _ _), Zmc, if_pos hs]; rfl
  rintro ⟨xs, row, x⟩ ⟨k, h1, hk, hI, hS, hP⟩ P next exit
  simp only at h1 hk hI hS hP next ⊢
  subst h1
  unfold g_s1
  have hle := hI.le
  simp only [Int.toNat_natCast]
  refine Ok.ite.2 ⟨fun hx => ?_, fun hx => Ok.some.2 (exit _ (Ok.some.2 ?_))⟩
  · obtain ⟨u, hu, hum, -, hur⟩ := hI.nat k (by omega)
    simp only [hu, Int.toNat_natCast, hf u (by omega)]
    refine Ok.gd.2 ⟨(by omega), Ok.gd.2 ⟨(by omega), Ok.bind.2 ?_⟩⟩
    have hmo := Z57 (al := n.Arcs) (show u ≤ u + 1 by omega)
    have hmo2 := Z57 (al := n.Arcs) (show u + 1 ≤ m by omega)
    refine Z7g (fun st => ∃ j : Nat, st.2.2 = j ∧ Z11 n.Arcs u ≤ j ∧ j ≤ Z11 n.Arcs (u + 1) ∧ MetI G s m st.1 st.2.1 ∧ st.1.getD s false = true ∧ k < st.2.1.length ∧ st.2.1.getD k 0 = u ∧ (∀ q, q < k → ∀ w, w < m → G (st.2.1.getD q 0).toNat w → st.1.getD w false = true) ∧
      ∀ i, Z11 n.Arcs u ≤ i → i < j → mb i = true → ∀ w : Nat, c.Head.getD i 0 = (w : Int) → st.1.getD w false = true) (fun st => (Z11 n.Arcs (u + 1) - st.2.2).toNat) ⟨_, rfl, Nat.le_refl _, hmo, hI, hS, by simp only; omega, hu, hP, fun i h1 h2 => by omega⟩ (by unfold Z3k; simp only; omega) ?_
    rintro ⟨ys, rw', y⟩ ⟨j, h1, hj0, hj1, hI2, hS2, hkl, hku, hP2, hA⟩ P2 next2 exit2
    simp only at h1 hI2 hS2 hkl hku hP2 hA next2 ⊢
    subst h1
    unfold g_s2
    have eu : ((u : Int) + 1).toNat = u + 1 := by omega
    have hle2 := hI2.le
    have hyl := hI2.len
    simp only [Int.toNat_natCast, hku, eu, hf (u + 1) (by omega)]
    refine Ok.gd.2 ⟨(by omega), Ok.gd.2 ⟨(by omega), Ok.gd.2 ⟨(by omega), Ok.ite.2 ⟨fun hy => ?_, fun hy => Ok.some.2 (exit2 _ ?_)⟩⟩⟩⟩
    · refine Ok.bind.2 (Zcr (hmy j (by omega)) (Ok.ite.2 ⟨fun hb => ?_, fun hb => ?_⟩))
      · obtain ⟨i, t, hi, hne, hp, q1, -, -, -, -⟩ := hc.ok.place (j := j) (by omega)
        have hv := he i hi (!t)
        obtain ⟨v, hvv⟩ : ∃ v : Nat, vtx (n.Arcs.getD i default) (!t) = v := ⟨(vtx (n.Arcs.getD i default) (!t)).toNat, by omega⟩
        rw [hvv] at q1 hv
        have hGu : G u v := by rw [← hG]; exact ⟨j, hj0, by omega, hb, q1⟩
        simp only [q1]
        refine Ok.gd.2 ⟨(by omega), Ok.bind.2 ?_⟩
        unfold Zb5
        simp only [Int.toNat_natCast]
        refine Ok.gd.2 ⟨(by omega), Ok.ite.2 ⟨fun hn => ?_, fun hn => Ok.some.2 (Ok.gd.2 ⟨(by omega), Ok.some.2 (next2 _ ⟨j + 1, by simp, by omega, by omega, hI2, hS2, hkl, hku, hP2, fun i' h1 h2 h3 w hw => ?_⟩ (by simp only; omega))⟩)⟩⟩
        · have hn' : ys.getD v false = false := by simpa using hn
          have hI3 := hI2.put (by omega) hn' (.step hur hGu)
          have up : ∀ w, ys.getD w false = true → (ys.set v true).getD w false = true := fun w hw => by
            rw [Ze4]; split
            · rfl
            · exact hw
          refine Ok.gd.2 ⟨(by omega), Ok.gd.2 ⟨?_, Ok.some.2 (Ok.gd.2 ⟨(by omega), Ok.some.2 (next2 _ ⟨j + 1, by simp, by omega, by omega, hI3, up _ hS2, by rw [List.length_append]; omega, by rw [Z2o hkl]; exact hku, fun q hq w hw hg => ?_, fun i' h1 h2 h3 w hw => ?_⟩ (by simp only; omega))⟩)⟩⟩
          · rw [List.length_append, List.length_singleton]; constructor <;> omega
          · simp only at hg ⊢
            rw [Z2o (by omega)] at hg
            exact up w (hP2 q hq w hw hg)
          · simp only
            rcases Nat.lt_or_ge i' j with h4 | h4
            · exact up w (hA i' h1 h4 h3 w hw)
            · rw [show i' = j by omega, q1] at hw
              have : v = w := by omega
              subst this
              rw [Ze4, if_pos ⟨rfl, by omega⟩]
        · simp only
          rcases Nat.lt_or_ge i' j with h4 | h4
          · exact hA i' h1 h4 h3 w hw
          · rw [show i' = j by omega, q1] at hw
            have : v = w := by omega
            subst this
            simpa using hn
      · refine Ok.gd.2 ⟨(by omega), Ok.some.2 (next2 _ ⟨j + 1, by simp, by omega, by omega, hI2, hS2, hkl, hku, hP2, fun i' h1 h2 h3 w hw => ?_⟩ (by simp only; omega))⟩
        rcases Nat.lt_or_ge i' j with h4 | h4
        · exact hA i' h1 h4 h3 w hw
        · rw [show i' = j by omega] at h3; exact absurd h3 hb
    · obtain rfl : j = Z11 n.Arcs (u + 1) := by omega
      refine Ok.gd.2 ⟨(by omega), Ok.some.2 (next _ ⟨k + 1, by simp, by simp only; omega, hI2, hS2, fun q hq w hw hg => ?_⟩ (by simp only; omega))⟩
      simp only at hg ⊢
      rcases Nat.lt_or_ge q k with h4 | h4
      · exact hP2 q h4 w hw hg
      · rw [show q = k by omega, hku, Int.toNat_natCast, ← hG] at hg
        obtain ⟨i, h5, h6, h7, h8⟩ := hg
        exact hA i h5 h6 h7 w h8
  · obtain rfl : k = row.length := by omega
    refine ⟨hI.len, fun v hv => ⟨fun hx => ?_, fun hr => ?_⟩⟩
    · obtain ⟨q, hq, hqv⟩ := hI.has v hv hx
      obtain ⟨u, h1, h2, h3, h4⟩ := hI.nat q hq
      have : u = v := by omega
      subst this; exact h4
    · clear hv
      have : v < m ∧ xs.getD v false = true := by
        induction hr with
        | refl => exact ⟨hs, hS⟩
        | step _ hg ih =>
          obtain ⟨h1, h2⟩ := ih
          rename_i u w _
          have hw : w < m := by
            rw [← hG] at hg
            obtain ⟨i, h5, h6, h7, h8⟩ := hg
            have := Z57 (al := n.Arcs) (show u + 1 ≤ m by omega)
            obtain ⟨i', t, hi, hne, hp, q1, -, -, -, -⟩ := hc.ok.place (j := i) (by omega)
            have hv := he i' hi (!t)
            omega
          obtain ⟨q, hq, hqv⟩ := hI.has u h1 h2
          refine ⟨hw, hP q hq w hw ?_⟩
          rw [hqv, Int.toNat_natCast]; exact hg
      exact this.2
def Zf2 (n : Net) (f : List Int) (u v : Nat) : Prop := ∃ i, i < n.Arcs.length ∧ (n.Arcs.getD i default).fr ≠ (n.Arcs.getD i default).to ∧
  (((n.Arcs.getD i default).fr = u ∧ (n.Arcs.getD i default).to = v ∧ f.getD i 0 < (n.Arcs.getD i default).cap) ∨ ((n.Arcs.getD i default).to = u ∧ (n.Arcs.getD i default).fr = v ∧ 0 < f.getD i 0))
theorem s_left {n : Net} {f : List Int} (hl : lenok n.Arcs.length) : Ok (Zc1 n f) (fun r => (FwithinP n f ∧ r.2.2 = 0 ∧ CsrIs n n.N.toNat r.1 ∧ ResAt r.1.Arc r.1.Cap r.1.Back f (Z11 n.Arcs n.N.toNat) (Z11 n.Arcs n.N.toNat) r.2.1) ∨ (¬FwithinP n f ∧ r.2.2 = 20)) := by
 unfold Zc1
 refine Ok.bind.2 (Ok.mono (Zl1 hl) fun b hb => Ok.ite.2 ⟨fun h => Ok.some.2 (.inr ⟨fun h2 => (by rw [hb.2 h2] at h; cases h), rfl⟩), fun h => ?_⟩)
 have hw := hb.1 (Zcy h)
 have hz := Z1t hw.1
 obtain ⟨m, hm, he⟩ := Zhh hw.1
 refine Ok.bind.2 (Ok.mono (Zmw hm hw.1 hl) ?_)
 rintro ⟨c, e⟩ ⟨hc, rfl⟩
 have hc : CsrIs n m c := hc
 simp only
 rw [if_neg (by simp)]
 have hbs := Z7u (al := n.Arcs) (v := m) (by omega) (by omega)
 have hcaps := Z9t hw.1
 have hcapt : ∀ i, i < n.Arcs.length → (n.Arcs.getD i default).cap ≤ 4611686018427387904 := fun i hi => by
  have h1 := Zdd hw.1 (i + 1) hi
  have h2 := Zdd hw.1 i (by omega)
  simp only [Znw] at h1
  omega
 refine Ok.bind.2 (Ok.mono (s_Res (L := Z11 n.Arcs m) hc.ok.lh hc.ok.lc hc.ok.la hc.ok.lb hbs hc.ok.aa0 fun j hj => ?_) ?_)
 ·
  obtain ⟨i, s, hi, hne, hp, q1, q2, q3, q4, q5⟩ := hc.ok.place hj
  have := hcaps i hi
  have := hcapt i hi
  rw [q3]; split <;> omega
 ·
  rintro ⟨r, e⟩ (⟨-, h1, h2⟩ | ⟨⟨j, hj, hbad⟩, -⟩)
  ·
   refine Ok.some.2 (.inl ⟨hw, h1, ?_, ?_⟩)
   · rw [hm, Int.toNat_natCast]; exact hc
   · rw [hm, Int.toNat_natCast]; exact h2
  ·
   exfalso
   obtain ⟨i, s, hi, hne, hp, q1, q2, q3, q4, q5⟩ := hc.ok.place hj
   refine hbad ?_
   unfold Zio
   rw [q3, q4, q5]
   have := hw.2.1
   refine ⟨by omega, ?_⟩
   cases s
   · right; simp only [Int.toNat_natCast, Bool.false_eq_true, if_false]; exact hw.2.2 i hi
   · exact .inl rfl
theorem Zit {n : Net} {m : Nat} {c : Csr} {f r : List Int} (hc : CsrIs n m c) (he : Z52 m n.Arcs) (hr : ResAt c.Arc c.Cap c.Back f (Z11 n.Arcs m) (Z11 n.Arcs m) r) {i : Nat} {s : Bool} (hi : i < n.Arcs.length) (hne : (n.Arcs.getD i default).fr ≠ (n.Arcs.getD i default).to) :
    r.getD (pos n.Arcs i s) 0 = if s then f.getD i 0 else (n.Arcs.getD i default).cap - f.getD i 0 := by
  obtain ⟨z1, z2, z3, z4, z5⟩ := hc.ok.hat i hi hne s
  rw [(hr.2 _ (Zdi hi hne he)).2]
  unfold Zqs
  rw [z3, z4, z5]
  cases s <;> simp
theorem Zl5 {n : Net} {m : Nat} {c : Csr} {f r : List Int} (hc : CsrIs n m c) (he : Z52 m n.Arcs) (hr : ResAt c.Arc c.Cap c.Back f (Z11 n.Arcs m) (Z11 n.Arcs m) r) {u v : Nat} (hu : u < m) (t : Bool) :
    (∃ j, Z11 n.Arcs u ≤ j ∧ j < Z11 n.Arcs (u + 1) ∧ (decide (0 < r.getD (if t then (c.Rev.getD j 0).toNat else j) 0)) = true ∧ c.Head.getD j 0 = (v : Int)) ↔ (if t then Zf2 n f v u else Zf2 n f u v) := by
  have hmo := Z57 (al := n.Arcs) (show u + 1 ≤ m by omega)
  constructor
  · rintro ⟨j, h1, h2, h3, h4⟩
    obtain ⟨i, s, hi, hne, hp, q1, q2, q3, q4, q5⟩ := hc.ok.place (j := j) (by omega)
    have hv := he i hi s
    obtain ⟨p1, p2⟩ := Zqv (v := u) hi hne hv.1 (by omega) (by omega)
    have h3 := of_decide_eq_true h3
    rw [q1] at h4
    have ha : (if t then (c.Rev.getD j 0).toNat else j) = pos n.Arcs i (if t then !s else s) := by
      cases t
      · exact hp.symm
      · show (c.Rev.getD j 0).toNat = _
        rw [q2, Int.toNat_natCast]; rfl
    rw [ha, Zit hc he hr hi hne] at h3
    cases t <;> cases s <;> simp only [Bool.not_true, Bool.not_false, if_true, if_false, Bool.false_eq_true, vtx] at h3 h4 p1 ⊢
    · exact ⟨i, hi, hne, .inl ⟨p1, h4, by omega⟩⟩
    · exact ⟨i, hi, hne, .inr ⟨p1, h4, h3⟩⟩
    · exact ⟨i, hi, hne, .inr ⟨h4, p1, h3⟩⟩
    · exact ⟨i, hi, hne, .inl ⟨h4, p1, by omega⟩⟩
  · intro h
    have key : ∀ (i : Nat) (s : Bool), i < n.Arcs.length → (n.Arcs.getD i default).fr ≠ (n.Arcs.getD i default).to → vtx (n.Arcs.getD i default) s = (u : Int) → vtx (n.Arcs.getD i default) (!s) = (v : Int) → 0 < r.getD (pos n.Arcs i (if t then !s else s)) 0 →
        ∃ j, Z11 n.Arcs u ≤ j ∧ j < Z11 n.Arcs (u + 1) ∧ (decide (0 < r.getD (if t then (c.Rev.getD j 0).toNat else j) 0)) = true ∧ c.Head.getD j 0 = (v : Int) := by
      intro i s hi hne hu' hv' h0
      have hcl := Zgr (s := s) hi hne (by omega)
      have hpos : pos n.Arcs i s = Z11 n.Arcs u + cnt n.Arcs u i := by unfold pos; rw [hu', Int.toNat_natCast]
      rw [hu', Int.toNat_natCast] at hcl
      have hb1 : Z11 n.Arcs (u + 1) = Z11 n.Arcs u + cnt n.Arcs u n.Arcs.length := rfl
      obtain ⟨z1, z2, z3, z4, z5⟩ := hc.ok.hat i hi hne s
      refine ⟨pos n.Arcs i s, by omega, by omega, decide_eq_true ?_, by rw [z1]; exact hv'⟩
      rw [z2]
      cases t
      · simpa using h0
      · simpa using h0
    cases t
    · simp only [Bool.false_eq_true, if_false] at h key ⊢
      obtain ⟨i, hi, hne, ⟨a1, a2, a3⟩ | ⟨a1, a2, a3⟩⟩ := h
      · refine key i false hi hne (by simpa [vtx] using a1) (by simpa [vtx] using a2) ?_
        rw [Zit hc he hr hi hne]; simp only [Bool.false_eq_true, if_false]; omega
      · refine key i true hi hne (by simpa [vtx] using a1) (by simpa [vtx] using a2) ?_
        rw [Zit hc he hr hi hne]; simpa using a3
    · simp only [if_true] at h key ⊢
      obtain ⟨i, hi, hne, ⟨a1, a2, a3⟩ | ⟨a1, a2, a3⟩⟩ := h
      · refine key i true hi hne (by simpa [vtx] using a2) (by simpa [vtx] using a1) ?_
        rw [Zit hc he hr hi hne]; simp only [Bool.not_true, Bool.false_eq_true, if_false]; omega
      · refine key i false hi hne (by simpa [vtx] using a2) (by simpa [vtx] using a1) ?_
        rw [Zit hc he hr hi hne]; simpa using a3
theorem Zo8 {n : Net} {m : Nat} {f : List Int} (he : Z52 m n.Arcs) {G : Nat → Nat → Prop} {s : Nat} (hs : s < m) (h : ∀ u v, u < m → (G u v ↔ Zf2 n f u v)) {v : Nat} : Reach G s v ↔ Reach (Zf2 n f) s v := by
 have lt : ∀ {u w}, Zf2 n f u w → u < m ∧ w < m := by
  rintro u w ⟨i, hi, _, h1⟩
  have h0 := he i hi false
  have h2 := he i hi true
  simp only [vtx, Bool.false_eq_true, if_false, if_true] at h0 h2
  omega
 constructor
 ·
  intro hr
  have : v < m ∧ Reach (Zf2 n f) s v := by
   induction hr with
   | refl => exact ⟨hs, .refl⟩
   | step _ hg ih => have ho := (h _ _ ih.1).1 hg; exact ⟨(lt ho).2, .step ih.2 ho⟩
  exact this.2
 ·
  intro hr
  exact hr.mono fun u w ho => (h u w (lt ho).1).2 ho
theorem s_From {n : Net} {f : List Int} (hl : lenok n.Arcs.length) : Ok (Zc3 n f) (fun r => (FwithinP n f ∧ r.2 = 0 ∧ r.1.length = n.N.toNat ∧ ∀ v, v < n.N.toNat → (r.1.getD v false = true ↔ Reach (Zf2 n f) n.S.toNat v)) ∨ (¬FwithinP n f ∧ r = ([], 20))) := by
 unfold Zc3
 refine Ok.bind.2 (Ok.mono (s_left hl) ?_)
 rintro ⟨c, r, e⟩ (⟨hw, h1, hc, hr⟩ | ⟨hw, h1⟩)
 rotate_left
 ·
  simp only at h1
  subst h1
  exact Ok.ite.2 ⟨fun _ => Ok.some.2 (.inr ⟨hw, rfl⟩), fun h => absurd (by omega) h⟩
 simp only at h1 hc hr
 subst h1
 simp only
 rw [if_neg (by simp)]
 have hz := Z1t hw.1
 simp only [Z3q, decide_eq_true_eq] at hz
 obtain ⟨m, hm, he⟩ := Zhh hw.1
 obtain ⟨s, hs⟩ : ∃ s : Nat, n.S = s := ⟨n.S.toNat, by omega⟩
 rw [hm, Int.toNat_natCast] at hc hr
 have hbs := Z7u (al := n.Arcs) (v := m) (by omega) (by omega)
 have hrl := hr.1
 rw [g_From, hs]
 refine Ok.bind.2 (Ok.mono (s_met (mb := fun j => decide (0 < r.getD j 0)) hc he (by omega) (by omega) (show s < m by omega) fun j hj => ?_) fun x hx => Ok.some.2 (.inl ⟨hw, rfl, ?_, fun v hv => ?_⟩))
 · unfold Za8; rw [Zaj (by constructor <;> omega), Int.toNat_natCast]
 · rw [hm, Int.toNat_natCast]; exact hx.1
 ·
  rw [hm, Int.toNat_natCast] at hv
  rw [hx.2 v hv, Int.toNat_natCast]
  exact Zo8 he (by omega) fun u w hu => by simpa using Zl5 (v := w) hc he hr hu false
end Go.Acq
namespace Go.Acq
open Go
set_option linter.unusedSimpArgs false
def Zh9 (al : List Arc) (f : List Int) (c : List Bool) (j : Int) : Nat → Int
  | 0 => 0
  | k + 1 => Zh9 al f c j k - (if (al.getD k default).fr < j ∧ inS c (al.getD k default).fr = false then f.getD k 0 else 0) + (if (al.getD k default).to < j ∧ inS c (al.getD k default).to = false then f.getD k 0 else 0)
theorem Zfv {al : List Arc} {f : List Int} {c : List Bool} (j : Int) : ∀ k, Zh9 al f c (j + 1) k = Zh9 al f c j k + (if inS c j = false then ex al f j k else 0)
 | 0 => by simp [Zh9, ex]
 | k + 1 => by
  have ih := Zfv (al := al) (f := f) (c := c) j k
  simp only [Zh9, ex, ih]
  have e1 : ∀ x : Int, (if x < j + 1 ∧ inS c x = false then f.getD k 0 else 0) = (if x < j ∧ inS c x = false then f.getD k 0 else 0) + (if x = j ∧ inS c j = false then f.getD k 0 else 0) := fun x => by
   by_cases h1 : x < j
   ·
    by_cases h3 : inS c x = false
    · rw [if_pos ⟨by omega, h3⟩, if_pos ⟨h1, h3⟩, if_neg (fun h => by omega)]; omega
    · rw [if_neg (fun h => h3 h.2), if_neg (fun h => h3 h.2), if_neg (fun h => by omega)]; omega
   ·
    by_cases h2 : x = j
    ·
     subst h2
     by_cases h3 : inS c x = false
     · rw [if_pos ⟨by omega, h3⟩, if_neg (fun h => h1 h.1), if_pos ⟨rfl, h3⟩]; omega
     · rw [if_neg (fun h => h3 h.2), if_neg (fun h => h3 h.2), if_neg (fun h => h3 h.2)]; omega
    · rw [if_neg (fun h => by omega), if_neg (fun h => by omega), if_neg (fun h => h2 h.1)]; omega
  rw [e1, e1]
  by_cases h : inS c j = false
  ·
   simp only [h, and_true, if_true]
   omega
  ·
   simp only [h, Bool.not_eq_false, and_false, if_false, ite_false, reduceCtorEq]
   omega
theorem Zfw {al : List Arc} {f : List Int} {c : List Bool} {m : Nat} (he : Z52 m al) : ∀ k, k ≤ al.length → Zh9 al f c 0 k = 0
 | 0, _ => rfl
 | k + 1, hk => by
  have h0 := he k hk false
  have h1 := he k hk true
  simp only [vtx, Bool.false_eq_true, if_false, if_true] at h0 h1
  simp only [Zh9, Zfw he k (by omega)]
  rw [if_neg (fun h => by omega), if_neg (fun h => by omega)]; rfl
theorem Zhq {al : List Arc} {f : List Int} {c : List Bool} {m : Nat} (he : Z52 m al) : ∀ k, k ≤ al.length → Zh9 al f c m k = acK al f c k
 | 0, _ => rfl
 | k + 1, hk => by
  have h0 := he k hk false
  have h1 := he k hk true
  simp only [vtx, Bool.false_eq_true, if_false, if_true] at h0 h1
  simp only [Zh9, acK, Zhq he k (by omega)]
  obtain ⟨A, hA⟩ : ∃ A, al.getD k default = A := ⟨_, rfl⟩
  obtain ⟨F, hF⟩ : ∃ F, f.getD k 0 = F := ⟨_, rfl⟩
  rw [hA] at h0 h1 ⊢
  rw [hF]
  cases a : inS c A.fr <;> cases b : inS c A.to <;> simp [h0.2, h1.2] <;> omega
theorem Zka {al : List Arc} {f : List Int} {c : List Bool} (h : ∀ i, i < al.length → 0 ≤ f.getD i 0 ∧ f.getD i 0 ≤ (al.getD i default).cap) : ∀ k, k ≤ al.length → acK al f c k ≤ Zim al c k ∧ (acK al f c k = Zim al c k ↔ ∀ i, i < k → Zgk al f c i)
 | 0, _ => ⟨Int.le_refl _, fun _ i hi => by omega, fun _ => rfl⟩
 | k + 1, hk => by
  obtain ⟨g1, g2⟩ := Zka (c := c) h k (by omega)
  have hf := h k (by omega)
  have key : (∀ i, i < k + 1 → Zgk al f c i) ↔ (∀ i, i < k → Zgk al f c i) ∧ Zgk al f c k :=
   ⟨fun hh => ⟨fun i hi => hh i (by omega), hh k (by omega)⟩, fun hh i hi => by
    rcases Nat.lt_or_ge i k with h1 | h1
    · exact hh.1 i h1
    · rw [show i = k by omega]; exact hh.2⟩
  rw [key, ← g2]
  simp only [acK, Zim, Zgk]
  obtain ⟨A, hA⟩ : ∃ A, al.getD k default = A := ⟨_, rfl⟩
  obtain ⟨F, hF⟩ : ∃ F, f.getD k 0 = F := ⟨_, rfl⟩
  rw [hA, hF] at hf
  rw [hA, hF]
  cases a : inS c A.fr <;> cases b : inS c A.to <;> simp <;> omega
theorem Zeu {n : Net} {f : List Int} {c : List Bool} {m : Nat} (hm : n.N = m) (he : Z52 m n.Arcs) (hA : Zqb n f (fun x => x = 0) [n.S, n.T]) (hc : CutR n c) : acK n.Arcs f c n.Arcs.length = ex n.Arcs f n.T n.Arcs.length := by
 have hz := Z1t hc.1
 simp only [Z3q, decide_eq_true_eq] at hz
 have hj : ∀ j : Nat, j ≤ m → Zh9 n.Arcs f c j n.Arcs.length = if n.T < j then ex n.Arcs f n.T n.Arcs.length else 0 := by
  intro j
  induction j with
  | zero => intro _; rw [show ((0 : Nat) : Int) = 0 from rfl, Zfw he _ (Nat.le_refl _), if_neg (by omega)]
  | succ j ih =>
   intro hj
   rw [Int.natCast_succ, Zfv, ih (by omega)]
   by_cases c1 : n.T = j
   · rw [← c1, if_neg (by omega), if_pos hc.2.2.2, if_pos (by omega)]; omega
   ·
    have hz : (if inS c j = false then ex n.Arcs f j n.Arcs.length else 0) = 0 := by
     by_cases c2 : inS c j = false
     ·
      rw [if_pos c2]
      rcases hA.2 j (by omega) with h7 | h7
      · exact h7
      ·
       simp only [List.mem_cons, List.not_mem_nil, or_false] at h7
       rcases h7 with h7 | h7
       · rw [h7, hc.2.2.1] at c2; cases c2
       · exact absurd h7.symm c1
     · rw [if_neg c2]
    rw [hz]
    by_cases c3 : n.T < j
    · rw [if_pos c3, if_pos (by omega)]; omega
    · rw [if_neg c3, if_neg (by omega)]; rfl
 have := hj m (Nat.le_refl _)
 rw [Zhq he _ (Nat.le_refl _), if_pos (by omega)] at this
 exact this
end Go.Acq
