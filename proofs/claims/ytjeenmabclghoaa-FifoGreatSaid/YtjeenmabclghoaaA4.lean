/- Texts of this claim, one behind the other. -/
import Derived.Test.YtjeenmabclghoaaA1
import Derived.Test.YtjeenmabclghoaaA2
import Derived.Test.YtjeenmabclghoaaA3
set_option linter.unusedVariables false
set_option linter.unusedSimpArgs false
namespace Go.Proofs.Ytjeenmabclghoaa.Ax
open Go Go.Acq Go.RowKit Go.Proofs
set_option linter.unusedVariables false
set_option linter.unusedSimpArgs false
set_option maxHeartbeats 8000000
set_option maxRecDepth 20000
theorem Zez : Zaa Try.prog 24 4 = true := by kernel_rfl
theorem Zey : Zaa Try.prog 29 3 = true := by kernel_rfl
theorem Zc9 : Zaa Try.prog 32 9 = true := by kernel_rfl
theorem Zc8 : Zaa Try.prog 60 3 = true := by kernel_rfl
theorem Z6q : Zaa Try.prog 62 2 = true := by kernel_rfl
theorem Znq : Zaa Try.prog 67 3 = true := by kernel_rfl
theorem TWBS8.b3 : Z5p Try.prog 3 = some 8 := by kernel_rfl
theorem TWBS8.b4 : Z5p Try.prog 4 = some 1 := by kernel_rfl
theorem Zl3 : Z0q Try.prog 107 = true := by kernel_rfl
theorem Znp : Z0q Try.prog 17 = true := by kernel_rfl
theorem Zno : Z0q Try.prog 22 = true := by kernel_rfl
theorem Znn : Z0q Try.prog 51 = true := by kernel_rfl
theorem Znm : Z0q Try.prog 52 = true := by kernel_rfl
theorem Znl : Z0q Try.prog 54 = true := by kernel_rfl
theorem Znk : Z0q Try.prog 55 = true := by kernel_rfl
theorem Znj : Z0q Try.prog 79 = true := by kernel_rfl
theorem Zif : Z0q Try.prog 87 = true := by kernel_rfl
theorem Zni : Z0q Try.prog 88 = true := by kernel_rfl
theorem Znh : Z0q Try.prog 89 = true := by kernel_rfl
theorem Z4k : Z17 Try.prog 123 0 = some 0 := by kernel_rfl
theorem Z2f : Z17 Try.prog 123 1 = some 9 := by kernel_rfl
theorem Zdd : Z17 Try.prog 123 2 = some 12 := by kernel_rfl
theorem Zar : Z17 Try.prog 123 3 = some 13 := by kernel_rfl
theorem Z7j : Z17 Try.prog 123 4 = some 14 := by kernel_rfl
theorem Za2 : Z17 Try.prog 24 0 = some 0 := by kernel_rfl
theorem Zjn : Z17 Try.prog 24 2 = some 2 := by kernel_rfl
theorem Zex : Z17 Try.prog 24 3 = some 3 := by kernel_rfl
theorem Z8k : Z17 Try.prog 29 0 = some 0 := by kernel_rfl
theorem Z70 : Z17 Try.prog 29 1 = some 1 := by kernel_rfl
theorem Zbk : Z17 Try.prog 29 2 = some 2 := by kernel_rfl
theorem Za1 : Z17 Try.prog 32 0 = some 0 := by kernel_rfl
theorem Zjm : Z17 Try.prog 32 1 = some 1 := by kernel_rfl
theorem Zjl : Z17 Try.prog 32 2 = some 2 := by kernel_rfl
theorem Zew : Z17 Try.prog 32 3 = some 3 := by kernel_rfl
theorem Zev : Z17 Try.prog 32 4 = some 4 := by kernel_rfl
theorem Zjk : Z17 Try.prog 32 5 = some 5 := by kernel_rfl
theorem Zeu : Z17 Try.prog 62 0 = some 0 := by kernel_rfl
theorem Zet : Z17 Try.prog 62 1 = some 1 := by kernel_rfl
theorem Zjj : Z17 Try.prog 67 0 = some 0 := by kernel_rfl
theorem Zji : Z17 Try.prog 67 1 = some 1 := by kernel_rfl
theorem Zl2 : chanT Try.prog 121 = some 3 := by kernel_rfl
theorem Zes : Z1q Try.prog 22 = some 67 := by kernel_rfl
theorem Z3z : Z1q Try.prog 26 = some 2 := by kernel_rfl
theorem Z7i : Z1q Try.prog 27 = some 3 := by kernel_rfl
theorem Zc7 : Z1q Try.prog 30 = some 4 := by kernel_rfl
theorem Z3q : Z1g Try.prog 2 = some 1 := by kernel_rfl
theorem Zie : Z1g Try.prog 29 = some 3 := by kernel_rfl
theorem Z6p : Z1g Try.prog 3 = some 1 := by kernel_rfl
theorem Zng : Z1g Try.prog 32 = some 9 := by kernel_rfl
theorem Zb1 : Z1g Try.prog 4 = some 1 := by kernel_rfl
theorem Zc6 : Z1g Try.prog 60 = some 3 := by kernel_rfl
theorem Z7h : Z1g Try.prog 62 = some 2 := by kernel_rfl
theorem Zid : Z1g Try.prog 67 = some 3 := by kernel_rfl
theorem Zg2 : Z2k Try.prog 121 = true := by kernel_rfl
theorem Z79 : Z2k Try.prog 2 = true := by kernel_rfl
theorem Zic : Z2k Try.prog 22 = true := by kernel_rfl
theorem Z59 : Z2k Try.prog 26 = true := by kernel_rfl
theorem Z7g : Z2k Try.prog 27 = true := by kernel_rfl
theorem Z2z : Z2k Try.prog 3 = true := by kernel_rfl
theorem Zer : Z2k Try.prog 30 = true := by kernel_rfl
theorem TWBS8.s4 : Z2k Try.prog 4 = true := by kernel_rfl
theorem Zib : Z32 Try.prog 29 = some (.agg #[.slice none 0 0, .slice none 0 0, .slice none 0 0]) := by kernel_rfl
theorem Zkc : Z32 Try.prog 3 = some (.int .i64 0) := by kernel_rfl
theorem Znf : Z32 Try.prog 32 = some (.agg #[.int .i64 0, .int .i64 0, .int .i64 0, .slice none 0 0, .slice none 0 0, .slice none 0 0, .slice none 0 0, .slice none 0 0, .slice none 0 0]) := by kernel_rfl
theorem TWBS8.z4 : Z32 Try.prog 4 = some (.bool false) := by kernel_rfl
theorem Zne : Z32 Try.prog 60 = some (.agg #[.slice none 0 0, .slice none 0 0, .int .i64 0]) := by kernel_rfl
theorem Zc5 : Z32 Try.prog 62 = some (.agg #[.int .i64 0, .int .i64 0]) := by kernel_rfl
theorem Znd : Z32 Try.prog 67 = some (.agg #[.int .i64 0, .int .i64 0, .int .i64 0]) := by kernel_rfl
theorem Zj3 {n0 : Net} {n0f3_b : Option Addr} {n0f3_n : Nat} {n0f3_c : Nat} (w : World) (h_n0f3 : RS w [] Z7o 3 n0f3_b n0f3_n n0f3_c n0.Arcs) {r0 : Work} {r1 : Int} (H : Z60 n0 = some (r0, r1)) : Fnc Try.prog 44 #[.agg #[.int .i64 n0.N, .int .i64 n0.S, .int .i64 n0.T, .slice n0f3_b n0f3_n n0f3_c]] w [] (fun v N => v = .tuple #[.agg #[.int .i64 r0.Pushes, .int .i64 r0.Lifts], .int .i64 r1] ∧ N = []) := by
 unfold Z60 at H; refine Fnc.enter (vs := [.agg #[.int .i64 n0.N, .int .i64 n0.S, .int .i64 n0.T, .slice n0f3_b n0f3_n n0f3_c]]) Try.func44 rfl rfl (Inv.refl w) ?_; refine Z0d ?_; refine Z04 (ll := [0, 1, 2]) rfl ?_; refine Z1v rfl rfl rfl rfl ?_; intro b1; refine Z0z rfl rfl rfl Zc5 ?_; intro b3; refine Z09 rfl rfl rfl rfl ?_; refine Z02 ?_; refine Z01 ?_; refine Z0d ?_; refine Z0d ?_; obtain ⟨r5, e6, H⟩ := Z0k H; refine Z04 (ll := [0, 1, 2]) rfl ?_; refine Z0u rfl rfl rfl rfl Zez mm1 rfl ?_; refine Z0o Znj rfl rfl rfl rfl (fun wc hwc => Z9s (n0 := n0) wc (h_n0f3.mono hwc) e6) ?_; rintro _ _ ⟨rfl, rfl⟩; refine Z09 rfl rfl rfl rfl ?_; refine Z02 ?_; refine Z01 ?_; refine Z0d ?_; refine Z04 (ll := [0, 1]) rfl ?_; refine Z06 rfl rfl rfl rfl ?_; refine Z0p rfl rfl rfl rfl rfl rfl ?_; refine Z02 ?_; refine Z01 ?_; rcases Z0i H with ⟨g7, H⟩ | ⟨g7, H⟩
 · refine Z15 rfl g7 ?_; refine Z0d ?_; refine Z04 (ll := [0, 1, 2, 3]) rfl ?_; refine Z0y (t := 62) [.int .i64 0, .int .i64 0] [0, 1] rfl rfl rfl rfl (by simp only [Z1n, setCells, Value.cells, List.toList_toArray, List.getD_cons_zero, List.getD_cons_succ, List.set_cons_zero, List.set_cons_succ]; rfl) (by kernel_rfl) ?_; refine Z06 rfl rfl rfl rfl ?_; refine Z0t rfl rfl rfl rfl tk0 Z7h rfl rfl rfl ?_; refine Z09 rfl rfl rfl rfl ?_; refine Z02 ?_; refine Z01 ?_; refine Z0l (Z00 (t := 2) rfl (Z00 (t := 3) rfl Z0b)) ?_; refine T.ret ?_; refine Z0h ?_; obtain ⟨rfl, rfl⟩ := ret2 H; exact Z7f rfl rfl rfl rfl (Z29 rfl Z6q mm0 rfl) (Res.tmp rfl) Z0a ⟨rfl, rfl⟩
 ·
  refine Z16 rfl g7 ?_; refine T.skip ?_; refine Z01 ?_; refine Z0d ?_; refine Z04 (ll := [0]) rfl ?_; refine Z09 rfl rfl rfl rfl ?_; refine Z02 ?_; refine Z01 ?_; refine Z0d ?_; refine Z0d ?_; refine Z04 (ll := [0, 1, 2, 3]) rfl ?_; refine Z05 rfl rfl rfl rfl Zex ?_; refine Z0c rfl rfl rfl rfl Zic mm1 rfl ?_; refine Z1f (xs := n0.Arcs) h_n0f3.len rfl rfl rfl rfl rfl Zes ?_; refine Z06 rfl rfl rfl rfl ?_; refine Z02 ?_; refine Z01 ?_; refine Z0l (Z00 (t := 1) rfl (Z00 (t := 2) rfl (Z00 (t := 5) rfl (Z00 (t := 16) rfl (Z00 (t := 17) rfl (Z00 (t := 18) rfl Z0b)))))) ?_; refine Z25 (fun (arcs18 : Int) => Z76 n0 arcs18 = some (r0, r1)) (fun (arcs18 : Int) => [(1, .pointer (some ⟨b1, 0, none⟩)), (2, .pointer (some ⟨b3, 0, none⟩)), (5, .int .i64 arcs18)]) (fun (arcs18 : Int) => [(some b1, .cells #[.int .i64 n0.N, .int .i64 n0.S, .int .i64 n0.T, .slice n0f3_b n0f3_n n0f3_c] 24 (0, 0)), (some b3, .cells #[.int .i64 0, .int .i64 0] 62 (0, 0))]) ?_ ?_
  ·
   refine T.block ?_; obtain ⟨o_1, e_1, K_1⟩ := Z0k H; refine Z81 (fun (m_1 : Nat) (arcs8 : Int) (x9 : Int) => Z2j (fun s => Z5o n0 s.1 s.2) m_1 (arcs8, x9) = some o_1) (fun (m_1 : Nat) (arcs8 : Int) (x9 : Int) => [(1, .pointer (some ⟨b1, 0, none⟩)), (2, .pointer (some ⟨b3, 0, none⟩)), (5, .int .i64 arcs8), (16, .slice n0f3_b n0f3_n n0f3_c), (17, .int .i64 (n0.Arcs.length : Int)), (18, .int .i64 x9)]) (fun (m_1 : Nat) (arcs8 : Int) (x9 : Int) => [(some b1, .cells #[.int .i64 n0.N, .int .i64 n0.S, .int .i64 n0.T, .slice n0f3_b n0f3_n n0f3_c] 24 (0, 0)), (some b3, .cells #[.int .i64 0, .int .i64 0] 62 (0, 0))]) (fun (m_1 : Nat) (arcs8 : Int) (x9 : Int) => m_1) Z4w 0 0 e_1 (Z00 rfl (Z00 rfl (Z00 rfl (Z00 rfl (Z00 rfl (Z00 rfl Z0b)))))) (Z03 tk1 (Z03 tk0 Z0a)) ?_; rintro m_1 arcs8 x9 H; obtain ⟨n_1, r_1, rfl, H, C_1⟩ := Z1o H; have H : Z5o n0 arcs8 x9 = some r_1 := H; unfold Z5o at H; refine Z0d ?_; refine Z04 (ll := [0]) rfl ?_; refine Z0p rfl rfl rfl rfl rfl rfl ?_; refine Z02 ?_; refine Z01 ?_; refine Z0d ?_; rcases Z0i H with ⟨g10, H⟩ | ⟨g10, H⟩
   ·
    refine Z15 rfl g10 ?_; refine T.skip ?_; refine Z01 ?_; refine Z0d ?_; refine T.block ?_; refine Z0d ?_; obtain ⟨g11, H⟩ := Z0e H; refine Z04 (ll := [0, 1, 2, 3]) rfl ?_; refine Z2e h_n0f3 g11 rfl rfl rfl rfl rfl Zes Zid ?_; refine Zax (cs := [.int .i64 ((n0.Arcs.getD x9.toNat default).fr), .int .i64 ((n0.Arcs.getD x9.toNat default).to), .int .i64 ((n0.Arcs.getD x9.toNat default).cap)]) default h_n0f3 g11 rfl rfl rfl rfl rfl Znq ?_; refine Z0z rfl rfl rfl Znd ?_; intro b12; refine Z0t rfl rfl rfl rfl tk0 Zid rfl rfl rfl ?_; refine Z02 ?_; refine Z01 ?_; refine Z0d ?_; refine Z04 (ll := [0, 1, 2, 3, 4]) rfl ?_; refine Z05 rfl rfl rfl rfl Zjj ?_; refine Z0c rfl rfl rfl rfl Z2z mm0 rfl ?_; refine Z05 rfl rfl rfl rfl Zji ?_; refine Z0c rfl rfl rfl rfl Z2z mm0 rfl ?_; refine Z0p rfl rfl rfl rfl rfl rfl ?_; refine Z02 ?_; refine Z01 ?_; refine Z0l (Z00 (t := 1) rfl (Z00 (t := 2) rfl (Z00 (t := 5) rfl (Z00 (t := 16) rfl (Z00 (t := 17) rfl (Z00 (t := 18) rfl (Z00 (t := 26) rfl Z0b))))))) ?_; rcases Z0i H with ⟨g14, H⟩ | ⟨g14, H⟩
    · refine Z15 rfl g14 ?_; obtain ⟨g15, H⟩ := Z0e H; refine Z04 (ll := [0, 1, 2]) rfl ?_; refine Z06 rfl rfl rfl rfl ?_; refine Z11 g15 rfl rfl rfl rfl rfl ?_; refine Z09 rfl rfl rfl rfl ?_; refine Z02 ?_; refine Z0j ?_; refine Z01 ?_; obtain ⟨g16, H⟩ := Z0e H; refine Z04 (ll := [0, 1]) rfl ?_; refine Z11 g16 rfl rfl rfl rfl rfl ?_; refine Z06 rfl rfl rfl rfl ?_; refine Z02 ?_; have H := Z1c H C_1; exact Z3y n_1 (arcs8 + 2) (x9 + 1) H (Nat.lt_succ_self _) (Z00 rfl (Z00 rfl (Z00 rfl (Z00 rfl (Z00 rfl (Z00 rfl Z0b)))))) (Z03 tk1 (Z03 tk1 Z0a))
    · refine Z16 rfl g14 ?_; refine T.skip ?_; refine Z0j ?_; refine Z01 ?_; obtain ⟨g17, H⟩ := Z0e H; refine Z04 (ll := [0, 1]) rfl ?_; refine Z11 g17 rfl rfl rfl rfl rfl ?_; refine Z06 rfl rfl rfl rfl ?_; refine Z02 ?_; have H := Z1c H C_1; exact Z3y n_1 arcs8 (x9 + 1) H (Nat.lt_succ_self _) (Z00 rfl (Z00 rfl (Z00 rfl (Z00 rfl (Z00 rfl (Z00 rfl Z0b)))))) (Z03 tk1 (Z03 tk1 Z0a))
   · refine Z16 rfl g10 ?_; refine T.exit ?_; refine Z0m ?_; have H := Z0v H C_1 ▸ K_1; refine Z0m ?_; refine Z13 ?_; exact Z2b arcs8 H (Z00 rfl (Z00 rfl (Z00 rfl Z0b))) (Z03 tk0 (Z03 tk0 Z0a))
  · rintro arcs18 H; unfold Z76 at H; refine Z0d ?_; obtain ⟨g19, H⟩ := Z0e H; obtain ⟨g20, H⟩ := Z0e H; obtain ⟨g21, H⟩ := Z0e H; obtain ⟨g22, H⟩ := Z0e H; refine Z04 (ll := [0, 1, 2, 3, 4, 5, 6, 7, 8]) rfl ?_; refine Z05 rfl rfl rfl rfl Za2 ?_; refine Z0c rfl rfl rfl rfl Z2z mm0 rfl ?_; refine Z73 g19 rfl rfl rfl rfl rfl ?_; refine Z05 rfl rfl rfl rfl Za2 ?_; refine Z0c rfl rfl rfl rfl Z2z mm0 rfl ?_; refine Zd1 g20 rfl rfl rfl rfl rfl ?_; refine Z73 g21 rfl rfl rfl rfl rfl ?_; refine Zd1 g22 rfl rfl rfl rfl rfl ?_; refine Z09 rfl rfl rfl rfl ?_; refine Z02 ?_; refine Z01 ?_; refine Z0l (Z00 (t := 1) rfl (Z00 (t := 2) rfl (Z00 (t := 5) rfl (Z00 (t := 8) rfl Z0b)))) ?_; refine Z0d ?_; obtain ⟨g23, H⟩ := Z0e H; obtain ⟨g24, H⟩ := Z0e H; obtain ⟨g25, H⟩ := Z0e H; obtain ⟨g26, H⟩ := Z0e H; obtain ⟨g27, H⟩ := Z0e H; refine Z04 (ll := [0, 1, 2, 3, 4, 5, 6, 7, 8, 9, 10, 11, 12, 13, 14]) rfl ?_; refine Z06 rfl rfl rfl rfl ?_; refine Z05 rfl rfl rfl rfl Za2 ?_; refine Z0c rfl rfl rfl rfl Z2z mm0 rfl ?_; refine Zd1 g23 rfl rfl rfl rfl rfl ?_; refine Z05 rfl rfl rfl rfl Za2 ?_; refine Z0c rfl rfl rfl rfl Z2z mm0 rfl ?_; refine Z06 rfl rfl rfl rfl ?_; refine Zd1 g24 rfl rfl rfl rfl rfl ?_; refine Z11 g25 rfl rfl rfl rfl rfl ?_; refine Zd1 g26 rfl rfl rfl rfl rfl ?_; refine Z11 g27 rfl rfl rfl rfl rfl ?_; refine Z06 rfl rfl rfl rfl ?_; refine Z0y (t := 62) [.int .i64 0, .int .i64 0] [0, 1] rfl rfl rfl rfl (by simp only [Z1n, setCells, Value.cells, List.toList_toArray, List.getD_cons_zero, List.getD_cons_succ, List.set_cons_zero, List.set_cons_succ]; rfl) (by kernel_rfl) ?_; refine Z0t rfl rfl rfl rfl tk1 Z7h rfl rfl rfl ?_; refine Z09 rfl rfl rfl rfl ?_; refine Z02 ?_; refine Z01 ?_; refine Z0l (Z00 (t := 2) rfl (Z00 (t := 3) rfl Z0b)) ?_; refine T.ret ?_; obtain ⟨rfl, rfl⟩ := ret2 H; exact Z7f rfl rfl rfl rfl (Z29 rfl Z6q mm0 rfl) (Res.tmp rfl) Z0a ⟨rfl, rfl⟩
theorem Zaf {r0 : FifoRun} {v1 : Int} {r0_k : Nat} {r0f0f3_b : Option Addr} {r0f0f3_n : Nat} {r0f0f3_c : Nat} {r0f0f4_b : Option Addr} {r0f0f4_n : Nat} {r0f0f4_c : Nat} {r0f0f5_b : Option Addr} {r0f0f5_n : Nat} {r0f0f5_c : Nat} {r0f0f6_b : Option Addr} {r0f0f6_n : Nat} {r0f0f6_c : Nat} {r0f0f7_b : Option Addr} {r0f0f7_n : Nat} {r0f0f7_c : Nat} {r0f0f8_b : Option Addr} {r0f0f8_n : Nat} {r0f0f8_c : Nat} {r0f1f0_b : Option Addr} {r0f1f0_n : Nat} {r0f1f0_c : Nat} {r0f1f1_b : Option Addr} {r0f1f1_n : Nat} {r0f1f1_c : Nat} {r0f1f2_b : Option Addr} {r0f1f2_n : Nat} {r0f1f2_c : Nat} {r0f2_o : Nat} {r0f2_s : Nat} {r0f2_r : Nat} {r0f3_o : Option Nat} {r0f3_n : Nat} {r0f3_c : Nat} {r0f3_j : List Value} (w : World) (hin : Inv w (([(some r0_k, .cells #[.int .i64 r0.c.N, .int .i64 r0.c.S, .int .i64 r0.c.T, .slice r0f0f3_b r0f0f3_n r0f0f3_c, .slice r0f0f4_b r0f0f4_n r0f0f4_c, .slice r0f0f5_b r0f0f5_n r0f0f5_c, .slice r0f0f6_b r0f0f6_n r0f0f6_c, .slice r0f0f7_b r0f0f7_n r0f0f7_c, .slice r0f0f8_b r0f0f8_n r0f0f8_c, .slice r0f1f0_b r0f1f0_n r0f1f0_c, .slice r0f1f1_b r0f1f1_n r0f1f1_c, .slice r0f1f2_b r0f1f2_n r0f1f2_c, .chan (some r0f2_o), .slice (sb r0f3_o) r0f3_n r0f3_c, .int .i64 r0.work.Pushes, .int .i64 r0.work.Lifts] 123 (0, 0)), (some r0f2_o, chanO .i64 r0.row r0f2_s r0f2_r), (r0f3_o, .cells (arr boolC r0.ins r0f3_j).toArray 4 (0, 0))] : Heap).filterMap Prod.fst) w [(some r0_k, .cells #[.int .i64 r0.c.N, .int .i64 r0.c.S, .int .i64 r0.c.T, .slice r0f0f3_b r0f0f3_n r0f0f3_c, .slice r0f0f4_b r0f0f4_n r0f0f4_c, .slice r0f0f5_b r0f0f5_n r0f0f5_c, .slice r0f0f6_b r0f0f6_n r0f0f6_c, .slice r0f0f7_b r0f0f7_n r0f0f7_c, .slice r0f0f8_b r0f0f8_n r0f0f8_c, .slice r0f1f0_b r0f1f0_n r0f1f0_c, .slice r0f1f1_b r0f1f1_n r0f1f1_c, .slice r0f1f2_b r0f1f2_n r0f1f2_c, .chan (some r0f2_o), .slice (sb r0f3_o) r0f3_n r0f3_c, .int .i64 r0.work.Pushes, .int .i64 r0.work.Lifts] 123 (0, 0)), (some r0f2_o, chanO .i64 r0.row r0f2_s r0f2_r), (r0f3_o, .cells (arr boolC r0.ins r0f3_j).toArray 4 (0, 0))]) (h_r0f0f3 : RS w (([(some r0_k, .cells #[.int .i64 r0.c.N, .int .i64 r0.c.S, .int .i64 r0.c.T, .slice r0f0f3_b r0f0f3_n r0f0f3_c, .slice r0f0f4_b r0f0f4_n r0f0f4_c, .slice r0f0f5_b r0f0f5_n r0f0f5_c, .slice r0f0f6_b r0f0f6_n r0f0f6_c, .slice r0f0f7_b r0f0f7_n r0f0f7_c, .slice r0f0f8_b r0f0f8_n r0f0f8_c, .slice r0f1f0_b r0f1f0_n r0f1f0_c, .slice r0f1f1_b r0f1f1_n r0f1f1_c, .slice r0f1f2_b r0f1f2_n r0f1f2_c, .chan (some r0f2_o), .slice (sb r0f3_o) r0f3_n r0f3_c, .int .i64 r0.work.Pushes, .int .i64 r0.work.Lifts] 123 (0, 0)), (some r0f2_o, chanO .i64 r0.row r0f2_s r0f2_r), (r0f3_o, .cells (arr boolC r0.ins r0f3_j).toArray 4 (0, 0))] : Heap).filterMap Prod.fst) (intC .i64) 1 r0f0f3_b r0f0f3_n r0f0f3_c r0.c.First) (h_r0f0f4 : RS w (([(some r0_k, .cells #[.int .i64 r0.c.N, .int .i64 r0.c.S, .int .i64 r0.c.T, .slice r0f0f3_b r0f0f3_n r0f0f3_c, .slice r0f0f4_b r0f0f4_n r0f0f4_c, .slice r0f0f5_b r0f0f5_n r0f0f5_c, .slice r0f0f6_b r0f0f6_n r0f0f6_c, .slice r0f0f7_b r0f0f7_n r0f0f7_c, .slice r0f0f8_b r0f0f8_n r0f0f8_c, .slice r0f1f0_b r0f1f0_n r0f1f0_c, .slice r0f1f1_b r0f1f1_n r0f1f1_c, .slice r0f1f2_b r0f1f2_n r0f1f2_c, .chan (some r0f2_o), .slice (sb r0f3_o) r0f3_n r0f3_c, .int .i64 r0.work.Pushes, .int .i64 r0.work.Lifts] 123 (0, 0)), (some r0f2_o, chanO .i64 r0.row r0f2_s r0f2_r), (r0f3_o, .cells (arr boolC r0.ins r0f3_j).toArray 4 (0, 0))] : Heap).filterMap Prod.fst) (intC .i64) 1 r0f0f4_b r0f0f4_n r0f0f4_c r0.c.Head) (h_r0f0f5 : RS w (([(some r0_k, .cells #[.int .i64 r0.c.N, .int .i64 r0.c.S, .int .i64 r0.c.T, .slice r0f0f3_b r0f0f3_n r0f0f3_c, .slice r0f0f4_b r0f0f4_n r0f0f4_c, .slice r0f0f5_b r0f0f5_n r0f0f5_c, .slice r0f0f6_b r0f0f6_n r0f0f6_c, .slice r0f0f7_b r0f0f7_n r0f0f7_c, .slice r0f0f8_b r0f0f8_n r0f0f8_c, .slice r0f1f0_b r0f1f0_n r0f1f0_c, .slice r0f1f1_b r0f1f1_n r0f1f1_c, .slice r0f1f2_b r0f1f2_n r0f1f2_c, .chan (some r0f2_o), .slice (sb r0f3_o) r0f3_n r0f3_c, .int .i64 r0.work.Pushes, .int .i64 r0.work.Lifts] 123 (0, 0)), (some r0f2_o, chanO .i64 r0.row r0f2_s r0f2_r), (r0f3_o, .cells (arr boolC r0.ins r0f3_j).toArray 4 (0, 0))] : Heap).filterMap Prod.fst) (intC .i64) 1 r0f0f5_b r0f0f5_n r0f0f5_c r0.c.Rev) (h_r0f0f6 : RS w (([(some r0_k, .cells #[.int .i64 r0.c.N, .int .i64 r0.c.S, .int .i64 r0.c.T, .slice r0f0f3_b r0f0f3_n r0f0f3_c, .slice r0f0f4_b r0f0f4_n r0f0f4_c, .slice r0f0f5_b r0f0f5_n r0f0f5_c, .slice r0f0f6_b r0f0f6_n r0f0f6_c, .slice r0f0f7_b r0f0f7_n r0f0f7_c, .slice r0f0f8_b r0f0f8_n r0f0f8_c, .slice r0f1f0_b r0f1f0_n r0f1f0_c, .slice r0f1f1_b r0f1f1_n r0f1f1_c, .slice r0f1f2_b r0f1f2_n r0f1f2_c, .chan (some r0f2_o), .slice (sb r0f3_o) r0f3_n r0f3_c, .int .i64 r0.work.Pushes, .int .i64 r0.work.Lifts] 123 (0, 0)), (some r0f2_o, chanO .i64 r0.row r0f2_s r0f2_r), (r0f3_o, .cells (arr boolC r0.ins r0f3_j).toArray 4 (0, 0))] : Heap).filterMap Prod.fst) (intC .i64) 1 r0f0f6_b r0f0f6_n r0f0f6_c r0.c.Cap) (h_r0f0f7 : RS w (([(some r0_k, .cells #[.int .i64 r0.c.N, .int .i64 r0.c.S, .int .i64 r0.c.T, .slice r0f0f3_b r0f0f3_n r0f0f3_c, .slice r0f0f4_b r0f0f4_n r0f0f4_c, .slice r0f0f5_b r0f0f5_n r0f0f5_c, .slice r0f0f6_b r0f0f6_n r0f0f6_c, .slice r0f0f7_b r0f0f7_n r0f0f7_c, .slice r0f0f8_b r0f0f8_n r0f0f8_c, .slice r0f1f0_b r0f1f0_n r0f1f0_c, .slice r0f1f1_b r0f1f1_n r0f1f1_c, .slice r0f1f2_b r0f1f2_n r0f1f2_c, .chan (some r0f2_o), .slice (sb r0f3_o) r0f3_n r0f3_c, .int .i64 r0.work.Pushes, .int .i64 r0.work.Lifts] 123 (0, 0)), (some r0f2_o, chanO .i64 r0.row r0f2_s r0f2_r), (r0f3_o, .cells (arr boolC r0.ins r0f3_j).toArray 4 (0, 0))] : Heap).filterMap Prod.fst) (intC .i64) 1 r0f0f7_b r0f0f7_n r0f0f7_c r0.c.Arc) (h_r0f0f8 : RS w (([(some r0_k, .cells #[.int .i64 r0.c.N, .int .i64 r0.c.S, .int .i64 r0.c.T, .slice r0f0f3_b r0f0f3_n r0f0f3_c, .slice r0f0f4_b r0f0f4_n r0f0f4_c, .slice r0f0f5_b r0f0f5_n r0f0f5_c, .slice r0f0f6_b r0f0f6_n r0f0f6_c, .slice r0f0f7_b r0f0f7_n r0f0f7_c, .slice r0f0f8_b r0f0f8_n r0f0f8_c, .slice r0f1f0_b r0f1f0_n r0f1f0_c, .slice r0f1f1_b r0f1f1_n r0f1f1_c, .slice r0f1f2_b r0f1f2_n r0f1f2_c, .chan (some r0f2_o), .slice (sb r0f3_o) r0f3_n r0f3_c, .int .i64 r0.work.Pushes, .int .i64 r0.work.Lifts] 123 (0, 0)), (some r0f2_o, chanO .i64 r0.row r0f2_s r0f2_r), (r0f3_o, .cells (arr boolC r0.ins r0f3_j).toArray 4 (0, 0))] : Heap).filterMap Prod.fst) boolC 1 r0f0f8_b r0f0f8_n r0f0f8_c r0.c.Back) (h_r0f1f0 : RS w (([(some r0_k, .cells #[.int .i64 r0.c.N, .int .i64 r0.c.S, .int .i64 r0.c.T, .slice r0f0f3_b r0f0f3_n r0f0f3_c, .slice r0f0f4_b r0f0f4_n r0f0f4_c, .slice r0f0f5_b r0f0f5_n r0f0f5_c, .slice r0f0f6_b r0f0f6_n r0f0f6_c, .slice r0f0f7_b r0f0f7_n r0f0f7_c, .slice r0f0f8_b r0f0f8_n r0f0f8_c, .slice r0f1f0_b r0f1f0_n r0f1f0_c, .slice r0f1f1_b r0f1f1_n r0f1f1_c, .slice r0f1f2_b r0f1f2_n r0f1f2_c, .chan (some r0f2_o), .slice (sb r0f3_o) r0f3_n r0f3_c, .int .i64 r0.work.Pushes, .int .i64 r0.work.Lifts] 123 (0, 0)), (some r0f2_o, chanO .i64 r0.row r0f2_s r0f2_r), (r0f3_o, .cells (arr boolC r0.ins r0f3_j).toArray 4 (0, 0))] : Heap).filterMap Prod.fst) (intC .i64) 1 r0f1f0_b r0f1f0_n r0f1f0_c r0.p.Res) (h_r0f1f1 : RS w (([(some r0_k, .cells #[.int .i64 r0.c.N, .int .i64 r0.c.S, .int .i64 r0.c.T, .slice r0f0f3_b r0f0f3_n r0f0f3_c, .slice r0f0f4_b r0f0f4_n r0f0f4_c, .slice r0f0f5_b r0f0f5_n r0f0f5_c, .slice r0f0f6_b r0f0f6_n r0f0f6_c, .slice r0f0f7_b r0f0f7_n r0f0f7_c, .slice r0f0f8_b r0f0f8_n r0f0f8_c, .slice r0f1f0_b r0f1f0_n r0f1f0_c, .slice r0f1f1_b r0f1f1_n r0f1f1_c, .slice r0f1f2_b r0f1f2_n r0f1f2_c, .chan (some r0f2_o), .slice (sb r0f3_o) r0f3_n r0f3_c, .int .i64 r0.work.Pushes, .int .i64 r0.work.Lifts] 123 (0, 0)), (some r0f2_o, chanO .i64 r0.row r0f2_s r0f2_r), (r0f3_o, .cells (arr boolC r0.ins r0f3_j).toArray 4 (0, 0))] : Heap).filterMap Prod.fst) (intC .i64) 1 r0f1f1_b r0f1f1_n r0f1f1_c r0.p.Ex) (h_r0f1f2 : RS w (([(some r0_k, .cells #[.int .i64 r0.c.N, .int .i64 r0.c.S, .int .i64 r0.c.T, .slice r0f0f3_b r0f0f3_n r0f0f3_c, .slice r0f0f4_b r0f0f4_n r0f0f4_c, .slice r0f0f5_b r0f0f5_n r0f0f5_c, .slice r0f0f6_b r0f0f6_n r0f0f6_c, .slice r0f0f7_b r0f0f7_n r0f0f7_c, .slice r0f0f8_b r0f0f8_n r0f0f8_c, .slice r0f1f0_b r0f1f0_n r0f1f0_c, .slice r0f1f1_b r0f1f1_n r0f1f1_c, .slice r0f1f2_b r0f1f2_n r0f1f2_c, .chan (some r0f2_o), .slice (sb r0f3_o) r0f3_n r0f3_c, .int .i64 r0.work.Pushes, .int .i64 r0.work.Lifts] 123 (0, 0)), (some r0f2_o, chanO .i64 r0.row r0f2_s r0f2_r), (r0f3_o, .cells (arr boolC r0.ins r0f3_j).toArray 4 (0, 0))] : Heap).filterMap Prod.fst) (intC .i64) 1 r0f1f2_b r0f1f2_n r0f1f2_c r0.p.H) (h_r0f3_l : r0.ins.length = r0f3_n) (h_r0f3_c : r0f3_n ≤ r0f3_c) (h_r0f3_j : r0f3_j.length = (r0f3_c - r0f3_n) * 1) (h_r0f3_z : (r0f3_o = none → r0f3_c = 0)) {o0 : FifoRun} (H : Z4a r0 v1 = some o0) : Fnc Try.prog 87 #[.pointer (some ⟨r0_k, 0, none⟩), .int .i64 v1] w (([(some r0_k, .cells #[.int .i64 r0.c.N, .int .i64 r0.c.S, .int .i64 r0.c.T, .slice r0f0f3_b r0f0f3_n r0f0f3_c, .slice r0f0f4_b r0f0f4_n r0f0f4_c, .slice r0f0f5_b r0f0f5_n r0f0f5_c, .slice r0f0f6_b r0f0f6_n r0f0f6_c, .slice r0f0f7_b r0f0f7_n r0f0f7_c, .slice r0f0f8_b r0f0f8_n r0f0f8_c, .slice r0f1f0_b r0f1f0_n r0f1f0_c, .slice r0f1f1_b r0f1f1_n r0f1f1_c, .slice r0f1f2_b r0f1f2_n r0f1f2_c, .chan (some r0f2_o), .slice (sb r0f3_o) r0f3_n r0f3_c, .int .i64 r0.work.Pushes, .int .i64 r0.work.Lifts] 123 (0, 0)), (some r0f2_o, chanO .i64 r0.row r0f2_s r0f2_r), (r0f3_o, .cells (arr boolC r0.ins r0f3_j).toArray 4 (0, 0))] : Heap).filterMap Prod.fst) (fun v N => ∃ (cs_0 : Nat) (cr_0 : Nat), v = .tuple #[] ∧ N = [(some r0_k, .cells #[.int .i64 r0.c.N, .int .i64 r0.c.S, .int .i64 r0.c.T, .slice r0f0f3_b r0f0f3_n r0f0f3_c, .slice r0f0f4_b r0f0f4_n r0f0f4_c, .slice r0f0f5_b r0f0f5_n r0f0f5_c, .slice r0f0f6_b r0f0f6_n r0f0f6_c, .slice r0f0f7_b r0f0f7_n r0f0f7_c, .slice r0f0f8_b r0f0f8_n r0f0f8_c, .slice r0f1f0_b r0f1f0_n r0f1f0_c, .slice r0f1f1_b r0f1f1_n r0f1f1_c, .slice r0f1f2_b r0f1f2_n r0f1f2_c, .chan (some r0f2_o), .slice (sb r0f3_o) r0f3_n r0f3_c, .int .i64 r0.work.Pushes, .int .i64 r0.work.Lifts] 123 (0, 0)), (some r0f2_o, chanO .i64 o0.row cs_0 cr_0), (r0f3_o, .cells (arr boolC o0.ins r0f3_j).toArray 4 (0, 0))] ∧ o0.ins.length = r0f3_n) := by
 unfold Z4a at H; refine Zgh (vs := [.pointer (some ⟨r0_k, 0, none⟩), .int .i64 v1]) Try.func87 rfl rfl hin ?_; refine TK.seq ?_; refine Zbc rfl ?_; refine Z04 (ll := [0, 1, 2, 3, 4, 5, 6, 7, 8, 9, 10, 11, 12, 13, 14, 15, 16, 17, 18, 19, 20, 21, 22, 23, 24, 25, 26, 27, 28, 29, 30, 31, 32, 33, 34, 35, 36]) rfl ?_; refine Z06 rfl rfl rfl rfl ?_; refine Z06 rfl rfl rfl rfl ?_; refine TO.nilCheck rfl rfl rfl rfl ?_; refine Z05 rfl rfl rfl rfl Z4k ?_; refine Z05 rfl rfl rfl rfl Zjm ?_; refine Z0c rfl rfl rfl rfl Z2z mm0 rfl ?_; refine Z0p rfl rfl rfl rfl rfl rfl ?_; refine Z06 rfl rfl rfl rfl ?_; refine TO.join [8, 9, 10, 11, 12, 13, 14, 15] [16, 17, 18, 19, 20, 21, 22, 23, 24, 25, 26, 27, 28, 29, 30, 31, 32, 33, 34, 35, 36] rfl 19 (fun b5 => Z3u r0 v1 b5 = some o0) [(0, .pointer (some ⟨r0_k, 0, none⟩)), (1, .int .i64 v1)] ?_ ?_
 ·
  rcases Z0i H with ⟨g4, H⟩ | ⟨g4, H⟩
  · refine Z0r (t := 11) (b' := true) rfl (decide_eq_true g4) ?_; refine Z06 rfl rfl rfl rfl ?_; refine Z06 rfl rfl rfl rfl ?_; refine TO.nilCheck rfl rfl rfl rfl ?_; refine Z05 rfl rfl rfl rfl Z4k ?_; refine Z05 rfl rfl rfl rfl Zjl ?_; refine Z0c rfl rfl rfl rfl Z2z mm0 rfl ?_; refine Z0p rfl rfl rfl rfl rfl rfl ?_; refine Z1a rfl rfl rfl rfl rfl ?_; refine Z02 ?_; exact Zdb (b := (decide (v1 ≠ r0.c.T))) H (Z00 rfl (Z00 rfl (Z00 rfl Z0b)))
  · refine Z0r (t := 11) (b' := false) rfl (decide_eq_false g4) ?_; refine Z0f rfl rfl rfl rfl ?_; refine Z0f rfl rfl rfl rfl ?_; refine Z0f rfl rfl rfl rfl ?_; refine Z0f rfl rfl rfl rfl ?_; refine Z0f rfl rfl rfl rfl ?_; refine Z0f rfl rfl rfl rfl ?_; refine Z0f rfl rfl rfl rfl ?_; refine Z14 rfl rfl rfl rfl rfl ?_; refine Z02 ?_; exact Zdb (b := false) H (Z00 rfl (Z00 rfl (Z00 rfl Z0b)))
 ·
  rintro b5 H; unfold Z3u at H; refine Z06 rfl rfl rfl rfl ?_; refine TO.join [17, 18, 19, 20, 21, 22, 23, 24, 25, 26] [27, 28, 29, 30, 31, 32, 33, 34, 35, 36] rfl 30 (fun b8 => Z3a r0 v1 b8 = some o0) [(0, .pointer (some ⟨r0_k, 0, none⟩)), (1, .int .i64 v1)] ?_ ?_
  ·
   rcases Z0i H with ⟨g6, H⟩ | ⟨g6, H⟩
   · obtain ⟨g7, H⟩ := Z0e H; refine Z0r (t := 20) (b' := true) rfl g6 ?_; refine Z06 rfl rfl rfl rfl ?_; refine TO.nilCheck rfl rfl rfl rfl ?_; refine Z05 rfl rfl rfl rfl Z2f ?_; refine TO.fieldAddr rfl rfl rfl rfl Z70 ?_; refine Z0c rfl rfl rfl rfl Z59 mm0 rfl ?_; refine Z06 rfl rfl rfl rfl ?_; refine Z2e h_r0f1f1 g7 rfl rfl rfl rfl rfl Z3z Z3q ?_; refine Z2i h_r0f1f1 g7 rfl rfl rfl rfl Z79 ?_; refine Z0p rfl rfl rfl rfl rfl rfl ?_; refine Z1a rfl rfl rfl rfl rfl ?_; refine Z02 ?_; exact Zdb (b := (decide (0 < (r0.p.Ex.getD v1.toNat 0)))) H (Z00 rfl (Z00 rfl (Z00 rfl Z0b)))
   · refine Z0r (t := 20) (b' := false) rfl (Bool.eq_false_iff.2 g6) ?_; refine Z0f rfl rfl rfl rfl ?_; refine Z0f rfl rfl rfl rfl ?_; refine Z0f rfl rfl rfl rfl ?_; refine Z0f rfl rfl rfl rfl ?_; refine Z0f rfl rfl rfl rfl ?_; refine Z0f rfl rfl rfl rfl ?_; refine Z0f rfl rfl rfl rfl ?_; refine Z0f rfl rfl rfl rfl ?_; refine Z0f rfl rfl rfl rfl ?_; refine Z14 rfl rfl rfl rfl rfl ?_; refine Z02 ?_; exact Zdb (b := false) H (Z00 rfl (Z00 rfl (Z00 rfl Z0b)))
  ·
   rintro b8 H; unfold Z3a at H; refine Z06 rfl rfl rfl rfl ?_; refine TO.join [28, 29, 30, 31, 32, 33, 34, 35, 36] [] rfl 40 (fun b11 => Z39 r0 v1 b11 = some o0) [(0, .pointer (some ⟨r0_k, 0, none⟩)), (1, .int .i64 v1)] ?_ ?_
   ·
    rcases Z0i H with ⟨g9, H⟩ | ⟨g9, H⟩
    · obtain ⟨g10, H⟩ := Z0e H; refine Z0r (t := 31) (b' := true) rfl g9 ?_; refine Z06 rfl rfl rfl rfl ?_; refine TO.nilCheck rfl rfl rfl rfl ?_; refine Z05 rfl rfl rfl rfl Zar ?_; refine Z0c rfl rfl rfl rfl Zer mm0 rfl ?_; refine Z06 rfl rfl rfl rfl ?_; refine Z2x h_r0f3_z h_r0f3_c h_r0f3_l g10 rfl rfl rfl rfl rfl Zc7 Zb1 ?_; refine Zjs h_r0f3_z h_r0f3_c h_r0f3_l g10 rfl rfl rfl rfl TWBS8.s4 mm2 ?_; refine TO.not rfl rfl rfl rfl ?_; refine Z1a rfl rfl rfl rfl rfl ?_; refine Z02 ?_; exact Zdb (b := (!(r0.ins.getD v1.toNat false))) H (Z00 rfl (Z00 rfl (Z00 rfl Z0b)))
    · refine Z0r (t := 31) (b' := false) rfl (Bool.eq_false_iff.2 g9) ?_; refine Z0f rfl rfl rfl rfl ?_; refine Z0f rfl rfl rfl rfl ?_; refine Z0f rfl rfl rfl rfl ?_; refine Z0f rfl rfl rfl rfl ?_; refine Z0f rfl rfl rfl rfl ?_; refine Z0f rfl rfl rfl rfl ?_; refine Z0f rfl rfl rfl rfl ?_; refine Z0f rfl rfl rfl rfl ?_; refine Z14 rfl rfl rfl rfl rfl ?_; refine Z02 ?_; exact Zdb (b := false) H (Z00 rfl (Z00 rfl (Z00 rfl Z0b)))
   ·
    rintro b11 H; unfold Z39 at H; refine Z02 ?_; refine Z35 ?_; rcases Z0i H with ⟨g12, H⟩ | ⟨g12, H⟩
    · refine Zhe rfl g12 ?_; refine TK.seq ?_; obtain ⟨g13, H⟩ := Z0e H; refine Zbc rfl ?_; refine Z04 (ll := [0, 1, 2, 3, 4, 5, 6]) rfl ?_; refine Z06 rfl rfl rfl rfl ?_; refine TO.nilCheck rfl rfl rfl rfl ?_; refine Z05 rfl rfl rfl rfl Zar ?_; refine Z0c rfl rfl rfl rfl Zer mm0 rfl ?_; refine Z06 rfl rfl rfl rfl ?_; refine Z2x h_r0f3_z h_r0f3_c h_r0f3_l g13 rfl rfl rfl rfl rfl Zc7 Zb1 ?_; refine Zfi h_r0f3_z h_r0f3_c h_r0f3_l g13 rfl rfl rfl rfl tk2 Zb1 ?_; refine Z02 ?_; refine Z35 ?_; obtain ⟨g14, H⟩ := Z0e H; refine TK.region (ll := [0, 1, 2, 3, 4, 5]) rfl ?_; refine TOK.pre [0, 1, 2, 3, 4] [5] rfl ?_; refine TQ.move rfl rfl rfl rfl ?_; refine TQ.nilCheck rfl rfl rfl rfl ?_; refine Z1b rfl rfl rfl rfl Zdd ?_; refine Z3i rfl rfl rfl rfl Zg2 mm1 rfl ?_; refine TQ.move rfl rfl rfl rfl ?_; refine TQ.doneK ?_; refine TOK.send (u := r0.row) g14 rfl rfl rfl rfl tk2 ?_; refine Zhc rfl ?_; refine Z02 ?_; refine Zdc ?_; obtain rfl := ret1 H; exact Zbb rfl rfl rfl rfl  (Z03 tk2 (Z03 tk0 (Z03 tk0 Z0a))) ⟨(r0f2_s + 1), r0f2_r, rfl, rfl, (List.length_set.trans h_r0f3_l)⟩
    · refine Zhf rfl (Bool.eq_false_iff.2 g12) ?_; refine TK.skip rfl ?_; refine Zdc ?_; obtain rfl := ret1 H; exact Zbb rfl rfl rfl rfl  (Z03 tk0 (Z03 tk0 (Z03 tk0 Z0a))) ⟨r0f2_s, r0f2_r, rfl, rfl, h_r0f3_l⟩
theorem Zdy {pr0 : FifoRun} {pr0_k : Nat} {pr0f0f3_b : Option Addr} {pr0f0f3_n : Nat} {pr0f0f3_c : Nat} {pr0f0f4_b : Option Addr} {pr0f0f4_n : Nat} {pr0f0f4_c : Nat} {pr0f0f5_b : Option Addr} {pr0f0f5_n : Nat} {pr0f0f5_c : Nat} {pr0f0f6_b : Option Addr} {pr0f0f6_n : Nat} {pr0f0f6_c : Nat} {pr0f0f7_b : Option Addr} {pr0f0f7_n : Nat} {pr0f0f7_c : Nat} {pr0f0f8_b : Option Addr} {pr0f0f8_n : Nat} {pr0f0f8_c : Nat} {pr0f1f0_b : Option Addr} {pr0f1f0_n : Nat} {pr0f1f0_c : Nat} {pr0f1f1_b : Option Addr} {pr0f1f1_n : Nat} {pr0f1f1_c : Nat} {pr0f1f2_b : Option Addr} {pr0f1f2_n : Nat} {pr0f1f2_c : Nat} {pr0f2_o : Nat} {pr0f2_s : Nat} {pr0f2_r : Nat} {pr0f3_o : Option Nat} {pr0f3_n : Nat} {pr0f3_c : Nat} {pr0f3_j : List Value} (w : World) (hin : Inv w (([(some pr0_k, .cells #[.int .i64 pr0.c.N, .int .i64 pr0.c.S, .int .i64 pr0.c.T, .slice pr0f0f3_b pr0f0f3_n pr0f0f3_c, .slice pr0f0f4_b pr0f0f4_n pr0f0f4_c, .slice pr0f0f5_b pr0f0f5_n pr0f0f5_c, .slice pr0f0f6_b pr0f0f6_n pr0f0f6_c, .slice pr0f0f7_b pr0f0f7_n pr0f0f7_c, .slice pr0f0f8_b pr0f0f8_n pr0f0f8_c, .slice pr0f1f0_b pr0f1f0_n pr0f1f0_c, .slice pr0f1f1_b pr0f1f1_n pr0f1f1_c, .slice pr0f1f2_b pr0f1f2_n pr0f1f2_c, .chan (some pr0f2_o), .slice (sb pr0f3_o) pr0f3_n pr0f3_c, .int .i64 pr0.work.Pushes, .int .i64 pr0.work.Lifts] 123 (0, 0)), (some pr0f2_o, chanO .i64 pr0.row pr0f2_s pr0f2_r), (pr0f3_o, .cells (arr boolC pr0.ins pr0f3_j).toArray 4 (0, 0))] : Heap).filterMap Prod.fst) w [(some pr0_k, .cells #[.int .i64 pr0.c.N, .int .i64 pr0.c.S, .int .i64 pr0.c.T, .slice pr0f0f3_b pr0f0f3_n pr0f0f3_c, .slice pr0f0f4_b pr0f0f4_n pr0f0f4_c, .slice pr0f0f5_b pr0f0f5_n pr0f0f5_c, .slice pr0f0f6_b pr0f0f6_n pr0f0f6_c, .slice pr0f0f7_b pr0f0f7_n pr0f0f7_c, .slice pr0f0f8_b pr0f0f8_n pr0f0f8_c, .slice pr0f1f0_b pr0f1f0_n pr0f1f0_c, .slice pr0f1f1_b pr0f1f1_n pr0f1f1_c, .slice pr0f1f2_b pr0f1f2_n pr0f1f2_c, .chan (some pr0f2_o), .slice (sb pr0f3_o) pr0f3_n pr0f3_c, .int .i64 pr0.work.Pushes, .int .i64 pr0.work.Lifts] 123 (0, 0)), (some pr0f2_o, chanO .i64 pr0.row pr0f2_s pr0f2_r), (pr0f3_o, .cells (arr boolC pr0.ins pr0f3_j).toArray 4 (0, 0))]) (h_pr0f0f3 : RS w (([(some pr0_k, .cells #[.int .i64 pr0.c.N, .int .i64 pr0.c.S, .int .i64 pr0.c.T, .slice pr0f0f3_b pr0f0f3_n pr0f0f3_c, .slice pr0f0f4_b pr0f0f4_n pr0f0f4_c, .slice pr0f0f5_b pr0f0f5_n pr0f0f5_c, .slice pr0f0f6_b pr0f0f6_n pr0f0f6_c, .slice pr0f0f7_b pr0f0f7_n pr0f0f7_c, .slice pr0f0f8_b pr0f0f8_n pr0f0f8_c, .slice pr0f1f0_b pr0f1f0_n pr0f1f0_c, .slice pr0f1f1_b pr0f1f1_n pr0f1f1_c, .slice pr0f1f2_b pr0f1f2_n pr0f1f2_c, .chan (some pr0f2_o), .slice (sb pr0f3_o) pr0f3_n pr0f3_c, .int .i64 pr0.work.Pushes, .int .i64 pr0.work.Lifts] 123 (0, 0)), (some pr0f2_o, chanO .i64 pr0.row pr0f2_s pr0f2_r), (pr0f3_o, .cells (arr boolC pr0.ins pr0f3_j).toArray 4 (0, 0))] : Heap).filterMap Prod.fst) (intC .i64) 1 pr0f0f3_b pr0f0f3_n pr0f0f3_c pr0.c.First) (h_pr0f0f4 : RS w (([(some pr0_k, .cells #[.int .i64 pr0.c.N, .int .i64 pr0.c.S, .int .i64 pr0.c.T, .slice pr0f0f3_b pr0f0f3_n pr0f0f3_c, .slice pr0f0f4_b pr0f0f4_n pr0f0f4_c, .slice pr0f0f5_b pr0f0f5_n pr0f0f5_c, .slice pr0f0f6_b pr0f0f6_n pr0f0f6_c, .slice pr0f0f7_b pr0f0f7_n pr0f0f7_c, .slice pr0f0f8_b pr0f0f8_n pr0f0f8_c, .slice pr0f1f0_b pr0f1f0_n pr0f1f0_c, .slice pr0f1f1_b pr0f1f1_n pr0f1f1_c, .slice pr0f1f2_b pr0f1f2_n pr0f1f2_c, .chan (some pr0f2_o), .slice (sb pr0f3_o) pr0f3_n pr0f3_c, .int .i64 pr0.work.Pushes, .int .i64 pr0.work.Lifts] 123 (0, 0)), (some pr0f2_o, chanO .i64 pr0.row pr0f2_s pr0f2_r), (pr0f3_o, .cells (arr boolC pr0.ins pr0f3_j).toArray 4 (0, 0))] : Heap).filterMap Prod.fst) (intC .i64) 1 pr0f0f4_b pr0f0f4_n pr0f0f4_c pr0.c.Head) (h_pr0f0f5 : RS w (([(some pr0_k, .cells #[.int .i64 pr0.c.N, .int .i64 pr0.c.S, .int .i64 pr0.c.T, .slice pr0f0f3_b pr0f0f3_n pr0f0f3_c, .slice pr0f0f4_b pr0f0f4_n pr0f0f4_c, .slice pr0f0f5_b pr0f0f5_n pr0f0f5_c, .slice pr0f0f6_b pr0f0f6_n pr0f0f6_c, .slice pr0f0f7_b pr0f0f7_n pr0f0f7_c, .slice pr0f0f8_b pr0f0f8_n pr0f0f8_c, .slice pr0f1f0_b pr0f1f0_n pr0f1f0_c, .slice pr0f1f1_b pr0f1f1_n pr0f1f1_c, .slice pr0f1f2_b pr0f1f2_n pr0f1f2_c, .chan (some pr0f2_o), .slice (sb pr0f3_o) pr0f3_n pr0f3_c, .int .i64 pr0.work.Pushes, .int .i64 pr0.work.Lifts] 123 (0, 0)), (some pr0f2_o, chanO .i64 pr0.row pr0f2_s pr0f2_r), (pr0f3_o, .cells (arr boolC pr0.ins pr0f3_j).toArray 4 (0, 0))] : Heap).filterMap Prod.fst) (intC .i64) 1 pr0f0f5_b pr0f0f5_n pr0f0f5_c pr0.c.Rev) (h_pr0f0f6 : RS w (([(some pr0_k, .cells #[.int .i64 pr0.c.N, .int .i64 pr0.c.S, .int .i64 pr0.c.T, .slice pr0f0f3_b pr0f0f3_n pr0f0f3_c, .slice pr0f0f4_b pr0f0f4_n pr0f0f4_c, .slice pr0f0f5_b pr0f0f5_n pr0f0f5_c, .slice pr0f0f6_b pr0f0f6_n pr0f0f6_c, .slice pr0f0f7_b pr0f0f7_n pr0f0f7_c, .slice pr0f0f8_b pr0f0f8_n pr0f0f8_c, .slice pr0f1f0_b pr0f1f0_n pr0f1f0_c, .slice pr0f1f1_b pr0f1f1_n pr0f1f1_c, .slice pr0f1f2_b pr0f1f2_n pr0f1f2_c, .chan (some pr0f2_o), .slice (sb pr0f3_o) pr0f3_n pr0f3_c, .int .i64 pr0.work.Pushes, .int .i64 pr0.work.Lifts] 123 (0, 0)), (some pr0f2_o, chanO .i64 pr0.row pr0f2_s pr0f2_r), (pr0f3_o, .cells (arr boolC pr0.ins pr0f3_j).toArray 4 (0, 0))] : Heap).filterMap Prod.fst) (intC .i64) 1 pr0f0f6_b pr0f0f6_n pr0f0f6_c pr0.c.Cap) (h_pr0f0f7 : RS w (([(some pr0_k, .cells #[.int .i64 pr0.c.N, .int .i64 pr0.c.S, .int .i64 pr0.c.T, .slice pr0f0f3_b pr0f0f3_n pr0f0f3_c, .slice pr0f0f4_b pr0f0f4_n pr0f0f4_c, .slice pr0f0f5_b pr0f0f5_n pr0f0f5_c, .slice pr0f0f6_b pr0f0f6_n pr0f0f6_c, .slice pr0f0f7_b pr0f0f7_n pr0f0f7_c, .slice pr0f0f8_b pr0f0f8_n pr0f0f8_c, .slice pr0f1f0_b pr0f1f0_n pr0f1f0_c, .slice pr0f1f1_b pr0f1f1_n pr0f1f1_c, .slice pr0f1f2_b pr0f1f2_n pr0f1f2_c, .chan (some pr0f2_o), .slice (sb pr0f3_o) pr0f3_n pr0f3_c, .int .i64 pr0.work.Pushes, .int .i64 pr0.work.Lifts] 123 (0, 0)), (some pr0f2_o, chanO .i64 pr0.row pr0f2_s pr0f2_r), (pr0f3_o, .cells (arr boolC pr0.ins pr0f3_j).toArray 4 (0, 0))] : Heap).filterMap Prod.fst) (intC .i64) 1 pr0f0f7_b pr0f0f7_n pr0f0f7_c pr0.c.Arc) (h_pr0f0f8 : RS w (([(some pr0_k, .cells #[.int .i64 pr0.c.N, .int .i64 pr0.c.S, .int .i64 pr0.c.T, .slice pr0f0f3_b pr0f0f3_n pr0f0f3_c, .slice pr0f0f4_b pr0f0f4_n pr0f0f4_c, .slice pr0f0f5_b pr0f0f5_n pr0f0f5_c, .slice pr0f0f6_b pr0f0f6_n pr0f0f6_c, .slice pr0f0f7_b pr0f0f7_n pr0f0f7_c, .slice pr0f0f8_b pr0f0f8_n pr0f0f8_c, .slice pr0f1f0_b pr0f1f0_n pr0f1f0_c, .slice pr0f1f1_b pr0f1f1_n pr0f1f1_c, .slice pr0f1f2_b pr0f1f2_n pr0f1f2_c, .chan (some pr0f2_o), .slice (sb pr0f3_o) pr0f3_n pr0f3_c, .int .i64 pr0.work.Pushes, .int .i64 pr0.work.Lifts] 123 (0, 0)), (some pr0f2_o, chanO .i64 pr0.row pr0f2_s pr0f2_r), (pr0f3_o, .cells (arr boolC pr0.ins pr0f3_j).toArray 4 (0, 0))] : Heap).filterMap Prod.fst) boolC 1 pr0f0f8_b pr0f0f8_n pr0f0f8_c pr0.c.Back) (h_pr0f1f0 : RS w (([(some pr0_k, .cells #[.int .i64 pr0.c.N, .int .i64 pr0.c.S, .int .i64 pr0.c.T, .slice pr0f0f3_b pr0f0f3_n pr0f0f3_c, .slice pr0f0f4_b pr0f0f4_n pr0f0f4_c, .slice pr0f0f5_b pr0f0f5_n pr0f0f5_c, .slice pr0f0f6_b pr0f0f6_n pr0f0f6_c, .slice pr0f0f7_b pr0f0f7_n pr0f0f7_c, .slice pr0f0f8_b pr0f0f8_n pr0f0f8_c, .slice pr0f1f0_b pr0f1f0_n pr0f1f0_c, .slice pr0f1f1_b pr0f1f1_n pr0f1f1_c, .slice pr0f1f2_b pr0f1f2_n pr0f1f2_c, .chan (some pr0f2_o), .slice (sb pr0f3_o) pr0f3_n pr0f3_c, .int .i64 pr0.work.Pushes, .int .i64 pr0.work.Lifts] 123 (0, 0)), (some pr0f2_o, chanO .i64 pr0.row pr0f2_s pr0f2_r), (pr0f3_o, .cells (arr boolC pr0.ins pr0f3_j).toArray 4 (0, 0))] : Heap).filterMap Prod.fst) (intC .i64) 1 pr0f1f0_b pr0f1f0_n pr0f1f0_c pr0.p.Res) (h_pr0f1f1 : RS w (([(some pr0_k, .cells #[.int .i64 pr0.c.N, .int .i64 pr0.c.S, .int .i64 pr0.c.T, .slice pr0f0f3_b pr0f0f3_n pr0f0f3_c, .slice pr0f0f4_b pr0f0f4_n pr0f0f4_c, .slice pr0f0f5_b pr0f0f5_n pr0f0f5_c, .slice pr0f0f6_b pr0f0f6_n pr0f0f6_c, .slice pr0f0f7_b pr0f0f7_n pr0f0f7_c, .slice pr0f0f8_b pr0f0f8_n pr0f0f8_c, .slice pr0f1f0_b pr0f1f0_n pr0f1f0_c, .slice pr0f1f1_b pr0f1f1_n pr0f1f1_c, .slice pr0f1f2_b pr0f1f2_n pr0f1f2_c, .chan (some pr0f2_o), .slice (sb pr0f3_o) pr0f3_n pr0f3_c, .int .i64 pr0.work.Pushes, .int .i64 pr0.work.Lifts] 123 (0, 0)), (some pr0f2_o, chanO .i64 pr0.row pr0f2_s pr0f2_r), (pr0f3_o, .cells (arr boolC pr0.ins pr0f3_j).toArray 4 (0, 0))] : Heap).filterMap Prod.fst) (intC .i64) 1 pr0f1f1_b pr0f1f1_n pr0f1f1_c pr0.p.Ex) (h_pr0f1f2 : RS w (([(some pr0_k, .cells #[.int .i64 pr0.c.N, .int .i64 pr0.c.S, .int .i64 pr0.c.T, .slice pr0f0f3_b pr0f0f3_n pr0f0f3_c, .slice pr0f0f4_b pr0f0f4_n pr0f0f4_c, .slice pr0f0f5_b pr0f0f5_n pr0f0f5_c, .slice pr0f0f6_b pr0f0f6_n pr0f0f6_c, .slice pr0f0f7_b pr0f0f7_n pr0f0f7_c, .slice pr0f0f8_b pr0f0f8_n pr0f0f8_c, .slice pr0f1f0_b pr0f1f0_n pr0f1f0_c, .slice pr0f1f1_b pr0f1f1_n pr0f1f1_c, .slice pr0f1f2_b pr0f1f2_n pr0f1f2_c, .chan (some pr0f2_o), .slice (sb pr0f3_o) pr0f3_n pr0f3_c, .int .i64 pr0.work.Pushes, .int .i64 pr0.work.Lifts] 123 (0, 0)), (some pr0f2_o, chanO .i64 pr0.row pr0f2_s pr0f2_r), (pr0f3_o, .cells (arr boolC pr0.ins pr0f3_j).toArray 4 (0, 0))] : Heap).filterMap Prod.fst) (intC .i64) 1 pr0f1f2_b pr0f1f2_n pr0f1f2_c pr0.p.H) (h_pr0f3_l : pr0.ins.length = pr0f3_n) (h_pr0f3_c : pr0f3_n ≤ pr0f3_c) (h_pr0f3_j : pr0f3_j.length = (pr0f3_c - pr0f3_n) * 1) (h_pr0f3_z : (pr0f3_o = none → pr0f3_c = 0)) {r0 : Int} {r1 : Bool} {o0 : FifoRun} (H : Z6g pr0 = some (r0, r1, o0)) : Fnc Try.prog 88 #[.pointer (some ⟨pr0_k, 0, none⟩)] w (([(some pr0_k, .cells #[.int .i64 pr0.c.N, .int .i64 pr0.c.S, .int .i64 pr0.c.T, .slice pr0f0f3_b pr0f0f3_n pr0f0f3_c, .slice pr0f0f4_b pr0f0f4_n pr0f0f4_c, .slice pr0f0f5_b pr0f0f5_n pr0f0f5_c, .slice pr0f0f6_b pr0f0f6_n pr0f0f6_c, .slice pr0f0f7_b pr0f0f7_n pr0f0f7_c, .slice pr0f0f8_b pr0f0f8_n pr0f0f8_c, .slice pr0f1f0_b pr0f1f0_n pr0f1f0_c, .slice pr0f1f1_b pr0f1f1_n pr0f1f1_c, .slice pr0f1f2_b pr0f1f2_n pr0f1f2_c, .chan (some pr0f2_o), .slice (sb pr0f3_o) pr0f3_n pr0f3_c, .int .i64 pr0.work.Pushes, .int .i64 pr0.work.Lifts] 123 (0, 0)), (some pr0f2_o, chanO .i64 pr0.row pr0f2_s pr0f2_r), (pr0f3_o, .cells (arr boolC pr0.ins pr0f3_j).toArray 4 (0, 0))] : Heap).filterMap Prod.fst) (fun v N => ∃ (cs_0 : Nat) (cr_0 : Nat), v = .tuple #[.int .i64 r0, .bool r1] ∧ N = [(some pr0_k, .cells #[.int .i64 pr0.c.N, .int .i64 pr0.c.S, .int .i64 pr0.c.T, .slice pr0f0f3_b pr0f0f3_n pr0f0f3_c, .slice pr0f0f4_b pr0f0f4_n pr0f0f4_c, .slice pr0f0f5_b pr0f0f5_n pr0f0f5_c, .slice pr0f0f6_b pr0f0f6_n pr0f0f6_c, .slice pr0f0f7_b pr0f0f7_n pr0f0f7_c, .slice pr0f0f8_b pr0f0f8_n pr0f0f8_c, .slice pr0f1f0_b pr0f1f0_n pr0f1f0_c, .slice pr0f1f1_b pr0f1f1_n pr0f1f1_c, .slice pr0f1f2_b pr0f1f2_n pr0f1f2_c, .chan (some pr0f2_o), .slice (sb pr0f3_o) pr0f3_n pr0f3_c, .int .i64 pr0.work.Pushes, .int .i64 pr0.work.Lifts] 123 (0, 0)), (some pr0f2_o, chanO .i64 o0.row cs_0 cr_0), (pr0f3_o, .cells (arr boolC o0.ins pr0f3_j).toArray 4 (0, 0))] ∧ o0.ins.length = pr0f3_n) := by
 unfold Z6g at H; refine Zgh (vs := [.pointer (some ⟨pr0_k, 0, none⟩)]) Try.func88 rfl rfl hin ?_; refine TK.seq ?_; refine Zbc rfl ?_; refine Z04 (ll := [0, 1]) rfl ?_; refine Z09 rfl rfl rfl rfl ?_; refine Z09 rfl rfl rfl rfl ?_; refine Z02 ?_; refine Z35 ?_; refine TK.seq ?_; refine Zbc rfl ?_; refine Z04 (ll := [0, 1, 2, 3]) rfl ?_; refine Z06 rfl rfl rfl rfl ?_; refine TO.nilCheck rfl rfl rfl rfl ?_; refine Z05 rfl rfl rfl rfl Zdd ?_; refine Z0c rfl rfl rfl rfl Zg2 mm0 rfl ?_; refine Z02 ?_; refine Z35 ?_; refine TK.seq ?_; rcases Z0i H with ⟨g4, H⟩ | ⟨g4, H⟩
 · refine TK.region (ll := [0, 1, 2]) rfl ?_; refine TOK.selD (u := pr0.row) g4 rfl rfl rfl rfl Zkc mm1 ?_; refine Zhc rfl ?_; refine TO.extract rfl rfl rfl rfl rfl ?_; refine Za6 (b := false) rfl rfl rfl rfl rfl rfl (by first | decide | rfl) ?_; refine Z02 ?_; refine Z35 ?_; refine TK.block ?_; refine Zhf rfl rfl ?_; refine TK.seq ?_; refine Zbc rfl ?_; refine Z04 (ll := [0, 1]) rfl ?_; refine Z09 rfl rfl rfl rfl ?_; refine Z09 rfl rfl rfl rfl ?_; refine Z02 ?_; refine Z35 ?_; refine Zjt (Z00 (t := 2) rfl (Z00 (t := 3) rfl Z0b)) ?_; refine TK.ret rfl ?_; refine Z0n ?_; obtain ⟨rfl, rfl, rfl⟩ := ret3 H; exact Z7f rfl rfl rfl rfl (Res.tmp rfl) (Res.tmp rfl) (Z03 tk0 (Z03 tk0 (Z03 tk0 Z0a))) ⟨pr0f2_s, pr0f2_r, rfl, rfl, h_pr0f3_l⟩
 · refine TK.region (ll := [0, 1, 2]) rfl ?_; refine TOK.selR (u := pr0.row) g4 rfl rfl rfl rfl Zkc tk1 ?_; refine Zhc rfl ?_; refine TO.extract rfl rfl rfl rfl rfl ?_; refine Za6 (b := true) rfl rfl rfl rfl rfl rfl (by first | decide | rfl) ?_; refine Z02 ?_; refine Z35 ?_; refine TK.block ?_; refine Zhe rfl rfl ?_; refine TK.seq ?_; refine Zbc rfl ?_; refine Z04 (ll := [0, 1]) rfl ?_; refine TO.extract rfl rfl rfl rfl rfl ?_; refine Z09 rfl rfl rfl rfl ?_; refine Z02 ?_; refine Z35 ?_; refine Zjt (Z00 (t := 0) rfl (Z00 (t := 4) rfl Z0b)) ?_; refine TK.seq ?_; obtain ⟨g5, H⟩ := Z0e H; refine Zbc rfl ?_; refine Z04 (ll := [0, 1, 2, 3, 4, 5, 6]) rfl ?_; refine Z06 rfl rfl rfl rfl ?_; refine TO.nilCheck rfl rfl rfl rfl ?_; refine Z05 rfl rfl rfl rfl Zar ?_; refine Z0c rfl rfl rfl rfl Zer mm1 rfl ?_; refine Z06 rfl rfl rfl rfl ?_; refine Z2x h_pr0f3_z h_pr0f3_c h_pr0f3_l g5 rfl rfl rfl rfl rfl Zc7 Zb1 ?_; refine Zfi h_pr0f3_z h_pr0f3_c h_pr0f3_l g5 rfl rfl rfl rfl tk2 Zb1 ?_; refine Z02 ?_; refine Z35 ?_; refine TK.seq ?_; refine Zbc rfl ?_; refine Z04 (ll := [0, 1, 2]) rfl ?_; refine Z06 rfl rfl rfl rfl ?_; refine Z09 rfl rfl rfl rfl ?_; refine Z09 rfl rfl rfl rfl ?_; refine Z02 ?_; refine Z35 ?_; refine Zjt (Z00 (t := 2) rfl (Z00 (t := 3) rfl Z0b)) ?_; refine TK.ret rfl ?_; refine Z0n ?_; obtain ⟨rfl, rfl, rfl⟩ := ret3 H; exact Z7f rfl rfl rfl rfl (Res.tmp rfl) (Res.tmp rfl) (Z03 tk2 (Z03 tk1 (Z03 tk0 Z0a))) ⟨pr0f2_s, (pr0f2_r + 1), rfl, rfl, (List.length_set.trans h_pr0f3_l)⟩
theorem Zdw {r0 : FifoRun} {u1 : Int} {a2 : Int} {r0_k : Nat} {r0f0f3_b : Option Addr} {r0f0f3_n : Nat} {r0f0f3_c : Nat} {r0f0f4_b : Option Addr} {r0f0f4_n : Nat} {r0f0f4_c : Nat} {r0f0f5_b : Option Addr} {r0f0f5_n : Nat} {r0f0f5_c : Nat} {r0f0f6_b : Option Addr} {r0f0f6_n : Nat} {r0f0f6_c : Nat} {r0f0f7_b : Option Addr} {r0f0f7_n : Nat} {r0f0f7_c : Nat} {r0f0f8_b : Option Addr} {r0f0f8_n : Nat} {r0f0f8_c : Nat} {r0f1f0_o : Option Nat} {r0f1f0_n : Nat} {r0f1f0_c : Nat} {r0f1f0_j : List Value} {r0f1f1_o : Option Nat} {r0f1f1_n : Nat} {r0f1f1_c : Nat} {r0f1f1_j : List Value} {r0f1f2_b : Option Addr} {r0f1f2_n : Nat} {r0f1f2_c : Nat} {r0f2_o : Nat} {r0f2_s : Nat} {r0f2_r : Nat} {r0f3_o : Option Nat} {r0f3_n : Nat} {r0f3_c : Nat} {r0f3_j : List Value} (w : World) (hin : Inv w (([(some r0_k, .cells #[.int .i64 r0.c.N, .int .i64 r0.c.S, .int .i64 r0.c.T, .slice r0f0f3_b r0f0f3_n r0f0f3_c, .slice r0f0f4_b r0f0f4_n r0f0f4_c, .slice r0f0f5_b r0f0f5_n r0f0f5_c, .slice r0f0f6_b r0f0f6_n r0f0f6_c, .slice r0f0f7_b r0f0f7_n r0f0f7_c, .slice r0f0f8_b r0f0f8_n r0f0f8_c, .slice (sb r0f1f0_o) r0f1f0_n r0f1f0_c, .slice (sb r0f1f1_o) r0f1f1_n r0f1f1_c, .slice r0f1f2_b r0f1f2_n r0f1f2_c, .chan (some r0f2_o), .slice (sb r0f3_o) r0f3_n r0f3_c, .int .i64 r0.work.Pushes, .int .i64 r0.work.Lifts] 123 (0, 0)), (r0f1f0_o, .cells (arr (intC .i64) r0.p.Res r0f1f0_j).toArray 2 (0, 0)), (r0f1f1_o, .cells (arr (intC .i64) r0.p.Ex r0f1f1_j).toArray 2 (0, 0)), (some r0f2_o, chanO .i64 r0.row r0f2_s r0f2_r), (r0f3_o, .cells (arr boolC r0.ins r0f3_j).toArray 4 (0, 0))] : Heap).filterMap Prod.fst) w [(some r0_k, .cells #[.int .i64 r0.c.N, .int .i64 r0.c.S, .int .i64 r0.c.T, .slice r0f0f3_b r0f0f3_n r0f0f3_c, .slice r0f0f4_b r0f0f4_n r0f0f4_c, .slice r0f0f5_b r0f0f5_n r0f0f5_c, .slice r0f0f6_b r0f0f6_n r0f0f6_c, .slice r0f0f7_b r0f0f7_n r0f0f7_c, .slice r0f0f8_b r0f0f8_n r0f0f8_c, .slice (sb r0f1f0_o) r0f1f0_n r0f1f0_c, .slice (sb r0f1f1_o) r0f1f1_n r0f1f1_c, .slice r0f1f2_b r0f1f2_n r0f1f2_c, .chan (some r0f2_o), .slice (sb r0f3_o) r0f3_n r0f3_c, .int .i64 r0.work.Pushes, .int .i64 r0.work.Lifts] 123 (0, 0)), (r0f1f0_o, .cells (arr (intC .i64) r0.p.Res r0f1f0_j).toArray 2 (0, 0)), (r0f1f1_o, .cells (arr (intC .i64) r0.p.Ex r0f1f1_j).toArray 2 (0, 0)), (some r0f2_o, chanO .i64 r0.row r0f2_s r0f2_r), (r0f3_o, .cells (arr boolC r0.ins r0f3_j).toArray 4 (0, 0))]) (h_r0f0f3 : RS w (([(some r0_k, .cells #[.int .i64 r0.c.N, .int .i64 r0.c.S, .int .i64 r0.c.T, .slice r0f0f3_b r0f0f3_n r0f0f3_c, .slice r0f0f4_b r0f0f4_n r0f0f4_c, .slice r0f0f5_b r0f0f5_n r0f0f5_c, .slice r0f0f6_b r0f0f6_n r0f0f6_c, .slice r0f0f7_b r0f0f7_n r0f0f7_c, .slice r0f0f8_b r0f0f8_n r0f0f8_c, .slice (sb r0f1f0_o) r0f1f0_n r0f1f0_c, .slice (sb r0f1f1_o) r0f1f1_n r0f1f1_c, .slice r0f1f2_b r0f1f2_n r0f1f2_c, .chan (some r0f2_o), .slice (sb r0f3_o) r0f3_n r0f3_c, .int .i64 r0.work.Pushes, .int .i64 r0.work.Lifts] 123 (0, 0)), (r0f1f0_o, .cells (arr (intC .i64) r0.p.Res r0f1f0_j).toArray 2 (0, 0)), (r0f1f1_o, .cells (arr (intC .i64) r0.p.Ex r0f1f1_j).toArray 2 (0, 0)), (some r0f2_o, chanO .i64 r0.row r0f2_s r0f2_r), (r0f3_o, .cells (arr boolC r0.ins r0f3_j).toArray 4 (0, 0))] : Heap).filterMap Prod.fst) (intC .i64) 1 r0f0f3_b r0f0f3_n r0f0f3_c r0.c.First) (h_r0f0f4 : RS w (([(some r0_k, .cells #[.int .i64 r0.c.N, .int .i64 r0.c.S, .int .i64 r0.c.T, .slice r0f0f3_b r0f0f3_n r0f0f3_c, .slice r0f0f4_b r0f0f4_n r0f0f4_c, .slice r0f0f5_b r0f0f5_n r0f0f5_c, .slice r0f0f6_b r0f0f6_n r0f0f6_c, .slice r0f0f7_b r0f0f7_n r0f0f7_c, .slice r0f0f8_b r0f0f8_n r0f0f8_c, .slice (sb r0f1f0_o) r0f1f0_n r0f1f0_c, .slice (sb r0f1f1_o) r0f1f1_n r0f1f1_c, .slice r0f1f2_b r0f1f2_n r0f1f2_c, .chan (some r0f2_o), .slice (sb r0f3_o) r0f3_n r0f3_c, .int .i64 r0.work.Pushes, .int .i64 r0.work.Lifts] 123 (0, 0)), (r0f1f0_o, .cells (arr (intC .i64) r0.p.Res r0f1f0_j).toArray 2 (0, 0)), (r0f1f1_o, .cells (arr (intC .i64) r0.p.Ex r0f1f1_j).toArray 2 (0, 0)), (some r0f2_o, chanO .i64 r0.row r0f2_s r0f2_r), (r0f3_o, .cells (arr boolC r0.ins r0f3_j).toArray 4 (0, 0))] : Heap).filterMap Prod.fst) (intC .i64) 1 r0f0f4_b r0f0f4_n r0f0f4_c r0.c.Head) (h_r0f0f5 : RS w (([(some r0_k, .cells #[.int .i64 r0.c.N, .int .i64 r0.c.S, .int .i64 r0.c.T, .slice r0f0f3_b r0f0f3_n r0f0f3_c, .slice r0f0f4_b r0f0f4_n r0f0f4_c, .slice r0f0f5_b r0f0f5_n r0f0f5_c, .slice r0f0f6_b r0f0f6_n r0f0f6_c, .slice r0f0f7_b r0f0f7_n r0f0f7_c, .slice r0f0f8_b r0f0f8_n r0f0f8_c, .slice (sb r0f1f0_o) r0f1f0_n r0f1f0_c, .slice (sb r0f1f1_o) r0f1f1_n r0f1f1_c, .slice r0f1f2_b r0f1f2_n r0f1f2_c, .chan (some r0f2_o), .slice (sb r0f3_o) r0f3_n r0f3_c, .int .i64 r0.work.Pushes, .int .i64 r0.work.Lifts] 123 (0, 0)), (r0f1f0_o, .cells (arr (intC .i64) r0.p.Res r0f1f0_j).toArray 2 (0, 0)), (r0f1f1_o, .cells (arr (intC .i64) r0.p.Ex r0f1f1_j).toArray 2 (0, 0)), (some r0f2_o, chanO .i64 r0.row r0f2_s r0f2_r), (r0f3_o, .cells (arr boolC r0.ins r0f3_j).toArray 4 (0, 0))] : Heap).filterMap Prod.fst) (intC .i64) 1 r0f0f5_b r0f0f5_n r0f0f5_c r0.c.Rev) (h_r0f0f6 : RS w (([(some r0_k, .cells #[.int .i64 r0.c.N, .int .i64 r0.c.S, .int .i64 r0.c.T, .slice r0f0f3_b r0f0f3_n r0f0f3_c, .slice r0f0f4_b r0f0f4_n r0f0f4_c, .slice r0f0f5_b r0f0f5_n r0f0f5_c, .slice r0f0f6_b r0f0f6_n r0f0f6_c, .slice r0f0f7_b r0f0f7_n r0f0f7_c, .slice r0f0f8_b r0f0f8_n r0f0f8_c, .slice (sb r0f1f0_o) r0f1f0_n r0f1f0_c, .slice (sb r0f1f1_o) r0f1f1_n r0f1f1_c, .slice r0f1f2_b r0f1f2_n r0f1f2_c, .chan (some r0f2_o), .slice (sb r0f3_o) r0f3_n r0f3_c, .int .i64 r0.work.Pushes, .int .i64 r0.work.Lifts] 123 (0, 0)), (r0f1f0_o, .cells (arr (intC .i64) r0.p.Res r0f1f0_j).toArray 2 (0, 0)), (r0f1f1_o, .cells (arr (intC .i64) r0.p.Ex r0f1f1_j).toArray 2 (0, 0)), (some r0f2_o, chanO .i64 r0.row r0f2_s r0f2_r), (r0f3_o, .cells (arr boolC r0.ins r0f3_j).toArray 4 (0, 0))] : Heap).filterMap Prod.fst) (intC .i64) 1 r0f0f6_b r0f0f6_n r0f0f6_c r0.c.Cap) (h_r0f0f7 : RS w (([(some r0_k, .cells #[.int .i64 r0.c.N, .int .i64 r0.c.S, .int .i64 r0.c.T, .slice r0f0f3_b r0f0f3_n r0f0f3_c, .slice r0f0f4_b r0f0f4_n r0f0f4_c, .slice r0f0f5_b r0f0f5_n r0f0f5_c, .slice r0f0f6_b r0f0f6_n r0f0f6_c, .slice r0f0f7_b r0f0f7_n r0f0f7_c, .slice r0f0f8_b r0f0f8_n r0f0f8_c, .slice (sb r0f1f0_o) r0f1f0_n r0f1f0_c, .slice (sb r0f1f1_o) r0f1f1_n r0f1f1_c, .slice r0f1f2_b r0f1f2_n r0f1f2_c, .chan (some r0f2_o), .slice (sb r0f3_o) r0f3_n r0f3_c, .int .i64 r0.work.Pushes, .int .i64 r0.work.Lifts] 123 (0, 0)), (r0f1f0_o, .cells (arr (intC .i64) r0.p.Res r0f1f0_j).toArray 2 (0, 0)), (r0f1f1_o, .cells (arr (intC .i64) r0.p.Ex r0f1f1_j).toArray 2 (0, 0)), (some r0f2_o, chanO .i64 r0.row r0f2_s r0f2_r), (r0f3_o, .cells (arr boolC r0.ins r0f3_j).toArray 4 (0, 0))] : Heap).filterMap Prod.fst) (intC .i64) 1 r0f0f7_b r0f0f7_n r0f0f7_c r0.c.Arc) (h_r0f0f8 : RS w (([(some r0_k, .cells #[.int .i64 r0.c.N, .int .i64 r0.c.S, .int .i64 r0.c.T, .slice r0f0f3_b r0f0f3_n r0f0f3_c, .slice r0f0f4_b r0f0f4_n r0f0f4_c, .slice r0f0f5_b r0f0f5_n r0f0f5_c, .slice r0f0f6_b r0f0f6_n r0f0f6_c, .slice r0f0f7_b r0f0f7_n r0f0f7_c, .slice r0f0f8_b r0f0f8_n r0f0f8_c, .slice (sb r0f1f0_o) r0f1f0_n r0f1f0_c, .slice (sb r0f1f1_o) r0f1f1_n r0f1f1_c, .slice r0f1f2_b r0f1f2_n r0f1f2_c, .chan (some r0f2_o), .slice (sb r0f3_o) r0f3_n r0f3_c, .int .i64 r0.work.Pushes, .int .i64 r0.work.Lifts] 123 (0, 0)), (r0f1f0_o, .cells (arr (intC .i64) r0.p.Res r0f1f0_j).toArray 2 (0, 0)), (r0f1f1_o, .cells (arr (intC .i64) r0.p.Ex r0f1f1_j).toArray 2 (0, 0)), (some r0f2_o, chanO .i64 r0.row r0f2_s r0f2_r), (r0f3_o, .cells (arr boolC r0.ins r0f3_j).toArray 4 (0, 0))] : Heap).filterMap Prod.fst) boolC 1 r0f0f8_b r0f0f8_n r0f0f8_c r0.c.Back) (h_r0f1f0_l : r0.p.Res.length = r0f1f0_n) (h_r0f1f0_c : r0f1f0_n ≤ r0f1f0_c) (h_r0f1f0_j : r0f1f0_j.length = (r0f1f0_c - r0f1f0_n) * 1) (h_r0f1f0_z : (r0f1f0_o = none → r0f1f0_c = 0)) (h_r0f1f1_l : r0.p.Ex.length = r0f1f1_n) (h_r0f1f1_c : r0f1f1_n ≤ r0f1f1_c) (h_r0f1f1_j : r0f1f1_j.length = (r0f1f1_c - r0f1f1_n) * 1) (h_r0f1f1_z : (r0f1f1_o = none → r0f1f1_c = 0)) (h_r0f1f2 : RS w (([(some r0_k, .cells #[.int .i64 r0.c.N, .int .i64 r0.c.S, .int .i64 r0.c.T, .slice r0f0f3_b r0f0f3_n r0f0f3_c, .slice r0f0f4_b r0f0f4_n r0f0f4_c, .slice r0f0f5_b r0f0f5_n r0f0f5_c, .slice r0f0f6_b r0f0f6_n r0f0f6_c, .slice r0f0f7_b r0f0f7_n r0f0f7_c, .slice r0f0f8_b r0f0f8_n r0f0f8_c, .slice (sb r0f1f0_o) r0f1f0_n r0f1f0_c, .slice (sb r0f1f1_o) r0f1f1_n r0f1f1_c, .slice r0f1f2_b r0f1f2_n r0f1f2_c, .chan (some r0f2_o), .slice (sb r0f3_o) r0f3_n r0f3_c, .int .i64 r0.work.Pushes, .int .i64 r0.work.Lifts] 123 (0, 0)), (r0f1f0_o, .cells (arr (intC .i64) r0.p.Res r0f1f0_j).toArray 2 (0, 0)), (r0f1f1_o, .cells (arr (intC .i64) r0.p.Ex r0f1f1_j).toArray 2 (0, 0)), (some r0f2_o, chanO .i64 r0.row r0f2_s r0f2_r), (r0f3_o, .cells (arr boolC r0.ins r0f3_j).toArray 4 (0, 0))] : Heap).filterMap Prod.fst) (intC .i64) 1 r0f1f2_b r0f1f2_n r0f1f2_c r0.p.H) (h_r0f3_l : r0.ins.length = r0f3_n) (h_r0f3_c : r0f3_n ≤ r0f3_c) (h_r0f3_j : r0f3_j.length = (r0f3_c - r0f3_n) * 1) (h_r0f3_z : (r0f3_o = none → r0f3_c = 0)) {o0 : FifoRun} (H : Z53 r0 u1 a2 = some o0) : Fnc Try.prog 107 #[.pointer (some ⟨r0_k, 0, none⟩), .int .i64 u1, .int .i64 a2] w (([(some r0_k, .cells #[.int .i64 r0.c.N, .int .i64 r0.c.S, .int .i64 r0.c.T, .slice r0f0f3_b r0f0f3_n r0f0f3_c, .slice r0f0f4_b r0f0f4_n r0f0f4_c, .slice r0f0f5_b r0f0f5_n r0f0f5_c, .slice r0f0f6_b r0f0f6_n r0f0f6_c, .slice r0f0f7_b r0f0f7_n r0f0f7_c, .slice r0f0f8_b r0f0f8_n r0f0f8_c, .slice (sb r0f1f0_o) r0f1f0_n r0f1f0_c, .slice (sb r0f1f1_o) r0f1f1_n r0f1f1_c, .slice r0f1f2_b r0f1f2_n r0f1f2_c, .chan (some r0f2_o), .slice (sb r0f3_o) r0f3_n r0f3_c, .int .i64 r0.work.Pushes, .int .i64 r0.work.Lifts] 123 (0, 0)), (r0f1f0_o, .cells (arr (intC .i64) r0.p.Res r0f1f0_j).toArray 2 (0, 0)), (r0f1f1_o, .cells (arr (intC .i64) r0.p.Ex r0f1f1_j).toArray 2 (0, 0)), (some r0f2_o, chanO .i64 r0.row r0f2_s r0f2_r), (r0f3_o, .cells (arr boolC r0.ins r0f3_j).toArray 4 (0, 0))] : Heap).filterMap Prod.fst) (fun v N => ∃ (cs_0 : Nat) (cr_0 : Nat), v = .tuple #[] ∧ N = [(some r0_k, .cells #[.int .i64 r0.c.N, .int .i64 r0.c.S, .int .i64 r0.c.T, .slice r0f0f3_b r0f0f3_n r0f0f3_c, .slice r0f0f4_b r0f0f4_n r0f0f4_c, .slice r0f0f5_b r0f0f5_n r0f0f5_c, .slice r0f0f6_b r0f0f6_n r0f0f6_c, .slice r0f0f7_b r0f0f7_n r0f0f7_c, .slice r0f0f8_b r0f0f8_n r0f0f8_c, .slice (sb r0f1f0_o) r0f1f0_n r0f1f0_c, .slice (sb r0f1f1_o) r0f1f1_n r0f1f1_c, .slice r0f1f2_b r0f1f2_n r0f1f2_c, .chan (some r0f2_o), .slice (sb r0f3_o) r0f3_n r0f3_c, .int .i64 o0.work.Pushes, .int .i64 r0.work.Lifts] 123 (0, 0)), (r0f1f0_o, .cells (arr (intC .i64) o0.p.Res r0f1f0_j).toArray 2 (0, 0)), (r0f1f1_o, .cells (arr (intC .i64) o0.p.Ex r0f1f1_j).toArray 2 (0, 0)), (some r0f2_o, chanO .i64 o0.row cs_0 cr_0), (r0f3_o, .cells (arr boolC o0.ins r0f3_j).toArray 4 (0, 0))] ∧ o0.p.Res.length = r0f1f0_n ∧ o0.p.Ex.length = r0f1f1_n ∧ o0.ins.length = r0f3_n) := by
 unfold Z53 at H; refine Fnc.enter (vs := [.pointer (some ⟨r0_k, 0, none⟩), .int .i64 u1, .int .i64 a2]) Try.func107 rfl rfl hin ?_; refine Z0d ?_; obtain ⟨g6, H⟩ := Z0e H; obtain ⟨g7, H⟩ := Z0e H; refine Z96 17 [0, 1, 2, 3, 4, 5, 6, 7, 8, 9, 10, 11, 12, 13, 14, 15, 16] rfl Z6a (by kernel_rfl) (by kernel_rfl) rfl (by kernel_rfl) ?_; refine TQ.move rfl rfl rfl rfl ?_; refine TQ.nilCheck rfl rfl rfl rfl ?_; refine Z1b rfl rfl rfl rfl Z4k ?_; refine Z1b rfl rfl rfl rfl Zjk ?_; refine Z3i rfl rfl rfl rfl Z7g mm0 rfl ?_; refine TQ.move rfl rfl rfl rfl ?_; refine Zdh h_r0f0f5 g6 rfl rfl rfl rfl rfl Z7i Z6p ?_; refine Zaw h_r0f0f5 g6 rfl rfl rfl rfl Z2z ?_; refine TQ.move rfl rfl rfl rfl ?_; refine TQ.nilCheck rfl rfl rfl rfl ?_; refine Z1b rfl rfl rfl rfl Z4k ?_; refine Z1b rfl rfl rfl rfl Zev ?_; refine Z3i rfl rfl rfl rfl Z7g mm0 rfl ?_; refine TQ.move rfl rfl rfl rfl ?_; refine Zdh h_r0f0f4 g7 rfl rfl rfl rfl rfl Z7i Z6p ?_; refine Zaw h_r0f0f4 g7 rfl rfl rfl rfl Z2z ?_; refine TQ.assign rfl rfl rfl rfl ?_; refine TQ.tail [17] rfl rfl ?_; refine Z09 rfl rfl rfl rfl ?_; refine Z02 ?_; refine Z01 ?_; refine Z0l (Z00 (t := 0) rfl (Z00 (t := 1) rfl (Z00 (t := 2) rfl (Z00 (t := 6) rfl (Z00 (t := 7) rfl Z0b))))) ?_; refine Z0d ?_; obtain ⟨g8, H⟩ := Z0e H; obtain ⟨g9, H⟩ := Z0e H; refine Z96 16 [0, 1, 2, 3, 4, 5, 6, 7, 8, 9, 10, 11, 12, 13, 14, 15] rfl Z6a (by kernel_rfl) (by kernel_rfl) rfl (by kernel_rfl) ?_; refine TQ.move rfl rfl rfl rfl ?_; refine TQ.nilCheck rfl rfl rfl rfl ?_; refine Z1b rfl rfl rfl rfl Z2f ?_; refine TQ.fieldAddr rfl rfl rfl rfl Z70 ?_; refine Z3i rfl rfl rfl rfl Z59 mm0 rfl ?_; refine TQ.move rfl rfl rfl rfl ?_; refine Zfh h_r0f1f1_z h_r0f1f1_c h_r0f1f1_l g8 rfl rfl rfl rfl rfl Z3z Z3q ?_; refine Zbs h_r0f1f1_z h_r0f1f1_c h_r0f1f1_l g8 rfl rfl rfl rfl Z79 mm2 ?_; refine TQ.move rfl rfl rfl rfl ?_; refine TQ.nilCheck rfl rfl rfl rfl ?_; refine Z1b rfl rfl rfl rfl Z2f ?_; refine TQ.fieldAddr rfl rfl rfl rfl Z8k ?_; refine Z3i rfl rfl rfl rfl Z59 mm0 rfl ?_; refine TQ.move rfl rfl rfl rfl ?_; refine Zfh h_r0f1f0_z h_r0f1f0_c h_r0f1f0_l g9 rfl rfl rfl rfl rfl Z3z Z3q ?_; refine Zbs h_r0f1f0_z h_r0f1f0_c h_r0f1f0_l g9 rfl rfl rfl rfl Z79 mm1 ?_; refine TQ.tail [16, 17] rfl rfl ?_; refine TO.min2 rfl rfl rfl rfl rfl ?_; refine Z09 rfl rfl rfl rfl ?_; refine Z02 ?_; refine Z01 ?_; refine Z0l (Z00 (t := 0) rfl (Z00 (t := 1) rfl (Z00 (t := 2) rfl (Z00 (t := 6) rfl (Z00 (t := 7) rfl (Z00 (t := 8) rfl Z0b)))))) ?_; refine Z0d ?_; obtain ⟨g10, H⟩ := Z0e H; obtain ⟨g11, H⟩ := Z0e H; obtain ⟨g12, H⟩ := Z0e H; refine Z04 (ll := [0, 1, 2, 3, 4, 5, 6, 7, 8, 9, 10, 11]) rfl ?_; refine Z06 rfl rfl rfl rfl ?_; refine TO.nilCheck rfl rfl rfl rfl ?_; refine Z05 rfl rfl rfl rfl Z2f ?_; refine TO.fieldAddr rfl rfl rfl rfl Z8k ?_; refine Z0c rfl rfl rfl rfl Z59 mm0 rfl ?_; refine Z06 rfl rfl rfl rfl ?_; refine Z2x h_r0f1f0_z h_r0f1f0_c h_r0f1f0_l g10 rfl rfl rfl rfl rfl Z3z Z3q ?_; refine Z5n h_r0f1f0_z h_r0f1f0_c h_r0f1f0_l g10 rfl rfl rfl rfl Z79 mm1 ?_; refine Z06 rfl rfl rfl rfl ?_; refine Z73 g11 rfl rfl rfl rfl rfl ?_; refine Z2x h_r0f1f0_z h_r0f1f0_c h_r0f1f0_l g12 rfl rfl rfl rfl rfl Z3z Z3q ?_; refine Z74 h_r0f1f0_z h_r0f1f0_c h_r0f1f0_l g12 rfl rfl rfl rfl tk1 Z3q ?_; refine Z02 ?_; refine Z01 ?_; refine Z0l (Z00 (t := 0) rfl (Z00 (t := 1) rfl (Z00 (t := 6) rfl (Z00 (t := 7) rfl (Z00 (t := 8) rfl Z0b))))) ?_; refine Z0d ?_; obtain ⟨g13, H⟩ := Z0e H; obtain ⟨g14, H⟩ := Z0e H; obtain ⟨g15, H⟩ := Z0e H; refine Z04 (ll := [0, 1, 2, 3, 4, 5, 6, 7, 8, 9, 10, 11]) rfl ?_; refine Z06 rfl rfl rfl rfl ?_; refine TO.nilCheck rfl rfl rfl rfl ?_; refine Z05 rfl rfl rfl rfl Z2f ?_; refine TO.fieldAddr rfl rfl rfl rfl Z8k ?_; refine Z0c rfl rfl rfl rfl Z59 mm1 rfl ?_; refine Z06 rfl rfl rfl rfl ?_; refine Z2x h_r0f1f0_z h_r0f1f0_c (List.length_set.trans h_r0f1f0_l) g13 rfl rfl rfl rfl rfl Z3z Z3q ?_; refine Z5n h_r0f1f0_z h_r0f1f0_c (List.length_set.trans h_r0f1f0_l) g13 rfl rfl rfl rfl Z79 mm0 ?_; refine Z06 rfl rfl rfl rfl ?_; refine Z11 g14 rfl rfl rfl rfl rfl ?_; refine Z2x h_r0f1f0_z h_r0f1f0_c (List.length_set.trans h_r0f1f0_l) g15 rfl rfl rfl rfl rfl Z3z Z3q ?_; refine Z74 h_r0f1f0_z h_r0f1f0_c (List.length_set.trans h_r0f1f0_l) g15 rfl rfl rfl rfl tk0 Z3q ?_; refine Z02 ?_; refine Z01 ?_; refine Z0l (Z00 (t := 0) rfl (Z00 (t := 1) rfl (Z00 (t := 7) rfl (Z00 (t := 8) rfl Z0b)))) ?_; refine Z0d ?_; obtain ⟨g16, H⟩ := Z0e H; obtain ⟨g17, H⟩ := Z0e H; obtain ⟨g18, H⟩ := Z0e H; refine Z04 (ll := [0, 1, 2, 3, 4, 5, 6, 7, 8, 9, 10, 11]) rfl ?_; refine Z06 rfl rfl rfl rfl ?_; refine TO.nilCheck rfl rfl rfl rfl ?_; refine Z05 rfl rfl rfl rfl Z2f ?_; refine TO.fieldAddr rfl rfl rfl rfl Z70 ?_; refine Z0c rfl rfl rfl rfl Z59 mm1 rfl ?_; refine Z06 rfl rfl rfl rfl ?_; refine Z2x h_r0f1f1_z h_r0f1f1_c h_r0f1f1_l g16 rfl rfl rfl rfl rfl Z3z Z3q ?_; refine Z5n h_r0f1f1_z h_r0f1f1_c h_r0f1f1_l g16 rfl rfl rfl rfl Z79 mm2 ?_; refine Z06 rfl rfl rfl rfl ?_; refine Z73 g17 rfl rfl rfl rfl rfl ?_; refine Z2x h_r0f1f1_z h_r0f1f1_c h_r0f1f1_l g18 rfl rfl rfl rfl rfl Z3z Z3q ?_; refine Z74 h_r0f1f1_z h_r0f1f1_c h_r0f1f1_l g18 rfl rfl rfl rfl tk2 Z3q ?_; refine Z02 ?_; refine Z01 ?_; refine Z0l (Z00 (t := 0) rfl (Z00 (t := 7) rfl (Z00 (t := 8) rfl Z0b))) ?_; refine Z0d ?_; obtain ⟨g19, H⟩ := Z0e H; obtain ⟨g20, H⟩ := Z0e H; obtain ⟨g21, H⟩ := Z0e H; refine Z04 (ll := [0, 1, 2, 3, 4, 5, 6, 7, 8, 9, 10, 11]) rfl ?_; refine Z06 rfl rfl rfl rfl ?_; refine TO.nilCheck rfl rfl rfl rfl ?_; refine Z05 rfl rfl rfl rfl Z2f ?_; refine TO.fieldAddr rfl rfl rfl rfl Z70 ?_; refine Z0c rfl rfl rfl rfl Z59 mm2 rfl ?_; refine Z06 rfl rfl rfl rfl ?_; refine Z2x h_r0f1f1_z h_r0f1f1_c (List.length_set.trans h_r0f1f1_l) g19 rfl rfl rfl rfl rfl Z3z Z3q ?_; refine Z5n h_r0f1f1_z h_r0f1f1_c (List.length_set.trans h_r0f1f1_l) g19 rfl rfl rfl rfl Z79 mm0 ?_; refine Z06 rfl rfl rfl rfl ?_; refine Z11 g20 rfl rfl rfl rfl rfl ?_; refine Z2x h_r0f1f1_z h_r0f1f1_c (List.length_set.trans h_r0f1f1_l) g21 rfl rfl rfl rfl rfl Z3z Z3q ?_; refine Z74 h_r0f1f1_z h_r0f1f1_c (List.length_set.trans h_r0f1f1_l) g21 rfl rfl rfl rfl tk0 Z3q ?_; refine Z02 ?_; refine Z01 ?_; refine Z0l (Z00 (t := 0) rfl (Z00 (t := 7) rfl Z0b)) ?_; refine Z0d ?_; obtain ⟨g22, H⟩ := Z0e H; refine Z04 (ll := [0, 1, 2, 3, 4, 5, 6, 7, 8, 9]) rfl ?_; refine Z06 rfl rfl rfl rfl ?_; refine TO.nilCheck rfl rfl rfl rfl ?_; refine Z05 rfl rfl rfl rfl Z7j ?_; refine TO.fieldAddr rfl rfl rfl rfl Zeu ?_; refine Z0c rfl rfl rfl rfl Z2z mm2 rfl ?_; refine Z11 g22 rfl rfl rfl rfl rfl ?_; refine TO.nilCheck rfl rfl rfl rfl ?_; refine Z05 rfl rfl rfl rfl Z7j ?_; refine TO.fieldAddr rfl rfl rfl rfl Zeu ?_; refine Z2g (cs' := [.int .i64 r0.c.N, .int .i64 r0.c.S, .int .i64 r0.c.T, .slice r0f0f3_b r0f0f3_n r0f0f3_c, .slice r0f0f4_b r0f0f4_n r0f0f4_c, .slice r0f0f5_b r0f0f5_n r0f0f5_c, .slice r0f0f6_b r0f0f6_n r0f0f6_c, .slice r0f0f7_b r0f0f7_n r0f0f7_c, .slice r0f0f8_b r0f0f8_n r0f0f8_c, .slice (sb r0f1f0_o) r0f1f0_n r0f1f0_c, .slice (sb r0f1f1_o) r0f1f1_n r0f1f1_c, .slice r0f1f2_b r0f1f2_n r0f1f2_c, .chan (some r0f2_o), .slice (sb r0f3_o) r0f3_n r0f3_c, .int .i64 (r0.work.Pushes + 1), .int .i64 r0.work.Lifts]) rfl rfl rfl rfl tk2 Z6p rfl rfl rfl ?_; refine Z02 ?_; refine Z01 ?_; refine Z0l (Z00 (t := 0) rfl (Z00 (t := 7) rfl Z0b)) ?_; obtain ⟨r23, e24, H⟩ := Z0k H; refine Z04 (ll := [0, 1, 2]) rfl ?_; refine Z06 rfl rfl rfl rfl ?_; refine Z06 rfl rfl rfl rfl ?_; refine Z9q Zif rfl rfl rfl rfl (Z08 tk0 (Z08 tk2 (Z08 tk2 (Gone.refl _)))) rfl (fun wc hwc => Zaf (r0 := (FifoRun.mk r0.c (Pre.mk ((r0.p.Res.set a2.toNat ((r0.p.Res.getD a2.toNat 0) - (min (r0.p.Ex.getD u1.toNat 0) (r0.p.Res.getD a2.toNat 0)))).set (r0.c.Rev.getD a2.toNat 0).toNat (((r0.p.Res.set a2.toNat ((r0.p.Res.getD a2.toNat 0) - (min (r0.p.Ex.getD u1.toNat 0) (r0.p.Res.getD a2.toNat 0)))).getD (r0.c.Rev.getD a2.toNat 0).toNat 0) + (min (r0.p.Ex.getD u1.toNat 0) (r0.p.Res.getD a2.toNat 0)))) ((r0.p.Ex.set u1.toNat ((r0.p.Ex.getD u1.toNat 0) - (min (r0.p.Ex.getD u1.toNat 0) (r0.p.Res.getD a2.toNat 0)))).set (r0.c.Head.getD a2.toNat 0).toNat (((r0.p.Ex.set u1.toNat ((r0.p.Ex.getD u1.toNat 0) - (min (r0.p.Ex.getD u1.toNat 0) (r0.p.Res.getD a2.toNat 0)))).getD (r0.c.Head.getD a2.toNat 0).toNat 0) + (min (r0.p.Ex.getD u1.toNat 0) (r0.p.Res.getD a2.toNat 0)))) r0.p.H) r0.row r0.ins (Work.mk (r0.work.Pushes + 1) r0.work.Lifts))) (v1 := (r0.c.Head.getD a2.toNat 0)) wc (hwc.self (Z03 tk0 (Z03 tk2 (Z03 tk2 Z0a))) rfl) (h_r0f0f3.monoM (by decide) hwc (Z08 tk0 (Z08 tk2 (Z08 tk2 (Gone.refl _)))) rfl) (h_r0f0f4.monoM (by decide) hwc (Z08 tk0 (Z08 tk2 (Z08 tk2 (Gone.refl _)))) rfl) (h_r0f0f5.monoM (by decide) hwc (Z08 tk0 (Z08 tk2 (Z08 tk2 (Gone.refl _)))) rfl) (h_r0f0f6.monoM (by decide) hwc (Z08 tk0 (Z08 tk2 (Z08 tk2 (Gone.refl _)))) rfl) (h_r0f0f7.monoM (by decide) hwc (Z08 tk0 (Z08 tk2 (Z08 tk2 (Gone.refl _)))) rfl) (h_r0f0f8.monoM (by decide) hwc (Z08 tk0 (Z08 tk2 (Z08 tk2 (Gone.refl _)))) rfl) (hwc.rsM (f := (intC .i64)) (s := 1) (xs := ((r0.p.Res.set a2.toNat ((r0.p.Res.getD a2.toNat 0) - (min (r0.p.Ex.getD u1.toNat 0) (r0.p.Res.getD a2.toNat 0)))).set (r0.c.Rev.getD a2.toNat 0).toNat (((r0.p.Res.set a2.toNat ((r0.p.Res.getD a2.toNat 0) - (min (r0.p.Ex.getD u1.toNat 0) (r0.p.Res.getD a2.toNat 0)))).getD (r0.c.Rev.getD a2.toNat 0).toNat 0) + (min (r0.p.Ex.getD u1.toNat 0) (r0.p.Res.getD a2.toNat 0))))) (j := r0f1f0_j) (fun _ => rfl) (Z08 tk0 (Z08 tk2 (Z08 tk2 (Gone.refl _)))) rfl mm1 (List.length_set.trans (List.length_set.trans h_r0f1f0_l)) h_r0f1f0_c h_r0f1f0_z) (hwc.rsM (f := (intC .i64)) (s := 1) (xs := ((r0.p.Ex.set u1.toNat ((r0.p.Ex.getD u1.toNat 0) - (min (r0.p.Ex.getD u1.toNat 0) (r0.p.Res.getD a2.toNat 0)))).set (r0.c.Head.getD a2.toNat 0).toNat (((r0.p.Ex.set u1.toNat ((r0.p.Ex.getD u1.toNat 0) - (min (r0.p.Ex.getD u1.toNat 0) (r0.p.Res.getD a2.toNat 0)))).getD (r0.c.Head.getD a2.toNat 0).toNat 0) + (min (r0.p.Ex.getD u1.toNat 0) (r0.p.Res.getD a2.toNat 0))))) (j := r0f1f1_j) (fun _ => rfl) (Z08 tk0 (Z08 tk2 (Z08 tk2 (Gone.refl _)))) rfl mm0 (List.length_set.trans (List.length_set.trans h_r0f1f1_l)) h_r0f1f1_c h_r0f1f1_z) (h_r0f1f2.monoM (by decide) hwc (Z08 tk0 (Z08 tk2 (Z08 tk2 (Gone.refl _)))) rfl) h_r0f3_l h_r0f3_c h_r0f3_j h_r0f3_z e24) ?_; rintro _ _ ⟨cs25, cr26, rfl, rfl, hn27⟩; refine Z02 ?_; refine Zdc ?_; obtain rfl := ret1 H; exact Zbb rfl rfl rfl rfl  (Z03 tk0 (Z03 tk3 (Z03 tk2 (Z03 tk0 (Z03 tk0 Z0a))))) ⟨cs25, cr26, rfl, rfl, (List.length_set.trans (List.length_set.trans h_r0f1f0_l)), (List.length_set.trans (List.length_set.trans h_r0f1f1_l)), hn27⟩
theorem Zdx {r0 : FifoRun} {u1 : Int} {r0_k : Nat} {r0f0f3_b : Option Addr} {r0f0f3_n : Nat} {r0f0f3_c : Nat} {r0f0f4_b : Option Addr} {r0f0f4_n : Nat} {r0f0f4_c : Nat} {r0f0f5_b : Option Addr} {r0f0f5_n : Nat} {r0f0f5_c : Nat} {r0f0f6_b : Option Addr} {r0f0f6_n : Nat} {r0f0f6_c : Nat} {r0f0f7_b : Option Addr} {r0f0f7_n : Nat} {r0f0f7_c : Nat} {r0f0f8_b : Option Addr} {r0f0f8_n : Nat} {r0f0f8_c : Nat} {r0f1f0_o : Option Nat} {r0f1f0_n : Nat} {r0f1f0_c : Nat} {r0f1f0_j : List Value} {r0f1f1_o : Option Nat} {r0f1f1_n : Nat} {r0f1f1_c : Nat} {r0f1f1_j : List Value} {r0f1f2_o : Option Nat} {r0f1f2_n : Nat} {r0f1f2_c : Nat} {r0f1f2_j : List Value} {r0f2_o : Nat} {r0f2_s : Nat} {r0f2_r : Nat} {r0f3_o : Option Nat} {r0f3_n : Nat} {r0f3_c : Nat} {r0f3_j : List Value} (w : World) (hin : Inv w (([(some r0_k, .cells #[.int .i64 r0.c.N, .int .i64 r0.c.S, .int .i64 r0.c.T, .slice r0f0f3_b r0f0f3_n r0f0f3_c, .slice r0f0f4_b r0f0f4_n r0f0f4_c, .slice r0f0f5_b r0f0f5_n r0f0f5_c, .slice r0f0f6_b r0f0f6_n r0f0f6_c, .slice r0f0f7_b r0f0f7_n r0f0f7_c, .slice r0f0f8_b r0f0f8_n r0f0f8_c, .slice (sb r0f1f0_o) r0f1f0_n r0f1f0_c, .slice (sb r0f1f1_o) r0f1f1_n r0f1f1_c, .slice (sb r0f1f2_o) r0f1f2_n r0f1f2_c, .chan (some r0f2_o), .slice (sb r0f3_o) r0f3_n r0f3_c, .int .i64 r0.work.Pushes, .int .i64 r0.work.Lifts] 123 (0, 0)), (r0f1f0_o, .cells (arr (intC .i64) r0.p.Res r0f1f0_j).toArray 2 (0, 0)), (r0f1f1_o, .cells (arr (intC .i64) r0.p.Ex r0f1f1_j).toArray 2 (0, 0)), (r0f1f2_o, .cells (arr (intC .i64) r0.p.H r0f1f2_j).toArray 3 (0, 0)), (some r0f2_o, chanO .i64 r0.row r0f2_s r0f2_r), (r0f3_o, .cells (arr boolC r0.ins r0f3_j).toArray 4 (0, 0))] : Heap).filterMap Prod.fst) w [(some r0_k, .cells #[.int .i64 r0.c.N, .int .i64 r0.c.S, .int .i64 r0.c.T, .slice r0f0f3_b r0f0f3_n r0f0f3_c, .slice r0f0f4_b r0f0f4_n r0f0f4_c, .slice r0f0f5_b r0f0f5_n r0f0f5_c, .slice r0f0f6_b r0f0f6_n r0f0f6_c, .slice r0f0f7_b r0f0f7_n r0f0f7_c, .slice r0f0f8_b r0f0f8_n r0f0f8_c, .slice (sb r0f1f0_o) r0f1f0_n r0f1f0_c, .slice (sb r0f1f1_o) r0f1f1_n r0f1f1_c, .slice (sb r0f1f2_o) r0f1f2_n r0f1f2_c, .chan (some r0f2_o), .slice (sb r0f3_o) r0f3_n r0f3_c, .int .i64 r0.work.Pushes, .int .i64 r0.work.Lifts] 123 (0, 0)), (r0f1f0_o, .cells (arr (intC .i64) r0.p.Res r0f1f0_j).toArray 2 (0, 0)), (r0f1f1_o, .cells (arr (intC .i64) r0.p.Ex r0f1f1_j).toArray 2 (0, 0)), (r0f1f2_o, .cells (arr (intC .i64) r0.p.H r0f1f2_j).toArray 3 (0, 0)), (some r0f2_o, chanO .i64 r0.row r0f2_s r0f2_r), (r0f3_o, .cells (arr boolC r0.ins r0f3_j).toArray 4 (0, 0))]) (h_r0f0f3 : RS w (([(some r0_k, .cells #[.int .i64 r0.c.N, .int .i64 r0.c.S, .int .i64 r0.c.T, .slice r0f0f3_b r0f0f3_n r0f0f3_c, .slice r0f0f4_b r0f0f4_n r0f0f4_c, .slice r0f0f5_b r0f0f5_n r0f0f5_c, .slice r0f0f6_b r0f0f6_n r0f0f6_c, .slice r0f0f7_b r0f0f7_n r0f0f7_c, .slice r0f0f8_b r0f0f8_n r0f0f8_c, .slice (sb r0f1f0_o) r0f1f0_n r0f1f0_c, .slice (sb r0f1f1_o) r0f1f1_n r0f1f1_c, .slice (sb r0f1f2_o) r0f1f2_n r0f1f2_c, .chan (some r0f2_o), .slice (sb r0f3_o) r0f3_n r0f3_c, .int .i64 r0.work.Pushes, .int .i64 r0.work.Lifts] 123 (0, 0)), (r0f1f0_o, .cells (arr (intC .i64) r0.p.Res r0f1f0_j).toArray 2 (0, 0)), (r0f1f1_o, .cells (arr (intC .i64) r0.p.Ex r0f1f1_j).toArray 2 (0, 0)), (r0f1f2_o, .cells (arr (intC .i64) r0.p.H r0f1f2_j).toArray 3 (0, 0)), (some r0f2_o, chanO .i64 r0.row r0f2_s r0f2_r), (r0f3_o, .cells (arr boolC r0.ins r0f3_j).toArray 4 (0, 0))] : Heap).filterMap Prod.fst) (intC .i64) 1 r0f0f3_b r0f0f3_n r0f0f3_c r0.c.First) (h_r0f0f4 : RS w (([(some r0_k, .cells #[.int .i64 r0.c.N, .int .i64 r0.c.S, .int .i64 r0.c.T, .slice r0f0f3_b r0f0f3_n r0f0f3_c, .slice r0f0f4_b r0f0f4_n r0f0f4_c, .slice r0f0f5_b r0f0f5_n r0f0f5_c, .slice r0f0f6_b r0f0f6_n r0f0f6_c, .slice r0f0f7_b r0f0f7_n r0f0f7_c, .slice r0f0f8_b r0f0f8_n r0f0f8_c, .slice (sb r0f1f0_o) r0f1f0_n r0f1f0_c, .slice (sb r0f1f1_o) r0f1f1_n r0f1f1_c, .slice (sb r0f1f2_o) r0f1f2_n r0f1f2_c, .chan (some r0f2_o), .slice (sb r0f3_o) r0f3_n r0f3_c, .int .i64 r0.work.Pushes, .int .i64 r0.work.Lifts] 123 (0, 0)), (r0f1f0_o, .cells (arr (intC .i64) r0.p.Res r0f1f0_j).toArray 2 (0, 0)), (r0f1f1_o, .cells (arr (intC .i64) r0.p.Ex r0f1f1_j).toArray 2 (0, 0)), (r0f1f2_o, .cells (arr (intC .i64) r0.p.H r0f1f2_j).toArray 3 (0, 0)), (some r0f2_o, chanO .i64 r0.row r0f2_s r0f2_r), (r0f3_o, .cells (arr boolC r0.ins r0f3_j).toArray 4 (0, 0))] : Heap).filterMap Prod.fst) (intC .i64) 1 r0f0f4_b r0f0f4_n r0f0f4_c r0.c.Head) (h_r0f0f5 : RS w (([(some r0_k, .cells #[.int .i64 r0.c.N, .int .i64 r0.c.S, .int .i64 r0.c.T, .slice r0f0f3_b r0f0f3_n r0f0f3_c, .slice r0f0f4_b r0f0f4_n r0f0f4_c, .slice r0f0f5_b r0f0f5_n r0f0f5_c, .slice r0f0f6_b r0f0f6_n r0f0f6_c, .slice r0f0f7_b r0f0f7_n r0f0f7_c, .slice r0f0f8_b r0f0f8_n r0f0f8_c, .slice (sb r0f1f0_o) r0f1f0_n r0f1f0_c, .slice (sb r0f1f1_o) r0f1f1_n r0f1f1_c, .slice (sb r0f1f2_o) r0f1f2_n r0f1f2_c, .chan (some r0f2_o), .slice (sb r0f3_o) r0f3_n r0f3_c, .int .i64 r0.work.Pushes, .int .i64 r0.work.Lifts] 123 (0, 0)), (r0f1f0_o, .cells (arr (intC .i64) r0.p.Res r0f1f0_j).toArray 2 (0, 0)), (r0f1f1_o, .cells (arr (intC .i64) r0.p.Ex r0f1f1_j).toArray 2 (0, 0)), (r0f1f2_o, .cells (arr (intC .i64) r0.p.H r0f1f2_j).toArray 3 (0, 0)), (some r0f2_o, chanO .i64 r0.row r0f2_s r0f2_r), (r0f3_o, .cells (arr boolC r0.ins r0f3_j).toArray 4 (0, 0))] : Heap).filterMap Prod.fst) (intC .i64) 1 r0f0f5_b r0f0f5_n r0f0f5_c r0.c.Rev) (h_r0f0f6 : RS w (([(some r0_k, .cells #[.int .i64 r0.c.N, .int .i64 r0.c.S, .int .i64 r0.c.T, .slice r0f0f3_b r0f0f3_n r0f0f3_c, .slice r0f0f4_b r0f0f4_n r0f0f4_c, .slice r0f0f5_b r0f0f5_n r0f0f5_c, .slice r0f0f6_b r0f0f6_n r0f0f6_c, .slice r0f0f7_b r0f0f7_n r0f0f7_c, .slice r0f0f8_b r0f0f8_n r0f0f8_c, .slice (sb r0f1f0_o) r0f1f0_n r0f1f0_c, .slice (sb r0f1f1_o) r0f1f1_n r0f1f1_c, .slice (sb r0f1f2_o) r0f1f2_n r0f1f2_c, .chan (some r0f2_o), .slice (sb r0f3_o) r0f3_n r0f3_c, .int .i64 r0.work.Pushes, .int .i64 r0.work.Lifts] 123 (0, 0)), (r0f1f0_o, .cells (arr (intC .i64) r0.p.Res r0f1f0_j).toArray 2 (0, 0)), (r0f1f1_o, .cells (arr (intC .i64) r0.p.Ex r0f1f1_j).toArray 2 (0, 0)), (r0f1f2_o, .cells (arr (intC .i64) r0.p.H r0f1f2_j).toArray 3 (0, 0)), (some r0f2_o, chanO .i64 r0.row r0f2_s r0f2_r), (r0f3_o, .cells (arr boolC r0.ins r0f3_j).toArray 4 (0, 0))] : Heap).filterMap Prod.fst) (intC .i64) 1 r0f0f6_b r0f0f6_n r0f0f6_c r0.c.Cap) (h_r0f0f7 : RS w (([(some r0_k, .cells #[.int .i64 r0.c.N, .int .i64 r0.c.S, .int .i64 r0.c.T, .slice r0f0f3_b r0f0f3_n r0f0f3_c, .slice r0f0f4_b r0f0f4_n r0f0f4_c, .slice r0f0f5_b r0f0f5_n r0f0f5_c, .slice r0f0f6_b r0f0f6_n r0f0f6_c, .slice r0f0f7_b r0f0f7_n r0f0f7_c, .slice r0f0f8_b r0f0f8_n r0f0f8_c, .slice (sb r0f1f0_o) r0f1f0_n r0f1f0_c, .slice (sb r0f1f1_o) r0f1f1_n r0f1f1_c, .slice (sb r0f1f2_o) r0f1f2_n r0f1f2_c, .chan (some r0f2_o), .slice (sb r0f3_o) r0f3_n r0f3_c, .int .i64 r0.work.Pushes, .int .i64 r0.work.Lifts] 123 (0, 0)), (r0f1f0_o, .cells (arr (intC .i64) r0.p.Res r0f1f0_j).toArray 2 (0, 0)), (r0f1f1_o, .cells (arr (intC .i64) r0.p.Ex r0f1f1_j).toArray 2 (0, 0)), (r0f1f2_o, .cells (arr (intC .i64) r0.p.H r0f1f2_j).toArray 3 (0, 0)), (some r0f2_o, chanO .i64 r0.row r0f2_s r0f2_r), (r0f3_o, .cells (arr boolC r0.ins r0f3_j).toArray 4 (0, 0))] : Heap).filterMap Prod.fst) (intC .i64) 1 r0f0f7_b r0f0f7_n r0f0f7_c r0.c.Arc) (h_r0f0f8 : RS w (([(some r0_k, .cells #[.int .i64 r0.c.N, .int .i64 r0.c.S, .int .i64 r0.c.T, .slice r0f0f3_b r0f0f3_n r0f0f3_c, .slice r0f0f4_b r0f0f4_n r0f0f4_c, .slice r0f0f5_b r0f0f5_n r0f0f5_c, .slice r0f0f6_b r0f0f6_n r0f0f6_c, .slice r0f0f7_b r0f0f7_n r0f0f7_c, .slice r0f0f8_b r0f0f8_n r0f0f8_c, .slice (sb r0f1f0_o) r0f1f0_n r0f1f0_c, .slice (sb r0f1f1_o) r0f1f1_n r0f1f1_c, .slice (sb r0f1f2_o) r0f1f2_n r0f1f2_c, .chan (some r0f2_o), .slice (sb r0f3_o) r0f3_n r0f3_c, .int .i64 r0.work.Pushes, .int .i64 r0.work.Lifts] 123 (0, 0)), (r0f1f0_o, .cells (arr (intC .i64) r0.p.Res r0f1f0_j).toArray 2 (0, 0)), (r0f1f1_o, .cells (arr (intC .i64) r0.p.Ex r0f1f1_j).toArray 2 (0, 0)), (r0f1f2_o, .cells (arr (intC .i64) r0.p.H r0f1f2_j).toArray 3 (0, 0)), (some r0f2_o, chanO .i64 r0.row r0f2_s r0f2_r), (r0f3_o, .cells (arr boolC r0.ins r0f3_j).toArray 4 (0, 0))] : Heap).filterMap Prod.fst) boolC 1 r0f0f8_b r0f0f8_n r0f0f8_c r0.c.Back) (h_r0f1f0_l : r0.p.Res.length = r0f1f0_n) (h_r0f1f0_c : r0f1f0_n ≤ r0f1f0_c) (h_r0f1f0_j : r0f1f0_j.length = (r0f1f0_c - r0f1f0_n) * 1) (h_r0f1f0_z : (r0f1f0_o = none → r0f1f0_c = 0)) (h_r0f1f1_l : r0.p.Ex.length = r0f1f1_n) (h_r0f1f1_c : r0f1f1_n ≤ r0f1f1_c) (h_r0f1f1_j : r0f1f1_j.length = (r0f1f1_c - r0f1f1_n) * 1) (h_r0f1f1_z : (r0f1f1_o = none → r0f1f1_c = 0)) (h_r0f1f2_l : r0.p.H.length = r0f1f2_n) (h_r0f1f2_c : r0f1f2_n ≤ r0f1f2_c) (h_r0f1f2_j : r0f1f2_j.length = (r0f1f2_c - r0f1f2_n) * 1) (h_r0f1f2_z : (r0f1f2_o = none → r0f1f2_c = 0)) (h_r0f3_l : r0.ins.length = r0f3_n) (h_r0f3_c : r0f3_n ≤ r0f3_c) (h_r0f3_j : r0f3_j.length = (r0f3_c - r0f3_n) * 1) (h_r0f3_z : (r0f3_o = none → r0f3_c = 0)) {o0 : FifoRun} (H : Z54 r0 u1 = some o0) : Fnc Try.prog 89 #[.pointer (some ⟨r0_k, 0, none⟩), .int .i64 u1] w (([(some r0_k, .cells #[.int .i64 r0.c.N, .int .i64 r0.c.S, .int .i64 r0.c.T, .slice r0f0f3_b r0f0f3_n r0f0f3_c, .slice r0f0f4_b r0f0f4_n r0f0f4_c, .slice r0f0f5_b r0f0f5_n r0f0f5_c, .slice r0f0f6_b r0f0f6_n r0f0f6_c, .slice r0f0f7_b r0f0f7_n r0f0f7_c, .slice r0f0f8_b r0f0f8_n r0f0f8_c, .slice (sb r0f1f0_o) r0f1f0_n r0f1f0_c, .slice (sb r0f1f1_o) r0f1f1_n r0f1f1_c, .slice (sb r0f1f2_o) r0f1f2_n r0f1f2_c, .chan (some r0f2_o), .slice (sb r0f3_o) r0f3_n r0f3_c, .int .i64 r0.work.Pushes, .int .i64 r0.work.Lifts] 123 (0, 0)), (r0f1f0_o, .cells (arr (intC .i64) r0.p.Res r0f1f0_j).toArray 2 (0, 0)), (r0f1f1_o, .cells (arr (intC .i64) r0.p.Ex r0f1f1_j).toArray 2 (0, 0)), (r0f1f2_o, .cells (arr (intC .i64) r0.p.H r0f1f2_j).toArray 3 (0, 0)), (some r0f2_o, chanO .i64 r0.row r0f2_s r0f2_r), (r0f3_o, .cells (arr boolC r0.ins r0f3_j).toArray 4 (0, 0))] : Heap).filterMap Prod.fst) (fun v N => ∃ (cs_0 : Nat) (cr_0 : Nat), v = .tuple #[] ∧ N = [(some r0_k, .cells #[.int .i64 r0.c.N, .int .i64 r0.c.S, .int .i64 r0.c.T, .slice r0f0f3_b r0f0f3_n r0f0f3_c, .slice r0f0f4_b r0f0f4_n r0f0f4_c, .slice r0f0f5_b r0f0f5_n r0f0f5_c, .slice r0f0f6_b r0f0f6_n r0f0f6_c, .slice r0f0f7_b r0f0f7_n r0f0f7_c, .slice r0f0f8_b r0f0f8_n r0f0f8_c, .slice (sb r0f1f0_o) r0f1f0_n r0f1f0_c, .slice (sb r0f1f1_o) r0f1f1_n r0f1f1_c, .slice (sb r0f1f2_o) r0f1f2_n r0f1f2_c, .chan (some r0f2_o), .slice (sb r0f3_o) r0f3_n r0f3_c, .int .i64 o0.work.Pushes, .int .i64 o0.work.Lifts] 123 (0, 0)), (r0f1f0_o, .cells (arr (intC .i64) o0.p.Res r0f1f0_j).toArray 2 (0, 0)), (r0f1f1_o, .cells (arr (intC .i64) o0.p.Ex r0f1f1_j).toArray 2 (0, 0)), (r0f1f2_o, .cells (arr (intC .i64) o0.p.H r0f1f2_j).toArray 3 (0, 0)), (some r0f2_o, chanO .i64 o0.row cs_0 cr_0), (r0f3_o, .cells (arr boolC o0.ins r0f3_j).toArray 4 (0, 0))] ∧ o0.p.Res.length = r0f1f0_n ∧ o0.p.Ex.length = r0f1f1_n ∧ o0.p.H.length = r0f1f2_n ∧ o0.ins.length = r0f3_n) := by
 unfold Z54 at H; refine Fnc.enter (vs := [.pointer (some ⟨r0_k, 0, none⟩), .int .i64 u1]) Try.func89 rfl rfl hin ?_; refine Z0d ?_; obtain ⟨g7, H⟩ := Z0e H; refine Z04 (ll := [0, 1, 2, 3, 4, 5, 6]) rfl ?_; refine Z06 rfl rfl rfl rfl ?_; refine TO.nilCheck rfl rfl rfl rfl ?_; refine Z05 rfl rfl rfl rfl Z4k ?_; refine Z05 rfl rfl rfl rfl Za1 ?_; refine Z0c rfl rfl rfl rfl Z2z mm0 rfl ?_; refine Zd1 g7 rfl rfl rfl rfl rfl ?_; refine Z09 rfl rfl rfl rfl ?_; refine Z02 ?_; refine Z01 ?_; refine Z0d ?_; refine Z0d ?_; obtain ⟨g8, H⟩ := Z0e H; refine Z04 (ll := [0, 1, 2, 3, 4, 5, 6, 7, 8]) rfl ?_; refine Z06 rfl rfl rfl rfl ?_; refine TO.nilCheck rfl rfl rfl rfl ?_; refine Z05 rfl rfl rfl rfl Z4k ?_; refine Z05 rfl rfl rfl rfl Zew ?_; refine Z0c rfl rfl rfl rfl Z7g mm0 rfl ?_; refine Z06 rfl rfl rfl rfl ?_; refine Z2e h_r0f0f3 g8 rfl rfl rfl rfl rfl Z7i Z6p ?_; refine Z2i h_r0f0f3 g8 rfl rfl rfl rfl Z2z ?_; refine Z09 rfl rfl rfl rfl ?_; refine Z02 ?_; refine Z01 ?_; refine Z0l (Z00 (t := 0) rfl (Z00 (t := 1) rfl (Z00 (t := 4) rfl (Z00 (t := 5) rfl Z0b)))) ?_; refine Z25 (fun (least30 : Int) => Z4x r0 u1 least30 = some o0) (fun (least30 : Int) => [(0, .pointer (some ⟨r0_k, 0, none⟩)), (1, .int .i64 u1), (4, .int .i64 least30)]) (fun (least30 : Int) => [(some r0_k, .cells #[.int .i64 r0.c.N, .int .i64 r0.c.S, .int .i64 r0.c.T, .slice r0f0f3_b r0f0f3_n r0f0f3_c, .slice r0f0f4_b r0f0f4_n r0f0f4_c, .slice r0f0f5_b r0f0f5_n r0f0f5_c, .slice r0f0f6_b r0f0f6_n r0f0f6_c, .slice r0f0f7_b r0f0f7_n r0f0f7_c, .slice r0f0f8_b r0f0f8_n r0f0f8_c, .slice (sb r0f1f0_o) r0f1f0_n r0f1f0_c, .slice (sb r0f1f1_o) r0f1f1_n r0f1f1_c, .slice (sb r0f1f2_o) r0f1f2_n r0f1f2_c, .chan (some r0f2_o), .slice (sb r0f3_o) r0f3_n r0f3_c, .int .i64 r0.work.Pushes, .int .i64 r0.work.Lifts] 123 (0, 0)), (r0f1f0_o, .cells (arr (intC .i64) r0.p.Res r0f1f0_j).toArray 2 (0, 0)), (r0f1f1_o, .cells (arr (intC .i64) r0.p.Ex r0f1f1_j).toArray 2 (0, 0)), (r0f1f2_o, .cells (arr (intC .i64) r0.p.H r0f1f2_j).toArray 3 (0, 0)), (some r0f2_o, chanO .i64 r0.row r0f2_s r0f2_r), (r0f3_o, .cells (arr boolC r0.ins r0f3_j).toArray 4 (0, 0))]) ?_ ?_
 ·
  refine T.block ?_; obtain ⟨o_1, e_1, K_1⟩ := Z0k H; refine Z81 (fun (m_1 : Nat) (least9 : Int) (a10 : Int) => Z2j (fun s => Z3v r0 u1 s.1 s.2) m_1 (least9, a10) = some o_1) (fun (m_1 : Nat) (least9 : Int) (a10 : Int) => [(0, .pointer (some ⟨r0_k, 0, none⟩)), (1, .int .i64 u1), (4, .int .i64 least9), (5, .int .i64 a10)]) (fun (m_1 : Nat) (least9 : Int) (a10 : Int) => [(some r0_k, .cells #[.int .i64 r0.c.N, .int .i64 r0.c.S, .int .i64 r0.c.T, .slice r0f0f3_b r0f0f3_n r0f0f3_c, .slice r0f0f4_b r0f0f4_n r0f0f4_c, .slice r0f0f5_b r0f0f5_n r0f0f5_c, .slice r0f0f6_b r0f0f6_n r0f0f6_c, .slice r0f0f7_b r0f0f7_n r0f0f7_c, .slice r0f0f8_b r0f0f8_n r0f0f8_c, .slice (sb r0f1f0_o) r0f1f0_n r0f1f0_c, .slice (sb r0f1f1_o) r0f1f1_n r0f1f1_c, .slice (sb r0f1f2_o) r0f1f2_n r0f1f2_c, .chan (some r0f2_o), .slice (sb r0f3_o) r0f3_n r0f3_c, .int .i64 r0.work.Pushes, .int .i64 r0.work.Lifts] 123 (0, 0)), (r0f1f0_o, .cells (arr (intC .i64) r0.p.Res r0f1f0_j).toArray 2 (0, 0)), (r0f1f1_o, .cells (arr (intC .i64) r0.p.Ex r0f1f1_j).toArray 2 (0, 0)), (r0f1f2_o, .cells (arr (intC .i64) r0.p.H r0f1f2_j).toArray 3 (0, 0)), (some r0f2_o, chanO .i64 r0.row r0f2_s r0f2_r), (r0f3_o, .cells (arr boolC r0.ins r0f3_j).toArray 4 (0, 0))]) (fun (m_1 : Nat) (least9 : Int) (a10 : Int) => m_1) Z4w (2 * r0.c.N) (r0.c.First.getD u1.toNat 0) e_1 (Z00 rfl (Z00 rfl (Z00 rfl (Z00 rfl Z0b)))) (Z03 tk0 (Z03 tk0 (Z03 tk0 (Z03 tk0 (Z03 tk0 (Z03 tk0 Z0a)))))) ?_; rintro m_1 least9 a10 H; obtain ⟨n_1, r_1, rfl, H, C_1⟩ := Z1o H; have H : Z3v r0 u1 least9 a10 = some r_1 := H; unfold Z3v at H; refine Z0d ?_; refine Z0d ?_; obtain ⟨g11, H⟩ := Z0e H; obtain ⟨g12, H⟩ := Z0e H; refine Z04 (ll := [0, 1, 2, 3, 4, 5, 6, 7, 8, 9, 10]) rfl ?_; refine Z06 rfl rfl rfl rfl ?_; refine Z06 rfl rfl rfl rfl ?_; refine TO.nilCheck rfl rfl rfl rfl ?_; refine Z05 rfl rfl rfl rfl Z4k ?_; refine Z05 rfl rfl rfl rfl Zew ?_; refine Z0c rfl rfl rfl rfl Z7g mm0 rfl ?_; refine Z06 rfl rfl rfl rfl ?_; refine Z11 g11 rfl rfl rfl rfl rfl ?_; refine Z2e h_r0f0f3 g12 rfl rfl rfl rfl rfl Z7i Z6p ?_; refine Z2i h_r0f0f3 g12 rfl rfl rfl rfl Z2z ?_; refine Z0p rfl rfl rfl rfl rfl rfl ?_; refine Z02 ?_; refine Z01 ?_; refine Z0l (Z00 (t := 0) rfl (Z00 (t := 1) rfl (Z00 (t := 4) rfl (Z00 (t := 5) rfl (Z00 (t := 31) rfl Z0b))))) ?_; rcases Z0i H with ⟨g13, H⟩ | ⟨g13, H⟩
  ·
   refine Z15 rfl g13 ?_; refine T.skip ?_; refine Z01 ?_; refine Z0d ?_; refine T.block ?_; refine Z0d ?_; refine Z0d ?_; obtain ⟨g14, H⟩ := Z0e H; refine Z04 (ll := [0, 1, 2, 3, 4, 5, 6, 7, 8]) rfl ?_; refine Z06 rfl rfl rfl rfl ?_; refine TO.nilCheck rfl rfl rfl rfl ?_; refine Z05 rfl rfl rfl rfl Z2f ?_; refine TO.fieldAddr rfl rfl rfl rfl Z8k ?_; refine Z0c rfl rfl rfl rfl Z59 mm0 rfl ?_; refine Z06 rfl rfl rfl rfl ?_; refine Z2x h_r0f1f0_z h_r0f1f0_c h_r0f1f0_l g14 rfl rfl rfl rfl rfl Z3z Z3q ?_; refine Z5n h_r0f1f0_z h_r0f1f0_c h_r0f1f0_l g14 rfl rfl rfl rfl Z79 mm1 ?_; refine Z0p rfl rfl rfl rfl rfl rfl ?_; refine Z02 ?_; refine Z01 ?_; refine Z0l (Z00 (t := 0) rfl (Z00 (t := 1) rfl (Z00 (t := 4) rfl (Z00 (t := 5) rfl (Z00 (t := 42) rfl Z0b))))) ?_; rcases Z0i H with ⟨g15, H⟩ | ⟨g15, H⟩
   · refine Z15 rfl g15 ?_; refine T.exit ?_; refine Z0m ?_; refine Z13 ?_; refine Z01 ?_; obtain ⟨g16, H⟩ := Z0e H; refine Z04 (ll := [0, 1, 2]) rfl ?_; refine Z06 rfl rfl rfl rfl ?_; refine Z11 g16 rfl rfl rfl rfl rfl ?_; refine Z09 rfl rfl rfl rfl ?_; refine Z02 ?_; have H := Z1c H C_1; exact Z3y n_1 least9 (a10 + 1) H (Nat.lt_succ_self _) (Z00 rfl (Z00 rfl (Z00 rfl (Z00 rfl Z0b)))) (Z03 tk0 (Z03 tk0 (Z03 tk0 (Z03 tk0 (Z03 tk0 (Z03 tk0 Z0a))))))
   ·
    refine Z16 rfl g15 ?_; refine T.skip ?_; refine Z01 ?_; refine Z0d ?_; obtain ⟨g17, H⟩ := Z0e H; obtain ⟨g18, H⟩ := Z0e H; refine Z96 13 [0, 1, 2, 3, 4, 5, 6, 7, 8, 9, 10, 11, 12] rfl Z6a (by kernel_rfl) (by kernel_rfl) rfl (by kernel_rfl) ?_; refine TQ.move rfl rfl rfl rfl ?_; refine TQ.nilCheck rfl rfl rfl rfl ?_; refine Z1b rfl rfl rfl rfl Z2f ?_; refine TQ.fieldAddr rfl rfl rfl rfl Zbk ?_; refine Z3i rfl rfl rfl rfl Z7g mm0 rfl ?_; refine TQ.move rfl rfl rfl rfl ?_; refine TQ.nilCheck rfl rfl rfl rfl ?_; refine Z1b rfl rfl rfl rfl Z4k ?_; refine Z1b rfl rfl rfl rfl Zev ?_; refine Z3i rfl rfl rfl rfl Z7g mm0 rfl ?_; refine TQ.move rfl rfl rfl rfl ?_; refine Zdh h_r0f0f4 g17 rfl rfl rfl rfl rfl Z7i Z6p ?_; refine Zaw h_r0f0f4 g17 rfl rfl rfl rfl Z2z ?_; refine TQ.tail [13, 14, 15] rfl rfl ?_; refine Z2x h_r0f1f2_z h_r0f1f2_c h_r0f1f2_l g18 rfl rfl rfl rfl rfl Z7i Z6p ?_; refine Z5n h_r0f1f2_z h_r0f1f2_c h_r0f1f2_l g18 rfl rfl rfl rfl Z2z mm3 ?_; refine Z09 rfl rfl rfl rfl ?_; refine Z02 ?_; refine Z01 ?_; refine Z0l (Z00 (t := 0) rfl (Z00 (t := 1) rfl (Z00 (t := 4) rfl (Z00 (t := 5) rfl (Z00 (t := 6) rfl Z0b))))) ?_; refine Z0d ?_; refine Z0d ?_; obtain ⟨g19, H⟩ := Z0e H; obtain ⟨g20, H⟩ := Z0e H; refine Z04 (ll := [0, 1, 2, 3, 4, 5, 6, 7, 8, 9, 10]) rfl ?_; refine Z06 rfl rfl rfl rfl ?_; refine TO.nilCheck rfl rfl rfl rfl ?_; refine Z05 rfl rfl rfl rfl Z2f ?_; refine TO.fieldAddr rfl rfl rfl rfl Zbk ?_; refine Z0c rfl rfl rfl rfl Z7g mm0 rfl ?_; refine Z06 rfl rfl rfl rfl ?_; refine Z2x h_r0f1f2_z h_r0f1f2_c h_r0f1f2_l g19 rfl rfl rfl rfl rfl Z7i Z6p ?_; refine Z5n h_r0f1f2_z h_r0f1f2_c h_r0f1f2_l g19 rfl rfl rfl rfl Z2z mm3 ?_; refine Z06 rfl rfl rfl rfl ?_; refine Z11 g20 rfl rfl rfl rfl rfl ?_; refine Z0p rfl rfl rfl rfl rfl rfl ?_; refine Z02 ?_; refine Z01 ?_; refine Z0l (Z00 (t := 0) rfl (Z00 (t := 1) rfl (Z00 (t := 4) rfl (Z00 (t := 5) rfl (Z00 (t := 6) rfl (Z00 (t := 68) rfl Z0b)))))) ?_; rcases Z0i H with ⟨g21, H⟩ | ⟨g21, H⟩
    · refine Z15 rfl g21 ?_; refine Z0d ?_; obtain ⟨r22, e23, H⟩ := Z0k H; refine Z04 (ll := [0, 1, 2, 3]) rfl ?_; refine Z06 rfl rfl rfl rfl ?_; refine Z06 rfl rfl rfl rfl ?_; refine Z06 rfl rfl rfl rfl ?_; refine Z9q Zl3 rfl rfl rfl rfl (Z08 tk0 (Z08 tk0 (Z08 tk0 (Z08 tk1 (Z08 tk1 (Gone.refl _)))))) rfl (fun wc hwc => Zdw (r0 := r0) (u1 := u1) (a2 := a10) wc (hwc.self (Z03 tk0 (Z03 tk0 (Z03 tk0 (Z03 tk1 (Z03 tk1 Z0a))))) rfl) (h_r0f0f3.monoM (by decide) hwc (Z08 tk0 (Z08 tk0 (Z08 tk0 (Z08 tk1 (Z08 tk1 (Gone.refl _)))))) rfl) (h_r0f0f4.monoM (by decide) hwc (Z08 tk0 (Z08 tk0 (Z08 tk0 (Z08 tk1 (Z08 tk1 (Gone.refl _)))))) rfl) (h_r0f0f5.monoM (by decide) hwc (Z08 tk0 (Z08 tk0 (Z08 tk0 (Z08 tk1 (Z08 tk1 (Gone.refl _)))))) rfl) (h_r0f0f6.monoM (by decide) hwc (Z08 tk0 (Z08 tk0 (Z08 tk0 (Z08 tk1 (Z08 tk1 (Gone.refl _)))))) rfl) (h_r0f0f7.monoM (by decide) hwc (Z08 tk0 (Z08 tk0 (Z08 tk0 (Z08 tk1 (Z08 tk1 (Gone.refl _)))))) rfl) (h_r0f0f8.monoM (by decide) hwc (Z08 tk0 (Z08 tk0 (Z08 tk0 (Z08 tk1 (Z08 tk1 (Gone.refl _)))))) rfl) h_r0f1f0_l h_r0f1f0_c h_r0f1f0_j h_r0f1f0_z h_r0f1f1_l h_r0f1f1_c h_r0f1f1_j h_r0f1f1_z (hwc.rsM (f := (intC .i64)) (s := 1) (xs := r0.p.H) (j := r0f1f2_j) (fun _ => rfl) (Z08 tk0 (Z08 tk0 (Z08 tk0 (Z08 tk1 (Z08 tk1 (Gone.refl _)))))) rfl mm0 h_r0f1f2_l h_r0f1f2_c h_r0f1f2_z) h_r0f3_l h_r0f3_c h_r0f3_j h_r0f3_z e23) ?_; rintro _ _ ⟨cs24, cr25, rfl, rfl, hn26, hn27, hn28⟩; refine Z02 ?_; refine Z01 ?_; refine Z0l Z0b ?_; refine T.ret ?_; refine Z0h ?_; refine Z0n ?_; refine Z0h ?_; have H := Z0v H C_1 ▸ K_1; refine Z0h ?_; refine Z0n ?_; refine Z0h ?_; obtain rfl := ret1 H; exact Zbb rfl rfl rfl rfl  (Z03 tk0 (Z03 tk0 (Z03 tk0 (Z03 tk2 (Z03 tk0 (Z03 tk0 Z0a)))))) ⟨cs24, cr25, rfl, rfl, hn26, hn27, h_r0f1f2_l, hn28⟩
    · refine Z16 rfl g21 ?_; refine T.skip ?_; refine Z01 ?_; refine Z04 (ll := [0, 1, 2, 3]) rfl ?_; refine Z06 rfl rfl rfl rfl ?_; refine Z06 rfl rfl rfl rfl ?_; refine TO.min2 rfl rfl rfl rfl rfl ?_; refine Z09 rfl rfl rfl rfl ?_; refine Z02 ?_; refine Z0j ?_; refine Z01 ?_; obtain ⟨g29, H⟩ := Z0e H; refine Z04 (ll := [0, 1, 2]) rfl ?_; refine Z06 rfl rfl rfl rfl ?_; refine Z11 g29 rfl rfl rfl rfl rfl ?_; refine Z09 rfl rfl rfl rfl ?_; refine Z02 ?_; have H := Z1c H C_1; exact Z3y n_1 (min least9 (r0.p.H.getD (r0.c.Head.getD a10.toNat 0).toNat 0)) (a10 + 1) H (Nat.lt_succ_self _) (Z00 rfl (Z00 rfl (Z00 rfl (Z00 rfl Z0b)))) (Z03 tk0 (Z03 tk0 (Z03 tk0 (Z03 tk0 (Z03 tk0 (Z03 tk0 Z0a))))))
  · refine Z16 rfl g13 ?_; refine T.exit ?_; refine Z0m ?_; have H := Z0v H C_1 ▸ K_1; refine Z0m ?_; refine Z13 ?_; exact Z2b least9 H (Z00 rfl (Z00 rfl (Z00 rfl Z0b))) (Z03 tk0 (Z03 tk0 (Z03 tk0 (Z03 tk0 (Z03 tk0 (Z03 tk0 Z0a))))))
 · rintro least30 H; unfold Z4x at H; refine Z0d ?_; obtain ⟨g31, H⟩ := Z0e H; obtain ⟨g32, H⟩ := Z0e H; refine Z04 (ll := [0, 1, 2, 3, 4, 5, 6, 7, 8, 9]) rfl ?_; refine Z06 rfl rfl rfl rfl ?_; refine TO.nilCheck rfl rfl rfl rfl ?_; refine Z05 rfl rfl rfl rfl Z2f ?_; refine TO.fieldAddr rfl rfl rfl rfl Zbk ?_; refine Z0c rfl rfl rfl rfl Z7g mm0 rfl ?_; refine Z06 rfl rfl rfl rfl ?_; refine Z06 rfl rfl rfl rfl ?_; refine Z11 g31 rfl rfl rfl rfl rfl ?_; refine Z2x h_r0f1f2_z h_r0f1f2_c h_r0f1f2_l g32 rfl rfl rfl rfl rfl Z7i Z6p ?_; refine Z74 h_r0f1f2_z h_r0f1f2_c h_r0f1f2_l g32 rfl rfl rfl rfl tk3 Z6p ?_; refine Z02 ?_; refine Z01 ?_; refine Z0l (Z00 (t := 0) rfl Z0b) ?_; obtain ⟨g33, H⟩ := Z0e H; refine Z04 (ll := [0, 1, 2, 3, 4, 5, 6, 7, 8, 9]) rfl ?_; refine Z06 rfl rfl rfl rfl ?_; refine TO.nilCheck rfl rfl rfl rfl ?_; refine Z05 rfl rfl rfl rfl Z7j ?_; refine TO.fieldAddr rfl rfl rfl rfl Zet ?_; refine Z0c rfl rfl rfl rfl Z2z mm1 rfl ?_; refine Z11 g33 rfl rfl rfl rfl rfl ?_; refine TO.nilCheck rfl rfl rfl rfl ?_; refine Z05 rfl rfl rfl rfl Z7j ?_; refine TO.fieldAddr rfl rfl rfl rfl Zet ?_; refine Z2g (cs' := [.int .i64 r0.c.N, .int .i64 r0.c.S, .int .i64 r0.c.T, .slice r0f0f3_b r0f0f3_n r0f0f3_c, .slice r0f0f4_b r0f0f4_n r0f0f4_c, .slice r0f0f5_b r0f0f5_n r0f0f5_c, .slice r0f0f6_b r0f0f6_n r0f0f6_c, .slice r0f0f7_b r0f0f7_n r0f0f7_c, .slice r0f0f8_b r0f0f8_n r0f0f8_c, .slice (sb r0f1f0_o) r0f1f0_n r0f1f0_c, .slice (sb r0f1f1_o) r0f1f1_n r0f1f1_c, .slice (sb r0f1f2_o) r0f1f2_n r0f1f2_c, .chan (some r0f2_o), .slice (sb r0f3_o) r0f3_n r0f3_c, .int .i64 r0.work.Pushes, .int .i64 (r0.work.Lifts + 1)]) rfl rfl rfl rfl tk1 Z6p rfl rfl rfl ?_; refine Z02 ?_; refine Zdc ?_; obtain rfl := ret1 H; exact Zbb rfl rfl rfl rfl  (Z03 tk0 (Z03 tk1 (Z03 tk1 (Z03 tk0 (Z03 tk0 (Z03 tk0 Z0a)))))) ⟨r0f2_s, r0f2_r, rfl, rfl, h_r0f1f0_l, h_r0f1f1_l, (List.length_set.trans h_r0f1f2_l), h_r0f3_l⟩
theorem Zkm {c0 : Csr} {p1 : Pre} {c0f3_b : Option Addr} {c0f3_n : Nat} {c0f3_c : Nat} {c0f4_b : Option Addr} {c0f4_n : Nat} {c0f4_c : Nat} {c0f5_b : Option Addr} {c0f5_n : Nat} {c0f5_c : Nat} {c0f6_b : Option Addr} {c0f6_n : Nat} {c0f6_c : Nat} {c0f7_b : Option Addr} {c0f7_n : Nat} {c0f7_c : Nat} {c0f8_b : Option Addr} {c0f8_n : Nat} {c0f8_c : Nat} {p1f0_b : Option Addr} {p1f0_n : Nat} {p1f0_c : Nat} {p1f1_b : Option Addr} {p1f1_n : Nat} {p1f1_c : Nat} {p1f2_b : Option Addr} {p1f2_n : Nat} {p1f2_c : Nat} (w : World) (h_c0f3 : RS w [] (intC .i64) 1 c0f3_b c0f3_n c0f3_c c0.First) (h_c0f4 : RS w [] (intC .i64) 1 c0f4_b c0f4_n c0f4_c c0.Head) (h_c0f5 : RS w [] (intC .i64) 1 c0f5_b c0f5_n c0f5_c c0.Rev) (h_c0f6 : RS w [] (intC .i64) 1 c0f6_b c0f6_n c0f6_c c0.Cap) (h_c0f7 : RS w [] (intC .i64) 1 c0f7_b c0f7_n c0f7_c c0.Arc) (h_c0f8 : RS w [] boolC 1 c0f8_b c0f8_n c0f8_c c0.Back) (h_p1f0 : RS w [] (intC .i64) 1 p1f0_b p1f0_n p1f0_c p1.Res) (h_p1f1 : RS w [] (intC .i64) 1 p1f1_b p1f1_n p1f1_c p1.Ex) (h_p1f2 : RS w [] (intC .i64) 1 p1f2_b p1f2_n p1f2_c p1.H) {r0 : Pre} {r1 : Work} (H : Z84 c0 p1 = some (r0, r1)) : Fnc Try.prog 52 #[.agg #[.int .i64 c0.N, .int .i64 c0.S, .int .i64 c0.T, .slice c0f3_b c0f3_n c0f3_c, .slice c0f4_b c0f4_n c0f4_c, .slice c0f5_b c0f5_n c0f5_c, .slice c0f6_b c0f6_n c0f6_c, .slice c0f7_b c0f7_n c0f7_c, .slice c0f8_b c0f8_n c0f8_c], .agg #[.slice p1f0_b p1f0_n p1f0_c, .slice p1f1_b p1f1_n p1f1_c, .slice p1f2_b p1f2_n p1f2_c]] w [] (fun v N => ∃ (ob_0 : Option Nat) (n_0 : Nat) (c_0 : Nat) (j_0 : List Value) (ob_4 : Option Nat) (n_4 : Nat) (c_4 : Nat) (j_4 : List Value) (ob_8 : Option Nat) (n_8 : Nat) (c_8 : Nat) (j_8 : List Value), v = .tuple #[.agg #[.slice (sb ob_0) n_0 c_0, .slice (sb ob_4) n_4 c_4, .slice (sb ob_8) n_8 c_8], .agg #[.int .i64 r1.Pushes, .int .i64 r1.Lifts]] ∧ N = [(ob_0, .cells (arr (intC .i64) r0.Res j_0).toArray 2 (0, 0)), (ob_4, .cells (arr (intC .i64) r0.Ex j_4).toArray 2 (0, 0)), (ob_8, .cells (arr (intC .i64) r0.H j_8).toArray 3 (0, 0))] ∧ r0.Res.length = n_0 ∧ n_0 ≤ c_0 ∧ j_0.length = (c_0 - n_0) * 1 ∧ (ob_0 = none → c_0 = 0) ∧ r0.Ex.length = n_4 ∧ n_4 ≤ c_4 ∧ j_4.length = (c_4 - n_4) * 1 ∧ (ob_4 = none → c_4 = 0) ∧ r0.H.length = n_8 ∧ n_8 ≤ c_8 ∧ j_8.length = (c_8 - n_8) * 1 ∧ (ob_8 = none → c_8 = 0)) := by
 unfold Z84 at H; refine Fnc.enter (vs := [.agg #[.int .i64 c0.N, .int .i64 c0.S, .int .i64 c0.T, .slice c0f3_b c0f3_n c0f3_c, .slice c0f4_b c0f4_n c0f4_c, .slice c0f5_b c0f5_n c0f5_c, .slice c0f6_b c0f6_n c0f6_c, .slice c0f7_b c0f7_n c0f7_c, .slice c0f8_b c0f8_n c0f8_c], .agg #[.slice p1f0_b p1f0_n p1f0_c, .slice p1f1_b p1f1_n p1f1_c, .slice p1f2_b p1f2_n p1f2_c]]) Try.func52 rfl rfl (Inv.refl w) ?_; refine Z0d ?_; refine Z04 (ll := [0, 1, 2, 3]) rfl ?_; refine Z1v rfl rfl rfl rfl ?_; intro b1; refine Z1v rfl rfl rfl rfl ?_; intro b3; refine Z0z rfl rfl rfl Zib ?_; intro b5; refine Z0z rfl rfl rfl Zc5 ?_; intro b7; refine Z02 ?_; refine Z01 ?_; refine Z0d ?_; obtain ⟨r9, e10, H⟩ := Z0k H; obtain ⟨g39, H⟩ := Z0e H; obtain ⟨g41, H⟩ := Z0e H; apply Z8m [⟨[], false, [], Z3j _⟩, ⟨[], false, [], Z3j _⟩, ⟨[1], false, [], fun _ v e => ∃ (ob11 : Option Nat) (n12 : Nat) (c13 : Nat) (j14 : List Value) (ob15 : Option Nat) (n16 : Nat) (c17 : Nat) (j18 : List Value) (ob19 : Option Nat) (n20 : Nat) (c21 : Nat) (j22 : List Value), v = .agg #[.slice (sb ob11) n12 c13, .slice (sb ob15) n16 c17, .slice (sb ob19) n20 c21] ∧ e = [(ob11, .cells (arr (intC .i64) r9.Res j14).toArray 2 (0, 0)), (ob15, .cells (arr (intC .i64) r9.Ex j18).toArray 2 (0, 0)), (ob19, .cells (arr (intC .i64) r9.H j22).toArray 3 (0, 0))] ∧ r9.Res.length = n12 ∧ n12 ≤ c13 ∧ j14.length = (c13 - n12) * 1 ∧ (ob11 = none → c13 = 0) ∧ r9.Ex.length = n16 ∧ n16 ≤ c17 ∧ j18.length = (c17 - n16) * 1 ∧ (ob15 = none → c17 = 0) ∧ r9.H.length = n20 ∧ n20 ≤ c21 ∧ j22.length = (c21 - n20) * 1 ∧ (ob19 = none → c21 = 0)⟩, ⟨[], false, [], Z3j _⟩, ⟨[3], false, [], Z3j _⟩, ⟨[4], false, [], fun _ v e => ∃ (b38 : Nat), v = .chan (some b38) ∧ e = [(some b38, chanO .i64 (Chan.mk c0.N.toNat []) 0 0)]⟩, ⟨[], false, [], Z3j _⟩, ⟨[6], false, [], Z3j _⟩, ⟨[7], false, [], fun _ v e => ∃ (b42 : Nat), v = .slice (some ⟨b42, 0, none⟩) c0.N.toNat c0.N.toNat ∧ e = [(some b42, .cells (arr boolC (List.replicate c0.N.toNat (false : Bool)) ([])).toArray 4 (0, 0))]⟩] [10, 11, 12, 13, 14, 15, 16, 17, 18] 9 (HRk [[]]) [[]] [] [(some b7, .cells #[.int .i64 0, .int .i64 0] 62 (0, 0)), (some b5, .cells #[.slice none 0 0, .slice none 0 0, .slice none 0 0] 29 (0, 0)), (some b3, .cells #[.slice p1f0_b p1f0_n p1f0_c, .slice p1f1_b p1f1_n p1f1_c, .slice p1f2_b p1f2_n p1f2_c] 29 (0, 0)), (some b1, .cells #[.int .i64 c0.N, .int .i64 c0.S, .int .i64 c0.T, .slice c0f3_b c0f3_n c0f3_c, .slice c0f4_b c0f4_n c0f4_c, .slice c0f5_b c0f5_n c0f5_c, .slice c0f6_b c0f6_n c0f6_c, .slice c0f7_b c0f7_n c0f7_c, .slice c0f8_b c0f8_n c0f8_c] 32 (0, 0))]
 · exact Z6a
 · exact rfl
 · kernel_rfl
 · kernel_rfl
 · kernel_rfl
 · exact rfl
 · exact rfl
 · exact rfl
 · exact rfl
 · exact (by repeat (first | exact Z07 _ | exact Z0a | apply Pick.none | refine Z03 (by repeat (first | exact Take.head _ _ | apply Take.tail)) ?_))
 ·
  refine ⟨?_, ?_, ?_, ?_, ?_, ?_, ?_, ?_, ?_, trivial⟩
  · rintro vs es Es Hx -; refine Z0g (D := []) rfl ?_; refine Z0u rfl rfl rfl rfl Zc9 mm3 rfl ?_; refine Z02 ?_; exact Z0x rfl ⟨rfl, rfl⟩ (Z07 _) rfl
  · rintro vs es Es Hx -; refine Z0g (D := []) rfl ?_; refine Z0u rfl rfl rfl rfl Zey mm2 rfl ?_; refine Z02 ?_; exact Z0x rfl ⟨rfl, rfl⟩ (Z07 _) rfl
  · rintro vs es Es Hx ⟨⟨h_1, e_1⟩, -⟩; refine Z0g (D := [(11, vs 1)]) rfl ?_; rw [h_1]; refine Z0o Zno rfl rfl rfl rfl (fun wc hwc => Zkl (p0 := p1) wc (h_p1f0.mono hwc) (h_p1f1.mono hwc) (h_p1f2.mono hwc) e10) ?_; rintro _ _ ⟨ob11, n12, c13, j14, ob15, n16, c17, j18, ob19, n20, c21, j22, rfl, rfl, hn23, hc24, hj25, hz26, hn27, hc28, hj29, hz30, hn31, hc32, hj33, hz34⟩; refine Z02 ?_; exact Z0x rfl ⟨ob11, n12, c13, j14, ob15, n16, c17, j18, ob19, n20, c21, j22, rfl, rfl, hn23, hc24, hj25, hz26, hn27, hc28, hj29, hz30, hn31, hc32, hj33, hz34⟩ (by repeat (first | exact Z07 _ | exact Z0a | apply Pick.none | refine Z03 (by repeat (first | exact Take.head _ _ | apply Take.tail)) ?_)) (by show [(11, vs 1)] = _; rw [h_1])
  · rintro vs es Es Hx -; refine Z0g (D := []) rfl ?_; refine Z05 rfl rfl rfl rfl Za1 ?_; refine Z02 ?_; exact Z0x rfl ⟨rfl, rfl⟩ (Z07 _) rfl
  · rintro vs es Es Hx ⟨⟨h_3, e_3⟩, -⟩; refine Z0g (D := [(13, vs 3)]) rfl ?_; rw [h_3]; refine Z0c rfl rfl rfl rfl Z2z mm3 rfl ?_; refine Z02 ?_; exact Z0x rfl ⟨rfl, rfl⟩ (Z07 _) (by show [(13, vs 3)] = _; rw [h_3])
  · rintro vs es Es Hx ⟨⟨h_4, e_4⟩, -⟩; refine Z0g (D := [(14, vs 4)]) rfl ?_; rw [h_4]; refine Zoj (q := 0) (kq := .i64) g39 rfl rfl rfl rfl Zl2 TWBS8.b3 ?_; intro b38; refine Z02 ?_; exact Z0x rfl ⟨b38, rfl, rfl⟩ (by repeat (first | exact Z07 _ | exact Z0a | apply Pick.none | refine Z03 (by repeat (first | exact Take.head _ _ | apply Take.tail)) ?_)) (by show [(14, vs 4)] = _; rw [h_4])
  · rintro vs es Es Hx -; refine Z0g (D := []) rfl ?_; refine Z05 rfl rfl rfl rfl Za1 ?_; refine Z02 ?_; exact Z0x rfl ⟨rfl, rfl⟩ (Z07 _) rfl
  · rintro vs es Es Hx ⟨⟨h_6, e_6⟩, -⟩; refine Z0g (D := [(16, vs 6)]) rfl ?_; rw [h_6]; refine Z0c rfl rfl rfl rfl Z2z mm3 rfl ?_; refine Z02 ?_; exact Z0x rfl ⟨rfl, rfl⟩ (Z07 _) (by show [(16, vs 6)] = _; rw [h_6])
  · rintro vs es Es Hx ⟨⟨h_7, e_7⟩, -⟩; refine Z0g (D := [(17, vs 7)]) rfl ?_; rw [h_7]; refine Zok g41 rfl rfl rfl rfl rfl Zc7 Zb1 TWBS8.z4 TWBS8.b4 rfl ?_; intro b42; refine Z02 ?_; exact Z0x rfl ⟨b42, rfl, rfl⟩ (by repeat (first | exact Z07 _ | exact Z0a | apply Pick.none | refine Z03 (by repeat (first | exact Take.head _ _ | apply Take.tail)) ?_)) (by show [(17, vs 7)] = _; rw [h_7])
 ·
  rintro vs es hb ⟨⟨h_0, e_0⟩, ⟨h_1, e_1⟩, ⟨ob11, n12, c13, j14, ob15, n16, c17, j18, ob19, n20, c21, j22, h_2, e_2, hn23, hc24, hj25, hz26, hn27, hc28, hj29, hz30, hn31, hc32, hj33, hz34⟩, ⟨h_3, e_3⟩, ⟨h_4, e_4⟩, ⟨b38, h_5, e_5⟩, ⟨h_6, e_6⟩, ⟨h_7, e_7⟩, ⟨b42, h_8, e_8⟩, -⟩ hHR; obtain rfl : hb = [] := hHR; refine Z0g (D := [(10, vs 0), (11, vs 1), (12, vs 2), (13, vs 3), (14, vs 4), (15, vs 5), (16, vs 6), (17, vs 7), (18, vs 8)]) rfl ?_; refine Z1s (H := [(some b7, .cells #[.int .i64 0, .int .i64 0] 62 (0, 0)), (some b5, .cells #[.slice none 0 0, .slice none 0 0, .slice none 0 0] 29 (0, 0)), (some b3, .cells #[.slice p1f0_b p1f0_n p1f0_c, .slice p1f1_b p1f1_n p1f1_c, .slice p1f2_b p1f2_n p1f2_c] 29 (0, 0)), (some b1, .cells #[.int .i64 c0.N, .int .i64 c0.S, .int .i64 c0.T, .slice c0f3_b c0f3_n c0f3_c, .slice c0f4_b c0f4_n c0f4_c, .slice c0f5_b c0f5_n c0f5_c, .slice c0f6_b c0f6_n c0f6_c, .slice c0f7_b c0f7_n c0f7_c, .slice c0f8_b c0f8_n c0f8_c] 32 (0, 0)), (ob11, .cells (arr (intC .i64) r9.Res j14).toArray 2 (0, 0)), (ob15, .cells (arr (intC .i64) r9.Ex j18).toArray 2 (0, 0)), (ob19, .cells (arr (intC .i64) r9.H j22).toArray 3 (0, 0)), (some b38, chanO .i64 (Chan.mk c0.N.toNat []) 0 0), (some b42, .cells (arr boolC (List.replicate c0.N.toNat (false : Bool)) ([])).toArray 4 (0, 0))]) (by show _ ++ (_ ++ (es 0 ++ (es 1 ++ (es 2 ++ (es 3 ++ (es 4 ++ (es 5 ++ (es 6 ++ (es 7 ++ (es 8 ++ ([]))))))))))) = _; rw [e_0, e_1, e_2, e_3, e_4, e_5, e_6, e_7, e_8]; rfl) ?_; rw [h_0, h_1, h_2, h_3, h_4, h_5, h_6, h_7, h_8]; clear h_8 h_7 h_6 h_5 h_4 h_3 h_2 h_1 h_0 e_0 e_1 e_2 e_3 e_4 e_5 e_6 e_7 e_8; refine Z0y (t := 123) [.int .i64 0, .int .i64 0, .int .i64 0, .slice none 0 0, .slice none 0 0, .slice none 0 0, .slice none 0 0, .slice none 0 0, .slice none 0 0, .slice none 0 0, .slice none 0 0, .slice none 0 0, .chan none, .slice none 0 0, .int .i64 0, .int .i64 0] [0, 9, 12, 13, 14] rfl rfl rfl rfl (by simp only [Z1n, setCells, Value.cells, List.toList_toArray, List.getD_cons_zero, List.getD_cons_succ, List.set_cons_zero, List.set_cons_succ]; rfl) (by kernel_rfl) ?_; refine Z1v rfl rfl rfl rfl ?_; intro b44; refine Z09 rfl rfl rfl rfl ?_; refine Z02 ?_; refine Z01 ?_; refine Z0l (Z00 (t := 2) rfl (Z00 (t := 4) rfl (Z00 (t := 5) rfl (Z00 (t := 6) rfl Z0b)))) ?_; refine Z0d ?_; refine Z0d ?_; refine Z04 (ll := [0, 1, 2]) rfl ?_; refine Z05 rfl rfl rfl rfl Za1 ?_; refine Z0c rfl rfl rfl rfl Z2z mm4 rfl ?_; refine Z06 rfl rfl rfl rfl ?_; refine Z02 ?_; refine Z01 ?_; refine Zop (fun (ch59 : Chan) (cs60 : Nat) (cr61 : Nat) (xs62 : List Bool) => Z7x c0 r9 ch59 xs62 = some (r0, r1) ∧ xs62.length = c0.N.toNat) (fun (ch59 : Chan) (cs60 : Nat) (cr61 : Nat) (xs62 : List Bool) => [(4, .pointer (some ⟨b5, 0, none⟩)), (5, .pointer (some ⟨b7, 0, none⟩)), (6, .pointer (some ⟨b44, 0, none⟩))]) (fun (ch59 : Chan) (cs60 : Nat) (cr61 : Nat) (xs62 : List Bool) => [(some b5, .cells #[.slice none 0 0, .slice none 0 0, .slice none 0 0] 29 (0, 0)), (some b7, .cells #[.int .i64 0, .int .i64 0] 62 (0, 0)), (some b44, .cells #[.int .i64 c0.N, .int .i64 c0.S, .int .i64 c0.T, .slice c0f3_b c0f3_n c0f3_c, .slice c0f4_b c0f4_n c0f4_c, .slice c0f5_b c0f5_n c0f5_c, .slice c0f6_b c0f6_n c0f6_c, .slice c0f7_b c0f7_n c0f7_c, .slice c0f8_b c0f8_n c0f8_c, .slice (sb ob11) n12 c13, .slice (sb ob15) n16 c17, .slice (sb ob19) n20 c21, .chan (some b38), .slice (some ⟨b42, 0, none⟩) c0.N.toNat c0.N.toNat, .int .i64 0, .int .i64 0] 123 (0, 0)), (ob11, .cells (arr (intC .i64) r9.Res j14).toArray 2 (0, 0)), (ob15, .cells (arr (intC .i64) r9.Ex j18).toArray 2 (0, 0)), (ob19, .cells (arr (intC .i64) r9.H j22).toArray 3 (0, 0)), (some b38, chanO .i64 ch59 cs60 cr61), (some b42, .cells (arr boolC xs62 ([])).toArray 4 (0, 0))]) ?_ ?_
  ·
   refine T.block ?_; obtain ⟨o_1, e_1, K_1⟩ := Z0k H; refine T.loopE6 (fun (m_1 : Nat) (ch46 : Chan) (cs47 : Nat) (cr48 : Nat) (xs49 : List Bool) (x51 : Int) => Z2j (fun s => Z6i c0 r9 s.1 s.2.1 s.2.2) m_1 (ch46, xs49, x51) = some o_1 ∧ xs49.length = c0.N.toNat) (fun (m_1 : Nat) (ch46 : Chan) (cs47 : Nat) (cr48 : Nat) (xs49 : List Bool) (x51 : Int) => [(4, .pointer (some ⟨b5, 0, none⟩)), (5, .pointer (some ⟨b7, 0, none⟩)), (6, .pointer (some ⟨b44, 0, none⟩)), (22, .int .i64 c0.N), (23, .int .i64 x51)]) (fun (m_1 : Nat) (ch46 : Chan) (cs47 : Nat) (cr48 : Nat) (xs49 : List Bool) (x51 : Int) => [(some b5, .cells #[.slice none 0 0, .slice none 0 0, .slice none 0 0] 29 (0, 0)), (some b7, .cells #[.int .i64 0, .int .i64 0] 62 (0, 0)), (some b44, .cells #[.int .i64 c0.N, .int .i64 c0.S, .int .i64 c0.T, .slice c0f3_b c0f3_n c0f3_c, .slice c0f4_b c0f4_n c0f4_c, .slice c0f5_b c0f5_n c0f5_c, .slice c0f6_b c0f6_n c0f6_c, .slice c0f7_b c0f7_n c0f7_c, .slice c0f8_b c0f8_n c0f8_c, .slice (sb ob11) n12 c13, .slice (sb ob15) n16 c17, .slice (sb ob19) n20 c21, .chan (some b38), .slice (some ⟨b42, 0, none⟩) c0.N.toNat c0.N.toNat, .int .i64 0, .int .i64 0] 123 (0, 0)), (ob11, .cells (arr (intC .i64) r9.Res j14).toArray 2 (0, 0)), (ob15, .cells (arr (intC .i64) r9.Ex j18).toArray 2 (0, 0)), (ob19, .cells (arr (intC .i64) r9.H j22).toArray 3 (0, 0)), (some b38, chanO .i64 ch46 cs47 cr48), (some b42, .cells (arr boolC xs49 ([])).toArray 4 (0, 0))]) (fun (m_1 : Nat) (ch46 : Chan) (cs47 : Nat) (cr48 : Nat) (xs49 : List Bool) (x51 : Int) => m_1) Z4w (Chan.mk c0.N.toNat []) 0 0 (List.replicate c0.N.toNat (false : Bool)) 0 ⟨e_1, List.length_replicate⟩ (Z00 rfl (Z00 rfl (Z00 rfl (Z00 rfl (Z00 rfl Z0b))))) (Z03 tk2 (Z03 tk1 (Z03 tk0 (Z03 tk2 (Z03 tk2 (Z03 tk2 (Z03 tk2 (Z03 tk2 Z0a)))))))) ?_; rintro m_1 ch46 cs47 cr48 xs49 x51 ⟨H, hn50⟩; obtain ⟨n_1, r_1, rfl, H, C_1⟩ := Z1o H; have H : Z6i c0 r9 ch46 xs49 x51 = some r_1 := H; unfold Z6i at H; refine Z0d ?_; refine Z04 (ll := [0]) rfl ?_; refine Z0p rfl rfl rfl rfl rfl rfl ?_; refine Z02 ?_; refine Z01 ?_; refine Z0d ?_; rcases Z0i H with ⟨g52, H⟩ | ⟨g52, H⟩
   · refine Z15 rfl g52 ?_; refine T.skip ?_; refine Z01 ?_; refine Z0d ?_; refine T.block ?_; refine Z0d ?_; refine Z04 (ll := [0, 1]) rfl ?_; refine Z06 rfl rfl rfl rfl ?_; refine Z09 rfl rfl rfl rfl ?_; refine Z02 ?_; refine Z01 ?_; obtain ⟨r53, e54, H⟩ := Z0k H; refine Z04 (ll := [0, 1, 2]) rfl ?_; refine Z06 rfl rfl rfl rfl ?_; refine Z06 rfl rfl rfl rfl ?_; refine Z9q Zif rfl rfl rfl rfl (Z08 tk2 (Z08 tk5 (Z08 tk5 (Gone.refl _)))) rfl (fun wc hwc => Zaf (r0 := (FifoRun.mk c0 r9 ch46 xs49 (Work.mk 0 0))) (v1 := x51) wc (hwc.self (Z03 tk2 (Z03 tk5 (Z03 tk5 Z0a))) rfl) (h_c0f3.monoM (by decide) hwc (Z08 tk2 (Z08 tk5 (Z08 tk5 (Gone.refl _)))) rfl) (h_c0f4.monoM (by decide) hwc (Z08 tk2 (Z08 tk5 (Z08 tk5 (Gone.refl _)))) rfl) (h_c0f5.monoM (by decide) hwc (Z08 tk2 (Z08 tk5 (Z08 tk5 (Gone.refl _)))) rfl) (h_c0f6.monoM (by decide) hwc (Z08 tk2 (Z08 tk5 (Z08 tk5 (Gone.refl _)))) rfl) (h_c0f7.monoM (by decide) hwc (Z08 tk2 (Z08 tk5 (Z08 tk5 (Gone.refl _)))) rfl) (h_c0f8.monoM (by decide) hwc (Z08 tk2 (Z08 tk5 (Z08 tk5 (Gone.refl _)))) rfl) (hwc.rsM (f := (intC .i64)) (s := 1) (xs := r9.Res) (j := j14) (fun _ => rfl) (Z08 tk2 (Z08 tk5 (Z08 tk5 (Gone.refl _)))) rfl mm2 hn23 hc24 hz26) (hwc.rsM (f := (intC .i64)) (s := 1) (xs := r9.Ex) (j := j18) (fun _ => rfl) (Z08 tk2 (Z08 tk5 (Z08 tk5 (Gone.refl _)))) rfl mm3 hn27 hc28 hz30) (hwc.rsM (f := (intC .i64)) (s := 1) (xs := r9.H) (j := j22) (fun _ => rfl) (Z08 tk2 (Z08 tk5 (Z08 tk5 (Gone.refl _)))) rfl mm4 hn31 hc32 hz34) hn50 (Nat.le_refl _) (Z30 _ _) Z49 e54) ?_; rintro _ _ ⟨cs55, cr56, rfl, rfl, hn57⟩; refine Z02 ?_; refine Z0j ?_; refine Z01 ?_; obtain ⟨g58, H⟩ := Z0e H; refine Z04 (ll := [0, 1]) rfl ?_; refine Z11 g58 rfl rfl rfl rfl rfl ?_; refine Z06 rfl rfl rfl rfl ?_; refine Z02 ?_; have H := Z1c H C_1; exact Zn5 n_1 r53.row cs55 cr56 r53.ins (x51 + 1) ⟨H, hn57⟩ (Nat.lt_succ_self _) (Z00 rfl (Z00 rfl (Z00 rfl (Z00 rfl (Z00 rfl Z0b))))) (Z03 tk3 (Z03 tk3 (Z03 tk0 (Z03 tk2 (Z03 tk2 (Z03 tk2 (Z03 tk0 (Z03 tk0 Z0a))))))))
   · refine Z16 rfl g52 ?_; refine T.exit ?_; refine Z0m ?_; have H := Z0v H C_1 ▸ K_1; refine Z0m ?_; refine Z13 ?_; exact X.metE4 ch46 cs47 cr48 xs49 ⟨H, hn50⟩ (Z00 rfl (Z00 rfl (Z00 rfl Z0b))) (Z03 tk0 (Z03 tk0 (Z03 tk0 (Z03 tk0 (Z03 tk0 (Z03 tk0 (Z03 tk0 (Z03 tk0 Z0a))))))))
  ·
   rintro ch59 cs60 cr61 xs62 ⟨H, hn63⟩; unfold Z7x at H; refine T.block ?_; obtain ⟨o_3, e_3, K_3⟩ := Z0k H; refine Ziz (fun (m_3 : Nat) (xs64 : List Int) (xs66 : List Int) (xs68 : List Int) (ch70 : Chan) (cs71 : Nat) (cr72 : Nat) (xs73 : List Bool) (work75 : Int) (work76 : Int) => Z2j (fun s => Z6h c0 s.1 s.2.1 s.2.2.1 s.2.2.2.1 s.2.2.2.2.1 s.2.2.2.2.2.1 s.2.2.2.2.2.2) m_3 (xs64, xs66, xs68, ch70, xs73, work75, work76) = some o_3 ∧ xs64.length = n12 ∧ xs66.length = n16 ∧ xs68.length = n20 ∧ xs73.length = c0.N.toNat) (fun (m_3 : Nat) (xs64 : List Int) (xs66 : List Int) (xs68 : List Int) (ch70 : Chan) (cs71 : Nat) (cr72 : Nat) (xs73 : List Bool) (work75 : Int) (work76 : Int) => [(4, .pointer (some ⟨b5, 0, none⟩)), (5, .pointer (some ⟨b7, 0, none⟩)), (6, .pointer (some ⟨b44, 0, none⟩))]) (fun (m_3 : Nat) (xs64 : List Int) (xs66 : List Int) (xs68 : List Int) (ch70 : Chan) (cs71 : Nat) (cr72 : Nat) (xs73 : List Bool) (work75 : Int) (work76 : Int) => [(some b5, .cells #[.slice none 0 0, .slice none 0 0, .slice none 0 0] 29 (0, 0)), (some b7, .cells #[.int .i64 0, .int .i64 0] 62 (0, 0)), (some b44, .cells #[.int .i64 c0.N, .int .i64 c0.S, .int .i64 c0.T, .slice c0f3_b c0f3_n c0f3_c, .slice c0f4_b c0f4_n c0f4_c, .slice c0f5_b c0f5_n c0f5_c, .slice c0f6_b c0f6_n c0f6_c, .slice c0f7_b c0f7_n c0f7_c, .slice c0f8_b c0f8_n c0f8_c, .slice (sb ob11) n12 c13, .slice (sb ob15) n16 c17, .slice (sb ob19) n20 c21, .chan (some b38), .slice (some ⟨b42, 0, none⟩) c0.N.toNat c0.N.toNat, .int .i64 work75, .int .i64 work76] 123 (0, 0)), (ob11, .cells (arr (intC .i64) xs64 j14).toArray 2 (0, 0)), (ob15, .cells (arr (intC .i64) xs66 j18).toArray 2 (0, 0)), (ob19, .cells (arr (intC .i64) xs68 j22).toArray 3 (0, 0)), (some b38, chanO .i64 ch70 cs71 cr72), (some b42, .cells (arr boolC xs73 ([])).toArray 4 (0, 0))]) (fun (m_3 : Nat) (xs64 : List Int) (xs66 : List Int) (xs68 : List Int) (ch70 : Chan) (cs71 : Nat) (cr72 : Nat) (xs73 : List Bool) (work75 : Int) (work76 : Int) => m_3) Z4w r9.Res r9.Ex r9.H ch59 cs60 cr61 xs62 0 0 ⟨e_3, hn23, hn27, hn31, hn63⟩ (Z00 rfl (Z00 rfl (Z00 rfl Z0b))) (Z03 tk0 (Z03 tk0 (Z03 tk0 (Z03 tk0 (Z03 tk0 (Z03 tk0 (Z03 tk0 (Z03 tk0 Z0a)))))))) ?_; rintro m_3 xs64 xs66 xs68 ch70 cs71 cr72 xs73 work75 work76 ⟨H, hn65, hn67, hn69, hn74⟩; obtain ⟨n_3, r_3, rfl, H, C_3⟩ := Z1o H; have H : Z6h c0 xs64 xs66 xs68 ch70 xs73 work75 work76 = some r_3 := H; unfold Z6h at H; refine T.block ?_; refine Z0d ?_; obtain ⟨⟨r77, r78, r79⟩, e80, H⟩ := Z0k H; refine Z04 (ll := [0, 1, 2, 3, 4, 5, 6]) rfl ?_; refine Z06 rfl rfl rfl rfl ?_; refine Z9q Zni rfl rfl rfl rfl (Z08 tk2 (Z08 tk5 (Z08 tk5 (Gone.refl _)))) rfl (fun wc hwc => Zdy (pr0 := (FifoRun.mk c0 (Pre.mk xs64 xs66 xs68) ch70 xs73 (Work.mk work75 work76))) wc (hwc.self (Z03 tk2 (Z03 tk5 (Z03 tk5 Z0a))) rfl) (h_c0f3.monoM (by decide) hwc (Z08 tk2 (Z08 tk5 (Z08 tk5 (Gone.refl _)))) rfl) (h_c0f4.monoM (by decide) hwc (Z08 tk2 (Z08 tk5 (Z08 tk5 (Gone.refl _)))) rfl) (h_c0f5.monoM (by decide) hwc (Z08 tk2 (Z08 tk5 (Z08 tk5 (Gone.refl _)))) rfl) (h_c0f6.monoM (by decide) hwc (Z08 tk2 (Z08 tk5 (Z08 tk5 (Gone.refl _)))) rfl) (h_c0f7.monoM (by decide) hwc (Z08 tk2 (Z08 tk5 (Z08 tk5 (Gone.refl _)))) rfl) (h_c0f8.monoM (by decide) hwc (Z08 tk2 (Z08 tk5 (Z08 tk5 (Gone.refl _)))) rfl) (hwc.rsM (f := (intC .i64)) (s := 1) (xs := xs64) (j := j14) (fun _ => rfl) (Z08 tk2 (Z08 tk5 (Z08 tk5 (Gone.refl _)))) rfl mm2 hn65 hc24 hz26) (hwc.rsM (f := (intC .i64)) (s := 1) (xs := xs66) (j := j18) (fun _ => rfl) (Z08 tk2 (Z08 tk5 (Z08 tk5 (Gone.refl _)))) rfl mm3 hn67 hc28 hz30) (hwc.rsM (f := (intC .i64)) (s := 1) (xs := xs68) (j := j22) (fun _ => rfl) (Z08 tk2 (Z08 tk5 (Z08 tk5 (Gone.refl _)))) rfl mm4 hn69 hc32 hz34) hn74 (Nat.le_refl _) (Z30 _ _) Z49 e80) ?_; rintro _ _ ⟨cs81, cr82, rfl, rfl, hn83⟩; refine Z06 rfl rfl rfl rfl ?_; refine TO.extract rfl rfl rfl rfl rfl ?_; refine TO.extract rfl rfl rfl rfl rfl ?_; refine Z09 rfl rfl rfl rfl ?_; refine Z09 rfl rfl rfl rfl ?_; refine Z02 ?_; refine Z01 ?_; refine Z0d ?_; refine Z0d ?_; refine Z04 (ll := [0, 1]) rfl ?_; refine Z06 rfl rfl rfl rfl ?_; refine TO.not rfl rfl rfl rfl ?_; refine Z02 ?_; refine Z01 ?_; rcases Z0i H with ⟨g84, H⟩ | ⟨g84, H⟩
   ·
    refine Z26 rfl g84 ?_; refine Z0d ?_; apply Z8m [⟨[], false, [], Z3j _⟩, ⟨[0], false, [], Z3j _⟩, ⟨[1], false, [], Z3j _⟩, ⟨[2], false, [], Z3j _⟩, ⟨[], false, [], Z3j _⟩, ⟨[4], false, [], Z3j _⟩, ⟨[5], false, [], Z3j _⟩, ⟨[6], false, [], Z3j _⟩, ⟨[3], true, [], relN⟩] [37, 38, 39, 40, 41, 42, 43, 44] 9 (HRk [[(some b5, .cells #[.slice none 0 0, .slice none 0 0, .slice none 0 0] 29 (0, 0))], [(some b5, .cells #[.slice (sb ob11) n12 c13, .slice (sb ob15) n16 c17, .slice (sb ob19) n20 c21] 29 (0, 0))]]) [[], []] [(some b5, .cells #[.slice none 0 0, .slice none 0 0, .slice none 0 0] 29 (0, 0))] [(some b44, .cells #[.int .i64 c0.N, .int .i64 c0.S, .int .i64 c0.T, .slice c0f3_b c0f3_n c0f3_c, .slice c0f4_b c0f4_n c0f4_c, .slice c0f5_b c0f5_n c0f5_c, .slice c0f6_b c0f6_n c0f6_c, .slice c0f7_b c0f7_n c0f7_c, .slice c0f8_b c0f8_n c0f8_c, .slice (sb ob11) n12 c13, .slice (sb ob15) n16 c17, .slice (sb ob19) n20 c21, .chan (some b38), .slice (some ⟨b42, 0, none⟩) c0.N.toNat c0.N.toNat, .int .i64 work75, .int .i64 work76] 123 (0, 0)), (some b38, chanO .i64 r79.row cs81 cr82), (some b42, .cells (arr boolC r79.ins ([])).toArray 4 (0, 0)), (some b7, .cells #[.int .i64 0, .int .i64 0] 62 (0, 0)), (ob11, .cells (arr (intC .i64) xs64 j14).toArray 2 (0, 0)), (ob15, .cells (arr (intC .i64) xs66 j18).toArray 2 (0, 0)), (ob19, .cells (arr (intC .i64) xs68 j22).toArray 3 (0, 0))]
    · exact Z6a
    · exact rfl
    · kernel_rfl
    · kernel_rfl
    · kernel_rfl
    · exact rfl
    · exact rfl
    · exact rfl
    · exact rfl
    · exact (by repeat (first | exact Z07 _ | exact Z0a | apply Pick.none | refine Z03 (by repeat (first | exact Take.head _ _ | apply Take.tail)) ?_))
    ·
     refine ⟨?_, ?_, ?_, ?_, ?_, ?_, ?_, ?_, ?_, trivial⟩
     · rintro vs es Es Hx -; refine Z0g (D := []) rfl ?_; refine Z06 rfl rfl rfl rfl ?_; refine Z02 ?_; exact Z0x rfl ⟨rfl, rfl⟩ (Z07 _) rfl
     · rintro vs es Es Hx ⟨⟨h_0, e_0⟩, -⟩; refine Z0g (D := [(37, vs 0)]) rfl ?_; rw [h_0]; refine TO.nilCheck rfl rfl rfl rfl ?_; refine Z02 ?_; exact Z0x rfl ⟨rfl, rfl⟩ (Z07 _) (by show [(37, vs 0)] = _; rw [h_0])
     · rintro vs es Es Hx ⟨⟨h_1, e_1⟩, -⟩; refine Z0g (D := [(38, vs 1)]) rfl ?_; rw [h_1]; refine Z05 rfl rfl rfl rfl Z2f ?_; refine Z02 ?_; exact Z0x rfl ⟨rfl, rfl⟩ (Z07 _) (by show [(38, vs 1)] = _; rw [h_1])
     · rintro vs es Es Hx ⟨⟨h_2, e_2⟩, -⟩; refine Z0g (D := [(39, vs 2)]) rfl ?_; rw [h_2]; refine Zkg (vs := [.slice (sb ob11) n12 c13, .slice (sb ob15) n16 c17, .slice (sb ob19) n20 c21]) rfl rfl rfl rfl Zey mm0 rfl rfl ?_; refine Z02 ?_; exact Z0x rfl ⟨rfl, rfl⟩ (Z07 _) (by show [(39, vs 2)] = _; rw [h_2])
     · rintro vs es Es Hx -; refine Z0g (D := []) rfl ?_; refine Z06 rfl rfl rfl rfl ?_; refine Z02 ?_; exact Z0x rfl ⟨rfl, rfl⟩ (Z07 _) rfl
     · rintro vs es Es Hx ⟨⟨h_4, e_4⟩, -⟩; refine Z0g (D := [(41, vs 4)]) rfl ?_; rw [h_4]; refine TO.nilCheck rfl rfl rfl rfl ?_; refine Z02 ?_; exact Z0x rfl ⟨rfl, rfl⟩ (Z07 _) (by show [(41, vs 4)] = _; rw [h_4])
     · rintro vs es Es Hx ⟨⟨h_5, e_5⟩, -⟩; refine Z0g (D := [(42, vs 5)]) rfl ?_; rw [h_5]; refine Z05 rfl rfl rfl rfl Z7j ?_; refine Z02 ?_; exact Z0x rfl ⟨rfl, rfl⟩ (Z07 _) (by show [(42, vs 5)] = _; rw [h_5])
     · rintro vs es Es Hx ⟨⟨h_6, e_6⟩, -⟩; refine Z0g (D := [(43, vs 6)]) rfl ?_; rw [h_6]; refine Zkg (vs := [.int .i64 work75, .int .i64 work76]) rfl rfl rfl rfl Z6q mm0 rfl rfl ?_; refine Z02 ?_; exact Z0x rfl ⟨rfl, rfl⟩ (Z07 _) (by show [(43, vs 6)] = _; rw [h_6])
     · rintro vs es Es Hx hb ⟨⟨h_3, e_3⟩, -⟩ hHR; obtain rfl : hb = [(some b5, .cells #[.slice none 0 0, .slice none 0 0, .slice none 0 0] 29 (0, 0))] := hHR; refine Z0g (D := [(40, vs 3)]) rfl ?_; rw [h_3]; refine Z0t rfl rfl rfl rfl tk0 Zie rfl rfl rfl ?_; refine Z02 ?_; exact Zfr (hb' := [(some b5, .cells #[.slice (sb ob11) n12 c13, .slice (sb ob15) n16 c17, .slice (sb ob19) n20 c21] 29 (0, 0))]) rfl rfl rfl (by repeat (first | exact Z07 _ | exact Z0a | apply Pick.none | refine Z03 (by repeat (first | exact Take.head _ _ | apply Take.tail)) ?_)) (by show [(40, vs 3)] = _; rw [h_3])
    · rintro vs es hb ⟨⟨h_0, e_0⟩, ⟨h_1, e_1⟩, ⟨h_2, e_2⟩, ⟨h_3, e_3⟩, ⟨h_4, e_4⟩, ⟨h_5, e_5⟩, ⟨h_6, e_6⟩, ⟨h_7, e_7⟩, e_8, -⟩ hHR; obtain rfl : hb = [(some b5, .cells #[.slice (sb ob11) n12 c13, .slice (sb ob15) n16 c17, .slice (sb ob19) n20 c21] 29 (0, 0))] := hHR; refine Z0g (D := [(37, vs 0), (38, vs 1), (39, vs 2), (40, vs 3), (41, vs 4), (42, vs 5), (43, vs 6), (44, vs 7)]) rfl ?_; refine Z1s (H := [(some b5, .cells #[.slice (sb ob11) n12 c13, .slice (sb ob15) n16 c17, .slice (sb ob19) n20 c21] 29 (0, 0)), (some b44, .cells #[.int .i64 c0.N, .int .i64 c0.S, .int .i64 c0.T, .slice c0f3_b c0f3_n c0f3_c, .slice c0f4_b c0f4_n c0f4_c, .slice c0f5_b c0f5_n c0f5_c, .slice c0f6_b c0f6_n c0f6_c, .slice c0f7_b c0f7_n c0f7_c, .slice c0f8_b c0f8_n c0f8_c, .slice (sb ob11) n12 c13, .slice (sb ob15) n16 c17, .slice (sb ob19) n20 c21, .chan (some b38), .slice (some ⟨b42, 0, none⟩) c0.N.toNat c0.N.toNat, .int .i64 work75, .int .i64 work76] 123 (0, 0)), (some b38, chanO .i64 r79.row cs81 cr82), (some b42, .cells (arr boolC r79.ins ([])).toArray 4 (0, 0)), (some b7, .cells #[.int .i64 0, .int .i64 0] 62 (0, 0)), (ob11, .cells (arr (intC .i64) xs64 j14).toArray 2 (0, 0)), (ob15, .cells (arr (intC .i64) xs66 j18).toArray 2 (0, 0)), (ob19, .cells (arr (intC .i64) xs68 j22).toArray 3 (0, 0))]) (by show _ ++ (_ ++ (es 0 ++ (es 1 ++ (es 2 ++ (es 3 ++ (es 4 ++ (es 5 ++ (es 6 ++ (es 7 ++ (es 8 ++ ([]))))))))))) = _; rw [e_0, e_1, e_2, e_3, e_4, e_5, e_6, e_7, e_8]; rfl) ?_; rw [h_0, h_1, h_2, h_3, h_4, h_5, h_6, h_7]; clear h_7 h_6 h_5 h_4 h_3 h_2 h_1 h_0 e_0 e_1 e_2 e_3 e_4 e_5 e_6 e_7 e_8; refine Z0t rfl rfl rfl rfl tk4 Z7h rfl rfl rfl ?_; refine Z02 ?_; refine Z01 ?_; refine Z0l (Z00 (t := 4) rfl (Z00 (t := 5) rfl Z0b)) ?_; refine T.ret ?_; refine Z0h ?_; refine Z0n ?_; have H := Z0v H C_3 ▸ K_3; refine Z0h ?_; refine Z0n ?_; obtain ⟨rfl, rfl⟩ := ret2 H; exact Z7f rfl rfl rfl rfl (Z29 rfl Zey mm1 rfl) (Z29 rfl Z6q mm0 rfl) (Z03 tk5 (Z03 tk5 (Z03 tk5 Z0a))) ⟨ob11, n12, c13, j14, ob15, n16, c17, j18, ob19, n20, c21, j22, rfl, rfl, hn65, hc24, hj25, hz26, hn67, hc28, hj29, hz30, hn69, hc32, hj33, hz34⟩
   ·
    refine Z34 rfl (Bool.eq_false_iff.2 g84) ?_; refine T.skip ?_; refine Z01 ?_; refine Z0l (Z00 (t := 4) rfl (Z00 (t := 5) rfl (Z00 (t := 6) rfl (Z00 (t := 8) rfl Z0b)))) ?_; refine T.block ?_; obtain ⟨o_4, e_4, K_4⟩ := Z0k H; refine Ziz (fun (m_4 : Nat) (xs85 : List Int) (xs87 : List Int) (xs89 : List Int) (ch91 : Chan) (cs92 : Nat) (cr93 : Nat) (xs94 : List Bool) (work96 : Int) (work97 : Int) => Z2j (fun s => Z5d c0 r77 s.1 s.2.1 s.2.2.1 s.2.2.2.1 s.2.2.2.2.1 s.2.2.2.2.2.1 s.2.2.2.2.2.2) m_4 (xs85, xs87, xs89, ch91, xs94, work96, work97) = some o_4 ∧ xs85.length = n12 ∧ xs87.length = n16 ∧ xs89.length = n20 ∧ xs94.length = c0.N.toNat) (fun (m_4 : Nat) (xs85 : List Int) (xs87 : List Int) (xs89 : List Int) (ch91 : Chan) (cs92 : Nat) (cr93 : Nat) (xs94 : List Bool) (work96 : Int) (work97 : Int) => [(4, .pointer (some ⟨b5, 0, none⟩)), (5, .pointer (some ⟨b7, 0, none⟩)), (6, .pointer (some ⟨b44, 0, none⟩)), (8, .int .i64 r77)]) (fun (m_4 : Nat) (xs85 : List Int) (xs87 : List Int) (xs89 : List Int) (ch91 : Chan) (cs92 : Nat) (cr93 : Nat) (xs94 : List Bool) (work96 : Int) (work97 : Int) => [(some b5, .cells #[.slice none 0 0, .slice none 0 0, .slice none 0 0] 29 (0, 0)), (some b7, .cells #[.int .i64 0, .int .i64 0] 62 (0, 0)), (some b44, .cells #[.int .i64 c0.N, .int .i64 c0.S, .int .i64 c0.T, .slice c0f3_b c0f3_n c0f3_c, .slice c0f4_b c0f4_n c0f4_c, .slice c0f5_b c0f5_n c0f5_c, .slice c0f6_b c0f6_n c0f6_c, .slice c0f7_b c0f7_n c0f7_c, .slice c0f8_b c0f8_n c0f8_c, .slice (sb ob11) n12 c13, .slice (sb ob15) n16 c17, .slice (sb ob19) n20 c21, .chan (some b38), .slice (some ⟨b42, 0, none⟩) c0.N.toNat c0.N.toNat, .int .i64 work96, .int .i64 work97] 123 (0, 0)), (ob11, .cells (arr (intC .i64) xs85 j14).toArray 2 (0, 0)), (ob15, .cells (arr (intC .i64) xs87 j18).toArray 2 (0, 0)), (ob19, .cells (arr (intC .i64) xs89 j22).toArray 3 (0, 0)), (some b38, chanO .i64 ch91 cs92 cr93), (some b42, .cells (arr boolC xs94 ([])).toArray 4 (0, 0))]) (fun (m_4 : Nat) (xs85 : List Int) (xs87 : List Int) (xs89 : List Int) (ch91 : Chan) (cs92 : Nat) (cr93 : Nat) (xs94 : List Bool) (work96 : Int) (work97 : Int) => m_4) Z4w xs64 xs66 xs68 r79.row cs81 cr82 r79.ins work75 work76 ⟨e_4, hn65, hn67, hn69, hn83⟩ (Z00 rfl (Z00 rfl (Z00 rfl (Z00 rfl Z0b)))) (Z03 tk3 (Z03 tk3 (Z03 tk0 (Z03 tk2 (Z03 tk2 (Z03 tk2 (Z03 tk0 (Z03 tk0 Z0a)))))))) ?_; rintro m_4 xs85 xs87 xs89 ch91 cs92 cr93 xs94 work96 work97 ⟨H, hn86, hn88, hn90, hn95⟩; obtain ⟨n_4, r_4, rfl, H, C_4⟩ := Z1o H; have H : Z5d c0 r77 xs85 xs87 xs89 ch91 xs94 work96 work97 = some r_4 := H; unfold Z5d at H; refine Z0d ?_; refine Z0d ?_; obtain ⟨g98, H⟩ := Z0e H; refine Z04 (ll := [0, 1, 2, 3, 4, 5, 6, 7, 8]) rfl ?_; refine Z06 rfl rfl rfl rfl ?_; refine TO.nilCheck rfl rfl rfl rfl ?_; refine Z05 rfl rfl rfl rfl Z2f ?_; refine TO.fieldAddr rfl rfl rfl rfl Z70 ?_; refine Z0c rfl rfl rfl rfl Z59 mm2 rfl ?_; refine Z06 rfl rfl rfl rfl ?_; refine Z2x hz30 hc28 hn88 g98 rfl rfl rfl rfl rfl Z3z Z3q ?_; refine Z5n hz30 hc28 hn88 g98 rfl rfl rfl rfl Z79 mm4 ?_; refine Z0p rfl rfl rfl rfl rfl rfl ?_; refine Z02 ?_; refine Z01 ?_; refine Z0l (Z00 (t := 4) rfl (Z00 (t := 5) rfl (Z00 (t := 6) rfl (Z00 (t := 8) rfl (Z00 (t := 53) rfl Z0b))))) ?_; rcases Z0i H with ⟨g99, H⟩ | ⟨g99, H⟩
    · refine Z15 rfl g99 ?_; refine T.skip ?_; refine Z01 ?_; refine T.block ?_; obtain ⟨r100, e101, H⟩ := Z0k H; refine Z04 (ll := [0, 1, 2]) rfl ?_; refine Z06 rfl rfl rfl rfl ?_; refine Z06 rfl rfl rfl rfl ?_; refine Z9q Znh rfl rfl rfl rfl (Z08 tk2 (Z08 tk2 (Z08 tk2 (Z08 tk2 (Z08 tk2 (Z08 tk2 (Gone.refl _))))))) rfl (fun wc hwc => Zdx (r0 := (FifoRun.mk c0 (Pre.mk xs85 xs87 xs89) ch91 xs94 (Work.mk work96 work97))) (u1 := r77) wc (hwc.self (Z03 tk2 (Z03 tk2 (Z03 tk2 (Z03 tk2 (Z03 tk2 (Z03 tk2 Z0a)))))) rfl) (h_c0f3.monoM (by decide) hwc (Z08 tk2 (Z08 tk2 (Z08 tk2 (Z08 tk2 (Z08 tk2 (Z08 tk2 (Gone.refl _))))))) rfl) (h_c0f4.monoM (by decide) hwc (Z08 tk2 (Z08 tk2 (Z08 tk2 (Z08 tk2 (Z08 tk2 (Z08 tk2 (Gone.refl _))))))) rfl) (h_c0f5.monoM (by decide) hwc (Z08 tk2 (Z08 tk2 (Z08 tk2 (Z08 tk2 (Z08 tk2 (Z08 tk2 (Gone.refl _))))))) rfl) (h_c0f6.monoM (by decide) hwc (Z08 tk2 (Z08 tk2 (Z08 tk2 (Z08 tk2 (Z08 tk2 (Z08 tk2 (Gone.refl _))))))) rfl) (h_c0f7.monoM (by decide) hwc (Z08 tk2 (Z08 tk2 (Z08 tk2 (Z08 tk2 (Z08 tk2 (Z08 tk2 (Gone.refl _))))))) rfl) (h_c0f8.monoM (by decide) hwc (Z08 tk2 (Z08 tk2 (Z08 tk2 (Z08 tk2 (Z08 tk2 (Z08 tk2 (Gone.refl _))))))) rfl) hn86 hc24 hj25 hz26 hn88 hc28 hj29 hz30 hn90 hc32 hj33 hz34 hn95 (Nat.le_refl _) (Z30 _ _) Z49 e101) ?_; rintro _ _ ⟨cs102, cr103, rfl, rfl, hn104, hn105, hn106, hn107⟩; refine Z02 ?_; refine Z0j ?_; have H := Z1c H C_4; exact Zg0 n_4 r100.p.Res r100.p.Ex r100.p.H r100.row cs102 cr103 r100.ins r100.work.Pushes r100.work.Lifts ⟨H, hn104, hn105, hn106, hn107⟩ (Nat.lt_succ_self _) (Z00 rfl (Z00 rfl (Z00 rfl (Z00 rfl Z0b)))) (Z03 tk6 (Z03 tk6 (Z03 tk0 (Z03 tk0 (Z03 tk0 (Z03 tk0 (Z03 tk0 (Z03 tk0 Z0a))))))))
    · refine Z16 rfl g99 ?_; refine T.exit ?_; refine Z0m ?_; have H := Z0v H C_4 ▸ K_4; refine Z0m ?_; refine Z13 ?_; refine Z0j ?_; have H := Z1c H C_3; exact Zg0 n_3 xs85 xs87 xs89 ch91 cs92 cr93 xs94 work96 work97 ⟨H, hn86, hn88, hn90, hn95⟩ (Nat.lt_succ_self _) (Z00 rfl (Z00 rfl (Z00 rfl Z0b))) (Z03 tk0 (Z03 tk0 (Z03 tk0 (Z03 tk0 (Z03 tk0 (Z03 tk0 (Z03 tk0 (Z03 tk0 Z0a))))))))
theorem Zag {n0 : Net} {n0f3_b : Option Addr} {n0f3_n : Nat} {n0f3_c : Nat} (w : World) (h_n0f3 : RS w [] Z7o 3 n0f3_b n0f3_n n0f3_c n0.Arcs) {r0 : Answer} {r1 : Work} {r2 : Int} (H : Z36 n0 = some (r0, r1, r2)) : Fnc Try.prog 41 #[.agg #[.int .i64 n0.N, .int .i64 n0.S, .int .i64 n0.T, .slice n0f3_b n0f3_n n0f3_c]] w [] (fun v N => ∃ (ob_0 : Option Nat) (n_0 : Nat) (c_0 : Nat) (j_0 : List Value) (ob_4 : Option Nat) (n_4 : Nat) (c_4 : Nat) (j_4 : List Value), v = .tuple #[.agg #[.slice (sb ob_0) n_0 c_0, .slice (sb ob_4) n_4 c_4, .int .i64 r0.Value], .agg #[.int .i64 r1.Pushes, .int .i64 r1.Lifts], .int .i64 r2] ∧ N = [(ob_0, .cells (arr (intC .i64) r0.Flow j_0).toArray 2 (0, 0)), (ob_4, .cells (arr boolC r0.Side j_4).toArray 4 (0, 0))] ∧ r0.Flow.length = n_0 ∧ n_0 ≤ c_0 ∧ j_0.length = (c_0 - n_0) * 1 ∧ (ob_0 = none → c_0 = 0) ∧ r0.Side.length = n_4 ∧ n_4 ≤ c_4 ∧ j_4.length = (c_4 - n_4) * 1 ∧ (ob_4 = none → c_4 = 0)) := by
 unfold Z36 at H; refine Fnc.enter (vs := [.agg #[.int .i64 n0.N, .int .i64 n0.S, .int .i64 n0.T, .slice n0f3_b n0f3_n n0f3_c]]) Try.func41 rfl rfl (Inv.refl w) ?_; refine Z0d ?_; refine Z04 (ll := [0, 1, 2, 3]) rfl ?_; refine Z1v rfl rfl rfl rfl ?_; intro b1; refine Z0z rfl rfl rfl Zne ?_; intro b3; refine Z0z rfl rfl rfl Zc5 ?_; intro b5; refine Z09 rfl rfl rfl rfl ?_; refine Z02 ?_; refine Z01 ?_; refine Z0d ?_; obtain ⟨⟨r7, r8⟩, e9, H⟩ := Z0k H; refine Z04 (ll := [0, 1, 2, 3, 4, 5, 6, 7]) rfl ?_; refine Z0u rfl rfl rfl rfl Zez mm2 rfl ?_; refine Z0o Znn rfl rfl rfl rfl (fun wc hwc => Zfs (n0 := n0) wc (h_n0f3.mono hwc) e9) ?_; rintro _ _ ⟨ob10, n11, c12, j13, ob14, n15, c16, j17, ob18, n19, c20, j21, ob22, n23, c24, j25, ob26, n27, c28, j29, ob30, n31, c32, j33, rfl, rfl, hn34, hc35, hj36, hz37, hn38, hc39, hj40, hz41, hn42, hc43, hj44, hz45, hn46, hc47, hj48, hz49, hn50, hc51, hj52, hz53, hn54, hc55, hj56, hz57⟩; refine Z06 rfl rfl rfl rfl ?_; refine TO.extract rfl rfl rfl rfl rfl ?_; refine TO.extract rfl rfl rfl rfl rfl ?_; refine Z0z rfl rfl rfl Znf ?_; intro b64; refine Z0t rfl rfl rfl rfl tk0 Zng rfl rfl rfl ?_; refine Z09 rfl rfl rfl rfl ?_; refine Z02 ?_; refine Z01 ?_; refine Z0d ?_; refine Z0d ?_; refine Z04 (ll := [0, 1]) rfl ?_; refine Z06 rfl rfl rfl rfl ?_; refine Z0p rfl rfl rfl rfl rfl rfl ?_; refine Z02 ?_; refine Z01 ?_; refine Z0l (Z00 (t := 1) rfl (Z00 (t := 2) rfl (Z00 (t := 3) rfl (Z00 (t := 5) rfl (Z00 (t := 6) rfl (Z00 (t := 17) rfl Z0b)))))) ?_; rcases Z0i H with ⟨g66, H⟩ | ⟨g66, H⟩
 · refine Z15 rfl g66 ?_; refine Z0d ?_; refine Z04 (ll := [0, 1, 2, 3, 4, 5]) rfl ?_; refine Z0y (t := 60) [.slice none 0 0, .slice none 0 0, .int .i64 0] [0, 1, 2] rfl rfl rfl rfl (by simp only [Z1n, setCells, Value.cells, List.toList_toArray, List.getD_cons_zero, List.getD_cons_succ, List.set_cons_zero, List.set_cons_succ]; rfl) (by kernel_rfl) ?_; refine Z0y (t := 62) [.int .i64 0, .int .i64 0] [0, 1] rfl rfl rfl rfl (by simp only [Z1n, setCells, Value.cells, List.toList_toArray, List.getD_cons_zero, List.getD_cons_succ, List.set_cons_zero, List.set_cons_succ]; rfl) (by kernel_rfl) ?_; refine Z06 rfl rfl rfl rfl ?_; refine Z0t rfl rfl rfl rfl tk8 Zc6 rfl rfl rfl ?_; refine Z0t rfl rfl rfl rfl tk8 Z7h rfl rfl rfl ?_; refine Z09 rfl rfl rfl rfl ?_; refine Z02 ?_; refine Z01 ?_; refine T.ret ?_; refine Z0h ?_; obtain ⟨rfl, rfl, rfl⟩ := ret3 H; exact Zek rfl rfl rfl rfl (Z29 rfl Zc8 mm1 rfl) (Z29 rfl Z6q mm0 rfl) (Res.tmp rfl) (Pick.none (Pick.none Z0a)) ⟨none, 0, 0, ([]), none, 0, 0, ([]), rfl, rfl, rfl, (Nat.le_refl _), (Z30 0 _), (fun _ => rfl), rfl, (Nat.le_refl _), (Z30 0 _), (fun _ => rfl)⟩
 ·
  refine Z16 rfl g66 ?_; refine T.skip ?_; refine Z01 ?_; refine Z0d ?_; obtain ⟨r67, e68, H⟩ := Z0k H; obtain ⟨⟨r96, r97⟩, e98, H⟩ := Z0k H; apply Z8m [⟨[], false, [], Z3j _⟩, ⟨[], false, [], Z3j _⟩, ⟨[1], false, [], fun _ v e => ∃ (ob69 : Option Nat) (n70 : Nat) (c71 : Nat) (j72 : List Value) (ob73 : Option Nat) (n74 : Nat) (c75 : Nat) (j76 : List Value) (ob77 : Option Nat) (n78 : Nat) (c79 : Nat) (j80 : List Value), v = .agg #[.slice (sb ob69) n70 c71, .slice (sb ob73) n74 c75, .slice (sb ob77) n78 c79] ∧ e = [(ob69, .cells (arr (intC .i64) r67.Res j72).toArray 2 (0, 0)), (ob73, .cells (arr (intC .i64) r67.Ex j76).toArray 2 (0, 0)), (ob77, .cells (arr (intC .i64) r67.H j80).toArray 3 (0, 0))] ∧ r67.Res.length = n70 ∧ n70 ≤ c71 ∧ j72.length = (c71 - n70) * 1 ∧ (ob69 = none → c71 = 0) ∧ r67.Ex.length = n74 ∧ n74 ≤ c75 ∧ j76.length = (c75 - n74) * 1 ∧ (ob73 = none → c75 = 0) ∧ r67.H.length = n78 ∧ n78 ≤ c79 ∧ j80.length = (c79 - n78) * 1 ∧ (ob77 = none → c79 = 0)⟩, ⟨[0, 2], false, [], fun _ v e => ∃ (ob99 : Option Nat) (n100 : Nat) (c101 : Nat) (j102 : List Value) (ob103 : Option Nat) (n104 : Nat) (c105 : Nat) (j106 : List Value) (ob107 : Option Nat) (n108 : Nat) (c109 : Nat) (j110 : List Value), v = .tuple #[.agg #[.slice (sb ob99) n100 c101, .slice (sb ob103) n104 c105, .slice (sb ob107) n108 c109], .agg #[.int .i64 r97.Pushes, .int .i64 r97.Lifts]] ∧ e = [(ob99, .cells (arr (intC .i64) r96.Res j102).toArray 2 (0, 0)), (ob103, .cells (arr (intC .i64) r96.Ex j106).toArray 2 (0, 0)), (ob107, .cells (arr (intC .i64) r96.H j110).toArray 3 (0, 0))] ∧ r96.Res.length = n100 ∧ n100 ≤ c101 ∧ j102.length = (c101 - n100) * 1 ∧ (ob99 = none → c101 = 0) ∧ r96.Ex.length = n104 ∧ n104 ≤ c105 ∧ j106.length = (c105 - n104) * 1 ∧ (ob103 = none → c105 = 0) ∧ r96.H.length = n108 ∧ n108 ≤ c109 ∧ j110.length = (c109 - n108) * 1 ∧ (ob107 = none → c109 = 0)⟩, ⟨[3], false, [], fun vl v e => v = (vl.getD 0 undef) ∧ e = []⟩, ⟨[3, 4], false, [], fun vl v e => v = (tupAt (vl.getD 1 undef) 0) ∧ e = []⟩, ⟨[3, 4], false, [], Z3j _⟩, ⟨[], false, [], fun _ v e => ∃ (b126 : Nat), v = .pointer (some ⟨b126, 0, none⟩) ∧ e = [(some b126, .cells #[.slice none 0 0, .slice none 0 0, .slice none 0 0] 29 (0, 0))]⟩, ⟨[], false, [], fun _ v e => ∃ (b128 : Nat), v = .pointer (some ⟨b128, 0, none⟩) ∧ e = [(some b128, .cells #[.int .i64 0, .int .i64 0] 62 (0, 0))]⟩, ⟨[3, 4, 5, 7], false, [7], fun vl _ e => e = [(some (blkAt (vl.getD 3 undef)), .cells #[(Zh5 (vl.getD 2 undef) 0), (Zh5 (vl.getD 2 undef) 1), (Zh5 (vl.getD 2 undef) 2)] 29 (0, 0))]⟩] [22, 23, 24, 25, 21, 26, 27, 7, 8] 10 (HRk [[]]) [[]] [] [(some b64, .cells #[.int .i64 r7.N, .int .i64 r7.S, .int .i64 r7.T, .slice (sb ob10) n11 c12, .slice (sb ob14) n15 c16, .slice (sb ob18) n19 c20, .slice (sb ob22) n23 c24, .slice (sb ob26) n27 c28, .slice (sb ob30) n31 c32] 32 (0, 0)), (ob10, .cells (arr (intC .i64) r7.First j13).toArray 3 (0, 0)), (ob14, .cells (arr (intC .i64) r7.Head j17).toArray 3 (0, 0)), (ob18, .cells (arr (intC .i64) r7.Rev j21).toArray 3 (0, 0)), (ob22, .cells (arr (intC .i64) r7.Cap j25).toArray 2 (0, 0)), (ob26, .cells (arr (intC .i64) r7.Arc j29).toArray 3 (0, 0)), (ob30, .cells (arr boolC r7.Back j33).toArray 4 (0, 0)), (some b5, .cells #[.int .i64 0, .int .i64 0] 62 (0, 0)), (some b3, .cells #[.slice none 0 0, .slice none 0 0, .int .i64 0] 60 (0, 0)), (some b1, .cells #[.int .i64 n0.N, .int .i64 n0.S, .int .i64 n0.T, .slice n0f3_b n0f3_n n0f3_c] 24 (0, 0))]
  · exact Z6a
  · exact rfl
  · kernel_rfl
  · kernel_rfl
  · kernel_rfl
  · exact rfl
  · exact rfl
  · exact rfl
  · exact rfl
  · exact (by repeat (first | exact Z07 _ | exact Z0a | apply Pick.none | refine Z03 (by repeat (first | exact Take.head _ _ | apply Take.tail)) ?_))
  ·
   refine ⟨?_, ?_, ?_, ?_, ?_, ?_, ?_, ?_, ?_, ?_, trivial⟩
   · rintro vs es Es Hx -; refine Z0g (D := []) rfl ?_; refine Z0u rfl rfl rfl rfl Zc9 mm0 rfl ?_; refine Z02 ?_; exact Z0x rfl ⟨rfl, rfl⟩ (Z07 _) rfl
   · rintro vs es Es Hx -; refine Z0g (D := []) rfl ?_; refine Z0u rfl rfl rfl rfl Zc9 mm0 rfl ?_; refine Z02 ?_; exact Z0x rfl ⟨rfl, rfl⟩ (Z07 _) rfl
   · rintro vs es Es Hx ⟨⟨h_1, e_1⟩, -⟩; refine Z0g (D := [(23, vs 1)]) rfl ?_; rw [h_1]; refine Z0o Znp rfl rfl rfl rfl (fun wc hwc => Zj1 (c0 := r7) wc (hwc.rs (f := (intC .i64)) (s := 1) (xs := r7.First) (j := j13) (fun _ => rfl) mm1 hn34 hc35 hz37) (hwc.rs (f := (intC .i64)) (s := 1) (xs := r7.Head) (j := j17) (fun _ => rfl) mm2 hn38 hc39 hz41) (hwc.rs (f := (intC .i64)) (s := 1) (xs := r7.Rev) (j := j21) (fun _ => rfl) mm3 hn42 hc43 hz45) (hwc.rs (f := (intC .i64)) (s := 1) (xs := r7.Cap) (j := j25) (fun _ => rfl) mm4 hn46 hc47 hz49) (hwc.rs (f := (intC .i64)) (s := 1) (xs := r7.Arc) (j := j29) (fun _ => rfl) mm5 hn50 hc51 hz53) (hwc.rs (f := boolC) (s := 1) (xs := r7.Back) (j := j33) (fun _ => rfl) mm6 hn54 hc55 hz57) e68) ?_; rintro _ _ ⟨ob69, n70, c71, j72, ob73, n74, c75, j76, ob77, n78, c79, j80, rfl, rfl, hn81, hc82, hj83, hz84, hn85, hc86, hj87, hz88, hn89, hc90, hj91, hz92⟩; refine Z02 ?_; exact Z0x rfl ⟨ob69, n70, c71, j72, ob73, n74, c75, j76, ob77, n78, c79, j80, rfl, rfl, hn81, hc82, hj83, hz84, hn85, hc86, hj87, hz88, hn89, hc90, hj91, hz92⟩ (by repeat (first | exact Z07 _ | exact Z0a | apply Pick.none | refine Z03 (by repeat (first | exact Take.head _ _ | apply Take.tail)) ?_)) (by show [(23, vs 1)] = _; rw [h_1])
   · rintro vs es Es Hx ⟨⟨h_0, e_0⟩, ⟨ob69, n70, c71, j72, ob73, n74, c75, j76, ob77, n78, c79, j80, h_2, e_2, hn81, hc82, hj83, hz84, hn85, hc86, hj87, hz88, hn89, hc90, hj91, hz92⟩, -⟩; refine Z0g (D := [(22, vs 0), (24, vs 2)]) rfl ?_; rw [h_0, h_2]; refine Z1s (H := [(some b64, .cells #[.int .i64 r7.N, .int .i64 r7.S, .int .i64 r7.T, .slice (sb ob10) n11 c12, .slice (sb ob14) n15 c16, .slice (sb ob18) n19 c20, .slice (sb ob22) n23 c24, .slice (sb ob26) n27 c28, .slice (sb ob30) n31 c32] 32 (0, 0)), (ob10, .cells (arr (intC .i64) r7.First j13).toArray 3 (0, 0)), (ob14, .cells (arr (intC .i64) r7.Head j17).toArray 3 (0, 0)), (ob18, .cells (arr (intC .i64) r7.Rev j21).toArray 3 (0, 0)), (ob22, .cells (arr (intC .i64) r7.Cap j25).toArray 2 (0, 0)), (ob26, .cells (arr (intC .i64) r7.Arc j29).toArray 3 (0, 0)), (ob30, .cells (arr boolC r7.Back j33).toArray 4 (0, 0)), (some b5, .cells #[.int .i64 0, .int .i64 0] 62 (0, 0)), (some b3, .cells #[.slice none 0 0, .slice none 0 0, .int .i64 0] 60 (0, 0)), (some b1, .cells #[.int .i64 n0.N, .int .i64 n0.S, .int .i64 n0.T, .slice n0f3_b n0f3_n n0f3_c] 24 (0, 0))] ++ ([(ob69, .cells (arr (intC .i64) r67.Res j72).toArray 2 (0, 0)), (ob73, .cells (arr (intC .i64) r67.Ex j76).toArray 2 (0, 0)), (ob77, .cells (arr (intC .i64) r67.H j80).toArray 3 (0, 0))] ++ Hx)) (by show _ ++ ((es 0 ++ (es 2 ++ ([]))) ++ _) = _; rw [e_0, e_2]; rfl) ?_; refine Z0o Znm rfl rfl rfl rfl (fun wc hwc => Zkm (c0 := r7) (p1 := r67) wc (hwc.rs (f := (intC .i64)) (s := 1) (xs := r7.First) (j := j13) (fun _ => rfl) mm1 hn34 hc35 hz37) (hwc.rs (f := (intC .i64)) (s := 1) (xs := r7.Head) (j := j17) (fun _ => rfl) mm2 hn38 hc39 hz41) (hwc.rs (f := (intC .i64)) (s := 1) (xs := r7.Rev) (j := j21) (fun _ => rfl) mm3 hn42 hc43 hz45) (hwc.rs (f := (intC .i64)) (s := 1) (xs := r7.Cap) (j := j25) (fun _ => rfl) mm4 hn46 hc47 hz49) (hwc.rs (f := (intC .i64)) (s := 1) (xs := r7.Arc) (j := j29) (fun _ => rfl) mm5 hn50 hc51 hz53) (hwc.rs (f := boolC) (s := 1) (xs := r7.Back) (j := j33) (fun _ => rfl) mm6 hn54 hc55 hz57) (hwc.rs (f := (intC .i64)) (s := 1) (xs := r67.Res) (j := j72) (fun _ => rfl) mm10 hn81 hc82 hz84) (hwc.rs (f := (intC .i64)) (s := 1) (xs := r67.Ex) (j := j76) (fun _ => rfl) mm11 hn85 hc86 hz88) (hwc.rs (f := (intC .i64)) (s := 1) (xs := r67.H) (j := j80) (fun _ => rfl) mm12 hn89 hc90 hz92) e98) ?_; rintro _ _ ⟨ob99, n100, c101, j102, ob103, n104, c105, j106, ob107, n108, c109, j110, rfl, rfl, hn111, hc112, hj113, hz114, hn115, hc116, hj117, hz118, hn119, hc120, hj121, hz122⟩; refine Z02 ?_; exact Z0x rfl ⟨ob99, n100, c101, j102, ob103, n104, c105, j106, ob107, n108, c109, j110, rfl, rfl, hn111, hc112, hj113, hz114, hn115, hc116, hj117, hz118, hn119, hc120, hj121, hz122⟩ (by show Pick (_ ++ (_ ++ ((es 0 ++ (es 2 ++ ([]))) ++ _))) _; rw [e_0, e_2]; exact (by repeat (first | exact Z07 _ | exact Z0a | apply Pick.none | refine Z03 (by repeat (first | exact Take.head _ _ | apply Take.tail)) ?_))) (by show [(22, vs 0), (24, vs 2)] = _; rw [h_0, h_2])
   · rintro vs es Es Hx ⟨⟨ob99, n100, c101, j102, ob103, n104, c105, j106, ob107, n108, c109, j110, h_3, e_3, hn111, hc112, hj113, hz114, hn115, hc116, hj117, hz118, hn119, hc120, hj121, hz122⟩, -⟩; refine Z0g (D := [(25, vs 3)]) rfl ?_; rw [h_3]; refine Z1s (H := [(some b64, .cells #[.int .i64 r7.N, .int .i64 r7.S, .int .i64 r7.T, .slice (sb ob10) n11 c12, .slice (sb ob14) n15 c16, .slice (sb ob18) n19 c20, .slice (sb ob22) n23 c24, .slice (sb ob26) n27 c28, .slice (sb ob30) n31 c32] 32 (0, 0)), (ob10, .cells (arr (intC .i64) r7.First j13).toArray 3 (0, 0)), (ob14, .cells (arr (intC .i64) r7.Head j17).toArray 3 (0, 0)), (ob18, .cells (arr (intC .i64) r7.Rev j21).toArray 3 (0, 0)), (ob22, .cells (arr (intC .i64) r7.Cap j25).toArray 2 (0, 0)), (ob26, .cells (arr (intC .i64) r7.Arc j29).toArray 3 (0, 0)), (ob30, .cells (arr boolC r7.Back j33).toArray 4 (0, 0)), (some b5, .cells #[.int .i64 0, .int .i64 0] 62 (0, 0)), (some b3, .cells #[.slice none 0 0, .slice none 0 0, .int .i64 0] 60 (0, 0)), (some b1, .cells #[.int .i64 n0.N, .int .i64 n0.S, .int .i64 n0.T, .slice n0f3_b n0f3_n n0f3_c] 24 (0, 0))] ++ ([(ob99, .cells (arr (intC .i64) r96.Res j102).toArray 2 (0, 0)), (ob103, .cells (arr (intC .i64) r96.Ex j106).toArray 2 (0, 0)), (ob107, .cells (arr (intC .i64) r96.H j110).toArray 3 (0, 0))] ++ Hx)) (by show _ ++ ((es 3 ++ ([])) ++ _) = _; rw [e_3]; rfl) ?_; refine Z06 rfl rfl rfl rfl ?_; refine Z02 ?_; exact Z0x rfl ⟨by show _ = vs 3; rw [h_3] <;> rfl, rfl⟩ (by show Pick (_ ++ (_ ++ ((es 3 ++ ([])) ++ _))) _; rw [e_3]; exact (by repeat (first | exact Z07 _ | exact Z0a | apply Pick.none | refine Z03 (by repeat (first | exact Take.head _ _ | apply Take.tail)) ?_))) (by show [(25, vs 3)] = _; rw [h_3])
   ·
    rintro vs es Es Hx ⟨⟨ob99, n100, c101, j102, ob103, n104, c105, j106, ob107, n108, c109, j110, h_3, e_3, hn111, hc112, hj113, hz114, hn115, hc116, hj117, hz118, hn119, hc120, hj121, hz122⟩, ⟨q_4, e_4⟩, -⟩; have h_4 : vs 4 = .tuple #[.agg #[.slice (sb ob99) n100 c101, .slice (sb ob103) n104 c105, .slice (sb ob107) n108 c109], .agg #[.int .i64 r97.Pushes, .int .i64 r97.Lifts]] := by refine Eq.trans q_4 ?_; show vs 3 = _; rw [h_3] <;> rfl
    refine Z0g (D := [(25, vs 3), (21, vs 4)]) rfl ?_; rw [h_3, h_4]; refine Z1s (H := [(some b64, .cells #[.int .i64 r7.N, .int .i64 r7.S, .int .i64 r7.T, .slice (sb ob10) n11 c12, .slice (sb ob14) n15 c16, .slice (sb ob18) n19 c20, .slice (sb ob22) n23 c24, .slice (sb ob26) n27 c28, .slice (sb ob30) n31 c32] 32 (0, 0)), (ob10, .cells (arr (intC .i64) r7.First j13).toArray 3 (0, 0)), (ob14, .cells (arr (intC .i64) r7.Head j17).toArray 3 (0, 0)), (ob18, .cells (arr (intC .i64) r7.Rev j21).toArray 3 (0, 0)), (ob22, .cells (arr (intC .i64) r7.Cap j25).toArray 2 (0, 0)), (ob26, .cells (arr (intC .i64) r7.Arc j29).toArray 3 (0, 0)), (ob30, .cells (arr boolC r7.Back j33).toArray 4 (0, 0)), (some b5, .cells #[.int .i64 0, .int .i64 0] 62 (0, 0)), (some b3, .cells #[.slice none 0 0, .slice none 0 0, .int .i64 0] 60 (0, 0)), (some b1, .cells #[.int .i64 n0.N, .int .i64 n0.S, .int .i64 n0.T, .slice n0f3_b n0f3_n n0f3_c] 24 (0, 0))] ++ ([(ob99, .cells (arr (intC .i64) r96.Res j102).toArray 2 (0, 0)), (ob103, .cells (arr (intC .i64) r96.Ex j106).toArray 2 (0, 0)), (ob107, .cells (arr (intC .i64) r96.H j110).toArray 3 (0, 0))] ++ Hx)) (by show _ ++ ((es 3 ++ (es 4 ++ ([]))) ++ _) = _; rw [e_3, e_4]; rfl) ?_; refine TO.extract rfl rfl rfl rfl rfl ?_; refine Z02 ?_; exact Z0x rfl ⟨by show _ = (tupAt (vs 4) 0); rw [h_4] <;> rfl, rfl⟩ (by show Pick (_ ++ (_ ++ ((es 3 ++ (es 4 ++ ([]))) ++ _))) _; rw [e_3, e_4]; exact (by repeat (first | exact Z07 _ | exact Z0a | apply Pick.none | refine Z03 (by repeat (first | exact Take.head _ _ | apply Take.tail)) ?_))) (by show [(25, vs 3), (21, vs 4)] = _; rw [h_3, h_4])
   ·
    rintro vs es Es Hx ⟨⟨ob99, n100, c101, j102, ob103, n104, c105, j106, ob107, n108, c109, j110, h_3, e_3, hn111, hc112, hj113, hz114, hn115, hc116, hj117, hz118, hn119, hc120, hj121, hz122⟩, ⟨q_4, e_4⟩, -⟩; have h_4 : vs 4 = .tuple #[.agg #[.slice (sb ob99) n100 c101, .slice (sb ob103) n104 c105, .slice (sb ob107) n108 c109], .agg #[.int .i64 r97.Pushes, .int .i64 r97.Lifts]] := by refine Eq.trans q_4 ?_; show vs 3 = _; rw [h_3] <;> rfl
    refine Z0g (D := [(25, vs 3), (21, vs 4)]) rfl ?_; rw [h_3, h_4]; refine Z1s (H := [(some b64, .cells #[.int .i64 r7.N, .int .i64 r7.S, .int .i64 r7.T, .slice (sb ob10) n11 c12, .slice (sb ob14) n15 c16, .slice (sb ob18) n19 c20, .slice (sb ob22) n23 c24, .slice (sb ob26) n27 c28, .slice (sb ob30) n31 c32] 32 (0, 0)), (ob10, .cells (arr (intC .i64) r7.First j13).toArray 3 (0, 0)), (ob14, .cells (arr (intC .i64) r7.Head j17).toArray 3 (0, 0)), (ob18, .cells (arr (intC .i64) r7.Rev j21).toArray 3 (0, 0)), (ob22, .cells (arr (intC .i64) r7.Cap j25).toArray 2 (0, 0)), (ob26, .cells (arr (intC .i64) r7.Arc j29).toArray 3 (0, 0)), (ob30, .cells (arr boolC r7.Back j33).toArray 4 (0, 0)), (some b5, .cells #[.int .i64 0, .int .i64 0] 62 (0, 0)), (some b3, .cells #[.slice none 0 0, .slice none 0 0, .int .i64 0] 60 (0, 0)), (some b1, .cells #[.int .i64 n0.N, .int .i64 n0.S, .int .i64 n0.T, .slice n0f3_b n0f3_n n0f3_c] 24 (0, 0))] ++ ([(ob99, .cells (arr (intC .i64) r96.Res j102).toArray 2 (0, 0)), (ob103, .cells (arr (intC .i64) r96.Ex j106).toArray 2 (0, 0)), (ob107, .cells (arr (intC .i64) r96.H j110).toArray 3 (0, 0))] ++ Hx)) (by show _ ++ ((es 3 ++ (es 4 ++ ([]))) ++ _) = _; rw [e_3, e_4]; rfl) ?_; refine TO.extract rfl rfl rfl rfl rfl ?_; refine Z02 ?_; exact Z0x rfl ⟨rfl, rfl⟩ (by show Pick (_ ++ (_ ++ ((es 3 ++ (es 4 ++ ([]))) ++ _))) _; rw [e_3, e_4]; exact (by repeat (first | exact Z07 _ | exact Z0a | apply Pick.none | refine Z03 (by repeat (first | exact Take.head _ _ | apply Take.tail)) ?_))) (by show [(25, vs 3), (21, vs 4)] = _; rw [h_3, h_4])
   · rintro vs es Es Hx -; refine Z0g (D := []) rfl ?_; refine Z0z rfl rfl rfl Zib ?_; intro b126; refine Z02 ?_; exact Z0x rfl ⟨b126, rfl, rfl⟩ (by repeat (first | exact Z07 _ | exact Z0a | apply Pick.none | refine Z03 (by repeat (first | exact Take.head _ _ | apply Take.tail)) ?_)) rfl
   · rintro vs es Es Hx -; refine Z0g (D := []) rfl ?_; refine Z0z rfl rfl rfl Zc5 ?_; intro b128; refine Z02 ?_; exact Z0x rfl ⟨b128, rfl, rfl⟩ (by repeat (first | exact Z07 _ | exact Z0a | apply Pick.none | refine Z03 (by repeat (first | exact Take.head _ _ | apply Take.tail)) ?_)) rfl
   ·
    rintro vs es Es Hx ⟨⟨ob99, n100, c101, j102, ob103, n104, c105, j106, ob107, n108, c109, j110, h_3, e_3, hn111, hc112, hj113, hz114, hn115, hc116, hj117, hz118, hn119, hc120, hj121, hz122⟩, ⟨q_4, e_4⟩, ⟨q_5, e_5⟩, ⟨b126, h_7, e_7⟩, -⟩; have h_4 : vs 4 = .tuple #[.agg #[.slice (sb ob99) n100 c101, .slice (sb ob103) n104 c105, .slice (sb ob107) n108 c109], .agg #[.int .i64 r97.Pushes, .int .i64 r97.Lifts]] := by refine Eq.trans q_4 ?_; show vs 3 = _; rw [h_3] <;> rfl
    have h_5 : vs 5 = .agg #[.slice (sb ob99) n100 c101, .slice (sb ob103) n104 c105, .slice (sb ob107) n108 c109] := by refine Eq.trans q_5 ?_; show (tupAt (vs 4) 0) = _; rw [h_4] <;> rfl
    refine Z0g (D := [(25, vs 3), (21, vs 4), (26, vs 5), (7, vs 7)]) rfl ?_; rw [h_3, h_4, h_5, h_7]; refine Z1s (H := [(some b64, .cells #[.int .i64 r7.N, .int .i64 r7.S, .int .i64 r7.T, .slice (sb ob10) n11 c12, .slice (sb ob14) n15 c16, .slice (sb ob18) n19 c20, .slice (sb ob22) n23 c24, .slice (sb ob26) n27 c28, .slice (sb ob30) n31 c32] 32 (0, 0)), (ob10, .cells (arr (intC .i64) r7.First j13).toArray 3 (0, 0)), (ob14, .cells (arr (intC .i64) r7.Head j17).toArray 3 (0, 0)), (ob18, .cells (arr (intC .i64) r7.Rev j21).toArray 3 (0, 0)), (ob22, .cells (arr (intC .i64) r7.Cap j25).toArray 2 (0, 0)), (ob26, .cells (arr (intC .i64) r7.Arc j29).toArray 3 (0, 0)), (ob30, .cells (arr boolC r7.Back j33).toArray 4 (0, 0)), (some b5, .cells #[.int .i64 0, .int .i64 0] 62 (0, 0)), (some b3, .cells #[.slice none 0 0, .slice none 0 0, .int .i64 0] 60 (0, 0)), (some b1, .cells #[.int .i64 n0.N, .int .i64 n0.S, .int .i64 n0.T, .slice n0f3_b n0f3_n n0f3_c] 24 (0, 0))] ++ ([(ob99, .cells (arr (intC .i64) r96.Res j102).toArray 2 (0, 0)), (ob103, .cells (arr (intC .i64) r96.Ex j106).toArray 2 (0, 0)), (ob107, .cells (arr (intC .i64) r96.H j110).toArray 3 (0, 0)), (some b126, .cells #[.slice none 0 0, .slice none 0 0, .slice none 0 0] 29 (0, 0))] ++ Hx)) (by show _ ++ ((es 3 ++ (es 4 ++ (es 5 ++ (es 7 ++ ([]))))) ++ _) = _; rw [e_3, e_4, e_5, e_7]; rfl) ?_; refine Z0t rfl rfl rfl rfl tk13 Zie rfl rfl rfl ?_; refine Z1s (H := [(some (blkAt (vs 7)), .cells #[(Zh5 (vs 5) 0), (Zh5 (vs 5) 1), (Zh5 (vs 5) 2)] 29 (0, 0)), (some b64, .cells #[.int .i64 r7.N, .int .i64 r7.S, .int .i64 r7.T, .slice (sb ob10) n11 c12, .slice (sb ob14) n15 c16, .slice (sb ob18) n19 c20, .slice (sb ob22) n23 c24, .slice (sb ob26) n27 c28, .slice (sb ob30) n31 c32] 32 (0, 0)), (ob10, .cells (arr (intC .i64) r7.First j13).toArray 3 (0, 0)), (ob14, .cells (arr (intC .i64) r7.Head j17).toArray 3 (0, 0)), (ob18, .cells (arr (intC .i64) r7.Rev j21).toArray 3 (0, 0)), (ob22, .cells (arr (intC .i64) r7.Cap j25).toArray 2 (0, 0)), (ob26, .cells (arr (intC .i64) r7.Arc j29).toArray 3 (0, 0)), (ob30, .cells (arr boolC r7.Back j33).toArray 4 (0, 0)), (some b5, .cells #[.int .i64 0, .int .i64 0] 62 (0, 0)), (some b3, .cells #[.slice none 0 0, .slice none 0 0, .int .i64 0] 60 (0, 0)), (some b1, .cells #[.int .i64 n0.N, .int .i64 n0.S, .int .i64 n0.T, .slice n0f3_b n0f3_n n0f3_c] 24 (0, 0)), (ob99, .cells (arr (intC .i64) r96.Res j102).toArray 2 (0, 0)), (ob103, .cells (arr (intC .i64) r96.Ex j106).toArray 2 (0, 0)), (ob107, .cells (arr (intC .i64) r96.H j110).toArray 3 (0, 0))] ++ Hx) (by rw [h_5, h_7] <;> rfl) ?_; refine Z02 ?_; exact X.obQn rfl rfl (by show Pick (_ ++ (_ ++ ((es 3 ++ (es 4 ++ (es 5 ++ ([])))) ++ _))) _; rw [e_3, e_4, e_5]; exact (by repeat (first | exact Z07 _ | exact Z0a | apply Pick.none | refine Z03 (by repeat (first | exact Take.head _ _ | apply Take.tail)) ?_))) (by show [(25, vs 3), (21, vs 4), (26, vs 5), (7, vs 7)] = _; rw [h_3, h_4, h_5, h_7])
  ·
   rintro vs es hb ⟨⟨h_0, e_0⟩, ⟨h_1, e_1⟩, ⟨ob69, n70, c71, j72, ob73, n74, c75, j76, ob77, n78, c79, j80, h_2, e_2, hn81, hc82, hj83, hz84, hn85, hc86, hj87, hz88, hn89, hc90, hj91, hz92⟩, ⟨ob99, n100, c101, j102, ob103, n104, c105, j106, ob107, n108, c109, j110, h_3, e_3, hn111, hc112, hj113, hz114, hn115, hc116, hj117, hz118, hn119, hc120, hj121, hz122⟩, ⟨q_4, e_4⟩, ⟨q_5, e_5⟩, ⟨h_6, e_6⟩, ⟨b126, h_7, e_7⟩, ⟨b128, h_8, e_8⟩, e_9, -⟩ hHR; obtain rfl : hb = [] := hHR; have h_4 : vs 4 = .tuple #[.agg #[.slice (sb ob99) n100 c101, .slice (sb ob103) n104 c105, .slice (sb ob107) n108 c109], .agg #[.int .i64 r97.Pushes, .int .i64 r97.Lifts]] := by refine Eq.trans q_4 ?_; show vs 3 = _; rw [h_3] <;> rfl
   have h_5 : vs 5 = .agg #[.slice (sb ob99) n100 c101, .slice (sb ob103) n104 c105, .slice (sb ob107) n108 c109] := by refine Eq.trans q_5 ?_; show (tupAt (vs 4) 0) = _; rw [h_4] <;> rfl
   refine Z0g (D := [(22, vs 0), (23, vs 1), (24, vs 2), (25, vs 3), (21, vs 4), (26, vs 5), (27, vs 6), (7, vs 7), (8, vs 8)]) rfl ?_; refine Z1s (H := [(some b64, .cells #[.int .i64 r7.N, .int .i64 r7.S, .int .i64 r7.T, .slice (sb ob10) n11 c12, .slice (sb ob14) n15 c16, .slice (sb ob18) n19 c20, .slice (sb ob22) n23 c24, .slice (sb ob26) n27 c28, .slice (sb ob30) n31 c32] 32 (0, 0)), (ob10, .cells (arr (intC .i64) r7.First j13).toArray 3 (0, 0)), (ob14, .cells (arr (intC .i64) r7.Head j17).toArray 3 (0, 0)), (ob18, .cells (arr (intC .i64) r7.Rev j21).toArray 3 (0, 0)), (ob22, .cells (arr (intC .i64) r7.Cap j25).toArray 2 (0, 0)), (ob26, .cells (arr (intC .i64) r7.Arc j29).toArray 3 (0, 0)), (ob30, .cells (arr boolC r7.Back j33).toArray 4 (0, 0)), (some b5, .cells #[.int .i64 0, .int .i64 0] 62 (0, 0)), (some b3, .cells #[.slice none 0 0, .slice none 0 0, .int .i64 0] 60 (0, 0)), (some b1, .cells #[.int .i64 n0.N, .int .i64 n0.S, .int .i64 n0.T, .slice n0f3_b n0f3_n n0f3_c] 24 (0, 0)), (ob69, .cells (arr (intC .i64) r67.Res j72).toArray 2 (0, 0)), (ob73, .cells (arr (intC .i64) r67.Ex j76).toArray 2 (0, 0)), (ob77, .cells (arr (intC .i64) r67.H j80).toArray 3 (0, 0)), (ob99, .cells (arr (intC .i64) r96.Res j102).toArray 2 (0, 0)), (ob103, .cells (arr (intC .i64) r96.Ex j106).toArray 2 (0, 0)), (ob107, .cells (arr (intC .i64) r96.H j110).toArray 3 (0, 0)), (some b128, .cells #[.int .i64 0, .int .i64 0] 62 (0, 0)), (some (blkAt (vs 7)), .cells #[(Zh5 (vs 5) 0), (Zh5 (vs 5) 1), (Zh5 (vs 5) 2)] 29 (0, 0))]) (by show _ ++ (_ ++ (es 0 ++ (es 1 ++ (es 2 ++ (es 3 ++ (es 4 ++ (es 5 ++ (es 6 ++ (es 8 ++ (es 9 ++ ([]))))))))))) = _; rw [e_0, e_1, e_2, e_3, e_4, e_5, e_6, e_8, e_9]; rfl) ?_; rw [h_0, h_1, h_2, h_3, h_4, h_5, h_6, h_7, h_8]; refine Z1s (H := [(some b64, .cells #[.int .i64 r7.N, .int .i64 r7.S, .int .i64 r7.T, .slice (sb ob10) n11 c12, .slice (sb ob14) n15 c16, .slice (sb ob18) n19 c20, .slice (sb ob22) n23 c24, .slice (sb ob26) n27 c28, .slice (sb ob30) n31 c32] 32 (0, 0)), (ob10, .cells (arr (intC .i64) r7.First j13).toArray 3 (0, 0)), (ob14, .cells (arr (intC .i64) r7.Head j17).toArray 3 (0, 0)), (ob18, .cells (arr (intC .i64) r7.Rev j21).toArray 3 (0, 0)), (ob22, .cells (arr (intC .i64) r7.Cap j25).toArray 2 (0, 0)), (ob26, .cells (arr (intC .i64) r7.Arc j29).toArray 3 (0, 0)), (ob30, .cells (arr boolC r7.Back j33).toArray 4 (0, 0)), (some b5, .cells #[.int .i64 0, .int .i64 0] 62 (0, 0)), (some b3, .cells #[.slice none 0 0, .slice none 0 0, .int .i64 0] 60 (0, 0)), (some b1, .cells #[.int .i64 n0.N, .int .i64 n0.S, .int .i64 n0.T, .slice n0f3_b n0f3_n n0f3_c] 24 (0, 0)), (ob69, .cells (arr (intC .i64) r67.Res j72).toArray 2 (0, 0)), (ob73, .cells (arr (intC .i64) r67.Ex j76).toArray 2 (0, 0)), (ob77, .cells (arr (intC .i64) r67.H j80).toArray 3 (0, 0)), (ob99, .cells (arr (intC .i64) r96.Res j102).toArray 2 (0, 0)), (ob103, .cells (arr (intC .i64) r96.Ex j106).toArray 2 (0, 0)), (ob107, .cells (arr (intC .i64) r96.H j110).toArray 3 (0, 0)), (some b128, .cells #[.int .i64 0, .int .i64 0] 62 (0, 0)), (some b126, .cells #[.slice (sb ob99) n100 c101, .slice (sb ob103) n104 c105, .slice (sb ob107) n108 c109] 29 (0, 0))]) rfl ?_; clear h_8 h_7 h_6 h_5 h_4 h_3 h_2 h_1 h_0 q_4 q_5 e_0 e_1 e_2 e_3 e_4 e_5 e_6 e_7 e_8 e_9; refine Z0t rfl rfl rfl rfl tk16 Z7h rfl rfl rfl ?_; refine Z02 ?_; refine Z01 ?_; refine Z0l (Z00 (t := 1) rfl (Z00 (t := 2) rfl (Z00 (t := 3) rfl (Z00 (t := 5) rfl (Z00 (t := 7) rfl (Z00 (t := 8) rfl Z0b)))))) ?_; refine Z0d ?_; obtain ⟨⟨r130, r131⟩, e132, H⟩ := Z0k H; refine Z04 (ll := [0, 1, 2, 3, 4, 5, 6, 7, 8, 9, 10, 11]) rfl ?_; refine Z0u rfl rfl rfl rfl Zc9 mm1 rfl ?_; refine Z05 rfl rfl rfl rfl Z8k ?_; refine Z0c rfl rfl rfl rfl Z59 mm17 rfl ?_; refine Z05 rfl rfl rfl rfl Zex ?_; refine Z0c rfl rfl rfl rfl Zic mm10 rfl ?_; refine Z1f (xs := n0.Arcs) h_n0f3.len rfl rfl rfl rfl rfl Zes ?_; refine Z0o Znl rfl rfl rfl rfl (fun wc hwc => Zkp (c0 := r7) (res1 := r96.Res) (arcs2 := (n0.Arcs.length : Int)) wc (hwc.rs (f := (intC .i64)) (s := 1) (xs := r7.First) (j := j13) (fun _ => rfl) mm2 hn34 hc35 hz37) (hwc.rs (f := (intC .i64)) (s := 1) (xs := r7.Head) (j := j17) (fun _ => rfl) mm3 hn38 hc39 hz41) (hwc.rs (f := (intC .i64)) (s := 1) (xs := r7.Rev) (j := j21) (fun _ => rfl) mm4 hn42 hc43 hz45) (hwc.rs (f := (intC .i64)) (s := 1) (xs := r7.Cap) (j := j25) (fun _ => rfl) mm5 hn46 hc47 hz49) (hwc.rs (f := (intC .i64)) (s := 1) (xs := r7.Arc) (j := j29) (fun _ => rfl) mm6 hn50 hc51 hz53) (hwc.rs (f := boolC) (s := 1) (xs := r7.Back) (j := j33) (fun _ => rfl) mm7 hn54 hc55 hz57) (hwc.rs (f := (intC .i64)) (s := 1) (xs := r96.Res) (j := j102) (fun _ => rfl) mm14 hn111 hc112 hz114) e132) ?_; rintro _ _ ⟨ob133, n134, c135, j136, rfl, rfl, hn137, hc138, hj139, hz140⟩; refine Z06 rfl rfl rfl rfl ?_; refine TO.extract rfl rfl rfl rfl rfl ?_; refine TO.extract rfl rfl rfl rfl rfl ?_; refine Z09 rfl rfl rfl rfl ?_; refine Z09 rfl rfl rfl rfl ?_; refine Z02 ?_; refine Z01 ?_; refine Z0l (Z00 (t := 1) rfl (Z00 (t := 2) rfl (Z00 (t := 3) rfl (Z00 (t := 7) rfl (Z00 (t := 8) rfl (Z00 (t := 9) rfl (Z00 (t := 6) rfl Z0b))))))) ?_; refine Z0d ?_; refine Z0d ?_; refine Z04 (ll := [0, 1]) rfl ?_; refine Z06 rfl rfl rfl rfl ?_; refine Z0p rfl rfl rfl rfl rfl rfl ?_; refine Z02 ?_; refine Z01 ?_; rcases Z0i H with ⟨g142, H⟩ | ⟨g142, H⟩
   · refine Z15 rfl g142 ?_; refine Z0d ?_; refine Z04 (ll := [0, 1, 2, 3, 4, 5]) rfl ?_; refine Z0y (t := 60) [.slice none 0 0, .slice none 0 0, .int .i64 0] [0, 1, 2] rfl rfl rfl rfl (by simp only [Z1n, setCells, Value.cells, List.toList_toArray, List.getD_cons_zero, List.getD_cons_succ, List.set_cons_zero, List.set_cons_succ]; rfl) (by kernel_rfl) ?_; refine Z0y (t := 62) [.int .i64 0, .int .i64 0] [0, 1] rfl rfl rfl rfl (by simp only [Z1n, setCells, Value.cells, List.toList_toArray, List.getD_cons_zero, List.getD_cons_succ, List.set_cons_zero, List.set_cons_succ]; rfl) (by kernel_rfl) ?_; refine Z06 rfl rfl rfl rfl ?_; refine Z0t rfl rfl rfl rfl tk10 Zc6 rfl rfl rfl ?_; refine Z0t rfl rfl rfl rfl tk10 Z7h rfl rfl rfl ?_; refine Z09 rfl rfl rfl rfl ?_; refine Z02 ?_; refine Z01 ?_; refine Z0l (Z00 (t := 2) rfl (Z00 (t := 3) rfl (Z00 (t := 4) rfl Z0b))) ?_; refine T.ret ?_; refine Z0h ?_; obtain ⟨rfl, rfl, rfl⟩ := ret3 H; exact Zek rfl rfl rfl rfl (Z29 rfl Zc8 mm1 rfl) (Z29 rfl Z6q mm0 rfl) (Res.tmp rfl) (Pick.none (Pick.none Z0a)) ⟨none, 0, 0, ([]), none, 0, 0, ([]), rfl, rfl, rfl, (Nat.le_refl _), (Z30 0 _), (fun _ => rfl), rfl, (Nat.le_refl _), (Z30 0 _), (fun _ => rfl)⟩
   ·
    refine Z16 rfl g142 ?_; refine T.skip ?_; refine Z01 ?_; refine Z0d ?_; obtain ⟨⟨r143, r144⟩, e145, H⟩ := Z0k H; refine Z04 (ll := [0, 1, 2, 3, 4, 5, 6, 7]) rfl ?_; refine Z0u rfl rfl rfl rfl Zez mm11 rfl ?_; refine Z06 rfl rfl rfl rfl ?_; refine Z0o Znk rfl rfl rfl rfl (fun wc hwc => w_cut_To (n0 := n0) (f1 := r130) wc (h_n0f3.mono hwc) (hwc.rs (f := (intC .i64)) (s := 1) (xs := r130) (j := j136) (fun _ => rfl) mm0 hn137 hc138 hz140) e145) ?_; rintro _ _ ⟨ob146, n147, c148, j149, rfl, rfl, hn150, hc151, hj152, hz153⟩; refine Z06 rfl rfl rfl rfl ?_; refine TO.extract rfl rfl rfl rfl rfl ?_; refine TO.extract rfl rfl rfl rfl rfl ?_; refine Z09 rfl rfl rfl rfl ?_; refine Z09 rfl rfl rfl rfl ?_; refine Z02 ?_; refine Z01 ?_; refine Z0l (Z00 (t := 1) rfl (Z00 (t := 2) rfl (Z00 (t := 3) rfl (Z00 (t := 7) rfl (Z00 (t := 8) rfl (Z00 (t := 9) rfl (Z00 (t := 6) rfl (Z00 (t := 10) rfl Z0b)))))))) ?_; refine Z0d ?_; refine Z0d ?_; refine Z04 (ll := [0, 1]) rfl ?_; refine Z06 rfl rfl rfl rfl ?_; refine Z0p rfl rfl rfl rfl rfl rfl ?_; refine Z02 ?_; refine Z01 ?_; rcases Z0i H with ⟨g155, H⟩ | ⟨g155, H⟩
    · refine Z15 rfl g155 ?_; refine Z0d ?_; refine Z04 (ll := [0, 1, 2, 3, 4, 5]) rfl ?_; refine Z0y (t := 60) [.slice none 0 0, .slice none 0 0, .int .i64 0] [0, 1, 2] rfl rfl rfl rfl (by simp only [Z1n, setCells, Value.cells, List.toList_toArray, List.getD_cons_zero, List.getD_cons_succ, List.set_cons_zero, List.set_cons_succ]; rfl) (by kernel_rfl) ?_; refine Z0y (t := 62) [.int .i64 0, .int .i64 0] [0, 1] rfl rfl rfl rfl (by simp only [Z1n, setCells, Value.cells, List.toList_toArray, List.getD_cons_zero, List.getD_cons_succ, List.set_cons_zero, List.set_cons_succ]; rfl) (by kernel_rfl) ?_; refine Z06 rfl rfl rfl rfl ?_; refine Z0t rfl rfl rfl rfl tk11 Zc6 rfl rfl rfl ?_; refine Z0t rfl rfl rfl rfl tk11 Z7h rfl rfl rfl ?_; refine Z09 rfl rfl rfl rfl ?_; refine Z02 ?_; refine Z01 ?_; refine Z0l (Z00 (t := 2) rfl (Z00 (t := 3) rfl (Z00 (t := 4) rfl Z0b))) ?_; refine T.ret ?_; refine Z0h ?_; obtain ⟨rfl, rfl, rfl⟩ := ret3 H; exact Zek rfl rfl rfl rfl (Z29 rfl Zc8 mm1 rfl) (Z29 rfl Z6q mm0 rfl) (Res.tmp rfl) (Pick.none (Pick.none Z0a)) ⟨none, 0, 0, ([]), none, 0, 0, ([]), rfl, rfl, rfl, (Nat.le_refl _), (Z30 0 _), (fun _ => rfl), rfl, (Nat.le_refl _), (Z30 0 _), (fun _ => rfl)⟩
    ·
     refine Z16 rfl g155 ?_; refine T.skip ?_; refine Z01 ?_; refine Z0d ?_; obtain ⟨g156, H⟩ := Z0e H; apply Z8m [⟨[], false, [], Z3j _⟩, ⟨[], false, [], Z3j _⟩, ⟨[], false, [], Z3j _⟩, ⟨[2], false, [], Z3j _⟩, ⟨[], false, [], Z3j _⟩, ⟨[4], false, [], Z3j _⟩, ⟨[3, 5], false, [], Z3j _⟩, ⟨[3, 5, 6], false, [], Z3j _⟩, ⟨[0, 1, 7], false, [], Z3j _⟩, ⟨[], false, [], Z3j _⟩, ⟨[8], true, [], relN⟩] [54, 55, 56, 57, 58, 59, 60, 61, 62, 63] 11 (HRk [[(some b3, .cells #[.slice none 0 0, .slice none 0 0, .int .i64 0] 60 (0, 0))], [(some b3, .cells #[.slice (sb ob133) n134 c135, .slice (sb ob146) n147 c148, .int .i64 (r96.Ex.getD n0.T.toNat 0)] 60 (0, 0))]]) [[], []] [(some b3, .cells #[.slice none 0 0, .slice none 0 0, .int .i64 0] 60 (0, 0))] [(ob146, .cells (arr boolC r143 j149).toArray 4 (0, 0)), (ob133, .cells (arr (intC .i64) r130 j136).toArray 2 (0, 0)), (some b128, .cells #[.int .i64 r97.Pushes, .int .i64 r97.Lifts] 62 (0, 0)), (some b64, .cells #[.int .i64 r7.N, .int .i64 r7.S, .int .i64 r7.T, .slice (sb ob10) n11 c12, .slice (sb ob14) n15 c16, .slice (sb ob18) n19 c20, .slice (sb ob22) n23 c24, .slice (sb ob26) n27 c28, .slice (sb ob30) n31 c32] 32 (0, 0)), (ob10, .cells (arr (intC .i64) r7.First j13).toArray 3 (0, 0)), (ob14, .cells (arr (intC .i64) r7.Head j17).toArray 3 (0, 0)), (ob18, .cells (arr (intC .i64) r7.Rev j21).toArray 3 (0, 0)), (ob22, .cells (arr (intC .i64) r7.Cap j25).toArray 2 (0, 0)), (ob26, .cells (arr (intC .i64) r7.Arc j29).toArray 3 (0, 0)), (ob30, .cells (arr boolC r7.Back j33).toArray 4 (0, 0)), (some b5, .cells #[.int .i64 0, .int .i64 0] 62 (0, 0)), (some b1, .cells #[.int .i64 n0.N, .int .i64 n0.S, .int .i64 n0.T, .slice n0f3_b n0f3_n n0f3_c] 24 (0, 0)), (ob69, .cells (arr (intC .i64) r67.Res j72).toArray 2 (0, 0)), (ob73, .cells (arr (intC .i64) r67.Ex j76).toArray 2 (0, 0)), (ob77, .cells (arr (intC .i64) r67.H j80).toArray 3 (0, 0)), (ob99, .cells (arr (intC .i64) r96.Res j102).toArray 2 (0, 0)), (ob103, .cells (arr (intC .i64) r96.Ex j106).toArray 2 (0, 0)), (ob107, .cells (arr (intC .i64) r96.H j110).toArray 3 (0, 0)), (some b126, .cells #[.slice (sb ob99) n100 c101, .slice (sb ob103) n104 c105, .slice (sb ob107) n108 c109] 29 (0, 0))]
     · exact Z6a
     · exact rfl
     · kernel_rfl
     · kernel_rfl
     · kernel_rfl
     · exact rfl
     · exact rfl
     · exact rfl
     · exact rfl
     · exact (by repeat (first | exact Z07 _ | exact Z0a | apply Pick.none | refine Z03 (by repeat (first | exact Take.head _ _ | apply Take.tail)) ?_))
     ·
      refine ⟨?_, ?_, ?_, ?_, ?_, ?_, ?_, ?_, ?_, ?_, ?_, trivial⟩
      · rintro vs es Es Hx -; refine Z0g (D := []) rfl ?_; refine Z06 rfl rfl rfl rfl ?_; refine Z02 ?_; exact Z0x rfl ⟨rfl, rfl⟩ (Z07 _) rfl
      · rintro vs es Es Hx -; refine Z0g (D := []) rfl ?_; refine Z06 rfl rfl rfl rfl ?_; refine Z02 ?_; exact Z0x rfl ⟨rfl, rfl⟩ (Z07 _) rfl
      · rintro vs es Es Hx -; refine Z0g (D := []) rfl ?_; refine Z05 rfl rfl rfl rfl Z70 ?_; refine Z02 ?_; exact Z0x rfl ⟨rfl, rfl⟩ (Z07 _) rfl
      · rintro vs es Es Hx ⟨⟨h_2, e_2⟩, -⟩; refine Z0g (D := [(56, vs 2)]) rfl ?_; rw [h_2]; refine Z0c rfl rfl rfl rfl Z59 mm18 rfl ?_; refine Z02 ?_; exact Z0x rfl ⟨rfl, rfl⟩ (Z07 _) (by show [(56, vs 2)] = _; rw [h_2])
      · rintro vs es Es Hx -; refine Z0g (D := []) rfl ?_; refine Z05 rfl rfl rfl rfl Zjn ?_; refine Z02 ?_; exact Z0x rfl ⟨rfl, rfl⟩ (Z07 _) rfl
      · rintro vs es Es Hx ⟨⟨h_4, e_4⟩, -⟩; refine Z0g (D := [(58, vs 4)]) rfl ?_; rw [h_4]; refine Z0c rfl rfl rfl rfl Z2z mm11 rfl ?_; refine Z02 ?_; exact Z0x rfl ⟨rfl, rfl⟩ (Z07 _) (by show [(58, vs 4)] = _; rw [h_4])
      · rintro vs es Es Hx ⟨⟨h_3, e_3⟩, ⟨h_5, e_5⟩, -⟩; refine Z0g (D := [(57, vs 3), (59, vs 5)]) rfl ?_; rw [h_3, h_5]; refine Z2x hz118 hc116 hn115 g156 rfl rfl rfl rfl rfl Z3z Z3q ?_; refine Z02 ?_; exact Z0x rfl ⟨rfl, rfl⟩ (Z07 _) (by show [(57, vs 3), (59, vs 5)] = _; rw [h_3, h_5])
      · rintro vs es Es Hx ⟨⟨h_3, e_3⟩, ⟨h_5, e_5⟩, ⟨h_6, e_6⟩, -⟩; refine Z0g (D := [(57, vs 3), (59, vs 5), (60, vs 6)]) rfl ?_; rw [h_3, h_5, h_6]; refine Z5n hz118 hc116 hn115 g156 rfl rfl rfl rfl Z79 mm16 ?_; refine Z02 ?_; exact Z0x rfl ⟨rfl, rfl⟩ (Z07 _) (by show [(57, vs 3), (59, vs 5), (60, vs 6)] = _; rw [h_3, h_5, h_6])
      · rintro vs es Es Hx ⟨⟨h_0, e_0⟩, ⟨h_1, e_1⟩, ⟨h_7, e_7⟩, -⟩; refine Z0g (D := [(54, vs 0), (55, vs 1), (61, vs 7)]) rfl ?_; rw [h_0, h_1, h_7]; refine Z0y (t := 60) [.slice none 0 0, .slice none 0 0, .int .i64 0] [0, 1, 2] rfl rfl rfl rfl (by simp only [Z1n, setCells, Value.cells, List.toList_toArray, List.getD_cons_zero, List.getD_cons_succ, List.set_cons_zero, List.set_cons_succ]; rfl) (by kernel_rfl) ?_; refine Z02 ?_; exact Z0x rfl ⟨rfl, rfl⟩ (Z07 _) (by show [(54, vs 0), (55, vs 1), (61, vs 7)] = _; rw [h_0, h_1, h_7])
      · rintro vs es Es Hx -; refine Z0g (D := []) rfl ?_; refine Z0u rfl rfl rfl rfl Z6q mm2 rfl ?_; refine Z02 ?_; exact Z0x rfl ⟨rfl, rfl⟩ (Z07 _) rfl
      · rintro vs es Es Hx hb ⟨⟨h_8, e_8⟩, -⟩ hHR; obtain rfl : hb = [(some b3, .cells #[.slice none 0 0, .slice none 0 0, .int .i64 0] 60 (0, 0))] := hHR; refine Z0g (D := [(62, vs 8)]) rfl ?_; rw [h_8]; refine Z0t rfl rfl rfl rfl tk0 Zc6 rfl rfl rfl ?_; refine Z02 ?_; exact Zfr (hb' := [(some b3, .cells #[.slice (sb ob133) n134 c135, .slice (sb ob146) n147 c148, .int .i64 (r96.Ex.getD n0.T.toNat 0)] 60 (0, 0))]) rfl rfl rfl (by repeat (first | exact Z07 _ | exact Z0a | apply Pick.none | refine Z03 (by repeat (first | exact Take.head _ _ | apply Take.tail)) ?_)) (by show [(62, vs 8)] = _; rw [h_8])
     · rintro vs es hb ⟨⟨h_0, e_0⟩, ⟨h_1, e_1⟩, ⟨h_2, e_2⟩, ⟨h_3, e_3⟩, ⟨h_4, e_4⟩, ⟨h_5, e_5⟩, ⟨h_6, e_6⟩, ⟨h_7, e_7⟩, ⟨h_8, e_8⟩, ⟨h_9, e_9⟩, e_10, -⟩ hHR; obtain rfl : hb = [(some b3, .cells #[.slice (sb ob133) n134 c135, .slice (sb ob146) n147 c148, .int .i64 (r96.Ex.getD n0.T.toNat 0)] 60 (0, 0))] := hHR; refine Z0g (D := [(54, vs 0), (55, vs 1), (56, vs 2), (57, vs 3), (58, vs 4), (59, vs 5), (60, vs 6), (61, vs 7), (62, vs 8), (63, vs 9)]) rfl ?_; refine Z1s (H := [(some b3, .cells #[.slice (sb ob133) n134 c135, .slice (sb ob146) n147 c148, .int .i64 (r96.Ex.getD n0.T.toNat 0)] 60 (0, 0)), (ob146, .cells (arr boolC r143 j149).toArray 4 (0, 0)), (ob133, .cells (arr (intC .i64) r130 j136).toArray 2 (0, 0)), (some b128, .cells #[.int .i64 r97.Pushes, .int .i64 r97.Lifts] 62 (0, 0)), (some b64, .cells #[.int .i64 r7.N, .int .i64 r7.S, .int .i64 r7.T, .slice (sb ob10) n11 c12, .slice (sb ob14) n15 c16, .slice (sb ob18) n19 c20, .slice (sb ob22) n23 c24, .slice (sb ob26) n27 c28, .slice (sb ob30) n31 c32] 32 (0, 0)), (ob10, .cells (arr (intC .i64) r7.First j13).toArray 3 (0, 0)), (ob14, .cells (arr (intC .i64) r7.Head j17).toArray 3 (0, 0)), (ob18, .cells (arr (intC .i64) r7.Rev j21).toArray 3 (0, 0)), (ob22, .cells (arr (intC .i64) r7.Cap j25).toArray 2 (0, 0)), (ob26, .cells (arr (intC .i64) r7.Arc j29).toArray 3 (0, 0)), (ob30, .cells (arr boolC r7.Back j33).toArray 4 (0, 0)), (some b5, .cells #[.int .i64 0, .int .i64 0] 62 (0, 0)), (some b1, .cells #[.int .i64 n0.N, .int .i64 n0.S, .int .i64 n0.T, .slice n0f3_b n0f3_n n0f3_c] 24 (0, 0)), (ob69, .cells (arr (intC .i64) r67.Res j72).toArray 2 (0, 0)), (ob73, .cells (arr (intC .i64) r67.Ex j76).toArray 2 (0, 0)), (ob77, .cells (arr (intC .i64) r67.H j80).toArray 3 (0, 0)), (ob99, .cells (arr (intC .i64) r96.Res j102).toArray 2 (0, 0)), (ob103, .cells (arr (intC .i64) r96.Ex j106).toArray 2 (0, 0)), (ob107, .cells (arr (intC .i64) r96.H j110).toArray 3 (0, 0)), (some b126, .cells #[.slice (sb ob99) n100 c101, .slice (sb ob103) n104 c105, .slice (sb ob107) n108 c109] 29 (0, 0))]) (by show _ ++ (_ ++ (es 0 ++ (es 1 ++ (es 2 ++ (es 3 ++ (es 4 ++ (es 5 ++ (es 6 ++ (es 7 ++ (es 8 ++ (es 9 ++ (es 10 ++ ([]))))))))))))) = _; rw [e_0, e_1, e_2, e_3, e_4, e_5, e_6, e_7, e_8, e_9, e_10]; rfl) ?_; rw [h_0, h_1, h_2, h_3, h_4, h_5, h_6, h_7, h_8, h_9]; clear h_9 h_8 h_7 h_6 h_5 h_4 h_3 h_2 h_1 h_0 e_0 e_1 e_2 e_3 e_4 e_5 e_6 e_7 e_8 e_9 e_10; refine Z0t rfl rfl rfl rfl tk11 Z7h rfl rfl rfl ?_; refine Z09 rfl rfl rfl rfl ?_; refine Z02 ?_; refine Z01 ?_; refine Z0l (Z00 (t := 2) rfl (Z00 (t := 3) rfl (Z00 (t := 4) rfl Z0b))) ?_; refine T.ret ?_; obtain ⟨rfl, rfl, rfl⟩ := ret3 H; exact Zek rfl rfl rfl rfl (Z29 rfl Zc8 mm1 rfl) (Z29 rfl Z6q mm0 rfl) (Res.tmp rfl) (Z03 tk3 (Z03 tk2 Z0a)) ⟨ob133, n134, c135, j136, ob146, n147, c148, j149, rfl, rfl, hn137, hc138, hj139, hz140, hn150, hc151, hj152, hz153⟩
end Go.Proofs.Ytjeenmabclghoaa.Ax
namespace Go.Proofs.Ytjeenmabclghoaa.Ax
open Go Go.Acq Go.RowKit Go.Proofs
set_option linter.unusedVariables false
set_option linter.unusedSimpArgs false
set_option maxHeartbeats 8000000
set_option maxRecDepth 20000
theorem Zeq : Zaa Try.prog 60 3 = true := by kernel_rfl
theorem Znc : Zaa Try.prog 62 2 = true := by kernel_rfl
theorem Zg1 : Z0q Try.prog 101 = true := by kernel_rfl
theorem Zep : Z0q Try.prog 39 = true := by kernel_rfl
theorem Zia : Z0q Try.prog 41 = true := by kernel_rfl
theorem Znb : Z0q Try.prog 74 = true := by kernel_rfl
theorem Zeo : Z0q Try.prog 78 = true := by kernel_rfl
theorem Zna : eqsT Try.prog 62 [.i64, .i64] = true := by kernel_rfl
theorem Z6z : Z17 Try.prog 60 0 = some 0 := by kernel_rfl
theorem Za0 : Z17 Try.prog 60 1 = some 1 := by kernel_rfl
theorem Zen : Z17 Try.prog 60 2 = some 2 := by kernel_rfl
theorem Zn9 : Z1q Try.prog 22 = some 67 := by kernel_rfl
theorem Zem : Z1q Try.prog 26 = some 2 := by kernel_rfl
theorem Zel : Z1q Try.prog 30 = some 4 := by kernel_rfl
theorem Zh9 : Z1g Try.prog 2 = some 1 := by kernel_rfl
theorem Zh8 : Z1g Try.prog 4 = some 1 := by kernel_rfl
theorem Zi9 : Z1g Try.prog 60 = some 3 := by kernel_rfl
theorem Zi8 : Z1g Try.prog 62 = some 2 := by kernel_rfl
theorem Zn8 : Z1g Try.prog 67 = some 3 := by kernel_rfl
theorem Zkb : Z2k Try.prog 2 = true := by kernel_rfl
theorem Z9e : Z2k Try.prog 26 = true := by kernel_rfl
theorem Zc4 : Z2k Try.prog 30 = true := by kernel_rfl
theorem Zh7 : Z32 Try.prog 2 = some (.int .i64 0) := by kernel_rfl
theorem Zh6 : Z32 Try.prog 4 = some (.bool false) := by kernel_rfl
theorem Zi7 : Z32 Try.prog 60 = some (.agg #[.slice none 0 0, .slice none 0 0, .int .i64 0]) := by kernel_rfl
theorem Zi6 : Z32 Try.prog 62 = some (.agg #[.int .i64 0, .int .i64 0]) := by kernel_rfl
theorem Zn7 : Z32 Try.prog 67 = some (.agg #[.int .i64 0, .int .i64 0, .int .i64 0]) := by kernel_rfl
theorem Z4l {a0 : Answer} {b1 : Answer} {a0f0_b : Option Addr} {a0f0_n : Nat} {a0f0_c : Nat} {a0f1_b : Option Addr} {a0f1_n : Nat} {a0f1_c : Nat} {b1f0_b : Option Addr} {b1f0_n : Nat} {b1f0_c : Nat} {b1f1_b : Option Addr} {b1f1_n : Nat} {b1f1_c : Nat} (w : World) (h_a0f0 : RS w [] (intC .i64) 1 a0f0_b a0f0_n a0f0_c a0.Flow) (h_a0f1 : RS w [] boolC 1 a0f1_b a0f1_n a0f1_c a0.Side) (h_b1f0 : RS w [] (intC .i64) 1 b1f0_b b1f0_n b1f0_c b1.Flow) (h_b1f1 : RS w [] boolC 1 b1f1_b b1f1_n b1f1_c b1.Side) {r0 : Bool} (H : Z3f a0 b1 = some r0) : Fnc Try.prog 78 #[.agg #[.slice a0f0_b a0f0_n a0f0_c, .slice a0f1_b a0f1_n a0f1_c, .int .i64 a0.Value], .agg #[.slice b1f0_b b1f0_n b1f0_c, .slice b1f1_b b1f1_n b1f1_c, .int .i64 b1.Value]] w [] (fun v N => v = .bool r0 ∧ N = []) := by
 unfold Z3f at H; refine Fnc.enter (vs := [.agg #[.slice a0f0_b a0f0_n a0f0_c, .slice a0f1_b a0f1_n a0f1_c, .int .i64 a0.Value], .agg #[.slice b1f0_b b1f0_n b1f0_c, .slice b1f1_b b1f1_n b1f1_c, .int .i64 b1.Value]]) Try.func78 rfl rfl (Inv.refl w) ?_; refine Z0d ?_; refine Z04 (ll := [0, 1, 2]) rfl ?_; refine Z1v rfl rfl rfl rfl ?_; intro b2; refine Z1v rfl rfl rfl rfl ?_; intro b4; refine Z09 rfl rfl rfl rfl ?_; refine Z02 ?_; refine Z01 ?_; refine Z0d ?_; obtain ⟨r6, e7, H⟩ := Z0k H; rcases Z0i H with ⟨g8, H⟩ | ⟨g8, H⟩
 ·
  obtain ⟨r9, e10, H⟩ := Z0k H; rcases Z0i H with ⟨g11, H⟩ | ⟨g11, H⟩
  · refine Z04 (ll := [0, 1, 2, 3, 4, 5, 6, 7, 8, 9, 10, 11, 12, 13, 14, 15, 16, 17, 18, 19]) rfl ?_; refine Z05 rfl rfl rfl rfl Z6z ?_; refine Z0c rfl rfl rfl rfl Z9e mm1 rfl ?_; refine Z05 rfl rfl rfl rfl Z6z ?_; refine Z0c rfl rfl rfl rfl Z9e mm0 rfl ?_; refine Z0o Zep rfl rfl rfl rfl (fun wc hwc => Z6b (a0 := a0.Flow) (b1 := b1.Flow) wc (h_a0f0.mono hwc) (h_b1f0.mono hwc) e7) ?_; rintro _ _ ⟨rfl, rfl⟩; refine Z06 rfl rfl rfl rfl ?_; refine Z0r (t := 10) (b' := true) rfl g8 ?_; refine Z05 rfl rfl rfl rfl Za0 ?_; refine Z0c rfl rfl rfl rfl Zc4 mm1 rfl ?_; refine Z05 rfl rfl rfl rfl Za0 ?_; refine Z0c rfl rfl rfl rfl Zc4 mm0 rfl ?_; refine Z0o Zg1 rfl rfl rfl rfl (fun wc hwc => Z8o (a0 := a0.Side) (b1 := b1.Side) wc (h_a0f1.mono hwc) (h_b1f1.mono hwc) e10) ?_; rintro _ _ ⟨rfl, rfl⟩; refine Z1a rfl rfl rfl rfl rfl ?_; refine Z06 rfl rfl rfl rfl ?_; refine Z0r (t := 17) (b' := true) rfl g11 ?_; refine Z05 rfl rfl rfl rfl Zen ?_; refine Z0c rfl rfl rfl rfl Zkb mm1 rfl ?_; refine Z05 rfl rfl rfl rfl Zen ?_; refine Z0c rfl rfl rfl rfl Zkb mm0 rfl ?_; refine Z0p rfl rfl rfl rfl rfl rfl ?_; refine Z1a rfl rfl rfl rfl rfl ?_; refine Z09 rfl rfl rfl rfl ?_; refine Z02 ?_; refine Z01 ?_; refine Z0l (Z00 (t := 4) rfl Z0b) ?_; refine T.ret ?_; obtain rfl := ret1 H; exact Z12 rfl rfl rfl rfl (Res.tmp rfl) Z0a ⟨rfl, rfl⟩
  · refine Z04 (ll := [0, 1, 2, 3, 4, 5, 6, 7, 8, 9, 10, 11, 12, 13, 14, 15, 16, 17, 18, 19]) rfl ?_; refine Z05 rfl rfl rfl rfl Z6z ?_; refine Z0c rfl rfl rfl rfl Z9e mm1 rfl ?_; refine Z05 rfl rfl rfl rfl Z6z ?_; refine Z0c rfl rfl rfl rfl Z9e mm0 rfl ?_; refine Z0o Zep rfl rfl rfl rfl (fun wc hwc => Z6b (a0 := a0.Flow) (b1 := b1.Flow) wc (h_a0f0.mono hwc) (h_b1f0.mono hwc) e7) ?_; rintro _ _ ⟨rfl, rfl⟩; refine Z06 rfl rfl rfl rfl ?_; refine Z0r (t := 10) (b' := true) rfl g8 ?_; refine Z05 rfl rfl rfl rfl Za0 ?_; refine Z0c rfl rfl rfl rfl Zc4 mm1 rfl ?_; refine Z05 rfl rfl rfl rfl Za0 ?_; refine Z0c rfl rfl rfl rfl Zc4 mm0 rfl ?_; refine Z0o Zg1 rfl rfl rfl rfl (fun wc hwc => Z8o (a0 := a0.Side) (b1 := b1.Side) wc (h_a0f1.mono hwc) (h_b1f1.mono hwc) e10) ?_; rintro _ _ ⟨rfl, rfl⟩; refine Z1a rfl rfl rfl rfl rfl ?_; refine Z06 rfl rfl rfl rfl ?_; refine Z0r (t := 17) (b' := false) rfl (Bool.eq_false_iff.2 g11) ?_; refine Z0f rfl rfl rfl rfl ?_; refine Z0f rfl rfl rfl rfl ?_; refine Z0f rfl rfl rfl rfl ?_; refine Z0f rfl rfl rfl rfl ?_; refine Z0f rfl rfl rfl rfl ?_; refine Z14 rfl rfl rfl rfl rfl ?_; refine Z09 rfl rfl rfl rfl ?_; refine Z02 ?_; refine Z01 ?_; refine Z0l (Z00 (t := 4) rfl Z0b) ?_; refine T.ret ?_; obtain rfl := ret1 H; exact Z12 rfl rfl rfl rfl (Res.tmp rfl) Z0a ⟨rfl, rfl⟩
 · refine Z04 (ll := [0, 1, 2, 3, 4, 5, 6, 7, 8, 9, 10, 11, 12, 13, 14, 15, 16, 17, 18, 19]) rfl ?_; refine Z05 rfl rfl rfl rfl Z6z ?_; refine Z0c rfl rfl rfl rfl Z9e mm1 rfl ?_; refine Z05 rfl rfl rfl rfl Z6z ?_; refine Z0c rfl rfl rfl rfl Z9e mm0 rfl ?_; refine Z0o Zep rfl rfl rfl rfl (fun wc hwc => Z6b (a0 := a0.Flow) (b1 := b1.Flow) wc (h_a0f0.mono hwc) (h_b1f0.mono hwc) e7) ?_; rintro _ _ ⟨rfl, rfl⟩; refine Z06 rfl rfl rfl rfl ?_; refine Z0r (t := 10) (b' := false) rfl (Bool.eq_false_iff.2 g8) ?_; refine Z0f rfl rfl rfl rfl ?_; refine Z0f rfl rfl rfl rfl ?_; refine Z0f rfl rfl rfl rfl ?_; refine Z0f rfl rfl rfl rfl ?_; refine Z0f rfl rfl rfl rfl ?_; refine Z14 rfl rfl rfl rfl rfl ?_; refine Z06 rfl rfl rfl rfl ?_; refine Z0f rfl rfl rfl rfl ?_; refine Z0f rfl rfl rfl rfl ?_; refine Z0f rfl rfl rfl rfl ?_; refine Z0f rfl rfl rfl rfl ?_; refine Z0f rfl rfl rfl rfl ?_; refine Z14 rfl rfl rfl rfl rfl ?_; refine Z09 rfl rfl rfl rfl ?_; refine Z02 ?_; refine Z01 ?_; refine Z0l (Z00 (t := 4) rfl Z0b) ?_; refine T.ret ?_; obtain rfl := ret1 H; exact Z12 rfl rfl rfl rfl (Res.tmp rfl) Z0a ⟨rfl, rfl⟩
theorem Z44 (w : World) {r0 : Bool} (H : Z1m = some r0) : Fnc Try.prog 43 #[] w [] (fun v N => v = .bool r0 ∧ N = []) := by
 unfold Z1m at H; refine Fnc.enter (vs := []) Try.func43 rfl rfl (Inv.refl w) ?_; refine Z0d ?_; refine Z04 (ll := [0]) rfl ?_; refine Z09 rfl rfl rfl rfl ?_; refine Z02 ?_; refine Z01 ?_; refine Z0d ?_; obtain ⟨r1, e2, H⟩ := Z0k H; obtain ⟨⟨r12, r13, r14⟩, e15, H⟩ := Z0k H; refine Z04 (ll := [0, 1, 2, 3, 4, 5, 6, 7, 8, 9, 10]) rfl ?_; refine Z0o Znb rfl rfl rfl rfl (fun wc hwc => Zbe  wc  e2) ?_; rintro _ _ ⟨ob3, n4, c5, j6, rfl, rfl, hn7, hc8, hj9, hz10⟩; refine Z0o Zia rfl rfl rfl rfl (fun wc hwc => Zag (n0 := r1) wc (hwc.rs (f := Z7o) (s := 3) (xs := r1.Arcs) (j := j6) (fun _ => rfl) mm0 hn7 hc8 hz10) e15) ?_; rintro _ _ ⟨ob16, n17, c18, j19, ob20, n21, c22, j23, rfl, rfl, hn24, hc25, hj26, hz27, hn28, hc29, hj30, hz31⟩; refine Z06 rfl rfl rfl rfl ?_; refine TO.extract rfl rfl rfl rfl rfl ?_; refine TO.extract rfl rfl rfl rfl rfl ?_; refine TO.extract rfl rfl rfl rfl rfl ?_; refine Z0z rfl rfl rfl Zi7 ?_; intro b34; refine Z0z rfl rfl rfl Zi6 ?_; intro b36; refine Z0t rfl rfl rfl rfl tk1 Zi9 rfl rfl rfl ?_; refine Z0t rfl rfl rfl rfl tk1 Zi8 rfl rfl rfl ?_; refine Z09 rfl rfl rfl rfl ?_; refine Z02 ?_; refine Z01 ?_; refine Z0l (Z00 (t := 1) rfl (Z00 (t := 3) rfl Z0b)) ?_; refine Z0d ?_; obtain ⟨⟨r40, r41, r42⟩, e43, H⟩ := Z0k H; refine Z04 (ll := [0, 1, 2, 3, 4, 5, 6, 7, 8, 9, 10, 11, 12, 13]) rfl ?_; refine Z0y (t := 67) [.int .i64 0, .int .i64 0, .int .i64 0] [0, 1, 2] rfl rfl rfl rfl (by simp only [Z1n, setCells, Value.cells, List.toList_toArray, List.getD_cons_zero, List.getD_cons_succ, List.set_cons_zero, List.set_cons_succ]; rfl) (by kernel_rfl) ?_; refine Z0y (t := 67) [.int .i64 0, .int .i64 0, .int .i64 0] [0, 1, 2] rfl rfl rfl rfl (by simp only [Z1n, setCells, Value.cells, List.toList_toArray, List.getD_cons_zero, List.getD_cons_succ, List.set_cons_zero, List.set_cons_succ]; rfl) (by kernel_rfl) ?_; refine Z28 [.int .i64 0, .int .i64 0, .int .i64 0, .int .i64 0, .int .i64 0, .int .i64 0] [0, 3] rfl rfl rfl rfl Zn9 Zn8 Zn7 rfl rfl (by simp only [Z1n, setCells, Value.cells, List.toList_toArray, List.getD_cons_zero, List.getD_cons_succ, List.set_cons_zero, List.set_cons_succ]; rfl) (by kernel_rfl) ?_; intro b38; refine Z0y (t := 24) [.int .i64 0, .int .i64 0, .int .i64 0, .slice none 0 0] [0, 1, 2, 3] rfl rfl rfl rfl (by simp only [Z1n, setCells, Value.cells, List.toList_toArray, List.getD_cons_zero, List.getD_cons_succ, List.set_cons_zero, List.set_cons_succ]; rfl) (by kernel_rfl) ?_; refine Z0o Zia rfl rfl rfl rfl (fun wc hwc => Zag (n0 := (Net.mk 2 0 1 ([(Arc.mk 0 1 7), (Arc.mk 1 0 3)]))) wc (hwc.rs (f := Z7o) (s := 3) (xs := [(Arc.mk 0 1 7), (Arc.mk 1 0 3)]) (j := ([])) (fun _ => rfl) mm0 rfl (Nat.le_refl _) Z49) e43) ?_; rintro _ _ ⟨ob44, n45, c46, j47, ob48, n49, c50, j51, rfl, rfl, hn52, hc53, hj54, hz55, hn56, hc57, hj58, hz59⟩; refine Z06 rfl rfl rfl rfl ?_; refine TO.extract rfl rfl rfl rfl rfl ?_; refine TO.extract rfl rfl rfl rfl rfl ?_; refine TO.extract rfl rfl rfl rfl rfl ?_; refine Z0z rfl rfl rfl Zi7 ?_; intro b62; refine Z0z rfl rfl rfl Zi6 ?_; intro b64; refine Z0t rfl rfl rfl rfl tk1 Zi9 rfl rfl rfl ?_; refine Z0t rfl rfl rfl rfl tk1 Zi8 rfl rfl rfl ?_; refine Z09 rfl rfl rfl rfl ?_; refine Z02 ?_; refine Z01 ?_; refine Z0l (Z00 (t := 1) rfl (Z00 (t := 3) rfl (Z00 (t := 4) rfl (Z00 (t := 5) rfl (Z00 (t := 6) rfl Z0b))))) ?_; refine Z0d ?_; refine Z04 (ll := [0, 1, 2, 3, 4, 5, 6, 7, 8, 9, 10, 11, 12, 13, 14, 15, 16, 17, 18, 19, 20, 21, 22, 23, 24, 25]) rfl ?_; refine Z06 rfl rfl rfl rfl ?_; refine Z0p rfl rfl rfl rfl rfl rfl ?_; refine Z06 rfl rfl rfl rfl ?_; refine TO.join [3, 4, 5] [6, 7, 8, 9, 10, 11, 12, 13, 14, 15, 16, 17, 18, 19, 20, 21, 22, 23, 24, 25] rfl 27 (fun b67 => Z3h r12 r40 r41 b67 = some r0) [(1, .pointer (some ⟨b34, 0, none⟩)), (4, .pointer (some ⟨b62, 0, none⟩)), (5, .pointer (some ⟨b64, 0, none⟩))] ?_ ?_
 ·
  rcases Z0i H with ⟨g66, H⟩ | ⟨g66, H⟩
  · refine Z0r (t := 24) (b' := true) rfl (decide_eq_true g66) ?_; refine Z06 rfl rfl rfl rfl ?_; refine Z0p rfl rfl rfl rfl rfl rfl ?_; refine Z1a rfl rfl rfl rfl rfl ?_; refine Z02 ?_; exact Zdb (b := (decide (r42 = 0))) H (Z00 rfl (Z00 rfl (Z00 rfl (Z00 rfl Z0b))))
  · refine Z0r (t := 24) (b' := false) rfl (decide_eq_false g66) ?_; refine Z0f rfl rfl rfl rfl ?_; refine Z0f rfl rfl rfl rfl ?_; refine Z14 rfl rfl rfl rfl rfl ?_; refine Z02 ?_; exact Zdb (b := false) H (Z00 rfl (Z00 rfl (Z00 rfl (Z00 rfl Z0b))))
 ·
  rintro b67 H; unfold Z3h at H; rcases Z0i H with ⟨g68, H⟩ | ⟨g68, H⟩
  ·
   obtain ⟨r73, e74, H⟩ := Z0k H; rcases Z0i H with ⟨g75, H⟩ | ⟨g75, H⟩
   ·
    obtain ⟨r80, e81, H⟩ := Z0k H; refine Z06 rfl rfl rfl rfl ?_; refine Z0r (t := 28) (b' := true) rfl g68 ?_; refine Z0u rfl rfl rfl rfl Zeq mm6 rfl ?_; refine Z28 [.int .i64 0, .int .i64 0, .int .i64 0, .int .i64 0, .int .i64 0] [0, 1, 2, 3, 4] rfl rfl rfl rfl Zem Zh9 Zh7 rfl rfl (by simp only [Z1n, setCells, Value.cells, List.toList_toArray, List.getD_cons_zero, List.getD_cons_succ, List.set_cons_zero, List.set_cons_succ]; rfl) (by kernel_rfl) ?_; intro b69; refine Z28 [.bool false, .bool false, .bool false, .bool false] [0, 1, 2, 3] rfl rfl rfl rfl Zel Zh8 Zh6 rfl rfl (by simp only [Z1n, setCells, Value.cells, List.toList_toArray, List.getD_cons_zero, List.getD_cons_succ, List.set_cons_zero, List.set_cons_succ]; rfl) (by kernel_rfl) ?_; intro b71; refine Z0y (t := 60) [.slice none 0 0, .slice none 0 0, .int .i64 0] [0, 1, 2] rfl rfl rfl rfl (by simp only [Z1n, setCells, Value.cells, List.toList_toArray, List.getD_cons_zero, List.getD_cons_succ, List.set_cons_zero, List.set_cons_succ]; rfl) (by kernel_rfl) ?_; refine Z0o Zeo rfl rfl rfl rfl (fun wc hwc => Z4l (a0 := r12) (b1 := (Answer.mk ([5, 4, 3, 6, 2]) ([true, true, true, false]) 9)) wc (hwc.rs (f := (intC .i64)) (s := 1) (xs := r12.Flow) (j := j19) (fun _ => rfl) mm9 hn24 hc25 hz27) (hwc.rs (f := boolC) (s := 1) (xs := r12.Side) (j := j23) (fun _ => rfl) mm10 hn28 hc29 hz31) (hwc.rs (f := (intC .i64)) (s := 1) (xs := [5, 4, 3, 6, 2]) (j := ([])) (fun _ => rfl) mm1 rfl (Nat.le_refl _) Z49) (hwc.rs (f := boolC) (s := 1) (xs := [true, true, true, false]) (j := ([])) (fun _ => rfl) mm0 rfl (Nat.le_refl _) Z49) e74) ?_; rintro _ _ ⟨rfl, rfl⟩; refine Z1a rfl rfl rfl rfl rfl ?_; refine Z06 rfl rfl rfl rfl ?_; refine Z0r (t := 35) (b' := true) rfl g75 ?_; refine Z0u rfl rfl rfl rfl Zeq mm3 rfl ?_; refine Z28 [.int .i64 0, .int .i64 0] [0, 1] rfl rfl rfl rfl Zem Zh9 Zh7 rfl rfl (by simp only [Z1n, setCells, Value.cells, List.toList_toArray, List.getD_cons_zero, List.getD_cons_succ, List.set_cons_zero, List.set_cons_succ]; rfl) (by kernel_rfl) ?_; intro b76; refine Z28 [.bool false, .bool false] [0, 1] rfl rfl rfl rfl Zel Zh8 Zh6 rfl rfl (by simp only [Z1n, setCells, Value.cells, List.toList_toArray, List.getD_cons_zero, List.getD_cons_succ, List.set_cons_zero, List.set_cons_succ]; rfl) (by kernel_rfl) ?_; intro b78; refine Z0y (t := 60) [.slice none 0 0, .slice none 0 0, .int .i64 0] [0, 1, 2] rfl rfl rfl rfl (by simp only [Z1n, setCells, Value.cells, List.toList_toArray, List.getD_cons_zero, List.getD_cons_succ, List.set_cons_zero, List.set_cons_succ]; rfl) (by kernel_rfl) ?_; refine Z0o Zeo rfl rfl rfl rfl (fun wc hwc => Z4l (a0 := r40) (b1 := (Answer.mk ([7, 0]) ([true, false]) 7)) wc (hwc.rs (f := (intC .i64)) (s := 1) (xs := r40.Flow) (j := j47) (fun _ => rfl) mm6 hn52 hc53 hz55) (hwc.rs (f := boolC) (s := 1) (xs := r40.Side) (j := j51) (fun _ => rfl) mm7 hn56 hc57 hz59) (hwc.rs (f := (intC .i64)) (s := 1) (xs := [7, 0]) (j := ([])) (fun _ => rfl) mm1 rfl (Nat.le_refl _) Z49) (hwc.rs (f := boolC) (s := 1) (xs := [true, false]) (j := ([])) (fun _ => rfl) mm0 rfl (Nat.le_refl _) Z49) e81) ?_; rintro _ _ ⟨rfl, rfl⟩; refine Z1a rfl rfl rfl rfl rfl ?_; refine Z06 rfl rfl rfl rfl ?_; refine TO.join [21, 22, 23, 24] [25] rfl 46 (fun b83 => Z3g b83 = some r0) [] ?_ ?_
    ·
     rcases Z0i H with ⟨g82, H⟩ | ⟨g82, H⟩
     · refine Z0r (t := 42) (b' := true) rfl g82 ?_; refine Z0u rfl rfl rfl rfl Znc mm4 rfl ?_; refine Z0y (t := 62) [.int .i64 0, .int .i64 0] [0, 1] rfl rfl rfl rfl (by simp only [Z1n, setCells, Value.cells, List.toList_toArray, List.getD_cons_zero, List.getD_cons_succ, List.set_cons_zero, List.set_cons_succ]; rfl) (by kernel_rfl) ?_; refine Zom (us := [r41.Pushes, r41.Lifts]) (ws := [0, 0]) [.i64, .i64] Zna rfl rfl rfl rfl rfl rfl rfl rfl rfl ?_; refine Z1a rfl rfl rfl rfl rfl ?_; refine Z02 ?_; exact Zdb (b := (decide (([r41.Pushes, r41.Lifts] : List Int) = [0, 0]))) H (Z00 rfl Z0b)
     · refine Z0r (t := 42) (b' := false) rfl (Bool.eq_false_iff.2 g82) ?_; refine Z0f rfl rfl rfl rfl ?_; refine Z0f rfl rfl rfl rfl ?_; refine Z0f rfl rfl rfl rfl ?_; refine Z14 rfl rfl rfl rfl rfl ?_; refine Z02 ?_; exact Zdb (b := false) H (Z00 rfl Z0b)
    · rintro b83 H; unfold Z3g at H; refine Z09 rfl rfl rfl rfl ?_; refine Z02 ?_; refine Z01 ?_; refine T.ret ?_; obtain rfl := ret1 H; exact Z12 rfl rfl rfl rfl (Res.tmp rfl) Z0a ⟨rfl, rfl⟩
   · refine Z06 rfl rfl rfl rfl ?_; refine Z0r (t := 28) (b' := true) rfl g68 ?_; refine Z0u rfl rfl rfl rfl Zeq mm6 rfl ?_; refine Z28 [.int .i64 0, .int .i64 0, .int .i64 0, .int .i64 0, .int .i64 0] [0, 1, 2, 3, 4] rfl rfl rfl rfl Zem Zh9 Zh7 rfl rfl (by simp only [Z1n, setCells, Value.cells, List.toList_toArray, List.getD_cons_zero, List.getD_cons_succ, List.set_cons_zero, List.set_cons_succ]; rfl) (by kernel_rfl) ?_; intro b69; refine Z28 [.bool false, .bool false, .bool false, .bool false] [0, 1, 2, 3] rfl rfl rfl rfl Zel Zh8 Zh6 rfl rfl (by simp only [Z1n, setCells, Value.cells, List.toList_toArray, List.getD_cons_zero, List.getD_cons_succ, List.set_cons_zero, List.set_cons_succ]; rfl) (by kernel_rfl) ?_; intro b71; refine Z0y (t := 60) [.slice none 0 0, .slice none 0 0, .int .i64 0] [0, 1, 2] rfl rfl rfl rfl (by simp only [Z1n, setCells, Value.cells, List.toList_toArray, List.getD_cons_zero, List.getD_cons_succ, List.set_cons_zero, List.set_cons_succ]; rfl) (by kernel_rfl) ?_; refine Z0o Zeo rfl rfl rfl rfl (fun wc hwc => Z4l (a0 := r12) (b1 := (Answer.mk ([5, 4, 3, 6, 2]) ([true, true, true, false]) 9)) wc (hwc.rs (f := (intC .i64)) (s := 1) (xs := r12.Flow) (j := j19) (fun _ => rfl) mm9 hn24 hc25 hz27) (hwc.rs (f := boolC) (s := 1) (xs := r12.Side) (j := j23) (fun _ => rfl) mm10 hn28 hc29 hz31) (hwc.rs (f := (intC .i64)) (s := 1) (xs := [5, 4, 3, 6, 2]) (j := ([])) (fun _ => rfl) mm1 rfl (Nat.le_refl _) Z49) (hwc.rs (f := boolC) (s := 1) (xs := [true, true, true, false]) (j := ([])) (fun _ => rfl) mm0 rfl (Nat.le_refl _) Z49) e74) ?_; rintro _ _ ⟨rfl, rfl⟩; refine Z1a rfl rfl rfl rfl rfl ?_; refine Z06 rfl rfl rfl rfl ?_; refine Z0r (t := 35) (b' := false) rfl (Bool.eq_false_iff.2 g75) ?_; refine Z0f rfl rfl rfl rfl ?_; refine Z0f rfl rfl rfl rfl ?_; refine Z0f rfl rfl rfl rfl ?_; refine Z0f rfl rfl rfl rfl ?_; refine Z0f rfl rfl rfl rfl ?_; refine Z14 rfl rfl rfl rfl rfl ?_; refine Z06 rfl rfl rfl rfl ?_; refine Z0f rfl rfl rfl rfl ?_; refine Z0f rfl rfl rfl rfl ?_; refine Z0f rfl rfl rfl rfl ?_; refine Z14 rfl rfl rfl rfl rfl ?_; refine Z09 rfl rfl rfl rfl ?_; refine Z02 ?_; refine Z01 ?_; refine Z0l (Z00 (t := 0) rfl Z0b) ?_; refine T.ret ?_; obtain rfl := ret1 H; exact Z12 rfl rfl rfl rfl (Res.tmp rfl) Z0a ⟨rfl, rfl⟩
  · refine Z06 rfl rfl rfl rfl ?_; refine Z0r (t := 28) (b' := false) rfl (Bool.eq_false_iff.2 g68) ?_; refine Z0f rfl rfl rfl rfl ?_; refine Z0f rfl rfl rfl rfl ?_; refine Z0f rfl rfl rfl rfl ?_; refine Z0f rfl rfl rfl rfl ?_; refine Z0f rfl rfl rfl rfl ?_; refine Z14 rfl rfl rfl rfl rfl ?_; refine Z06 rfl rfl rfl rfl ?_; refine Z0f rfl rfl rfl rfl ?_; refine Z0f rfl rfl rfl rfl ?_; refine Z0f rfl rfl rfl rfl ?_; refine Z0f rfl rfl rfl rfl ?_; refine Z0f rfl rfl rfl rfl ?_; refine Z14 rfl rfl rfl rfl rfl ?_; refine Z06 rfl rfl rfl rfl ?_; refine Z0f rfl rfl rfl rfl ?_; refine Z0f rfl rfl rfl rfl ?_; refine Z0f rfl rfl rfl rfl ?_; refine Z14 rfl rfl rfl rfl rfl ?_; refine Z09 rfl rfl rfl rfl ?_; refine Z02 ?_; refine Z01 ?_; refine Z0l (Z00 (t := 0) rfl Z0b) ?_; refine T.ret ?_; obtain rfl := ret1 H; exact Z12 rfl rfl rfl rfl (Res.tmp rfl) Z0a ⟨rfl, rfl⟩
end Go.Proofs.Ytjeenmabclghoaa.Ax
namespace Go.Proofs.Ytjeenmabclghoaa.Ax
open Go Go.Acq Go.RowKit Go.Proofs
set_option linter.unusedVariables false
set_option linter.unusedSimpArgs false
set_option maxHeartbeats 8000000
set_option maxRecDepth 20000
theorem Z72 : Zaa Try.prog 24 4 = true := by kernel_rfl
theorem Z9o : Zaa Try.prog 62 2 = true := by kernel_rfl
theorem Zd0 : Z5p Try.prog 67 = some 24 := by kernel_rfl
theorem Zcz : Z0q Try.prog 16 = true := by kernel_rfl
theorem Zcy : Z0q Try.prog 41 = true := by kernel_rfl
theorem Z5j : Z0q Try.prog 43 = true := by kernel_rfl
theorem Zcx : Z0q Try.prog 44 = true := by kernel_rfl
theorem Z9n : eqsT Try.prog 62 [.i64, .i64] = true := by kernel_rfl
theorem Zbr : Z17 Try.prog 24 1 = some 1 := by kernel_rfl
theorem Zbq : Z17 Try.prog 24 2 = some 2 := by kernel_rfl
theorem Z33 : Z17 Try.prog 24 3 = some 3 := by kernel_rfl
theorem Z1h : Z17 Try.prog 60 0 = some 0 := by kernel_rfl
theorem Z4q : Z17 Try.prog 60 1 = some 1 := by kernel_rfl
theorem Z8l : Z17 Try.prog 60 2 = some 2 := by kernel_rfl
theorem Zbp : Z17 Try.prog 67 2 = some 2 := by kernel_rfl
theorem Z3l : Z1q Try.prog 22 = some 67 := by kernel_rfl
theorem Z1u : Z1q Try.prog 26 = some 2 := by kernel_rfl
theorem Z5i : Z1q Try.prog 30 = some 4 := by kernel_rfl
theorem Z7q : Z1g Try.prog 2 = some 1 := by kernel_rfl
theorem Zcw : Z1g Try.prog 22 = some 1 := by kernel_rfl
theorem Zcv : Z1g Try.prog 24 = some 4 := by kernel_rfl
theorem Zcu : Z1g Try.prog 60 = some 3 := by kernel_rfl
theorem Z9m : Z1g Try.prog 62 = some 2 := by kernel_rfl
theorem Z71 : Z1g Try.prog 67 = some 3 := by kernel_rfl
theorem Z5y : Z2k Try.prog 2 = true := by kernel_rfl
theorem Z4h : Z2k Try.prog 22 = true := by kernel_rfl
theorem Z1t : Z2k Try.prog 26 = true := by kernel_rfl
theorem Zac : Z2k Try.prog 3 = true := by kernel_rfl
theorem Z5h : Z2k Try.prog 30 = true := by kernel_rfl
theorem Zab : Try.prog.underlying 4 = some .bool := by kernel_rfl
theorem Zct : Z32 Try.prog 60 = some (.agg #[.slice none 0 0, .slice none 0 0, .int .i64 0]) := by kernel_rfl
theorem Z9l : Z32 Try.prog 62 = some (.agg #[.int .i64 0, .int .i64 0]) := by kernel_rfl
theorem Z9k : Z32 Try.prog 67 = some (.agg #[.int .i64 0, .int .i64 0, .int .i64 0]) := by kernel_rfl
theorem Zcs : ElemT Try.prog 22 67 3 24 (.agg #[.int .i64 0, .int .i64 0, .int .i64 0]) := ⟨Z3l, Z71, Zd0, Z9k, rfl⟩
theorem w_acequialaw08_FifoGreat {n0 : Net} {c1 : Int} {n0f3_b : Option Addr} {n0f3_n : Nat} {n0f3_c : Nat} (w : World) (h_n0f3 : RS w [] Z7o 3 n0f3_b n0f3_n n0f3_c n0.Arcs) {r0 : Bool} (H : Z3b n0 c1 = some r0) : Fnc Try.prog 9 #[.agg #[.int .i64 n0.N, .int .i64 n0.S, .int .i64 n0.T, .slice n0f3_b n0f3_n n0f3_c], .int .i64 c1] w [] (fun v N => v = .bool r0 ∧ N = []) := by
 unfold Z3b at H; refine Fnc.enter (vs := [.agg #[.int .i64 n0.N, .int .i64 n0.S, .int .i64 n0.T, .slice n0f3_b n0f3_n n0f3_c], .int .i64 c1]) Try.func9 rfl rfl (Inv.refl w) ?_; refine Z0d ?_; refine Z04 (ll := [0, 1]) rfl ?_; refine Z1v rfl rfl rfl rfl ?_; intro b1; refine Z09 rfl rfl rfl rfl ?_; refine Z02 ?_; refine Z01 ?_; refine Z0d ?_; obtain ⟨r3, e4, H⟩ := Z0k H; refine Z04 (ll := [0, 1, 2]) rfl ?_; refine Z0u rfl rfl rfl rfl Z72 mm0 rfl ?_; refine Z0o Zcz rfl rfl rfl rfl (fun wc hwc => Zcg (n0 := n0) (verts1 := 12) (arcs2 := 20) wc (h_n0f3.mono hwc) e4) ?_; rintro _ _ ⟨ob5, n6, c7, j8, rfl, rfl, hn9, hc10, hj11, hz12⟩; refine Z0t rfl rfl rfl rfl tk1 Zcv rfl rfl rfl ?_; refine Z02 ?_; refine Z01 ?_; refine Z0d ?_; refine Z0d ?_; refine Z04 (ll := [0, 1, 2, 3]) rfl ?_; refine Z05 rfl rfl rfl rfl Z33 ?_; refine Z0c rfl rfl rfl rfl Z4h mm0 rfl ?_; refine Z1f (xs := r3.Arcs) hn9 rfl rfl rfl rfl rfl Z3l ?_; refine Z06 rfl rfl rfl rfl ?_; refine Z02 ?_; refine Z01 ?_; refine Z25 (fun (xs20 : List Arc) => Z2p c1 r3 xs20 = some r0 ∧ xs20.length = n6) (fun (xs20 : List Arc) => [(1, .int .i64 c1), (2, .pointer (some ⟨b1, 0, none⟩))]) (fun (xs20 : List Arc) => [(some b1, .cells #[.int .i64 r3.N, .int .i64 r3.S, .int .i64 r3.T, .slice (sb ob5) n6 c7] 24 (0, 0)), (ob5, .cells (arr Z7o xs20 j8).toArray 67 (0, 0))]) ?_ ?_
 ·
  refine T.block ?_; obtain ⟨o_1, e_1, K_1⟩ := Z0k H; refine Z81 (fun (m_1 : Nat) (xs14 : List Arc) (x16 : Int) => Z2j (fun s => Z20 r3 s.1 s.2) m_1 (xs14, x16) = some o_1 ∧ xs14.length = n6) (fun (m_1 : Nat) (xs14 : List Arc) (x16 : Int) => [(1, .int .i64 c1), (2, .pointer (some ⟨b1, 0, none⟩)), (15, .int .i64 (r3.Arcs.length : Int)), (16, .int .i64 x16)]) (fun (m_1 : Nat) (xs14 : List Arc) (x16 : Int) => [(some b1, .cells #[.int .i64 r3.N, .int .i64 r3.S, .int .i64 r3.T, .slice (sb ob5) n6 c7] 24 (0, 0)), (ob5, .cells (arr Z7o xs14 j8).toArray 67 (0, 0))]) (fun (m_1 : Nat) (xs14 : List Arc) (x16 : Int) => m_1) Z4w r3.Arcs 0 ⟨e_1, hn9⟩ (Z00 rfl (Z00 rfl (Z00 rfl (Z00 rfl Z0b)))) (Z03 tk0 (Z03 tk0 Z0a)) ?_; rintro m_1 xs14 x16 ⟨H, hn15⟩; obtain ⟨n_1, r_1, rfl, H, C_1⟩ := Z1o H; have H : Z20 r3 xs14 x16 = some r_1 := H; unfold Z20 at H; refine Z0d ?_; refine Z04 (ll := [0]) rfl ?_; refine Z0p rfl rfl rfl rfl rfl rfl ?_; refine Z02 ?_; refine Z01 ?_; refine Z0d ?_; rcases Z0i H with ⟨g17, H⟩ | ⟨g17, H⟩
  · refine Z15 rfl g17 ?_; refine T.skip ?_; refine Z01 ?_; refine Z0d ?_; refine T.block ?_; refine Z0d ?_; refine Z04 (ll := [0, 1]) rfl ?_; refine Z06 rfl rfl rfl rfl ?_; refine Z09 rfl rfl rfl rfl ?_; refine Z02 ?_; refine Z01 ?_; obtain ⟨g18, H⟩ := Z0e H; refine Z04 (ll := [0, 1, 2, 3, 4, 5]) rfl ?_; refine Z05 rfl rfl rfl rfl Z33 ?_; refine Z0c rfl rfl rfl rfl Z4h mm0 rfl ?_; refine Z06 rfl rfl rfl rfl ?_; refine Z2x hz12 hc10 hn15 g18 rfl rfl rfl rfl rfl Z3l Z71 ?_; refine TO.faR rfl rfl rfl rfl Zbp ?_; refine TO.stFV (f := Z7o) (u := (Arc.mk ((xs14.getD x16.toNat default).fr) ((xs14.getD x16.toNat default).to) 0)) default (fun _ => rfl) rfl hz12 hc10 hn15 g18 rfl rfl rfl rfl rfl rfl tk1 Z7q ?_; refine Z02 ?_; refine Z0j ?_; refine Z01 ?_; refine Z0l (Z00 (t := 1) rfl (Z00 (t := 2) rfl (Z00 (t := 15) rfl (Z00 (t := 16) rfl Z0b)))) ?_; obtain ⟨g19, H⟩ := Z0e H; refine Z04 (ll := [0, 1]) rfl ?_; refine Z11 g19 rfl rfl rfl rfl rfl ?_; refine Z06 rfl rfl rfl rfl ?_; refine Z02 ?_; have H := Z1c H C_1; exact Z3y n_1 (xs14.set x16.toNat (Arc.mk ((xs14.getD x16.toNat default).fr) ((xs14.getD x16.toNat default).to) 0)) (x16 + 1) ⟨H, (List.length_set.trans hn15)⟩ (Nat.lt_succ_self _) (Z00 rfl (Z00 rfl (Z00 rfl (Z00 rfl Z0b)))) (Z03 tk1 (Z03 tk0 Z0a))
  · refine Z16 rfl g17 ?_; refine T.exit ?_; refine Z0m ?_; have H := Z0v H C_1 ▸ K_1; refine Z0m ?_; refine Z13 ?_; exact Z2b xs14 ⟨H, hn15⟩ (Z00 rfl (Z00 rfl Z0b)) (Z03 tk0 (Z03 tk0 Z0a))
 ·
  rintro xs20 ⟨H, hn21⟩; unfold Z2p at H; refine Z0d ?_; obtain ⟨g24, H⟩ := Z0e H; refine Z04 (ll := [0, 1, 2, 3, 4, 5, 6, 7, 8, 9, 10, 11]) rfl ?_; refine Z05 rfl rfl rfl rfl Z33 ?_; refine Z0c rfl rfl rfl rfl Z4h mm0 rfl ?_; refine Z05 rfl rfl rfl rfl Zbr ?_; refine Z0c rfl rfl rfl rfl Zac mm0 rfl ?_; refine Z05 rfl rfl rfl rfl Zbq ?_; refine Z0c rfl rfl rfl rfl Zac mm0 rfl ?_; refine Z06 rfl rfl rfl rfl ?_; refine Z0y (t := 67) [.int .i64 0, .int .i64 0, .int .i64 0] [0, 1, 2] rfl rfl rfl rfl (by simp only [Z1n, setCells, Value.cells, List.toList_toArray, List.getD_cons_zero, List.getD_cons_succ, List.set_cons_zero, List.set_cons_succ]; rfl) (by kernel_rfl) ?_; refine Z28 [.int .i64 0, .int .i64 0, .int .i64 0] [0] rfl rfl rfl rfl Z3l Z71 Z9k rfl rfl (by simp only [Z1n, setCells, Value.cells, List.toList_toArray, List.getD_cons_zero, List.getD_cons_succ, List.set_cons_zero, List.set_cons_succ]; rfl) (by kernel_rfl) ?_; intro b22; refine Zix (f := Z7o) (s := 3) (xs := xs20) (ob := ob5) (j := j8) (ys := [(Arc.mk r3.S r3.T c1)]) (fun _ => rfl) (fun _ => rfl) Zcs g24 rfl rfl rfl rfl rfl tk2 hn21 hc10 hj11 hz12 (fun wc hwc => (hwc.rs (f := Z7o) (s := 3) (xs := [(Arc.mk r3.S r3.T c1)]) (j := ([])) (fun _ => rfl) mm0 rfl (Nat.le_refl _) Z49)) ?_; intro ob25 c26 j27 hc28 hj29 hz30; refine Z05 rfl rfl rfl rfl Z33 ?_; refine Z2g (cs' := [.int .i64 r3.N, .int .i64 r3.S, .int .i64 r3.T, .slice (sb ob25) (n6 + 1) c26]) rfl rfl rfl rfl tk2 Zcw rfl rfl rfl ?_; refine Z02 ?_; refine Z01 ?_; refine Z0l (Z00 (t := 1) rfl (Z00 (t := 2) rfl Z0b)) ?_; refine Z0d ?_; obtain ⟨⟨r32, r33, r34⟩, e35, H⟩ := Z0k H; refine Z04 (ll := [0, 1, 2, 3, 4, 5, 6, 7, 8, 9, 10]) rfl ?_; refine Z0u rfl rfl rfl rfl Z72 mm0 rfl ?_; refine Z0o Zcy rfl rfl rfl rfl (fun wc hwc => Zag (n0 := (Net.mk r3.N r3.S r3.T (xs20 ++ ([(Arc.mk r3.S r3.T c1)])))) wc (hwc.rs (f := Z7o) (s := 3) (xs := (xs20 ++ ([(Arc.mk r3.S r3.T c1)]))) (j := j27) (fun _ => rfl) mm1 (Zeb hn21 rfl) hc28 hz30) e35) ?_; rintro _ _ ⟨ob36, n37, c38, j39, ob40, n41, c42, j43, rfl, rfl, hn44, hc45, hj46, hz47, hn48, hc49, hj50, hz51⟩; refine Z06 rfl rfl rfl rfl ?_; refine TO.extract rfl rfl rfl rfl rfl ?_; refine TO.extract rfl rfl rfl rfl rfl ?_; refine TO.extract rfl rfl rfl rfl rfl ?_; refine Z0z rfl rfl rfl Zct ?_; intro b54; refine Z0z rfl rfl rfl Z9l ?_; intro b56; refine Z0t rfl rfl rfl rfl tk1 Zcu rfl rfl rfl ?_; refine Z0t rfl rfl rfl rfl tk1 Z9m rfl rfl rfl ?_; refine Z09 rfl rfl rfl rfl ?_; refine Z02 ?_; refine Z01 ?_; refine Z0d ?_; obtain ⟨⟨r58, r59⟩, e60, H⟩ := Z0k H; refine Z04 (ll := [0, 1, 2, 3, 4, 5, 6, 7]) rfl ?_; refine Z0u rfl rfl rfl rfl Z72 mm4 rfl ?_; refine Z0o Zcx rfl rfl rfl rfl (fun wc hwc => Zj3 (n0 := (Net.mk r3.N r3.S r3.T (xs20 ++ ([(Arc.mk r3.S r3.T c1)])))) wc (hwc.rs (f := Z7o) (s := 3) (xs := (xs20 ++ ([(Arc.mk r3.S r3.T c1)]))) (j := j27) (fun _ => rfl) mm5 (Zeb hn21 rfl) hc28 hz30) e60) ?_; rintro _ _ ⟨rfl, rfl⟩; refine Z06 rfl rfl rfl rfl ?_; refine TO.extract rfl rfl rfl rfl rfl ?_; refine TO.extract rfl rfl rfl rfl rfl ?_; refine Z0z rfl rfl rfl Z9l ?_; intro b61; refine Z0t rfl rfl rfl rfl tk0 Z9m rfl rfl rfl ?_; refine Z09 rfl rfl rfl rfl ?_; refine Z02 ?_; refine Z01 ?_; refine Z0l (Z00 (t := 1) rfl (Z00 (t := 2) rfl (Z00 (t := 6) rfl (Z00 (t := 7) rfl (Z00 (t := 8) rfl (Z00 (t := 10) rfl Z0b)))))) ?_; refine Z0d ?_; refine Z0d ?_; rcases Z0i H with ⟨g63, H⟩ | ⟨g63, H⟩
  · refine Z04 (ll := [0, 1, 2, 3, 4, 5, 6, 7, 8, 9, 10, 11, 12, 13]) rfl ?_; refine Z06 rfl rfl rfl rfl ?_; refine Z06 rfl rfl rfl rfl ?_; refine Z0p rfl rfl rfl rfl rfl rfl ?_; refine Z06 rfl rfl rfl rfl ?_; refine Z0r (t := 50) (b' := true) rfl (decide_eq_true g63) ?_; refine Z0f rfl rfl rfl rfl ?_; refine Z0f rfl rfl rfl rfl ?_; refine Z0f rfl rfl rfl rfl ?_; refine Z0f rfl rfl rfl rfl ?_; refine Z0f rfl rfl rfl rfl ?_; refine Zkf rfl rfl rfl rfl ?_; refine Zkf rfl rfl rfl rfl ?_; refine Z0f rfl rfl rfl rfl ?_; refine Z0f rfl rfl rfl rfl ?_; refine Z1a rfl rfl rfl rfl rfl ?_; refine Z02 ?_; refine Z01 ?_; refine Z0l (Z00 (t := 1) rfl (Z00 (t := 2) rfl (Z00 (t := 6) rfl (Z00 (t := 7) rfl (Z00 (t := 8) rfl (Z00 (t := 60) rfl Z0b)))))) ?_; refine Z26 rfl rfl ?_; refine Z0d ?_; refine Z04 (ll := [0]) rfl ?_; refine Z09 rfl rfl rfl rfl ?_; refine Z02 ?_; refine Z01 ?_; refine T.ret ?_; refine Z0h ?_; obtain rfl := ret1 H; exact Z12 rfl rfl rfl rfl (Res.tmp rfl) Z0a ⟨rfl, rfl⟩
  ·
   rcases Z0i H with ⟨g64, H⟩ | ⟨g64, H⟩
   ·
    refine Z04 (ll := [0, 1, 2, 3, 4, 5, 6, 7, 8, 9, 10, 11, 12, 13]) rfl ?_; refine Z06 rfl rfl rfl rfl ?_; refine Z06 rfl rfl rfl rfl ?_; refine Z0p rfl rfl rfl rfl rfl rfl ?_; refine Z06 rfl rfl rfl rfl ?_; refine Z0r (t := 50) (b' := false) rfl (decide_eq_false g63) ?_; refine Z06 rfl rfl rfl rfl ?_; refine Z0p rfl rfl rfl rfl rfl rfl ?_; refine Z06 rfl rfl rfl rfl ?_; refine Z0p rfl rfl rfl rfl rfl rfl ?_; refine Z06 rfl rfl rfl rfl ?_; refine Z0r (t := 55) (b' := true) rfl (decide_eq_true g64) ?_; refine Z06 rfl rfl rfl rfl ?_; refine Z0p rfl rfl rfl rfl rfl rfl ?_; refine Z1a rfl rfl rfl rfl rfl ?_; refine Zoi rfl rfl rfl rfl rfl Zab ?_; refine Z14 rfl rfl rfl rfl rfl ?_; refine Z02 ?_; refine Z01 ?_; refine Z0l (Z00 (t := 1) rfl (Z00 (t := 2) rfl (Z00 (t := 6) rfl (Z00 (t := 7) rfl (Z00 (t := 8) rfl (Z00 (t := 60) rfl Z0b)))))) ?_; rcases Z0i H with ⟨g65, H⟩ | ⟨g65, H⟩
    · refine Z26 rfl g65 ?_; refine Z0d ?_; refine Z04 (ll := [0]) rfl ?_; refine Z09 rfl rfl rfl rfl ?_; refine Z02 ?_; refine Z01 ?_; refine T.ret ?_; refine Z0h ?_; obtain rfl := ret1 H; exact Z12 rfl rfl rfl rfl (Res.tmp rfl) Z0a ⟨rfl, rfl⟩
    ·
     refine Z34 rfl (Bool.eq_false_iff.2 g65) ?_; refine T.skip ?_; refine Z01 ?_; refine Z0d ?_; refine Z0d ?_; refine Z04 (ll := [0, 1]) rfl ?_; refine Z06 rfl rfl rfl rfl ?_; refine Z0p rfl rfl rfl rfl rfl rfl ?_; refine Z02 ?_; refine Z01 ?_; rcases Z0i H with ⟨g66, H⟩ | ⟨g66, H⟩
     ·
      refine Z15 rfl g66 ?_; refine Z0d ?_; obtain ⟨g67, H⟩ := Z0e H; rcases Z0i H with ⟨g68, H⟩ | ⟨g68, H⟩
      · obtain ⟨r69, e70, H⟩ := Z0k H; refine Z04 (ll := [0, 1, 2, 3, 4, 5, 6, 7, 8, 9, 10, 11]) rfl ?_; refine Z05 rfl rfl rfl rfl Z1h ?_; refine Z0c rfl rfl rfl rfl Z1t mm2 rfl ?_; refine Z1f (xs := r32.Flow) hn44 rfl rfl rfl rfl rfl Z1u ?_; refine Z05 rfl rfl rfl rfl Z4q ?_; refine Z0c rfl rfl rfl rfl Z5h mm2 rfl ?_; refine Z1f (xs := r32.Side) hn48 rfl rfl rfl rfl rfl Z5i ?_; refine Z11 g67 rfl rfl rfl rfl rfl ?_; refine Z0p rfl rfl rfl rfl rfl rfl ?_; refine Z06 rfl rfl rfl rfl ?_; refine Z0r (t := 71) (b' := true) rfl (decide_eq_true g68) ?_; refine Z0o Z5j rfl rfl rfl rfl (fun wc hwc => Z44  wc  e70) ?_; rintro _ _ ⟨rfl, rfl⟩; refine Z1a rfl rfl rfl rfl rfl ?_; refine Z09 rfl rfl rfl rfl ?_; refine Z02 ?_; refine Z01 ?_; refine Z0l (Z00 (t := 4) rfl Z0b) ?_; refine T.ret ?_; refine Z0h ?_; obtain rfl := ret1 H; exact Z12 rfl rfl rfl rfl (Res.tmp rfl) Z0a ⟨rfl, rfl⟩
      · refine Z04 (ll := [0, 1, 2, 3, 4, 5, 6, 7, 8, 9, 10, 11]) rfl ?_; refine Z05 rfl rfl rfl rfl Z1h ?_; refine Z0c rfl rfl rfl rfl Z1t mm2 rfl ?_; refine Z1f (xs := r32.Flow) hn44 rfl rfl rfl rfl rfl Z1u ?_; refine Z05 rfl rfl rfl rfl Z4q ?_; refine Z0c rfl rfl rfl rfl Z5h mm2 rfl ?_; refine Z1f (xs := r32.Side) hn48 rfl rfl rfl rfl rfl Z5i ?_; refine Z11 g67 rfl rfl rfl rfl rfl ?_; refine Z0p rfl rfl rfl rfl rfl rfl ?_; refine Z06 rfl rfl rfl rfl ?_; refine Z0r (t := 71) (b' := false) rfl (decide_eq_false g68) ?_; refine Z0f rfl rfl rfl rfl ?_; refine Z14 rfl rfl rfl rfl rfl ?_; refine Z09 rfl rfl rfl rfl ?_; refine Z02 ?_; refine Z01 ?_; refine Z0l (Z00 (t := 4) rfl Z0b) ?_; refine T.ret ?_; refine Z0h ?_; obtain rfl := ret1 H; exact Z12 rfl rfl rfl rfl (Res.tmp rfl) Z0a ⟨rfl, rfl⟩
     ·
      refine Z16 rfl g66 ?_; refine T.skip ?_; refine Z01 ?_; refine Z0d ?_; refine Z04 (ll := [0, 1, 2, 3, 4, 5, 6, 7, 8, 9, 10, 11, 12, 13, 14, 15, 16, 17, 18, 19, 20, 21, 22, 23, 24, 25, 26, 27, 28, 29, 30, 31, 32, 33]) rfl ?_; refine Z05 rfl rfl rfl rfl Z1h ?_; refine Z0c rfl rfl rfl rfl Z1t mm2 rfl ?_; refine Z1f (xs := r32.Flow) hn44 rfl rfl rfl rfl rfl Z1u ?_; refine Z05 rfl rfl rfl rfl Z33 ?_; refine Z0c rfl rfl rfl rfl Z4h mm5 rfl ?_; refine Z1f (xs := (xs20 ++ ([(Arc.mk r3.S r3.T c1)]))) (Zeb hn21 rfl) rfl rfl rfl rfl rfl Z3l ?_; refine Z0p rfl rfl rfl rfl rfl rfl ?_; refine Z06 rfl rfl rfl rfl ?_; refine TO.join [8, 9, 10, 11, 12] [13, 14, 15, 16, 17, 18, 19, 20, 21, 22, 23, 24, 25, 26, 27, 28, 29, 30, 31, 32, 33] rfl 86 (fun b72 => Z24 c1 r32 r33 b72 = some r0) [(1, .int .i64 c1), (6, .pointer (some ⟨b54, 0, none⟩)), (7, .pointer (some ⟨b56, 0, none⟩))] ?_ ?_
      ·
       rcases Z0i H with ⟨g71, H⟩ | ⟨g71, H⟩
       · refine Z0r (t := 81) (b' := true) rfl (decide_eq_true g71) ?_; refine Z05 rfl rfl rfl rfl Z8l ?_; refine Z0c rfl rfl rfl rfl Z5y mm2 rfl ?_; refine Z06 rfl rfl rfl rfl ?_; refine Z0p rfl rfl rfl rfl rfl rfl ?_; refine Z1a rfl rfl rfl rfl rfl ?_; refine Z02 ?_; exact Zdb (b := (decide (r32.Value = c1))) H (Z00 rfl (Z00 rfl (Z00 rfl (Z00 rfl Z0b))))
       · refine Z0r (t := 81) (b' := false) rfl (decide_eq_false g71) ?_; refine Z0f rfl rfl rfl rfl ?_; refine Z0f rfl rfl rfl rfl ?_; refine Z0f rfl rfl rfl rfl ?_; refine Z0f rfl rfl rfl rfl ?_; refine Z14 rfl rfl rfl rfl rfl ?_; refine Z02 ?_; exact Zdb (b := false) H (Z00 rfl (Z00 rfl (Z00 rfl (Z00 rfl Z0b))))
      ·
       rintro b72 H; unfold Z24 at H; refine Z06 rfl rfl rfl rfl ?_; refine TO.join [14, 15, 16, 17] [18, 19, 20, 21, 22, 23, 24, 25, 26, 27, 28, 29, 30, 31, 32, 33] rfl 91 (fun b74 => Z23 c1 r32 b74 = some r0) [(1, .int .i64 c1), (6, .pointer (some ⟨b54, 0, none⟩))] ?_ ?_
       ·
        rcases Z0i H with ⟨g73, H⟩ | ⟨g73, H⟩
        · refine Z0r (t := 87) (b' := true) rfl g73 ?_; refine Z0u rfl rfl rfl rfl Z9o mm1 rfl ?_; refine Z0y (t := 62) [.int .i64 0, .int .i64 0] [0, 1] rfl rfl rfl rfl (by simp only [Z1n, setCells, Value.cells, List.toList_toArray, List.getD_cons_zero, List.getD_cons_succ, List.set_cons_zero, List.set_cons_succ]; rfl) (by kernel_rfl) ?_; refine Zom (us := [r33.Pushes, r33.Lifts]) (ws := [0, 0]) [.i64, .i64] Z9n rfl rfl rfl rfl rfl rfl rfl rfl rfl ?_; refine Z1a rfl rfl rfl rfl rfl ?_; refine Z02 ?_; exact Zdb (b := (decide (([r33.Pushes, r33.Lifts] : List Int) = [0, 0]))) H (Z00 rfl (Z00 rfl (Z00 rfl Z0b)))
        · refine Z0r (t := 87) (b' := false) rfl (Bool.eq_false_iff.2 g73) ?_; refine Z0f rfl rfl rfl rfl ?_; refine Z0f rfl rfl rfl rfl ?_; refine Z0f rfl rfl rfl rfl ?_; refine Z14 rfl rfl rfl rfl rfl ?_; refine Z02 ?_; exact Zdb (b := false) H (Z00 rfl (Z00 rfl (Z00 rfl Z0b)))
       ·
        rintro b74 H; unfold Z23 at H; refine Z06 rfl rfl rfl rfl ?_; refine TO.join [19, 20, 21, 22, 23, 24, 25, 26, 27, 28, 29] [30, 31, 32, 33] rfl 103 (fun b78 => Z22 b78 = some r0) [] ?_ ?_
        ·
         rcases Z0i H with ⟨g75, H⟩ | ⟨g75, H⟩
         · obtain ⟨g76, H⟩ := Z0e H; obtain ⟨g77, H⟩ := Z0e H; refine Z0r (t := 92) (b' := true) rfl g75 ?_; refine Z05 rfl rfl rfl rfl Z1h ?_; refine Z0c rfl rfl rfl rfl Z1t mm2 rfl ?_; refine Z05 rfl rfl rfl rfl Z1h ?_; refine Z0c rfl rfl rfl rfl Z1t mm2 rfl ?_; refine Z1f (xs := r32.Flow) hn44 rfl rfl rfl rfl rfl Z1u ?_; refine Z73 g76 rfl rfl rfl rfl rfl ?_; refine Z2x hz47 hc45 hn44 g77 rfl rfl rfl rfl rfl Z1u Z7q ?_; refine Z5n hz47 hc45 hn44 g77 rfl rfl rfl rfl Z5y mm3 ?_; refine Z06 rfl rfl rfl rfl ?_; refine Z0p rfl rfl rfl rfl rfl rfl ?_; refine Z1a rfl rfl rfl rfl rfl ?_; refine Z02 ?_; exact Zdb (b := (decide ((r32.Flow.getD ((r32.Flow.length : Int) - 1).toNat 0) = c1))) H (Z00 rfl Z0b)
         · refine Z0r (t := 92) (b' := false) rfl (Bool.eq_false_iff.2 g75) ?_; refine Z0f rfl rfl rfl rfl ?_; refine Z0f rfl rfl rfl rfl ?_; refine Z0f rfl rfl rfl rfl ?_; refine Z0f rfl rfl rfl rfl ?_; refine Z0f rfl rfl rfl rfl ?_; refine Z0f rfl rfl rfl rfl ?_; refine Z0f rfl rfl rfl rfl ?_; refine Z0f rfl rfl rfl rfl ?_; refine Z0f rfl rfl rfl rfl ?_; refine Z0f rfl rfl rfl rfl ?_; refine Z14 rfl rfl rfl rfl rfl ?_; refine Z02 ?_; exact Zdb (b := false) H (Z00 rfl Z0b)
        ·
         rintro b78 H; unfold Z22 at H; refine Z06 rfl rfl rfl rfl ?_; refine TO.join [31, 32] [33] rfl 106 (fun b82 => Z21 b82 = some r0) [] ?_ ?_
         ·
          rcases Z0i H with ⟨g79, H⟩ | ⟨g79, H⟩
          · obtain ⟨r80, e81, H⟩ := Z0k H; refine Z0r (t := 104) (b' := true) rfl g79 ?_; refine Z0o Z5j rfl rfl rfl rfl (fun wc hwc => Z44  wc  e81) ?_; rintro _ _ ⟨rfl, rfl⟩; refine Z1a rfl rfl rfl rfl rfl ?_; refine Z02 ?_; exact Zdb (b := r80) H (Z00 rfl Z0b)
          · refine Z0r (t := 104) (b' := false) rfl (Bool.eq_false_iff.2 g79) ?_; refine Z0f rfl rfl rfl rfl ?_; refine Z14 rfl rfl rfl rfl rfl ?_; refine Z02 ?_; exact Zdb (b := false) H (Z00 rfl Z0b)
         · rintro b82 H; unfold Z21 at H; refine Z09 rfl rfl rfl rfl ?_; refine Z02 ?_; refine Z01 ?_; refine T.ret ?_; obtain rfl := ret1 H; exact Z12 rfl rfl rfl rfl (Res.tmp rfl) Z0a ⟨rfl, rfl⟩
   ·
    refine Z04 (ll := [0, 1, 2, 3, 4, 5, 6, 7, 8, 9, 10, 11, 12, 13]) rfl ?_; refine Z06 rfl rfl rfl rfl ?_; refine Z06 rfl rfl rfl rfl ?_; refine Z0p rfl rfl rfl rfl rfl rfl ?_; refine Z06 rfl rfl rfl rfl ?_; refine Z0r (t := 50) (b' := false) rfl (decide_eq_false g63) ?_; refine Z06 rfl rfl rfl rfl ?_; refine Z0p rfl rfl rfl rfl rfl rfl ?_; refine Z06 rfl rfl rfl rfl ?_; refine Z0p rfl rfl rfl rfl rfl rfl ?_; refine Z06 rfl rfl rfl rfl ?_; refine Z0r (t := 55) (b' := false) rfl (decide_eq_false g64) ?_; refine Z0f rfl rfl rfl rfl ?_; refine Z0f rfl rfl rfl rfl ?_; refine Z14 rfl rfl rfl rfl rfl ?_; refine Zoi rfl rfl rfl rfl rfl Zab ?_; refine Z14 rfl rfl rfl rfl rfl ?_; refine Z02 ?_; refine Z01 ?_; refine Z0l (Z00 (t := 1) rfl (Z00 (t := 2) rfl (Z00 (t := 6) rfl (Z00 (t := 7) rfl (Z00 (t := 8) rfl (Z00 (t := 60) rfl Z0b)))))) ?_; rcases Z0i H with ⟨g83, H⟩ | ⟨g83, H⟩
    · refine Z26 rfl g83 ?_; refine Z0d ?_; refine Z04 (ll := [0]) rfl ?_; refine Z09 rfl rfl rfl rfl ?_; refine Z02 ?_; refine Z01 ?_; refine T.ret ?_; refine Z0h ?_; obtain rfl := ret1 H; exact Z12 rfl rfl rfl rfl (Res.tmp rfl) Z0a ⟨rfl, rfl⟩
    ·
     refine Z34 rfl (Bool.eq_false_iff.2 g83) ?_; refine T.skip ?_; refine Z01 ?_; refine Z0d ?_; refine Z0d ?_; refine Z04 (ll := [0, 1]) rfl ?_; refine Z06 rfl rfl rfl rfl ?_; refine Z0p rfl rfl rfl rfl rfl rfl ?_; refine Z02 ?_; refine Z01 ?_; rcases Z0i H with ⟨g84, H⟩ | ⟨g84, H⟩
     ·
      refine Z15 rfl g84 ?_; refine Z0d ?_; obtain ⟨g85, H⟩ := Z0e H; rcases Z0i H with ⟨g86, H⟩ | ⟨g86, H⟩
      · obtain ⟨r87, e88, H⟩ := Z0k H; refine Z04 (ll := [0, 1, 2, 3, 4, 5, 6, 7, 8, 9, 10, 11]) rfl ?_; refine Z05 rfl rfl rfl rfl Z1h ?_; refine Z0c rfl rfl rfl rfl Z1t mm2 rfl ?_; refine Z1f (xs := r32.Flow) hn44 rfl rfl rfl rfl rfl Z1u ?_; refine Z05 rfl rfl rfl rfl Z4q ?_; refine Z0c rfl rfl rfl rfl Z5h mm2 rfl ?_; refine Z1f (xs := r32.Side) hn48 rfl rfl rfl rfl rfl Z5i ?_; refine Z11 g85 rfl rfl rfl rfl rfl ?_; refine Z0p rfl rfl rfl rfl rfl rfl ?_; refine Z06 rfl rfl rfl rfl ?_; refine Z0r (t := 71) (b' := true) rfl (decide_eq_true g86) ?_; refine Z0o Z5j rfl rfl rfl rfl (fun wc hwc => Z44  wc  e88) ?_; rintro _ _ ⟨rfl, rfl⟩; refine Z1a rfl rfl rfl rfl rfl ?_; refine Z09 rfl rfl rfl rfl ?_; refine Z02 ?_; refine Z01 ?_; refine Z0l (Z00 (t := 4) rfl Z0b) ?_; refine T.ret ?_; refine Z0h ?_; obtain rfl := ret1 H; exact Z12 rfl rfl rfl rfl (Res.tmp rfl) Z0a ⟨rfl, rfl⟩
      · refine Z04 (ll := [0, 1, 2, 3, 4, 5, 6, 7, 8, 9, 10, 11]) rfl ?_; refine Z05 rfl rfl rfl rfl Z1h ?_; refine Z0c rfl rfl rfl rfl Z1t mm2 rfl ?_; refine Z1f (xs := r32.Flow) hn44 rfl rfl rfl rfl rfl Z1u ?_; refine Z05 rfl rfl rfl rfl Z4q ?_; refine Z0c rfl rfl rfl rfl Z5h mm2 rfl ?_; refine Z1f (xs := r32.Side) hn48 rfl rfl rfl rfl rfl Z5i ?_; refine Z11 g85 rfl rfl rfl rfl rfl ?_; refine Z0p rfl rfl rfl rfl rfl rfl ?_; refine Z06 rfl rfl rfl rfl ?_; refine Z0r (t := 71) (b' := false) rfl (decide_eq_false g86) ?_; refine Z0f rfl rfl rfl rfl ?_; refine Z14 rfl rfl rfl rfl rfl ?_; refine Z09 rfl rfl rfl rfl ?_; refine Z02 ?_; refine Z01 ?_; refine Z0l (Z00 (t := 4) rfl Z0b) ?_; refine T.ret ?_; refine Z0h ?_; obtain rfl := ret1 H; exact Z12 rfl rfl rfl rfl (Res.tmp rfl) Z0a ⟨rfl, rfl⟩
     ·
      refine Z16 rfl g84 ?_; refine T.skip ?_; refine Z01 ?_; refine Z0d ?_; refine Z04 (ll := [0, 1, 2, 3, 4, 5, 6, 7, 8, 9, 10, 11, 12, 13, 14, 15, 16, 17, 18, 19, 20, 21, 22, 23, 24, 25, 26, 27, 28, 29, 30, 31, 32, 33]) rfl ?_; refine Z05 rfl rfl rfl rfl Z1h ?_; refine Z0c rfl rfl rfl rfl Z1t mm2 rfl ?_; refine Z1f (xs := r32.Flow) hn44 rfl rfl rfl rfl rfl Z1u ?_; refine Z05 rfl rfl rfl rfl Z33 ?_; refine Z0c rfl rfl rfl rfl Z4h mm5 rfl ?_; refine Z1f (xs := (xs20 ++ ([(Arc.mk r3.S r3.T c1)]))) (Zeb hn21 rfl) rfl rfl rfl rfl rfl Z3l ?_; refine Z0p rfl rfl rfl rfl rfl rfl ?_; refine Z06 rfl rfl rfl rfl ?_; refine TO.join [8, 9, 10, 11, 12] [13, 14, 15, 16, 17, 18, 19, 20, 21, 22, 23, 24, 25, 26, 27, 28, 29, 30, 31, 32, 33] rfl 86 (fun b90 => Z2o c1 r32 r33 b90 = some r0) [(1, .int .i64 c1), (6, .pointer (some ⟨b54, 0, none⟩)), (7, .pointer (some ⟨b56, 0, none⟩))] ?_ ?_
      ·
       rcases Z0i H with ⟨g89, H⟩ | ⟨g89, H⟩
       · refine Z0r (t := 81) (b' := true) rfl (decide_eq_true g89) ?_; refine Z05 rfl rfl rfl rfl Z8l ?_; refine Z0c rfl rfl rfl rfl Z5y mm2 rfl ?_; refine Z06 rfl rfl rfl rfl ?_; refine Z0p rfl rfl rfl rfl rfl rfl ?_; refine Z1a rfl rfl rfl rfl rfl ?_; refine Z02 ?_; exact Zdb (b := (decide (r32.Value = c1))) H (Z00 rfl (Z00 rfl (Z00 rfl (Z00 rfl Z0b))))
       · refine Z0r (t := 81) (b' := false) rfl (decide_eq_false g89) ?_; refine Z0f rfl rfl rfl rfl ?_; refine Z0f rfl rfl rfl rfl ?_; refine Z0f rfl rfl rfl rfl ?_; refine Z0f rfl rfl rfl rfl ?_; refine Z14 rfl rfl rfl rfl rfl ?_; refine Z02 ?_; exact Zdb (b := false) H (Z00 rfl (Z00 rfl (Z00 rfl (Z00 rfl Z0b))))
      ·
       rintro b90 H; unfold Z2o at H; refine Z06 rfl rfl rfl rfl ?_; refine TO.join [14, 15, 16, 17] [18, 19, 20, 21, 22, 23, 24, 25, 26, 27, 28, 29, 30, 31, 32, 33] rfl 91 (fun b92 => Z2n c1 r32 b92 = some r0) [(1, .int .i64 c1), (6, .pointer (some ⟨b54, 0, none⟩))] ?_ ?_
       ·
        rcases Z0i H with ⟨g91, H⟩ | ⟨g91, H⟩
        · refine Z0r (t := 87) (b' := true) rfl g91 ?_; refine Z0u rfl rfl rfl rfl Z9o mm1 rfl ?_; refine Z0y (t := 62) [.int .i64 0, .int .i64 0] [0, 1] rfl rfl rfl rfl (by simp only [Z1n, setCells, Value.cells, List.toList_toArray, List.getD_cons_zero, List.getD_cons_succ, List.set_cons_zero, List.set_cons_succ]; rfl) (by kernel_rfl) ?_; refine Zom (us := [r33.Pushes, r33.Lifts]) (ws := [0, 0]) [.i64, .i64] Z9n rfl rfl rfl rfl rfl rfl rfl rfl rfl ?_; refine Z1a rfl rfl rfl rfl rfl ?_; refine Z02 ?_; exact Zdb (b := (decide (([r33.Pushes, r33.Lifts] : List Int) = [0, 0]))) H (Z00 rfl (Z00 rfl (Z00 rfl Z0b)))
        · refine Z0r (t := 87) (b' := false) rfl (Bool.eq_false_iff.2 g91) ?_; refine Z0f rfl rfl rfl rfl ?_; refine Z0f rfl rfl rfl rfl ?_; refine Z0f rfl rfl rfl rfl ?_; refine Z14 rfl rfl rfl rfl rfl ?_; refine Z02 ?_; exact Zdb (b := false) H (Z00 rfl (Z00 rfl (Z00 rfl Z0b)))
       ·
        rintro b92 H; unfold Z2n at H; refine Z06 rfl rfl rfl rfl ?_; refine TO.join [19, 20, 21, 22, 23, 24, 25, 26, 27, 28, 29] [30, 31, 32, 33] rfl 103 (fun b96 => Z2m b96 = some r0) [] ?_ ?_
        ·
         rcases Z0i H with ⟨g93, H⟩ | ⟨g93, H⟩
         · obtain ⟨g94, H⟩ := Z0e H; obtain ⟨g95, H⟩ := Z0e H; refine Z0r (t := 92) (b' := true) rfl g93 ?_; refine Z05 rfl rfl rfl rfl Z1h ?_; refine Z0c rfl rfl rfl rfl Z1t mm2 rfl ?_; refine Z05 rfl rfl rfl rfl Z1h ?_; refine Z0c rfl rfl rfl rfl Z1t mm2 rfl ?_; refine Z1f (xs := r32.Flow) hn44 rfl rfl rfl rfl rfl Z1u ?_; refine Z73 g94 rfl rfl rfl rfl rfl ?_; refine Z2x hz47 hc45 hn44 g95 rfl rfl rfl rfl rfl Z1u Z7q ?_; refine Z5n hz47 hc45 hn44 g95 rfl rfl rfl rfl Z5y mm3 ?_; refine Z06 rfl rfl rfl rfl ?_; refine Z0p rfl rfl rfl rfl rfl rfl ?_; refine Z1a rfl rfl rfl rfl rfl ?_; refine Z02 ?_; exact Zdb (b := (decide ((r32.Flow.getD ((r32.Flow.length : Int) - 1).toNat 0) = c1))) H (Z00 rfl Z0b)
         · refine Z0r (t := 92) (b' := false) rfl (Bool.eq_false_iff.2 g93) ?_; refine Z0f rfl rfl rfl rfl ?_; refine Z0f rfl rfl rfl rfl ?_; refine Z0f rfl rfl rfl rfl ?_; refine Z0f rfl rfl rfl rfl ?_; refine Z0f rfl rfl rfl rfl ?_; refine Z0f rfl rfl rfl rfl ?_; refine Z0f rfl rfl rfl rfl ?_; refine Z0f rfl rfl rfl rfl ?_; refine Z0f rfl rfl rfl rfl ?_; refine Z0f rfl rfl rfl rfl ?_; refine Z14 rfl rfl rfl rfl rfl ?_; refine Z02 ?_; exact Zdb (b := false) H (Z00 rfl Z0b)
        ·
         rintro b96 H; unfold Z2m at H; refine Z06 rfl rfl rfl rfl ?_; refine TO.join [31, 32] [33] rfl 106 (fun b100 => Z2h b100 = some r0) [] ?_ ?_
         ·
          rcases Z0i H with ⟨g97, H⟩ | ⟨g97, H⟩
          · obtain ⟨r98, e99, H⟩ := Z0k H; refine Z0r (t := 104) (b' := true) rfl g97 ?_; refine Z0o Z5j rfl rfl rfl rfl (fun wc hwc => Z44  wc  e99) ?_; rintro _ _ ⟨rfl, rfl⟩; refine Z1a rfl rfl rfl rfl rfl ?_; refine Z02 ?_; exact Zdb (b := r98) H (Z00 rfl Z0b)
          · refine Z0r (t := 104) (b' := false) rfl (Bool.eq_false_iff.2 g97) ?_; refine Z0f rfl rfl rfl rfl ?_; refine Z14 rfl rfl rfl rfl rfl ?_; refine Z02 ?_; exact Zdb (b := false) H (Z00 rfl Z0b)
         · rintro b100 H; unfold Z2h at H; refine Z09 rfl rfl rfl rfl ?_; refine Z02 ?_; refine Z01 ?_; refine T.ret ?_; obtain rfl := ret1 H; exact Z12 rfl rfl rfl rfl (Res.tmp rfl) Z0a ⟨rfl, rfl⟩
end Go.Proofs.Ytjeenmabclghoaa.Ax
namespace Go.Acq
open Go
def hit (a : Arc) (v : Nat) : Nat := if a.fr = a.to then 0 else if a.fr = v ∨ a.to = v then 1 else 0
def cnt (al : List Arc) (v : Nat) : Nat → Nat
  | 0 => 0
  | k + 1 => cnt al v k + hit (al.getD k default) v
def Z0s (al : List Arc) : Nat → Nat
  | 0 => 0
  | v + 1 => Z0s al v + cnt al v al.length
def vtx (a : Arc) (s : Bool) : Int := if s then a.to else a.fr
def pos (al : List Arc) (i : Nat) (s : Bool) : Nat := Z0s al (vtx (al.getD i default) s).toNat + cnt al (vtx (al.getD i default) s).toNat i
def Z57 (n : Nat) (al : List Arc) : Prop := ∀ i, i < al.length → ∀ s, 0 ≤ vtx (al.getD i default) s ∧ vtx (al.getD i default) s < n
theorem Zcf {α : Type} (xs : List α) (i j : Nat) (v d : α) : (xs.set i v).getD j d = if i = j ∧ i < xs.length then v else xs.getD j d := by
 rw [List.getD_eq_getElem?_getD, List.getD_eq_getElem?_getD, List.getElem?_set]
 split
 ·
  rename_i h; subst h
  split
  · rename_i h2; simp [h2]
  · rename_i h2; simp [h2]
 · rename_i h; simp [h]
theorem Z4c {α : Type} {xs : List α} {i j : Nat} {v d : α} (h : i ≠ j) : (xs.set i v).getD j d = xs.getD j d := by
 rw [Zcf, if_neg (fun e => h e.1)]
theorem Zbi {α : Type} {xs : List α} {i : Nat} {v d : α} (h : i < xs.length) : (xs.set i v).getD i d = v := by
 rw [Zcf, if_pos ⟨rfl, h⟩]
theorem Z27 {α : Type} (n j : Nat) (v : α) : (List.replicate n v).getD j v = v := by
 rw [List.getD_eq_getElem?_getD, List.getElem?_replicate]; split <;> simp
theorem hit_le (a : Arc) (v : Nat) : hit a v ≤ 1 := by unfold hit; split; omega; split <;> omega
theorem cnt_mono {al : List Arc} {v i j : Nat} (h : i ≤ j) : cnt al v i ≤ cnt al v j := by
 induction h with
 | refl => exact Nat.le_refl _
 | step _ ih => exact Nat.le_trans ih (Nat.le_add_right _ _)
theorem Zk6 (al : List Arc) (v k : Nat) : cnt al v k ≤ k := by
 induction k with
 | zero => exact Nat.le_refl _
 | succ k ih => have := hit_le (al.getD k default) v; simp only [cnt]; omega
theorem Z3p {al : List Arc} {u v : Nat} (h : u ≤ v) : Z0s al u ≤ Z0s al v := by
 induction h with
 | refl => exact Nat.le_refl _
 | step _ ih => exact Nat.le_trans ih (Nat.le_add_right _ _)
theorem Zn1 (al : List Arc) (v : Nat) : Z0s al v ≤ v * al.length := by
 induction v with
 | zero => exact Nat.zero_le _
 | succ v ih => have := Zk6 al v al.length; simp only [Z0s, Nat.succ_mul]; omega
theorem hit_vtx {a : Arc} {s : Bool} (h : a.fr ≠ a.to) (h0 : 0 ≤ vtx a s) : hit a (vtx a s).toNat = 1 := by
 unfold hit; rw [if_neg h, if_pos]
 cases s
 · left; simp only [vtx] at h0 ⊢; simp only [Bool.false_eq_true, if_false] at h0 ⊢; omega
 · right; simp only [vtx] at h0 ⊢; simp only [if_true] at h0 ⊢; omega
theorem Zda {al : List Arc} {i j : Nat} {s : Bool} (hij : i < j) (h : (al.getD i default).fr ≠ (al.getD i default).to) (h0 : 0 ≤ vtx (al.getD i default) s) :
    cnt al (vtx (al.getD i default) s).toNat i < cnt al (vtx (al.getD i default) s).toNat j := by
  have h1 := cnt_mono (al := al) (v := (vtx (al.getD i default) s).toNat) (i := i + 1) (j := j) hij
  have h2 := hit_vtx h h0
  simp only [cnt] at h1
  omega
theorem Zaj {al : List Arc} {n i : Nat} {s : Bool} (hi : i < al.length) (h : (al.getD i default).fr ≠ (al.getD i default).to) (he : Z57 n al) : pos al i s < Z0s al n := by
 have h1 := Zda (s := s) hi h (he i hi s).1
 have h2 := Z3p (al := al) (u := (vtx (al.getD i default) s).toNat + 1) (v := n) (by have := he i hi s; omega)
 simp only [Z0s] at h2
 unfold pos; omega
theorem Z93 {al : List Arc} {n i j : Nat} {s t : Bool} (he : Z57 n al) (hi : i < al.length) (hj : j < al.length) (h : (al.getD i default).fr ≠ (al.getD i default).to) (g : (al.getD j default).fr ≠ (al.getD j default).to)
    (e : pos al i s = pos al j t) : i = j ∧ s = t := by
  have hi1 := Zda (s := s) hi h (he i hi s).1
  have hj1 := Zda (s := t) hj g (he j hj t).1
  have hv : (vtx (al.getD i default) s).toNat = (vtx (al.getD j default) t).toNat := by
    rcases Nat.lt_trichotomy (vtx (al.getD i default) s).toNat (vtx (al.getD j default) t).toNat with h1 | h1 | h1
    · have := Z3p (al := al) (u := (vtx (al.getD i default) s).toNat + 1) h1
      simp only [Z0s] at this
      unfold pos at e; omega
    · exact h1
    · have := Z3p (al := al) (u := (vtx (al.getD j default) t).toNat + 1) h1
      simp only [Z0s] at this
      unfold pos at e; omega
  have hij : i = j := by
    rcases Nat.lt_trichotomy i j with h1 | h1 | h1
    · have h2 := Zda (s := s) h1 h (he i hi s).1
      unfold pos at e; rw [hv] at e h2; omega
    · exact h1
    · have h2 := Zda (s := t) h1 g (he j hj t).1
      unfold pos at e; rw [hv] at e; omega
  refine ⟨hij, ?_⟩
  subst hij
  have h1 := (he i hi s).1
  have h2 := (he i hi t).1
  cases s <;> cases t <;> first | rfl | (simp only [vtx, Bool.false_eq_true, if_false, if_true] at hv h1 h2; omega)
theorem Zk7 {al : List Arc} {v r : Nat} : ∀ {k : Nat}, r < cnt al v k → ∃ i, i < k ∧ cnt al v i = r ∧ hit (al.getD i default) v = 1
 | 0, h => by simp [cnt] at h
 | k + 1, h => by
  by_cases h1 : r < cnt al v k
  · obtain ⟨i, h2, h3⟩ := Zk7 h1; exact ⟨i, by omega, h3⟩
  ·
   have := hit_le (al.getD k default) v
   simp only [cnt] at h
   exact ⟨k, by omega, by omega, by omega⟩
theorem Zeh {al : List Arc} {p : Nat} : ∀ {n : Nat}, p < Z0s al n → ∃ v, v < n ∧ Z0s al v ≤ p ∧ p < Z0s al (v + 1)
 | 0, h => by simp [Z0s] at h
 | n + 1, h => by
  by_cases h1 : p < Z0s al n
  · obtain ⟨v, h2, h3⟩ := Zeh h1; exact ⟨v, by omega, h3⟩
  · exact ⟨n, by omega, by omega, h⟩
theorem pos_surj {al : List Arc} {n p : Nat} (h : p < Z0s al n) : ∃ i s, i < al.length ∧ (al.getD i default).fr ≠ (al.getD i default).to ∧ pos al i s = p ∧ 0 ≤ vtx (al.getD i default) s ∧ vtx (al.getD i default) s < n ∧
    Z0s al (vtx (al.getD i default) s).toNat ≤ p ∧ p < Z0s al ((vtx (al.getD i default) s).toNat + 1) := by
  obtain ⟨v, hv, h1, h2⟩ := Zeh h
  simp only [Z0s] at h2
  obtain ⟨i, hi, h3, h4⟩ := Zk7 (al := al) (v := v) (r := p - Z0s al v) (k := al.length) (by omega)
  unfold hit at h4
  split at h4
  · omega
  · rename_i hne
    split at h4
    · rename_i ho
      rcases ho with ho | ho
      · refine ⟨i, false, hi, hne, ?_, ?_, ?_, ?_, ?_⟩ <;> simp only [pos, vtx, Bool.false_eq_true, if_false, ho, Int.toNat_natCast, Z0s] <;> omega
      · refine ⟨i, true, hi, hne, ?_, ?_, ?_, ?_, ?_⟩ <;> simp only [pos, vtx, if_true, ho, Int.toNat_natCast, Z0s] <;> omega
    · omega
def CsrAt (al : List Arc) (hs rs cs aa : List Int) (bs : List Bool) (k : Nat) : Prop :=
  ∀ i, i < k → (al.getD i default).fr ≠ (al.getD i default).to → ∀ s,
    hs.getD (pos al i s) 0 = vtx (al.getD i default) (!s) ∧ rs.getD (pos al i s) 0 = pos al i (!s) ∧ cs.getD (pos al i s) 0 = (if s then 0 else (al.getD i default).cap) ∧
    aa.getD (pos al i s) 0 = i ∧ bs.getD (pos al i s) false = s
structure CsrOK (al : List Arc) (n : Nat) (fs hs rs cs aa : List Int) (bs : List Bool) : Prop where
  lf : fs.length = n + 1
  lh : hs.length = Z0s al n
  lr : rs.length = Z0s al n
  lc : cs.length = Z0s al n
  la : aa.length = Z0s al n
  lb : bs.length = Z0s al n
  hf : ∀ v, v ≤ n → fs.getD v 0 = Z0s al v
  hat : CsrAt al hs rs cs aa bs al.length
theorem CsrAt.skip {al : List Arc} {hs rs cs aa : List Int} {bs : List Bool} {k : Nat} (h : CsrAt al hs rs cs aa bs k) (e : (al.getD k default).fr = (al.getD k default).to) : CsrAt al hs rs cs aa bs (k + 1) := by
 intro i hi hne s
 rcases Nat.lt_succ_iff_lt_or_eq.1 hi with h1 | h1
 · exact h i h1 hne s
 · subst h1; exact absurd e hne
theorem set2 {α : Type} {xs : List α} {p q j : Nat} {u v d : α} (hp : p < xs.length) (hq : q < xs.length) (hpq : p ≠ q) :
    ((xs.set p u).set q v).getD j d = if j = p then u else if j = q then v else xs.getD j d := by
  rw [Zcf, Zcf]
  by_cases h1 : j = p
  · subst h1; rw [if_pos rfl, if_neg (fun e => hpq e.1.symm), if_pos ⟨rfl, hp⟩]
  · rw [if_neg h1]
    by_cases h2 : j = q
    · subst h2; rw [if_pos rfl, if_pos ⟨rfl, by simpa using hq⟩]
    · rw [if_neg h2, if_neg (fun e => h2 e.1.symm), if_neg (fun e => h1 e.1.symm)]
theorem CsrAt.put {al : List Arc} {n : Nat} {hs rs cs aa : List Int} {bs : List Bool} {k : Nat} (h : CsrAt al hs rs cs aa bs k) (he : Z57 n al) (hk : k < al.length) (hne : (al.getD k default).fr ≠ (al.getD k default).to)
    (lh : hs.length = Z0s al n) (lr : rs.length = Z0s al n) (lc : cs.length = Z0s al n) (la : aa.length = Z0s al n) (lb : bs.length = Z0s al n) :
    CsrAt al ((hs.set (pos al k false) (al.getD k default).to).set (pos al k true) (al.getD k default).fr) ((rs.set (pos al k false) (pos al k true)).set (pos al k true) (pos al k false))
      ((cs.set (pos al k false) (al.getD k default).cap).set (pos al k true) 0) ((aa.set (pos al k false) k).set (pos al k true) k) ((bs.set (pos al k false) false).set (pos al k true) true) (k + 1) := by
  have hp : pos al k false < Z0s al n := Zaj hk hne he
  have hq : pos al k true < Z0s al n := Zaj hk hne he
  have hpq : pos al k false ≠ pos al k true := fun e => by have := (Z93 he hk hk hne hne e).2; cases this
  intro i hi hni s
  have hil : i < al.length := by omega
  rw [set2 (by omega) (by omega) hpq, set2 (by omega) (by omega) hpq, set2 (by omega) (by omega) hpq, set2 (by omega) (by omega) hpq, set2 (by omega) (by omega) hpq]
  by_cases hik : i = k
  · subst hik
    cases s
    · simp [vtx]
    · simp [vtx, hpq.symm]
  · have h1 : pos al i s ≠ pos al k false := fun e => hik (Z93 he hil hk hni hne e).1
    have h2 : pos al i s ≠ pos al k true := fun e => hik (Z93 he hil hk hni hne e).1
    simp only [if_neg h1, if_neg h2]
    exact h i (by omega) hni s
def Counted (al : List Arc) (m k : Nat) (fs : List Int) : Prop := fs.length = m + 1 ∧ fs.getD 0 0 = 0 ∧ ∀ v : Int, 0 ≤ v → v < m → fs.getD (v + 1).toNat 0 = cnt al v.toNat k
def Summed (al : List Arc) (m k : Nat) (fs : List Int) : Prop := fs.length = m + 1 ∧ (∀ u, u ≤ k → fs.getD u 0 = Z0s al u) ∧ ∀ u, k ≤ u → u < m → fs.getD (u + 1) 0 = cnt al u al.length
theorem Z58 {al : List Arc} {v : Nat} (hv : v ≤ 4096) (hl : al.length ≤ 16384) : Z0s al v ≤ 67108864 :=
 Nat.le_trans (Zn1 al v) (Nat.mul_le_mul hv hl)
theorem Counted.start (al : List Arc) (m : Nat) {p : Nat} (h : p = m + 1) : Counted al m 0 (List.replicate p 0) :=
 ⟨by simp [h], Z27 _ _ _, fun v _ _ => by rw [Z27]; rfl⟩
theorem Counted.skip {al : List Arc} {m k : Nat} {fs : List Int} (h : Counted al m k fs) (e : (al.getD k default).fr = (al.getD k default).to) : Counted al m (k + 1) fs :=
 ⟨h.1, h.2.1, fun v h0 h1 => by rw [h.2.2 v h0 h1]; simp only [cnt, hit, if_pos e, Nat.add_zero]⟩
theorem Counted.put {al : List Arc} {m k : Nat} {fs : List Int} (h : Counted al m k fs) (he : Z57 m al) (hk : k < al.length) (hne : (al.getD k default).fr ≠ (al.getD k default).to) :
    Counted al m (k + 1) ((fs.set ((al.getD k default).fr + 1).toNat (fs.getD ((al.getD k default).fr + 1).toNat 0 + 1)).set ((al.getD k default).to + 1).toNat
      ((fs.set ((al.getD k default).fr + 1).toNat (fs.getD ((al.getD k default).fr + 1).toNat 0 + 1)).getD ((al.getD k default).to + 1).toNat 0 + 1)) := by
  have e0 := he k hk false
  have e1 := he k hk true
  simp only [vtx, Bool.false_eq_true, if_false, if_true] at e0 e1
  obtain ⟨hl, hz, hv⟩ := h
  refine ⟨by simpa using hl, ?_, ?_⟩
  · rw [Z4c (by omega), Z4c (by omega)]; exact hz
  · intro v h0 h1
    have hvv := hv v h0 h1
    rw [Z4c (i := ((al.getD k default).fr + 1).toNat) (j := ((al.getD k default).to + 1).toNat) (by omega), set2 (by omega) (by omega) (by omega)]
    simp only [cnt, hit, if_neg hne]
    by_cases a1 : v = (al.getD k default).fr
    · rw [if_pos (by omega), if_pos (by omega), ← a1, hvv]; omega
    · rw [if_neg (by omega)]
      by_cases a2 : v = (al.getD k default).to
      · rw [if_pos (by omega), if_pos (by omega), ← a2, hvv]; omega
      · rw [if_neg (by omega), if_neg (by omega), hvv]; omega
theorem Counted.summed {al : List Arc} {m : Nat} {fs : List Int} (h : Counted al m al.length fs) : Summed al m 0 fs :=
 ⟨h.1, fun u hu => by rw [Nat.le_zero.1 hu]; exact h.2.1, fun u _ hu => by have := h.2.2 u (by omega) (by omega); rw [show ((u : Int) + 1).toNat = u + 1 by omega] at this; simpa using this⟩
theorem Summed.put {al : List Arc} {m k : Nat} {fs : List Int} (h : Summed al m k fs) (hk : k < m) {i : Nat} (hi : i = k + 1) : Summed al m (k + 1) (fs.set i (fs.getD i 0 + fs.getD k 0)) := by
 subst hi
 obtain ⟨hl, h1, h2⟩ := h
 refine ⟨by simpa using hl, fun u hu => ?_, fun u h3 h4 => ?_⟩
 ·
  by_cases e : u = k + 1
  · subst e; rw [Zbi (by omega), h1 k (Nat.le_refl _), h2 k (Nat.le_refl _) hk]; simp [Z0s]; omega
  · rw [Z4c (by omega)]; exact h1 u (by omega)
 · rw [Z4c (by omega)]; exact h2 u (by omega) h4
theorem Z2r {N S T : Int} {al : List Arc} (h : Z3o N S T al = 0) : (2 ≤ N ∧ N ≤ 4096) ∧ (al.length : Int) ≤ 16384 ∧ (Z3m N S = true ∧ Z3m N T = true ∧ S ≠ T) ∧ al.all (Zao N) = true ∧ al.all Zk8 = true ∧ (Zfm 4611686018427387904 al).isSome = true := by
 unfold Z3o at h
 split at h
 · omega
 ·
  rename_i h1
  split at h
  · omega
  ·
   rename_i h2
   split at h
   · omega
   ·
    rename_i h3
    split at h
    · omega
    ·
     rename_i h4
     split at h
     · omega
     ·
      rename_i h5
      split at h
      · omega
      ·
       rename_i h6
       refine ⟨Classical.not_not.1 h1, Classical.not_not.1 h2, Classical.not_not.1 h3, by simpa using h4, by simpa using h5, ?_⟩
       cases e : Zfm 4611686018427387904 al <;> simp_all
theorem Zc2 {m : Nat} {al : List Arc} (h : al.all (Zao (m : Int)) = true) : Z57 m al := by
 intro i hi s
 have h1 := List.all_eq_true.1 h _ (Z78 hi default)
 simp only [Zao, Z3m, Bool.and_eq_true, decide_eq_true_eq] at h1
 cases s
 · simp only [vtx, Bool.false_eq_true, if_false]; exact h1.1
 · simp only [vtx, if_true]; exact h1.2
def MakeAt (al : List Arc) (m k : Nat) (nx hs rs cs aa : List Int) (bs : List Bool) : Prop :=
  (nx.length = m + 1 ∧ hs.length = Z0s al m ∧ rs.length = Z0s al m ∧ cs.length = Z0s al m ∧ aa.length = Z0s al m ∧ bs.length = Z0s al m) ∧
  CsrAt al hs rs cs aa bs k ∧ ∀ v : Int, 0 ≤ v → v < m → nx.getD v.toNat 0 = Z0s al v.toNat + cnt al v.toNat k
theorem MakeAt.start {al : List Arc} {m : Nat} {fs : List Int} (hl : fs.length = m + 1) (hf : ∀ u, u ≤ m → fs.getD u 0 = Z0s al u) :
    MakeAt al m 0 fs (List.replicate (Z0s al m) 0) (List.replicate (Z0s al m) 0) (List.replicate (Z0s al m) 0) (List.replicate (Z0s al m) 0) (List.replicate (Z0s al m) false) := by
  refine ⟨⟨hl, by simp, by simp, by simp, by simp, by simp⟩, fun i hi => by omega, fun v h0 h1 => ?_⟩
  rw [hf _ (by omega)]; simp [cnt]
theorem MakeAt.skip {al : List Arc} {m k : Nat} {nx hs rs cs aa : List Int} {bs : List Bool} (h : MakeAt al m k nx hs rs cs aa bs) (e : (al.getD k default).fr = (al.getD k default).to) : MakeAt al m (k + 1) nx hs rs cs aa bs :=
 ⟨h.1, h.2.1.skip e, fun v h0 h1 => by rw [h.2.2 v h0 h1]; simp only [cnt, hit, if_pos e, Nat.add_zero]⟩
theorem MakeAt.at {al : List Arc} {m k : Nat} {nx hs rs cs aa : List Int} {bs : List Bool} (h : MakeAt al m k nx hs rs cs aa bs) (he : Z57 m al) (hk : k < al.length) (s : Bool) : nx.getD (vtx (al.getD k default) s).toNat 0 = (pos al k s : Nat) := by
 rw [h.2.2 _ (he k hk s).1 (he k hk s).2]; simp only [pos]; omega
theorem MakeAt.put {al : List Arc} {m k : Nat} {nx hs rs cs aa : List Int} {bs : List Bool} (h : MakeAt al m k nx hs rs cs aa bs) (he : Z57 m al) (hk : k < al.length) (hne : (al.getD k default).fr ≠ (al.getD k default).to) :
    MakeAt al m (k + 1) ((nx.set (al.getD k default).fr.toNat ((pos al k false : Nat) + 1)).set (al.getD k default).to.toNat ((pos al k true : Nat) + 1))
      ((hs.set (pos al k false) (al.getD k default).to).set (pos al k true) (al.getD k default).fr) ((rs.set (pos al k false) (pos al k true)).set (pos al k true) (pos al k false))
      ((cs.set (pos al k false) (al.getD k default).cap).set (pos al k true) 0) ((aa.set (pos al k false) k).set (pos al k true) k) ((bs.set (pos al k false) false).set (pos al k true) true) := by
  have g0 := h.at he hk false
  have g1 := h.at he hk true
  obtain ⟨⟨l0, l1, l2, l3, l4, l5⟩, hA, hv⟩ := h
  have e0 := he k hk false
  have e1 := he k hk true
  simp only [vtx, Bool.false_eq_true, if_false, if_true] at e0 e1 g0 g1
  refine ⟨⟨by simpa using l0, by simpa using l1, by simpa using l2, by simpa using l3, by simpa using l4, by simpa using l5⟩, hA.put he hk hne l1 l2 l3 l4 l5, fun v h0 h1 => ?_⟩
  have hvv := hv v h0 h1
  rw [set2 (by omega) (by omega) (by omega)]
  simp only [cnt, hit, if_neg hne]
  by_cases a1 : v = (al.getD k default).fr
  · rw [if_pos (by omega), if_pos (by omega), ← g0, ← a1, hvv]; omega
  · rw [if_neg (by omega)]
    by_cases a2 : v = (al.getD k default).to
    · rw [if_pos (by omega), if_pos (by omega), ← g1, ← a2, hvv]; omega
    · rw [if_neg (by omega), if_neg (by omega), hvv]; omega
theorem MakeAt.done {al : List Arc} {m : Nat} {fs nx hs rs cs aa : List Int} {bs : List Bool} (h : MakeAt al m al.length nx hs rs cs aa bs) (hl : fs.length = m + 1) (hf : ∀ u, u ≤ m → fs.getD u 0 = Z0s al u) : CsrOK al m fs hs rs cs aa bs :=
 ⟨hl, h.1.2.1, h.1.2.2.1, h.1.2.2.2.1, h.1.2.2.2.2.1, h.1.2.2.2.2.2, hf, h.2.1⟩
end Go.Acq
namespace Go.Acq
open Go
theorem next_ne {S m : Int} (h0 : 0 ≤ S) (h1 : S < m) (h2 : 2 ≤ m) : 0 ≤ (S + 1).tmod m ∧ (S + 1).tmod m < m ∧ (S + 1).tmod m ≠ S := by
 rw [Int.tmod_eq_emod_of_nonneg (by omega)]
 refine ⟨Int.emod_nonneg _ (by omega), Int.emod_lt_of_pos _ (by omega), ?_⟩
 by_cases h : S + 1 < m
 · rw [Int.emod_eq_of_lt (by omega) h]; omega
 · rw [show S + 1 = m by omega, Int.emod_self]; omega
theorem Zkq {x n : Int} (h : 0 ≤ x) (hn : 0 < n) : 0 ≤ x.tmod n ∧ x.tmod n < n := by
 rw [Int.tmod_eq_emod_of_nonneg h]
 exact ⟨Int.emod_nonneg _ (by omega), Int.emod_lt_of_pos _ hn⟩
def SomeAt (m : Nat) (ol : List Arc) : Prop := ∀ a, a ∈ ol → Zao m a = true ∧ 0 ≤ a.cap ∧ a.cap < 1125899906842624
theorem SomeAt.put {m : Nat} {ol : List Arc} {a : Arc} (h : SomeAt m ol) (h1 : 0 ≤ a.fr ∧ a.fr < m) (h2 : 0 ≤ a.to ∧ a.to < m) (h3 : 0 ≤ a.cap ∧ a.cap < 1125899906842624) : SomeAt m (ol ++ [a]) := by
 intro b hb
 rcases List.mem_append.1 hb with hb | hb
 · exact h b hb
 ·
  simp only [List.mem_singleton] at hb
  subst hb
  exact ⟨by simp [Zao, Z3m, h1, h2], h3⟩
theorem Zmj {m : Nat} {ol : List Arc} {left : Int} (h : SomeAt m ol) (hl : (ol.length : Int) * 1125899906842624 ≤ left) : (Zfm left ol).isSome = true := by
 induction ol generalizing left with
 | nil => simp [Zfm]
 | cons a ol ih =>
  have ha := (h a (.head _)).2
  simp only [List.length_cons] at hl
  have h2 : (0 : Int) ≤ (ol.length : Int) * 1125899906842624 := by omega
  simp only [Zfm]
  rw [if_neg (by omega)]
  exact ih (fun b hb => h b (.tail _ hb)) (by omega)
theorem Zkr {m : Nat} {S T : Int} {ol : List Arc} (hm : 2 ≤ m) (hm2 : m ≤ 4096) (hS : 0 ≤ S ∧ S < m) (hT : 0 ≤ T ∧ T < m) (hST : T ≠ S) (h : SomeAt m ol) (hl : ol.length ≤ 4096) : Z3o m S T ol = 0 := by
 have h1 : ol.all (Zao m) = true := List.all_eq_true.2 fun a ha => (h a ha).1
 have h2 : ol.all Zk8 = true := List.all_eq_true.2 fun a ha => by simp [Zk8, (h a ha).2.1]
 have h3 : (Zfm 4611686018427387904 ol).isSome = true := Zmj h (by omega)
 unfold Z3o
 rw [if_neg (by omega), if_neg (by omega), if_neg (by simp [Z3m, hS, hT, Ne.symm hST]), if_neg (by simp [h1]), if_neg (by simp [h2]), if_neg (by
  cases e : Zfm 4611686018427387904 ol with
  | none => rw [e] at h3; cases h3
  | some x => simp)]
def WithinAt (al : List Arc) (n k : Nat) (fl : List Int) : Prop := fl.length = n ∧
  (∀ i, i < k → 0 ≤ fl.getD i 0 ∧ fl.getD i 0 ≤ (al.getD i default).cap ∧ ((al.getD i default).fr = (al.getD i default).to → fl.getD i 0 = 0)) ∧ ∀ i, k ≤ i → fl.getD i 0 = 0
theorem WithinAt.start (al : List Arc) (n : Nat) : WithinAt al n 0 (List.replicate n 0) := ⟨by simp, fun i h => by omega, fun i _ => Z27 _ _ _⟩
theorem WithinAt.skip {al : List Arc} {n k : Nat} {fl : List Int} (h : WithinAt al n k fl) (hc : 0 ≤ (al.getD k default).cap) : WithinAt al n (k + 1) fl := by
 refine ⟨h.1, fun i hi => ?_, fun i hi => h.2.2 i (by omega)⟩
 rcases Nat.lt_succ_iff_lt_or_eq.1 hi with h1 | h1
 · exact h.2.1 i h1
 · subst h1; have := h.2.2 i (Nat.le_refl _); rw [this]; exact ⟨Int.le_refl _, hc, fun _ => rfl⟩
theorem WithinAt.put {al : List Arc} {n k : Nat} {fl : List Int} {v : Int} (h : WithinAt al n k fl) (hk : k < n) (h0 : 0 ≤ v) (h1 : v ≤ (al.getD k default).cap) (hne : (al.getD k default).fr ≠ (al.getD k default).to) : WithinAt al n (k + 1) (fl.set k v) := by
 refine ⟨by simpa using h.1, fun i hi => ?_, fun i hi => by rw [Z4c (by omega)]; exact h.2.2 i (by omega)⟩
 by_cases e : i = k
 · subst e; rw [Zbi (by rw [h.1]; exact hk)]; exact ⟨h0, h1, fun e => absurd e hne⟩
 · rw [Z4c (by omega)]; exact h.2.1 i (by omega)
def Zj6 (aa cs : List Int) (bs : List Bool) (fl : List Int) (j : Nat) : Prop := aa.getD j 0 < fl.length ∧ (bs.getD j false = true ∨ (0 ≤ fl.getD (aa.getD j 0).toNat 0 ∧ fl.getD (aa.getD j 0).toNat 0 ≤ cs.getD j 0))
def resV (aa cs : List Int) (bs : List Bool) (fl : List Int) (j : Nat) : Int := if bs.getD j false = true then fl.getD (aa.getD j 0).toNat 0 else cs.getD j 0 - fl.getD (aa.getD j 0).toNat 0
def ResAt (aa cs : List Int) (bs : List Bool) (fl : List Int) (L k : Nat) (rl : List Int) : Prop := rl.length = L ∧ ∀ j, j < k → Zj6 aa cs bs fl j ∧ rl.getD j 0 = resV aa cs bs fl j
theorem ResAt.put {aa cs : List Int} {bs : List Bool} {fl : List Int} {L k : Nat} {rl : List Int} {v : Int} (h : ResAt aa cs bs fl L k rl) (hk : k < L) (h1 : Zj6 aa cs bs fl k) (h2 : v = resV aa cs bs fl k) : ResAt aa cs bs fl L (k + 1) (rl.set k v) := by
 refine ⟨by simpa using h.1, fun j hj => ?_⟩
 by_cases e : j = k
 · subst e; rw [Zbi (by rw [h.1]; exact hk)]; exact ⟨h1, h2⟩
 · rw [Z4c (by omega)]; exact h.2 j (by omega)
end Go.Acq
namespace Go.Acq
open Go
theorem CsrOK.place {al : List Arc} {m : Nat} {fs hs rs cs aa : List Int} {bs : List Bool} (h : CsrOK al m fs hs rs cs aa bs) {j : Nat} (hj : j < Z0s al m) :
    ∃ i s, i < al.length ∧ (al.getD i default).fr ≠ (al.getD i default).to ∧ pos al i s = j ∧ hs.getD j 0 = vtx (al.getD i default) (!s) ∧ rs.getD j 0 = pos al i (!s) ∧ cs.getD j 0 = (if s then 0 else (al.getD i default).cap) ∧ aa.getD j 0 = i ∧ bs.getD j false = s := by
  obtain ⟨i, s, hi, hne, hp, _⟩ := pos_surj hj
  have := h.hat i hi hne s
  rw [hp] at this
  exact ⟨i, s, hi, hne, hp, this⟩
theorem CsrOK.aa0 {al : List Arc} {m : Nat} {fs hs rs cs aa : List Int} {bs : List Bool} (h : CsrOK al m fs hs rs cs aa bs) : ∀ j, j < Z0s al m → 0 ≤ aa.getD j 0 := by
 intro j hj
 obtain ⟨i, s, _, _, _, _, _, _, h4, _⟩ := h.place hj
 omega
end Go.Acq
namespace Go.Acq
open Go
theorem Zfp {α : Type} {m : Option α} {v : α} (h : Ok m (fun a => a = v)) : m = some v := by obtain ⟨a, h1, h2⟩ := h; rw [h1, h2]
theorem Z7r {α : Type} {m : Option α} {v : α} {Q : α → Prop} (h : m = some v) (q : Q v) : Ok m Q := ⟨v, h, q⟩
abbrev lenok (n : Nat) : Prop := n ≤ 9223372036854775807
theorem Ze1 {x n : Int} (h1 : n ≤ 4611686018427387904) : Z1w x n = some (Zei x n) := by
 unfold Z1w Zei
 by_cases h : n < 1
 · rw [if_pos h, if_pos h]
 ·
  have a1 := Int.tmod_lt_of_pos x (show 0 < n by omega)
  have a2 := Ze8 x (show 0 < n by omega)
  rw [if_neg h, if_neg h, Z8i (by omega), Z8i (by constructor <;> omega), Z8i (by omega)]
theorem Zdr (n : Net) (v : Int) : Z4j n v = some (Z3m n.N v) := by
 unfold Z4j Z3m
 by_cases h : 0 ≤ v <;> simp [h]
theorem s_rules4 (n : Net) (a : Arc) : Z6e n a = some (Zao n.N a) := by
 unfold Z6e Zao
 rw [Zdr, Zdr]
 simp only [Option.bind_some]
 cases Z3m n.N a.fr <;> simp
theorem s_of4 (n : Net) (h : lenok n.Arcs.length) : Z3t n = some (n.Arcs.all (Zao n.N)) := by
 refine Zfp ?_
 unfold Z3t Z1e Z1l
 refine Ok.bind.2 (Ok.bind.2 (Ok.bind.2 (Zhh (fun x => 0 ≤ x ∧ x ≤ n.Arcs.length ∧ ∀ i, i < x.toNat → Zao n.N (n.Arcs.getD i default) = true) (fun x => (n.Arcs.length - x).toNat) ⟨by omega, by omega, fun i hi => by omega⟩ (by unfold Z4w; omega) ?_)))
 rintro x ⟨h0, h1, h2⟩
 unfold Z19 Z46
 refine Ok.ite.2 ⟨fun hx => ?_, fun hx => ?_⟩
 ·
  refine Ok.gd.2 ⟨(by omega), Ok.bind.2 (Ok.bind.2 (Z7r (s_rules4 _ _) (Ok.some.2 (Ok.ite.2 ⟨fun hb => ?_, fun hb => ?_⟩))))⟩
  ·
   refine Ok.some.2 (Ok.some.2 (Ok.some.2 (Ok.some.2 ?_)))
   simp only [h0, decide_true, Bool.not_true]
   refine Eq.symm (Bool.eq_false_iff.2 fun hall => ?_)
   have := List.all_eq_true.1 hall _ (Z78 (show x.toNat < n.Arcs.length by omega) default)
   rw [this] at hb; cases hb
  ·
   refine Ok.gd.2 ⟨(by omega), Ok.some.2 ⟨⟨by omega, by omega, fun i hi => ?_⟩, by omega⟩⟩
   rcases Nat.lt_or_ge i x.toNat with h3 | h3
   · exact h2 i h3
   · rw [show i = x.toNat by omega]; simpa using hb
 ·
  refine Ok.some.2 (Ok.some.2 (Ok.some.2 (Ok.some.2 ?_)))
  refine Eq.symm (List.all_eq_true.2 fun a ha => ?_)
  obtain ⟨i, hi, rfl⟩ := List.getElem_of_mem ha
  have := h2 i (by omega)
  rwa [List.getD_eq_getElem?_getD, List.getElem?_eq_getElem hi] at this
theorem s_of5 (n : Net) (h : lenok n.Arcs.length) : Z3s n = some (n.Arcs.all Zk8) := by
 refine Zfp ?_
 unfold Z3s Z1d Z1k
 refine Ok.bind.2 (Ok.bind.2 (Ok.bind.2 (Zhh (fun x => 0 ≤ x ∧ x ≤ n.Arcs.length ∧ ∀ i, i < x.toNat → Zk8 (n.Arcs.getD i default) = true) (fun x => (n.Arcs.length - x).toNat) ⟨by omega, by omega, fun i hi => by omega⟩ (by unfold Z4w; omega) ?_)))
 rintro x ⟨h0, h1, h2⟩
 unfold Z18 Z45 Z7t
 refine Ok.ite.2 ⟨fun hx => ?_, fun hx => ?_⟩
 ·
  refine Ok.gd.2 ⟨(by omega), Ok.bind.2 (Ok.bind.2 (Ok.some.2 (Ok.some.2 (Ok.ite.2 ⟨fun hb => ?_, fun hb => ?_⟩))))⟩
  ·
   refine Ok.some.2 (Ok.some.2 (Ok.some.2 (Ok.some.2 ?_)))
   simp only [h0, decide_true, Bool.not_true]
   refine Eq.symm (Bool.eq_false_iff.2 fun hall => ?_)
   have := List.all_eq_true.1 hall _ (Z78 (show x.toNat < n.Arcs.length by omega) default)
   simp only [Zk8] at this
   rw [this] at hb; cases hb
  ·
   refine Ok.gd.2 ⟨(by omega), Ok.some.2 ⟨⟨by omega, by omega, fun i hi => ?_⟩, by omega⟩⟩
   rcases Nat.lt_or_ge i x.toNat with h3 | h3
   · exact h2 i h3
   · rw [show i = x.toNat by omega]; simpa [Zk8] using hb
 ·
  refine Ok.some.2 (Ok.some.2 (Ok.some.2 (Ok.some.2 ?_)))
  refine Eq.symm (List.all_eq_true.2 fun a ha => ?_)
  obtain ⟨i, hi, rfl⟩ := List.getElem_of_mem ha
  have := h2 i (by omega)
  rwa [List.getD_eq_getElem?_getD, List.getElem?_eq_getElem hi] at this
theorem s_Sum (n : Net) (h : lenok n.Arcs.length) : Zal n = some (match Zfm 4611686018427387904 n.Arcs with | some l => (4611686018427387904 - l, true) | none => (0, false)) := by
 refine Zfp ?_
 unfold Zal
 refine Ok.bind.2 (Zhh (fun s => 0 ≤ s.2 ∧ s.2 ≤ n.Arcs.length ∧ 0 ≤ s.1 ∧ s.1 ≤ 4611686018427387904 ∧ Zfm 4611686018427387904 n.Arcs = Zfm s.1 (n.Arcs.drop s.2.toNat)) (fun s => (n.Arcs.length - s.2).toNat) ⟨by simp, by simp, by simp, by simp, by simp⟩ (by unfold Z4w; simp; omega) ?_)
 rintro ⟨left, x⟩ ⟨h0, h1, h2, h3, h4⟩
 simp only at h0 h1 h2 h3 h4 ⊢
 unfold Z7b Z7c
 refine Ok.ite.2 ⟨fun hx => ?_, fun hx => ?_⟩
 ·
  rw [Zhs (by omega)] at h4
  refine Ok.gd.2 ⟨(by omega), Ok.ite.2 ⟨fun hb => ?_, fun hb => ?_⟩⟩
  ·
   rw [if_pos rfl]
   refine Ok.some.2 (Ok.some.2 ?_)
   rw [h4, if_pos (.inl hb)]
  ·
   by_cases hc : left < (n.Arcs.getD x.toNat default).cap
   ·
    rw [if_pos (decide_eq_true hc)]
    refine Ok.some.2 (Ok.some.2 ?_)
    rw [h4, if_pos (.inr hc)]
   ·
    rw [if_neg (by simpa using hc)]
    refine Ok.gd.2 ⟨(by omega), Ok.gd.2 ⟨(by omega), Ok.some.2 ⟨⟨by simp only; omega, by simp only; omega, by simp only; omega, by simp only; omega, ?_⟩, by simp only; omega⟩⟩⟩
    rw [h4, if_neg (by omega)]
    simp only
    rw [show (x + 1).toNat = x.toNat + 1 by omega]
 ·
  unfold Z8v
  refine Ok.some.2 (Ok.gd.2 ⟨(by omega), Ok.some.2 ?_⟩)
  rw [h4, List.drop_eq_nil_of_le (by omega)]
  rfl
theorem Ze0 (n : Net) (h : lenok n.Arcs.length) : Z5z n = some (Z3o n.N n.S n.T n.Arcs) := by
 unfold Z5z Z9u Z5u Z5t Z7w Z7v Z7u Z7s Z75
 rw [Zdr, Zdr, s_of4 n h, s_of5 n h, s_Sum n h]
 unfold Z3o
 simp only [Option.bind_some]
 by_cases h1 : 2 ≤ n.N ∧ n.N ≤ 4096
 ·
  rw [if_pos h1.1, if_neg (not_not_intro h1)]
  simp only [Option.bind_some, decide_eq_true h1.2, Bool.not_true, Bool.false_eq_true, if_false]
  by_cases h2 : (n.Arcs.length : Int) ≤ 16384
  ·
   rw [if_neg (by simp [h2]), if_neg (not_not_intro h2)]
   by_cases h3 : Z3m n.N n.S = true ∧ Z3m n.N n.T = true ∧ n.S ≠ n.T
   ·
    rw [if_pos h3.1, if_pos h3.2.1, if_neg (not_not_intro h3)]
    simp only [Option.bind_some, decide_eq_true h3.2.2, Bool.not_true, Bool.false_eq_true, if_false]
    cases h4 : n.Arcs.all (Zao n.N)
    · simp
    ·
     cases h5 : n.Arcs.all Zk8
     · simp
     · cases h6 : Zfm 4611686018427387904 n.Arcs <;> simp
   ·
    rw [if_pos h3]
    by_cases a1 : Z3m n.N n.S = true
    ·
     by_cases a2 : Z3m n.N n.T = true
     ·
      have a3 : ¬ n.S ≠ n.T := fun e => h3 ⟨a1, a2, e⟩
      simp [a1, a2, a3]
     · simp [a1, a2]
    · simp [a1]
  · rw [if_pos (by simp [h2]), if_pos h2]
 ·
  rw [if_pos h1]
  by_cases a1 : 2 ≤ n.N
  ·
   have a2 : ¬ n.N ≤ 4096 := fun e => h1 ⟨a1, e⟩
   simp [a1, a2]
  · simp [a1]
end Go.Acq
namespace Go.Acq
open Go
set_option linter.unusedSimpArgs false
structure NetIn (n : Net) : Prop where
  nN : i64ok n.N
  nS : i64ok n.S
  nT : i64ok n.T
  arcs : ∀ a, a ∈ n.Arcs → i64ok a.fr ∧ i64ok a.to ∧ i64ok a.cap
  len : n.Arcs.length ≤ 9223372036854775807
structure Made (n : Net) (v a : Int) : Prop where
  check : Z3o n.N n.S n.T n.Arcs = 0
  rows : SomeAt n.N.toNat n.Arcs
  verts : n.N ≤ v
  arcs : (n.Arcs.length : Int) ≤ a
  ends : 2 ≤ n.N ∧ 0 ≤ n.S ∧ n.S < n.N ∧ 0 ≤ n.T ∧ n.T < n.N ∧ n.S ≠ n.T
theorem Made.nat {n : Net} {v a : Int} (h : Made n v a) : ∃ m : Nat, n.N = m ∧ SomeAt m n.Arcs := ⟨n.N.toNat, by have := h.ends.1; omega, h.rows⟩
theorem Made.caps {n : Net} {m : Nat} (h : SomeAt m n.Arcs) : ∀ i, i < n.Arcs.length → 0 ≤ (n.Arcs.getD i default).cap ∧ (n.Arcs.getD i default).cap < 1125899906842624 := fun _ hi => (h _ (Z78 hi default)).2
theorem s_Some {n : Net} {v a : Int} (h : NetIn n) (hv0 : 2 ≤ v) (hv1 : v ≤ 4096) (ha0 : 0 ≤ a) (ha1 : a ≤ 4096) : Ok (Z4b n v a) (fun r => Made r v a) := by
 have hN := Z8j (x := n.N) (n := v - 1) (by omega)
 unfold Z4b
 refine Ok.gd.2 ⟨(by omega), Ok.bind.2 (Z7r (Ze1 (by omega)) (Ok.gd.2 ⟨(by omega), ?_⟩))⟩
 obtain ⟨m, hm⟩ : ∃ m : Nat, 2 + Zei n.N (v - 1) = m := ⟨(2 + Zei n.N (v - 1)).toNat, by omega⟩
 rw [hm]
 have hS := Z8j (x := n.S) (n := (m : Int)) (by omega)
 have hT := Z8j (x := n.T) (n := (m : Int)) (by omega)
 refine Ok.bind.2 (Z7r (Ze1 (by omega)) (Ok.bind.2 (Z7r (Ze1 (by omega)) ?_)))
 have key : ∀ t : Int, 0 ≤ t → t < m → t ≠ Zei n.S m → Ok (Z2v n a (Zei n.N (v - 1)) (Zei n.S m) t) (fun r => Made r v a) := by
  intro t t0 t1 t2
  unfold Z2v
  refine Ok.gd.2 ⟨(by omega), Ok.bind.2 ?_⟩
  obtain ⟨q, hq⟩ : ∃ q : Nat, min (n.Arcs.length : Int) a = q := ⟨(min (n.Arcs.length : Int) a).toNat, by omega⟩
  obtain ⟨al, hal⟩ : ∃ l, l = n.Arcs.take (q : Int).toNat := ⟨_, rfl⟩
  have hlen : al.length = q := by rw [hal, List.length_take]; omega
  have hcap : ∀ b, b ∈ al → i64ok b.cap := fun b hb => (h.arcs b (List.mem_of_mem_take (by rw [← hal]; exact hb))).2.2
  refine Z9r (fun s => ∃ k : Nat, s.2 = k ∧ k ≤ q ∧ s.1.length = k ∧ SomeAt m s.1) (fun s => (q - s.2).toNat) ⟨0, rfl, by omega, rfl, fun b hb => by cases hb⟩ (by unfold Z4w; simp only; omega) ?_
  rintro ⟨ol, x⟩ ⟨k, h1, h2, h3, h4⟩ P next exit
  simp only at h1 h2 h3 h4 next ⊢
  subst h1
  unfold Z3c
  rw [hq, ← hal]
  simp only [Int.toNat_natCast]
  refine Ok.ite.2 ⟨fun hx => ?_, fun hx => ?_⟩
  ·
   have hkl : k < al.length := by omega
   have hc := hcap _ (Z78 hkl default)
   have hj : ∀ c : Int, 0 ≤ c → Ok (Z2u n a (Zei n.N (v - 1)) ol k c) P := by
    intro c hc0
    unfold Z2u
    rw [hq, ← hal, hm]
    refine Ok.bind.2 (Z7r (Ze1 (by omega)) (Ok.bind.2 (Z7r (Ze1 (by omega)) (Ok.gd.2 ⟨?_, Ok.gd.2 ⟨(by omega), Ok.some.2 (next _ ⟨k + 1, by simp, by omega, by simp [h3], ?_⟩ (by simp only; omega))⟩⟩))))
    · rw [List.length_append, h3]; simp only [List.length_cons, List.length_nil]; constructor <;> omega
    · exact h4.put (Z8j (by omega)) (Z8j (by omega)) (Zkq hc0 (by omega))
   refine Ok.gd.2 ⟨(by omega), Ok.ite.2 ⟨fun hn => ?_, fun hn => ?_⟩⟩
   · exact Ok.gd.2 ⟨by constructor <;> omega, Ok.gd.2 ⟨by constructor <;> omega, hj (-((al.getD k default).cap + 1)) (by omega)⟩⟩
   · exact hj (al.getD k default).cap (by omega)
  ·
   refine Ok.some.2 (exit _ ?_)
   unfold Z47
   refine Ok.some.2 ?_
   rw [hm]
   exact ⟨Zkr (by omega) (by omega) hS ⟨t0, t1⟩ t2 h4 (show ol.length ≤ 4096 by omega), by simpa using h4, by simp only; omega, by show (ol.length : Int) ≤ a; omega, ⟨by simp only; omega, hS.1, hS.2, t0, t1, fun e => t2 e.symm⟩⟩
 refine Ok.ite.2 ⟨fun he => ?_, fun he => ?_⟩
 ·
  refine Ok.gd.2 ⟨(by omega), Ok.gd.2 ⟨by omega, ?_⟩⟩
  obtain ⟨n1, n2, n3⟩ := next_ne hS.1 hS.2 (by omega)
  exact key _ n1 n2 n3
 · exact key _ hT.1 hT.2 (fun e => he e.symm)
theorem Zml {n : Net} {m : Nat} (hN : n.N = m) (hm : m ≤ 4096) (hl : n.Arcs.length ≤ 16384) (he : Z57 m n.Arcs) :
    Ok (Z6j n) (fun fs => fs.length = m + 1 ∧ ∀ u, u ≤ m → fs.getD u 0 = Z0s n.Arcs u) := by
  unfold Z6j
  simp only [hN]
  refine Ok.gd.2 ⟨(by omega), Ok.gd.2 ⟨(by omega), Ok.bind.2 (Z9r (fun s => ∃ k : Nat, s.2 = k ∧ k ≤ n.Arcs.length ∧ Counted n.Arcs m k s.1) (fun s => (n.Arcs.length - s.2).toNat) ⟨0, rfl, by omega, Counted.start n.Arcs m (by omega)⟩ (by unfold Z4w; simp only; omega) ?_)⟩⟩
  rintro ⟨fs, x⟩ ⟨k, h1, h2, h3⟩ P next exit
  simp only at h1 h2 h3 next ⊢
  subst h1
  unfold Z4t
  simp only [Int.toNat_natCast]
  refine Ok.ite.2 ⟨fun hx => ?_, fun hx => ?_⟩
  · have hkl : k < n.Arcs.length := by omega
    have hfl := h3.1
    have e0 := he k hkl false
    have e1 := he k hkl true
    simp only [vtx, Bool.false_eq_true, if_false, if_true] at e0 e1
    have c0 := h3.2.2 _ e0.1 e0.2
    have c1 := h3.2.2 _ e1.1 e1.2
    have d0 := Zk6 n.Arcs (n.Arcs.getD k default).fr.toNat k
    have d1 := Zk6 n.Arcs (n.Arcs.getD k default).to.toNat k
    refine Ok.gd.2 ⟨(by omega), Ok.ite.2 ⟨fun hne => ?_, fun hne => ?_⟩⟩
    · have c2 : (fs.set ((n.Arcs.getD k default).fr + 1).toNat (fs.getD ((n.Arcs.getD k default).fr + 1).toNat 0 + 1)).getD ((n.Arcs.getD k default).to + 1).toNat 0 = cnt n.Arcs (n.Arcs.getD k default).to.toNat k := by rw [Z4c (by omega)]; exact c1
      refine Ok.gd.2 ⟨(by omega), Ok.gd.2 ⟨(by omega), Ok.gd.2 ⟨(by omega), Ok.gd.2 ⟨(by omega), Ok.gd.2 ⟨(by omega), Ok.gd.2 ⟨(by simp only [List.length_set, List.length_replicate]; omega), Ok.gd.2 ⟨(by omega), Ok.gd.2 ⟨(by simp only [List.length_set, List.length_replicate]; omega), Ok.gd.2 ⟨(by omega), Ok.some.2 (next _ ⟨k + 1, by simp, by omega, ?_⟩ (by simp only; omega))⟩⟩⟩⟩⟩⟩⟩⟩⟩
      exact h3.put he hkl hne
    · refine Ok.gd.2 ⟨(by omega), Ok.some.2 (next _ ⟨k + 1, by simp, by omega, h3.skip (Classical.not_not.1 hne)⟩ (by simp only; omega))⟩
  · refine Ok.some.2 (exit _ ?_)
    have hk : k = n.Arcs.length := by omega
    subst hk
    unfold Z5x
    refine Ok.bind.2 (Z9r (fun s => ∃ v : Nat, s.2 = v ∧ v ≤ m ∧ Summed n.Arcs m v s.1) (fun s => (m - s.2).toNat) ⟨0, rfl, by omega, h3.summed⟩ (by unfold Z4w; simp only; omega) ?_)
    rintro ⟨gs, y⟩ ⟨v, g1, g2, g3⟩ P2 next2 exit2
    simp only at g1 g2 g3 next2 ⊢
    subst g1
    unfold Z4s
    simp only [hN, Int.toNat_natCast]
    have hgl := g3.1
    have b0 := g3.2.1 v (Nat.le_refl _)
    refine Ok.ite.2 ⟨fun hv => ?_, fun hv => ?_⟩
    · have b1 := g3.2.2 v (Nat.le_refl _) (by omega)
      have b2 := Z58 (al := n.Arcs) (v := v) (by omega) hl
      have b3 := Zk6 n.Arcs v n.Arcs.length
      have b5 : ((v : Int) + 1).toNat = v + 1 := by omega
      simp only [b5]
      refine Ok.gd.2 ⟨(by omega), Ok.gd.2 ⟨(by omega), Ok.gd.2 ⟨(by omega), Ok.gd.2 ⟨(by omega), Ok.gd.2 ⟨(by omega), Ok.gd.2 ⟨(by omega), Ok.some.2 (next2 _ ⟨v + 1, by simp, by omega, ?_⟩ (by simp only; omega))⟩⟩⟩⟩⟩⟩
      exact g3.put (by omega) rfl
    · refine Ok.some.2 (exit2 _ ?_)
      unfold Z5w
      have : v = m := by omega
      subst this
      exact Ok.some.2 ⟨hgl, g3.2.1⟩
structure CsrIs (n : Net) (m : Nat) (c : Csr) : Prop where
  hN : c.N = m
  hS : c.S = n.S
  hT : c.T = n.T
  ok : CsrOK n.Arcs m c.First c.Head c.Rev c.Cap c.Arc c.Back
theorem Zmn {n : Net} {m : Nat} (hN : n.N = m) (hc : Z3o n.N n.S n.T n.Arcs = 0) (hl : lenok n.Arcs.length) :
    Ok (Z66 n) (fun r => CsrIs n m r.1 ∧ r.2 = 0) := by
  have hz := Z2r hc
  have hm : m ≤ 4096 := by omega
  have he : Z57 m n.Arcs := Zc2 (by rw [← hN]; exact hz.2.2.2.1)
  unfold Z66
  refine Ok.bind.2 (Z7r (Ze0 n hl) (Ok.ite.2 ⟨fun h => absurd hc h, fun _ => Ok.bind.2 (Ok.mono (Zml hN hm (by omega) he) ?_)⟩))
  rintro fs ⟨hfl, hfs⟩
  simp only [hN, Int.toNat_natCast, hfs m (Nat.le_refl _)]
  have hbs := Z58 (al := n.Arcs) (v := m) hm (by omega)
  unfold Z2l
  refine Ok.gd.2 ⟨(by omega), Ok.gd.2 ⟨(by omega), Ok.gd.2 ⟨(by omega), Ok.gd.2 ⟨(by omega), Ok.gd.2 ⟨(by omega), Ok.gd.2 ⟨(by omega), Ok.bind.2 (Ok.gd.2 ⟨(by omega), Ok.some.2 (Ok.bind.2 ?_)⟩)⟩⟩⟩⟩⟩⟩
  refine Z9r (fun s => ∃ k : Nat, s.2.2.2.2.2.2 = k ∧ k ≤ n.Arcs.length ∧ MakeAt n.Arcs m k s.2.2.2.2.2.1 s.1 s.2.1 s.2.2.1 s.2.2.2.1 s.2.2.2.2.1) (fun s => (n.Arcs.length - s.2.2.2.2.2.2).toNat) ⟨0, rfl, by omega, MakeAt.start hfl hfs⟩ (by unfold Z4w; simp only; omega) ?_
  rintro ⟨hs, rs, cs, aa, bs, nx, x⟩ ⟨k, h1, h2, h3⟩ P next exit
  simp only at h1 h2 h3 next ⊢
  subst h1
  unfold Z6k
  simp only [Int.toNat_natCast]
  refine Ok.ite.2 ⟨fun hx => ?_, fun hx => ?_⟩
  · have hkl : k < n.Arcs.length := by omega
    refine Ok.gd.2 ⟨(by omega), Ok.ite.2 ⟨fun heq => ?_, fun hne => ?_⟩⟩
    · exact Ok.gd.2 ⟨(by omega), Ok.some.2 (next _ ⟨k + 1, by simp, by omega, h3.skip heq⟩ (by simp only; omega))⟩
    · have e0 := he k hkl false
      have e1 := he k hkl true
      have n0 := h3.at he hkl false
      have n1 := h3.at he hkl true
      have p0 : pos n.Arcs k false < Z0s n.Arcs m := Zaj hkl hne he
      have p1 : pos n.Arcs k true < Z0s n.Arcs m := Zaj hkl hne he
      simp only [vtx, Bool.false_eq_true, if_false, if_true] at e0 e1 n0 n1
      have hh := h3
      obtain ⟨⟨l0, l1, l2, l3, l4, l5⟩, _, _⟩ := h3
      unfold Z7e
      simp only [n0, Int.toNat_natCast]
      have n2 : (nx.set (n.Arcs.getD k default).fr.toNat ((pos n.Arcs k false : Int) + 1)).getD (n.Arcs.getD k default).to.toNat 0 = (pos n.Arcs k true : Nat) := by rw [Z4c (by omega)]; exact n1
      refine Ok.bind.2 (Ok.gd.2 ⟨(by omega), Ok.gd.2 ⟨(by omega), Ok.gd.2 ⟨(by omega), Ok.gd.2 ⟨(by omega), Ok.gd.2 ⟨(by omega), Ok.gd.2 ⟨(by omega), Ok.gd.2 ⟨(by omega), Ok.gd.2 ⟨(by omega), Ok.some.2 (Ok.bind.2 ?_)⟩⟩⟩⟩⟩⟩⟩⟩)
      simp only [n2, Int.toNat_natCast]
      refine Ok.gd.2 ⟨(by simp only [List.length_set, List.length_replicate]; omega), Ok.gd.2 ⟨(by simp only [List.length_set, List.length_replicate]; omega), Ok.gd.2 ⟨(by omega), Ok.gd.2 ⟨(by simp only [List.length_set, List.length_replicate]; omega), Ok.gd.2 ⟨(by simp only [List.length_set, List.length_replicate]; omega), Ok.gd.2 ⟨(by simp only [List.length_set, List.length_replicate]; omega), Ok.gd.2 ⟨(by simp only [List.length_set, List.length_replicate]; omega), Ok.gd.2 ⟨(by simp only [List.length_set, List.length_replicate]; omega), Ok.some.2 (Ok.gd.2 ⟨(by omega), Ok.gd.2 ⟨(by simp only [List.length_set, List.length_replicate]; omega), Ok.gd.2 ⟨(by omega), Ok.some.2 (next _ ⟨k + 1, by simp, by omega, ?_⟩ (by simp only; omega))⟩⟩⟩)⟩⟩⟩⟩⟩⟩⟩⟩
      exact hh.put he hkl hne
  · refine Ok.some.2 (exit _ ?_)
    unfold Z7y
    have hk : k = n.Arcs.length := by omega
    subst hk
    exact Ok.some.2 ⟨⟨hN, rfl, rfl, h3.done hfl hfs⟩, rfl⟩
theorem s_Res {c : Csr} {f : List Int} {L : Nat} (hh : c.Head.length = L) (hc : c.Cap.length = L) (ha : c.Arc.length = L) (hb : c.Back.length = L) (hL : L ≤ 67108864)
    (h0 : ∀ j, j < L → 0 ≤ c.Arc.getD j 0) (h1 : ∀ j, j < L → 0 ≤ c.Cap.getD j 0 ∧ c.Cap.getD j 0 ≤ 9223372036854775807) :
    Ok (Zam c f) (fun r => ((∀ j, j < L → Zj6 c.Arc c.Cap c.Back f j) ∧ r.2 = 0 ∧ ResAt c.Arc c.Cap c.Back f L L r.1) ∨ ((∃ j, j < L ∧ ¬Zj6 c.Arc c.Cap c.Back f j) ∧ r = ([], 20))) := by
  unfold Zam Z9c
  simp only [hh]
  refine Ok.bind.2 (Ok.some.2 (Ok.gd.2 ⟨(by omega), Ok.bind.2 (Z9r (fun s => ∃ k : Nat, s.2 = k ∧ k ≤ L ∧ ResAt c.Arc c.Cap c.Back f L k s.1) (fun s => (L - s.2).toNat) ⟨0, rfl, by omega, by simp, fun j hj => by omega⟩ (by unfold Z4w; simp only; omega) ?_)⟩))
  rintro ⟨rl, x⟩ ⟨k, g1, g2, g3⟩ P next exit
  simp only at g1 g2 g3 next ⊢
  subst g1
  unfold Z7d
  simp only [Int.toNat_natCast, List.length_replicate]
  have hrl := g3.1
  refine Ok.ite.2 ⟨fun hx => ?_, fun hx => ?_⟩
  · have hkl : k < L := by omega
    have a0 := h0 k hkl
    have c1 := h1 k hkl
    have bad : ¬Zj6 c.Arc c.Cap c.Back f k → P (.inr (.inl ([], 20))) := fun hr => exit _ (Ok.some.2 (.inr ⟨⟨k, hkl, hr⟩, rfl⟩))
    have step : ∀ v : Int, Zj6 c.Arc c.Cap c.Back f k → v = resV c.Arc c.Cap c.Back f k → Ok (gd (i64ok ((k : Int) + 1)) (some (.inl (rl.set k v, (k : Int) + 1)))) P := fun v hr hv =>
      Ok.gd.2 ⟨(by omega), Ok.some.2 (next _ ⟨k + 1, by simp, by omega, g3.put hkl hr hv⟩ (by simp only; omega))⟩
    refine Ok.gd.2 ⟨(by omega), Ok.ite.2 ⟨fun hk => ?_, fun hk => ?_⟩⟩
    · exact Ok.some.2 (bad fun hr => by have := hr.1; omega)
    · refine Ok.gd.2 ⟨(by omega), Ok.ite.2 ⟨fun hbk => ?_, fun hbk => ?_⟩⟩
      · exact Ok.gd.2 ⟨(by omega), Ok.gd.2 ⟨(by omega), step _ ⟨by omega, .inl hbk⟩ (by unfold resV; rw [if_pos hbk])⟩⟩
      · refine Ok.gd.2 ⟨(by omega), Ok.ite.2 ⟨fun hn => ?_, fun hn => ?_⟩⟩
        · unfold Z65
          rw [if_pos rfl]
          exact Ok.some.2 (bad fun hr => by rcases hr.2 with h | h; exact hbk h; omega)
        · refine Ok.gd.2 ⟨(by omega), Ok.gd.2 ⟨(by omega), ?_⟩⟩
          unfold Z65
          simp only [Int.toNat_natCast]
          refine Ok.ite.2 ⟨fun hd => ?_, fun hd => ?_⟩
          · have hd := of_decide_eq_true hd
            exact Ok.some.2 (bad fun hr => by rcases hr.2 with h | h; exact hbk h; omega)
          · have hd : ¬ c.Cap.getD k 0 < f.getD (c.Arc.getD k 0).toNat 0 := fun h => hd (decide_eq_true h)
            exact Ok.gd.2 ⟨(by omega), Ok.gd.2 ⟨(by omega), Ok.gd.2 ⟨(by omega), Ok.gd.2 ⟨(by omega), step _ ⟨by omega, .inr ⟨by omega, by omega⟩⟩ (by unfold resV; rw [if_neg hbk])⟩⟩⟩⟩
  · refine Ok.some.2 (exit _ ?_)
    unfold Z8w
    have : k = L := by omega
    subst this
    exact Ok.some.2 (.inl ⟨fun j hj => (g3.2 j hj).1, rfl, g3⟩)
def Zba (rs cs : List Int) (res : List Int) (j : Nat) : Prop :=
  0 ≤ res.getD j 0 ∧ res.getD j 0 ≤ max (cs.getD j 0) (cs.getD (rs.getD j 0).toNat 0) ∧ res.getD (rs.getD j 0).toNat 0 = max (cs.getD j 0) (cs.getD (rs.getD j 0).toNat 0) - res.getD j 0
def FlowK (al : List Arc) (a : Nat) (res : List Int) (k : Nat) (fl : List Int) : Prop :=
  fl.length = a ∧ ∀ i, fl.getD i 0 = if i < al.length ∧ (al.getD i default).fr ≠ (al.getD i default).to ∧ pos al i true < k then res.getD (pos al i true) 0 else 0
theorem s_over {l : List Int} {a : Int} (hl : lenok l.length) : Ok (Z1j l a) (fun r => r = decide (∃ j, j < l.length ∧ a ≤ l.getD j 0)) := by
 unfold Z1j Z2d
 refine Ok.bind.2 (Ok.bind.2 (Z9r (fun x => ∃ k : Nat, x = k ∧ k ≤ l.length ∧ ∀ j, j < k → ¬ a ≤ l.getD j 0) (fun x => (l.length - x).toNat) ⟨0, rfl, by omega, fun j hj => by omega⟩ (by unfold Z4w; omega) ?_))
 rintro x ⟨k, rfl, g2, g3⟩ P next exit
 unfold Z1i Z8x
 simp only [Int.toNat_natCast]
 refine Ok.ite.2 ⟨fun hx => ?_, fun hx => ?_⟩
 ·
  refine Ok.gd.2 ⟨(by omega), Ok.bind.2 (Ok.some.2 (Ok.ite.2 ⟨fun hd => ?_, fun hd => ?_⟩))⟩
  ·
   have hd := of_decide_eq_true hd
   refine Ok.some.2 (exit _ (Ok.some.2 (Ok.some.2 ?_)))
   rw [decide_eq_true (show (0 : Int) ≤ k by omega)]
   exact (decide_eq_true ⟨k, by omega, hd⟩).symm
  ·
   refine Ok.gd.2 ⟨(by omega), Ok.some.2 (next _ ⟨k + 1, by simp, by omega, fun j hj => ?_⟩ (by omega))⟩
   rcases Nat.lt_or_ge j k with h | h
   · exact g3 j h
   · rw [show j = k by omega]; exact fun h => hd (decide_eq_true h)
 ·
  refine Ok.some.2 (exit _ (Ok.some.2 (Ok.some.2 ?_)))
  refine (decide_eq_false ?_).symm
  rintro ⟨j, hj, hja⟩
  exact g3 j (by omega) hja
end Go.Acq
namespace Go.Acq
open Go
set_option linter.unusedSimpArgs false
end Go.Acq
namespace Go.Acq
open Go
set_option linter.unusedSimpArgs false
def ex (al : List Arc) (f : List Int) (v : Int) : Nat → Int
  | 0 => 0
  | k + 1 => ex al f v k - (if (al.getD k default).fr = v then f.getD k 0 else 0) + (if (al.getD k default).to = v then f.getD k 0 else 0)
def tot (f : List Int) : Nat → Int
  | 0 => 0
  | k + 1 => tot f k + f.getD k 0
def part (al : List Arc) (f : List Int) (j : Int) : Nat → Int
  | 0 => 0
  | k + 1 => part al f j k - (if (al.getD k default).fr < j then f.getD k 0 else 0) + (if (al.getD k default).to < j then f.getD k 0 else 0)
theorem ex_le {al : List Arc} {f : List Int} (v : Int) {n : Nat} (h : ∀ i, i < n → 0 ≤ f.getD i 0) : ∀ k, k ≤ n → -tot f k ≤ ex al f v k ∧ ex al f v k ≤ tot f k
 | 0, _ => by simp [ex, tot]
 | k + 1, hk => by
  have ih := ex_le (al := al) v h k (by omega)
  have := h k hk
  simp only [ex, tot]
  split <;> split <;> omega
theorem Zgr {f : List Int} {n : Nat} (h : ∀ i, i < n → 0 ≤ f.getD i 0) : ∀ j k, j ≤ k → k ≤ n → tot f j ≤ tot f k
  | j, 0, hj, _ => by have : j = 0 := by omega
                      subst this; exact Int.le_refl _
  | j, k + 1, hj, hk => by
    rcases Nat.lt_or_ge j (k + 1) with h1 | h1
    · have := Zgr h j k (by omega) (by omega)
      have := h k hk
      simp only [tot]; omega
    · rw [show j = k + 1 by omega]; exact Int.le_refl _
theorem sumL_tot {f : List Int} : ∀ (al : List Arc) (left : Int) (k : Nat), (Zfm left (al.drop k)).isSome = true → 0 ≤ left → k ≤ al.length → (∀ i, i < al.length → 0 ≤ f.getD i 0 ∧ f.getD i 0 ≤ (al.getD i default).cap) → tot f al.length - tot f k ≤ left := by
 intro al left k
 induction hn : al.length - k generalizing left k with
 | zero =>
  intro _ h0 hk _
  rw [show k = al.length by omega]; omega
 | succ n ih =>
  intro hs h0 hk hf
  have hkl : k < al.length := by omega
  rw [Zhs hkl] at hs
  by_cases hc : (al.getD k default).cap < 0 ∨ left < (al.getD k default).cap
  · rw [if_pos hc] at hs; cases hs
  ·
   rw [if_neg hc] at hs
   have := ih (left - (al.getD k default).cap) (k + 1) (by omega) hs (by omega) (by omega) hf
   have hfk := hf k hkl
   simp only [tot] at this
   omega
def FwithinP (n : Net) (f : List Int) : Prop := Z3o n.N n.S n.T n.Arcs = 0 ∧ f.length = n.Arcs.length ∧ ∀ i, i < n.Arcs.length → 0 ≤ f.getD i 0 ∧ f.getD i 0 ≤ (n.Arcs.getD i default).cap
theorem FwithinP.tot {n : Net} {f : List Int} (h : FwithinP n f) : ∀ k, k ≤ n.Arcs.length → 0 ≤ tot f k ∧ tot f k ≤ 4611686018427387904 := by
 intro k hk
 have hz := Z2r h.1
 have h1 := sumL_tot (f := f) n.Arcs 4611686018427387904 0 (by simpa using hz.2.2.2.2.2) (by omega) (by omega) h.2.2
 have h2 := Zgr (fun i hi => (h.2.2 i hi).1) k n.Arcs.length hk (Nat.le_refl _)
 have h3 := Zgr (fun i hi => (h.2.2 i hi).1) 0 k (by omega) hk
 simp only [Acq.tot] at h1 h3
 omega
theorem Zmo {n : Net} {f : List Int} (hl : lenok n.Arcs.length) : Ok (Z6f n f) (fun b => b = true ↔ FwithinP n f) := by
 unfold Z6f
 refine Ok.bind.2 (Z7r (Ze0 n hl) (Ok.ite.2 ⟨fun h => Ok.some.2 ⟨fun h2 => (by cases h2), fun h2 => absurd h2.1 h⟩, fun h1 => Ok.ite.2 ⟨fun h => Ok.some.2 ⟨fun h2 => (by cases h2), fun h2 => absurd h2.2.1 (by omega)⟩, fun h2 => Ok.bind.2 ?_⟩⟩))
 have hz := Z2r (Classical.not_not.1 h1)
 refine Z9r (fun x => ∃ k : Nat, x = k ∧ k ≤ n.Arcs.length ∧ ∀ i, i < k → 0 ≤ f.getD i 0 ∧ f.getD i 0 ≤ (n.Arcs.getD i default).cap) (fun x => (n.Arcs.length - x).toNat) ⟨0, rfl, by omega, fun i hi => by omega⟩ (by unfold Z4w; omega) ?_
 rintro x ⟨k, rfl, hk, h3⟩ P next exit
 unfold Z4r
 simp only [Int.toNat_natCast]
 refine Ok.ite.2 ⟨fun hx => ?_, fun hx => ?_⟩
 ·
  refine Ok.gd.2 ⟨(by omega), Ok.gd.2 ⟨(by omega), Ok.ite.2 ⟨fun h => Ok.some.2 (exit _ (Ok.some.2 ⟨fun h2 => (by cases h2), fun h2 => by have := h2.2.2 k (by omega); omega⟩)), fun h4 => Ok.gd.2 ⟨(by omega), Ok.ite.2 ⟨fun h => Ok.some.2 (exit _ (Ok.some.2 ⟨fun h2 => (by cases h2), fun h2 => by have := h2.2.2 k (by omega); omega⟩)), fun h5 => Ok.gd.2 ⟨(by omega), Ok.some.2 (next _ ⟨k + 1, by simp, by omega, fun i hi => ?_⟩ (by omega))⟩⟩⟩⟩⟩⟩
  rcases Nat.lt_or_ge i k with h | h
  · exact h3 i h
  · rw [show i = k by omega]; omega
 ·
  refine Ok.some.2 (exit _ ?_)
  unfold Z5v
  exact Ok.some.2 ⟨fun _ => ⟨Classical.not_not.1 h1, by omega, fun i hi => h3 i (by omega)⟩, fun _ => rfl⟩
theorem Zjg {b : Bool} (h : ¬(!b) = true) : b = true := by cases b; exact absurd rfl h; rfl
def AllP (n : Net) (f : List Int) (so : Int → Prop) (but : List Int) : Prop := FwithinP n f ∧ ∀ v : Nat, v < n.N.toNat → so (ex n.Arcs f v n.Arcs.length) ∨ (v : Int) ∈ but
end Go.Acq
namespace Go.Acq
open Go
set_option linter.unusedSimpArgs false
theorem Z4d {α : Type} {xs ys : List α} {d : α} {i : Nat} (h : i < xs.length) : (xs ++ ys).getD i d = xs.getD i d := by
 rw [List.getD_eq_getElem?_getD, List.getElem?_append_left h, List.getD_eq_getElem?_getD]
theorem Z8h {α : Type} {xs ys : List α} {d : α} {i : Nat} (h : xs.length ≤ i) : (xs ++ ys).getD i d = ys.getD (i - xs.length) d := by
 rw [List.getD_eq_getElem?_getD, List.getElem?_append_right h, List.getD_eq_getElem?_getD]
theorem Zmr {al : List Arc} {i v : Nat} {s : Bool} (hi : i < al.length) (hne : (al.getD i default).fr ≠ (al.getD i default).to) (h0 : 0 ≤ vtx (al.getD i default) s) (h1 : Z0s al v ≤ pos al i s) (h2 : pos al i s < Z0s al (v + 1)) : vtx (al.getD i default) s = v ∧ pos al i s = Z0s al v + cnt al v i := by
 obtain ⟨u, hu⟩ : ∃ u : Nat, vtx (al.getD i default) s = u := ⟨(vtx (al.getD i default) s).toNat, by omega⟩
 have hcl := Zda (s := s) hi hne h0
 have hpos : pos al i s = Z0s al u + cnt al u i := by unfold pos; rw [hu, Int.toNat_natCast]
 rw [hu, Int.toNat_natCast] at hcl
 have hb1 : Z0s al (u + 1) = Z0s al u + cnt al u al.length := rfl
 have : u = v := by
  rcases Nat.lt_trichotomy u v with h | h | h
  · have := Z3p (al := al) (show u + 1 ≤ v by omega); omega
  · exact h
  · have := Z3p (al := al) (show v + 1 ≤ u by omega); omega
 subst this
 exact ⟨hu, hpos⟩
end Go.Acq
namespace Go.Acq
open Go
set_option linter.unusedSimpArgs false
def inS (c : List Bool) (v : Int) : Bool := c.getD v.toNat false
def CutR (n : Net) (c : List Bool) : Prop := Z3o n.N n.S n.T n.Arcs = 0 ∧ (c.length : Int) = n.N ∧ inS c n.S = true ∧ inS c n.T = false
def capK (al : List Arc) (c : List Bool) : Nat → Int
  | 0 => 0
  | k + 1 => capK al c k + (if inS c (al.getD k default).fr = true ∧ inS c (al.getD k default).to = false then (al.getD k default).cap else 0)
def acK (al : List Arc) (f : List Int) (c : List Bool) : Nat → Int
  | 0 => 0
  | k + 1 => acK al f c k + (if inS c (al.getD k default).fr = true ∧ inS c (al.getD k default).to = false then f.getD k 0 else 0) - (if inS c (al.getD k default).fr = false ∧ inS c (al.getD k default).to = true then f.getD k 0 else 0)
def totC (al : List Arc) : Nat → Int
  | 0 => 0
  | k + 1 => totC al k + (al.getD k default).cap
theorem Zjv (al : List Arc) : ∀ k, k ≤ al.length → totC al k = tot (al.map (·.cap)) k
 | 0, _ => rfl
 | k + 1, hk => by
  simp only [totC, tot, Zjv al k (by omega)]
  rw [List.getD_eq_getElem?_getD, List.getD_eq_getElem?_getD, List.getElem?_map, List.getElem?_eq_getElem (show k < al.length by omega)]; rfl
theorem Zmx {al : List Arc} {i : Nat} (hi : i < al.length) : (al.map (·.cap)).getD i 0 = (al.getD i default).cap := by
 rw [List.getD_eq_getElem?_getD, List.getD_eq_getElem?_getD, List.getElem?_map, List.getElem?_eq_getElem hi]; rfl
theorem Zjf {n : Net} (h : Z3o n.N n.S n.T n.Arcs = 0) (hc : ∀ i, i < n.Arcs.length → 0 ≤ (n.Arcs.getD i default).cap) : FwithinP n (n.Arcs.map (·.cap)) :=
 ⟨h, by simp, fun i hi => by rw [Zmx hi]; exact ⟨hc i hi, Int.le_refl _⟩⟩
theorem Zco {n : Net} (h : Z3o n.N n.S n.T n.Arcs = 0) : ∀ i, i < n.Arcs.length → 0 ≤ (n.Arcs.getD i default).cap := fun i hi => by
 have := List.all_eq_true.1 (Z2r h).2.2.2.2.1 _ (Z78 hi default)
 simpa [Zk8] using this
theorem Zgs {n : Net} (h : Z3o n.N n.S n.T n.Arcs = 0) : ∀ k, k ≤ n.Arcs.length → 0 ≤ totC n.Arcs k ∧ totC n.Arcs k ≤ 4611686018427387904 := fun k hk => by
 rw [Zjv _ k hk]
 have := (Zjf h (Zco h)).tot k (by simpa using hk)
 exact this
theorem Zk5 {n : Net} (h : Z3o n.N n.S n.T n.Arcs = 0) : ∃ m : Nat, n.N = m ∧ Z57 m n.Arcs := by
 have hz := Z2r h
 obtain ⟨m, hm⟩ : ∃ m : Nat, n.N = m := ⟨n.N.toNat, by omega⟩
 exact ⟨m, hm, Zc2 (by rw [← hm]; exact hz.2.2.2.1)⟩
def Zb8 (al : List Arc) (f : List Int) (c : List Bool) (i : Nat) : Prop :=
  (inS c (al.getD i default).fr = true → inS c (al.getD i default).to = false → (al.getD i default).cap ≤ f.getD i 0) ∧ (inS c (al.getD i default).fr = false → inS c (al.getD i default).to = true → f.getD i 0 ≤ 0)
end Go.Acq
