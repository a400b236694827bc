/- Texts of this claim, one behind the other. -/
import Derived.Test.YtjeenmabclghoaaA2
import Derived.Test.YtjeenmabclghoaaA4
import Derived.Test.YtjeenmabclghoaaA1
set_option linter.unusedVariables false
set_option linter.unusedSimpArgs false
namespace Go.Proofs.Ytjeenmabclghoaa.Ax
open Go Go.Acq Go.RowKit Go.Proofs
set_option linter.unusedVariables false
set_option linter.unusedSimpArgs false
set_option maxHeartbeats 8000000
set_option maxRecDepth 20000
theorem Za2 : Zaf Try.prog 111 2 = true := by kernel_rfl
theorem Z0w : Zaf Try.prog 24 4 = true := by kernel_rfl
theorem Z80 : Zaf Try.prog 67 3 = true := by kernel_rfl
theorem Zg8 : Z55 Try.prog 3 = some 8 := by kernel_rfl
theorem Zeb : Z55 Try.prog 67 = some 24 := by kernel_rfl
theorem Zea : Z0q Try.prog 16 = true := by kernel_rfl
theorem Z60 : Z0q Try.prog 41 = true := by kernel_rfl
theorem Zas : Z0q Try.prog 42 = true := by kernel_rfl
theorem Ze9 : Z0q Try.prog 43 = true := by kernel_rfl
theorem Ze8 : Z0q Try.prog 45 = true := by kernel_rfl
theorem Ze7 : Z0q Try.prog 46 = true := by kernel_rfl
theorem Ze6 : Z0q Try.prog 79 = true := by kernel_rfl
theorem Zd2 : Z17 Try.prog 24 0 = some 0 := by kernel_rfl
theorem Z6y : Z17 Try.prog 24 1 = some 1 := by kernel_rfl
theorem Z6x : Z17 Try.prog 24 2 = some 2 := by kernel_rfl
theorem Z1d : Z17 Try.prog 24 3 = some 3 := by kernel_rfl
theorem Z39 : Z17 Try.prog 60 2 = some 2 := by kernel_rfl
theorem Z6w : Z17 Try.prog 67 0 = some 0 := by kernel_rfl
theorem Z6v : Z17 Try.prog 67 1 = some 1 := by kernel_rfl
theorem Z4w : Z17 Try.prog 67 2 = some 2 := by kernel_rfl
theorem Zg7 : intT Try.prog 3 = some .i64 := by kernel_rfl
theorem Z1c : Z1v Try.prog 22 = some 67 := by kernel_rfl
theorem Z5z : Z1v Try.prog 27 = some 3 := by kernel_rfl
theorem Z4q : Z1v Try.prog 74 = some 24 := by kernel_rfl
theorem Za1 : Zo0 Try.prog 110 = some (.i64, 3) := by kernel_rfl
theorem Zdi : Z1e Try.prog 111 = some 2 := by kernel_rfl
theorem Zg6 : Z1e Try.prog 2 = some 1 := by kernel_rfl
theorem Zar : Z1e Try.prog 22 = some 1 := by kernel_rfl
theorem Z1b : Z1e Try.prog 24 = some 4 := by kernel_rfl
theorem Z4c : Z1e Try.prog 3 = some 1 := by kernel_rfl
theorem Z5y : Z1e Try.prog 60 = some 3 := by kernel_rfl
theorem Z5x : Z1e Try.prog 62 = some 2 := by kernel_rfl
theorem Z1l : Z1e Try.prog 67 = some 3 := by kernel_rfl
theorem Zg5 : (Try.prog.underlying 5).isSome = true := by kernel_rfl
theorem Z2q : Z2j Try.prog 2 = true := by kernel_rfl
theorem Z29 : Z2j Try.prog 22 = true := by kernel_rfl
theorem Z25 : Z2j Try.prog 3 = true := by kernel_rfl
theorem Zdh : Z2l Try.prog 111 = some (.agg #[.int .i64 0, .int .i64 0]) := by kernel_rfl
theorem Z28 : Z2l Try.prog 24 = some (.agg #[.int .i64 0, .int .i64 0, .int .i64 0, .slice none 0 0]) := by kernel_rfl
theorem Z5a : Z2l Try.prog 3 = some (.int .i64 0) := by kernel_rfl
theorem Z5w : Z2l Try.prog 60 = some (.agg #[.slice none 0 0, .slice none 0 0, .int .i64 0]) := by kernel_rfl
theorem Z5v : Z2l Try.prog 62 = some (.agg #[.int .i64 0, .int .i64 0]) := by kernel_rfl
theorem Z5u : Z2l Try.prog 67 = some (.agg #[.int .i64 0, .int .i64 0, .int .i64 0]) := by kernel_rfl
theorem Z7z : ElemT Try.prog 22 67 3 24 (.agg #[.int .i64 0, .int .i64 0, .int .i64 0]) := ⟨Z1c, Z1l, Zeb, Z5u, rfl⟩
theorem Z7y : ElemT Try.prog 27 3 1 8 (.int .i64 0) := ⟨Z5z, Z4c, Zg8, Z5a, rfl⟩
theorem Zlo {n0 : Net} {n0f3_b : Option Addr} {n0f3_n : Nat} {n0f3_c : Nat} (w : World) (h_n0f3 : RS w [] Z3b 3 n0f3_b n0f3_n n0f3_c n0.Arcs) {r0 : Net} {r1 : List Int} (H : Z9n n0 = some (r0, r1)) : Fnc Try.prog 45 #[.agg #[.int .i64 n0.N, .int .i64 n0.S, .int .i64 n0.T, .slice n0f3_b n0f3_n n0f3_c]] w [] (fun v N => ∃ (e0 : Option Nat) (f0 : Nat) (f2 : Nat) (i2 : List Value) (e1 : Option Nat) (f3 : Nat) (f4 : Nat) (i4 : List Value), v = .tuple #[.agg #[.int .i64 r0.N, .int .i64 r0.S, .int .i64 r0.T, .slice (sb e0) f0 f2], .slice (sb e1) f3 f4] ∧ N = [(e0, .cells (arr Z3b r0.Arcs i2).toArray 67 (0, 0)), (e1, .cells (arr (intC .i64) r1 i4).toArray 3 (0, 0))] ∧ r0.Arcs.length = f0 ∧ f0 ≤ f2 ∧ i2.length = (f2 - f0) * 3 ∧ (e0 = none → f2 = 0) ∧ r1.length = f3 ∧ f3 ≤ f4 ∧ i4.length = (f4 - f3) * 1 ∧ (e1 = none → f4 = 0)) := by
 unfold Z9n at H; refine Fnc.enter (vs := [.agg #[.int .i64 n0.N, .int .i64 n0.S, .int .i64 n0.T, .slice n0f3_b n0f3_n n0f3_c]]) Try.func45 rfl rfl (Inv.refl w) ?_; refine Z0d ?_; refine Z04 (ll := [0, 1, 2]) rfl ?_; refine Z1x rfl rfl rfl rfl ?_; intro b1; refine Z0s rfl rfl rfl Z28 ?_; intro b3; refine Z08 rfl rfl rfl rfl ?_; refine Z02 ?_; refine Z01 ?_; refine Z0d ?_; refine Z0d ?_; obtain ⟨r5, e6, H⟩ := Z0l H; refine Z04 (ll := [0, 1, 2]) rfl ?_; refine Z0r rfl rfl rfl rfl Z0w mm1 rfl ?_; refine Z0p Ze6 rfl rfl rfl rfl (fun wc hwc => Za6 (n0 := n0) wc (h_n0f3.mono hwc) e6) ?_; rintro _ _ ⟨rfl, rfl⟩; refine Z0u rfl rfl rfl rfl rfl rfl ?_; refine Z02 ?_; refine Z01 ?_; rcases Z0j H with ⟨g7, H⟩ | ⟨g7, H⟩
 · refine Z13 rfl g7 ?_; refine Z0d ?_; refine Z04 (ll := [0, 1, 2]) rfl ?_; refine Z12 (t := 24) [.int .i64 0, .int .i64 0, .int .i64 0, .slice none 0 0] [0, 1, 2, 3] rfl rfl rfl rfl (by simp only [Z1m, setCells, Value.cells, List.toList_toArray, List.getD_cons_zero, List.getD_cons_succ, List.set_cons_zero, List.set_cons_succ]; rfl) (by kernel_rfl) ?_; refine Z0o rfl rfl rfl rfl tk0 Z1b rfl rfl rfl ?_; refine Z08 rfl rfl rfl rfl ?_; refine Z02 ?_; refine Z01 ?_; refine T.ret ?_; refine Z0h ?_; obtain ⟨rfl, rfl⟩ := ret2 H; exact Z7o rfl rfl rfl rfl (Z22 rfl Z0w mm0 rfl) (Res.tmp rfl) (Pick.none (Pick.none Z0a)) ⟨none, 0, 0, ([]), none, 0, 0, ([]), rfl, rfl, rfl, (Nat.le_refl _), (Z2g 0 _), (fun _ => rfl), rfl, (Nat.le_refl _), (Z2g 0 _), (fun _ => rfl)⟩
 ·
  refine Z14 rfl g7 ?_; refine T.skip ?_; refine Z01 ?_; refine Z0d ?_; refine Z04 (ll := [0, 1, 2, 3, 4, 5, 6, 7, 8]) rfl ?_; refine Z05 rfl rfl rfl rfl Zd2 ?_; refine Z0c rfl rfl rfl rfl Z25 mm1 rfl ?_; refine Z05 rfl rfl rfl rfl Z6y ?_; refine Z0c rfl rfl rfl rfl Z25 mm1 rfl ?_; refine Z05 rfl rfl rfl rfl Z6x ?_; refine Z0c rfl rfl rfl rfl Z25 mm1 rfl ?_; refine Z12 (t := 24) [.int .i64 0, .int .i64 0, .int .i64 0, .slice none 0 0] [0, 1, 2, 3] rfl rfl rfl rfl (by simp only [Z1m, setCells, Value.cells, List.toList_toArray, List.getD_cons_zero, List.getD_cons_succ, List.set_cons_zero, List.set_cons_succ]; rfl) (by kernel_rfl) ?_; refine Z0s rfl rfl rfl Z28 ?_; intro b8; refine Z0o rfl rfl rfl rfl tk0 Z1b rfl rfl rfl ?_; refine Z02 ?_; refine Z01 ?_; refine Z0m (Z00 (t := 1) rfl (Z00 (t := 2) rfl (Z00 (t := 4) rfl Z0b))) ?_; refine Z0d ?_; refine Z04 (ll := [0, 1]) rfl ?_; refine Zpv (Value.int .i64) .i64 rfl rfl rfl ?_; intro i5; refine Z08 rfl rfl rfl rfl ?_; refine Z02 ?_; refine Z01 ?_; refine Z0d ?_; refine Z04 (ll := [0]) rfl ?_; refine Z08 rfl rfl rfl rfl ?_; refine Z02 ?_; refine Z01 ?_; refine Z0d ?_; refine Z0d ?_; refine Z04 (ll := [0, 1, 2, 3]) rfl ?_; refine Z05 rfl rfl rfl rfl Z1d ?_; refine Z0c rfl rfl rfl rfl Z29 mm3 rfl ?_; refine Z26 (xs := n0.Arcs) h_n0f3.len rfl rfl rfl rfl rfl Z1c ?_; refine Z07 rfl rfl rfl rfl ?_; refine Z02 ?_; refine Z01 ?_; refine Zn7 (fun (a8 : List Arc) (d8 : Nat) (c90 : Nat) (c3 : Option Nat) (e2 : List Value) (c7 : List Int) (d9 : Nat) (c100 : Nat) (a9 : Option Nat) (c8 : List Value) => Z89 n0 a8 c7 = some (r0, r1) ∧ a8.length = d8 ∧ d8 ≤ c90 ∧ e2.length = (c90 - d8) * 3 ∧ (c3 = none → c90 = 0) ∧ c7.length = d9 ∧ d9 ≤ c100 ∧ c8.length = (c100 - d9) * 1 ∧ (a9 = none → c100 = 0)) (fun (a8 : List Arc) (d8 : Nat) (c90 : Nat) (c3 : Option Nat) (e2 : List Value) (c7 : List Int) (d9 : Nat) (c100 : Nat) (a9 : Option Nat) (c8 : List Value) => [(2, .pointer (some ⟨b3, 0, none⟩)), (4, .pointer (some ⟨b8, 0, none⟩)), (6, .slice (sb a9) d9 c100)]) (fun (a8 : List Arc) (d8 : Nat) (c90 : Nat) (c3 : Option Nat) (e2 : List Value) (c7 : List Int) (d9 : Nat) (c100 : Nat) (a9 : Option Nat) (c8 : List Value) => [(some b3, .cells #[.int .i64 0, .int .i64 0, .int .i64 0, .slice none 0 0] 24 (0, 0)), (some b8, .cells #[.int .i64 n0.N, .int .i64 n0.S, .int .i64 n0.T, .slice (sb c3) d8 c90] 24 (0, 0)), (c3, .cells (arr Z3b a8 e2).toArray 67 (0, 0)), (a9, .cells (arr (intC .i64) c7 c8).toArray 3 (0, 0))]) ?_ ?_
  ·
   refine T.block ?_; obtain ⟨j0, j1, j2⟩ := Z0l H; refine Zq4 (fun (e3 : Nat) (a4 : List Arc) (c9 : Nat) (d0 : Nat) (b0 : Option Nat) (d1 : List Value) (a5 : List ((Int × Int) × Int)) (a7 : List Int) (n24 : Nat) (c25 : Nat) (b5 : Option Nat) (d2 : List Value) (a6 : Int) => Z2k (fun s => Z6g n0 s.1 s.2.1 s.2.2.1 s.2.2.2) e3 (a4, a5, a7, a6) = some j0 ∧ a4.length = c9 ∧ c9 ≤ d0 ∧ d1.length = (d0 - c9) * 3 ∧ (b0 = none → d0 = 0) ∧ a7.length = n24 ∧ n24 ≤ c25 ∧ d2.length = (c25 - n24) * 1 ∧ (b5 = none → c25 = 0)) (fun (e3 : Nat) (a4 : List Arc) (c9 : Nat) (d0 : Nat) (b0 : Option Nat) (d1 : List Value) (a5 : List ((Int × Int) × Int)) (a7 : List Int) (n24 : Nat) (c25 : Nat) (b5 : Option Nat) (d2 : List Value) (a6 : Int) => [(2, .pointer (some ⟨b3, 0, none⟩)), (4, .pointer (some ⟨b8, 0, none⟩)), (5, .map (some i5)), (6, .slice (sb b5) n24 c25), (25, .slice n0f3_b n0f3_n n0f3_c), (26, .int .i64 (n0.Arcs.length : Int)), (27, .int .i64 a6)]) (fun (e3 : Nat) (a4 : List Arc) (c9 : Nat) (d0 : Nat) (b0 : Option Nat) (d1 : List Value) (a5 : List ((Int × Int) × Int)) (a7 : List Int) (n24 : Nat) (c25 : Nat) (b5 : Option Nat) (d2 : List Value) (a6 : Int) => [(some b3, .cells #[.int .i64 0, .int .i64 0, .int .i64 0, .slice none 0 0] 24 (0, 0)), (some b8, .cells #[.int .i64 n0.N, .int .i64 n0.S, .int .i64 n0.T, .slice (sb b0) c9 d0] 24 (0, 0)), (b0, .cells (arr Z3b a4 d1).toArray 67 (0, 0)), (some i5, mapPO .i64 (Value.int .i64) a5), (b5, .cells (arr (intC .i64) a7 d2).toArray 3 (0, 0))]) (fun (e3 : Nat) (a4 : List Arc) (c9 : Nat) (d0 : Nat) (b0 : Option Nat) (d1 : List Value) (a5 : List ((Int × Int) × Int)) (a7 : List Int) (n24 : Nat) (c25 : Nat) (b5 : Option Nat) (d2 : List Value) (a6 : Int) => e3) Z4t ([]) 0 0 none ([]) ([] : List ((Int × Int) × Int)) ([]) 0 0 none ([]) 0 ⟨j1, rfl, (Nat.le_refl _), (Z2g 0 _), (fun _ => rfl), rfl, (Nat.le_refl _), (Z2g 0 _), (fun _ => rfl)⟩ (Z00 rfl (Z00 rfl (Z00 rfl (Z00 rfl (Z00 rfl (Z00 rfl (Z00 rfl Z0b))))))) (Z03 tk2 (Z03 tk1 (Pick.none (Z03 tk0 (Pick.none Z0a))))) ?_; rintro e3 a4 c9 d0 b0 d1 a5 a7 n24 c25 b5 d2 a6 ⟨H, b6, b7, d4, b9, c4, d5, d6, d7⟩; obtain ⟨f6, j3, rfl, H, f5⟩ := Z1s H; have H : Z6g n0 a4 a5 a7 a6 = some j3 := H; unfold Z6g at H; refine Z0d ?_; refine Z04 (ll := [0]) rfl ?_; refine Z0u rfl rfl rfl rfl rfl rfl ?_; refine Z02 ?_; refine Z01 ?_; refine Z0d ?_; rcases Z0j H with ⟨f7, H⟩ | ⟨f7, H⟩
   ·
    refine Z13 rfl f7 ?_; refine T.skip ?_; refine Z01 ?_; refine Z0d ?_; refine T.block ?_; refine Z0d ?_; obtain ⟨i6, H⟩ := Z0f H; refine Z04 (ll := [0, 1, 2, 3]) rfl ?_; refine Z2e h_n0f3 i6 rfl rfl rfl rfl rfl Z1c Z1l ?_; refine Zam (cs := [.int .i64 ((n0.Arcs.getD a6.toNat default).fr), .int .i64 ((n0.Arcs.getD a6.toNat default).to), .int .i64 ((n0.Arcs.getD a6.toNat default).cap)]) default h_n0f3 i6 rfl rfl rfl rfl rfl Z80 ?_; refine Z0s rfl rfl rfl Z5u ?_; intro k7; refine Z0o rfl rfl rfl rfl tk0 Z1l rfl rfl rfl ?_; refine Z02 ?_; refine Z01 ?_; refine Z0d ?_; refine Z04 (ll := [0, 1, 2, 3, 4, 5, 6]) rfl ?_; refine Z05 rfl rfl rfl rfl Z6w ?_; refine Z0c rfl rfl rfl rfl Z25 mm0 rfl ?_; refine Z05 rfl rfl rfl rfl Z6v ?_; refine Z0c rfl rfl rfl rfl Z25 mm0 rfl ?_; refine Z12 (t := 111) [.int .i64 0, .int .i64 0] [0, 1] rfl rfl rfl rfl (by simp only [Z1m, setCells, Value.cells, List.toList_toArray, List.getD_cons_zero, List.getD_cons_succ, List.set_cons_zero, List.set_cons_succ]; rfl) (by kernel_rfl) ?_; refine Z0s rfl rfl rfl Zdh ?_; intro k8; refine Z0o rfl rfl rfl rfl tk0 Zdi rfl rfl rfl ?_; refine Z02 ?_; refine Z01 ?_; refine Z0m (Z00 (t := 2) rfl (Z00 (t := 4) rfl (Z00 (t := 5) rfl (Z00 (t := 6) rfl (Z00 (t := 25) rfl (Z00 (t := 26) rfl (Z00 (t := 27) rfl (Z00 (t := 8) rfl (Z00 (t := 9) rfl Z0b))))))))) ?_; refine Z0d ?_; refine Z04 (ll := [0, 1, 2, 3, 4, 5, 6, 7]) rfl ?_; refine Z07 rfl rfl rfl rfl ?_; refine Z0r rfl rfl rfl rfl Za2 mm0 rfl ?_; refine TO.mgetP (f := (Value.int .i64)) (z := 0) (k := ((n0.Arcs.getD a6.toNat default).fr, (n0.Arcs.getD a6.toNat default).to)) (xs := a5) Za1 Z5a rfl rfl rfl rfl rfl mm5 rfl ?_; refine Z07 rfl rfl rfl rfl ?_; refine TO.extract rfl rfl rfl rfl rfl ?_; refine TO.extract rfl rfl rfl rfl rfl ?_; refine Z08 rfl rfl rfl rfl ?_; refine Z08 rfl rfl rfl rfl ?_; refine Z02 ?_; refine Z01 ?_; refine Z0d ?_; refine T.block ?_; refine Z0d ?_; refine Z04 (ll := [0, 1, 2, 3, 4, 5]) rfl ?_; refine Z05 rfl rfl rfl rfl Z6w ?_; refine Z0c rfl rfl rfl rfl Z25 mm1 rfl ?_; refine Z05 rfl rfl rfl rfl Z6v ?_; refine Z0c rfl rfl rfl rfl Z25 mm1 rfl ?_; refine Z0u rfl rfl rfl rfl rfl rfl ?_; refine Z08 rfl rfl rfl rfl ?_; refine Z02 ?_; refine Z01 ?_; refine Z0m (Z00 (t := 2) rfl (Z00 (t := 4) rfl (Z00 (t := 5) rfl (Z00 (t := 6) rfl (Z00 (t := 25) rfl (Z00 (t := 26) rfl (Z00 (t := 27) rfl (Z00 (t := 8) rfl (Z00 (t := 9) rfl (Z00 (t := 10) rfl (Z00 (t := 11) rfl (Z00 (t := 54) rfl Z0b)))))))))))) ?_; rcases Z0j H with ⟨f8, H⟩ | ⟨f8, H⟩
    · refine Z13 rfl f8 ?_; refine Z04 (ll := [0]) rfl ?_; refine Z08 rfl rfl rfl rfl ?_; refine Z02 ?_; refine Z0i ?_; refine Z01 ?_; obtain ⟨j4, H⟩ := Z0f H; refine Z04 (ll := [0, 1, 2, 3, 4]) rfl ?_; refine Z07 rfl rfl rfl rfl ?_; refine Z07 rfl rfl rfl rfl ?_; refine Z1h [.int .i64 0] [0] rfl rfl rfl rfl Z5z Z4c Z5a rfl rfl (by simp only [Z1m, setCells, Value.cells, List.toList_toArray, List.getD_cons_zero, List.getD_cons_succ, List.set_cons_zero, List.set_cons_succ]; rfl) (by kernel_rfl) ?_; intro k9; refine Zbd (f := (intC .i64)) (s := 1) (xs := a7) (ob := b5) (j := d2) (ys := [(-1)]) (fun _ => rfl) (fun _ => rfl) Z7y j4 rfl rfl rfl rfl rfl tk7 c4 d5 d6 d7 (fun wc hwc => (hwc.rs (f := (intC .i64)) (s := 1) (xs := [(-1)]) (j := ([])) (fun _ => rfl) mm0 rfl (Nat.le_refl _) Z3o)) ?_; intro f9 c45 j5 g0 g1 g2; refine Z08 rfl rfl rfl rfl ?_; refine Z02 ?_; refine Z0i ?_; refine Z01 ?_; refine Z0m (Z00 (t := 2) rfl (Z00 (t := 4) rfl (Z00 (t := 5) rfl (Z00 (t := 6) rfl (Z00 (t := 25) rfl (Z00 (t := 26) rfl (Z00 (t := 27) rfl Z0b))))))) ?_; obtain ⟨j6, H⟩ := Z0f H; refine Z04 (ll := [0, 1]) rfl ?_; refine Z1a j6 rfl rfl rfl rfl rfl ?_; refine Z07 rfl rfl rfl rfl ?_; refine Z02 ?_; have H := Z1f H f5; exact Zde f6 a4 c9 d0 b0 d1 a5 (a7 ++ ([(-1)])) (n24 + 1) c45 f9 j5 (a6 + 1) ⟨H, b6, b7, d4, b9, (Zdq c4 rfl), g0, g1, g2⟩ (Nat.lt_succ_self _) (Z00 rfl (Z00 rfl (Z00 rfl (Z00 rfl (Z00 rfl (Z00 rfl (Z00 rfl Z0b))))))) (Z03 tk4 (Z03 tk4 (Z03 tk4 (Z03 tk4 (Z03 tk0 Z0a)))))
    ·
     refine Z14 rfl f8 ?_; refine Z0d ?_; refine Z04 (ll := [0, 1]) rfl ?_; refine Z07 rfl rfl rfl rfl ?_; refine Z08 rfl rfl rfl rfl ?_; refine Z02 ?_; refine Z01 ?_; rcases Z0j H with ⟨g3, H⟩ | ⟨g3, H⟩
     · refine Z1u rfl g3 ?_; obtain ⟨i7, H⟩ := Z0f H; obtain ⟨j7, H⟩ := Z0f H; obtain ⟨i8, H⟩ := Z0f H; refine Z8y 8 [0, 1, 2, 3, 4, 5, 6, 7] rfl Z5d (by kernel_rfl) (by kernel_rfl) rfl (by kernel_rfl) ?_; refine Z16 rfl rfl rfl rfl Z1d ?_; refine Z2y rfl rfl rfl rfl Z29 mm3 rfl ?_; refine TQ.move rfl rfl rfl rfl ?_; refine Zdy b9 b7 b6 i7 rfl rfl rfl rfl rfl Z1c Z1l ?_; refine TQ.faR rfl rfl rfl rfl Z4w ?_; refine TQ.ldFV (f := Z3b) (v := .int .i64 ((a4.getD (Zb3 0 ((n0.Arcs.getD a6.toNat default).fr, (n0.Arcs.getD a6.toNat default).to) a5).toNat default).cap)) default (fun _ => rfl) b9 b7 b6 i7 rfl rfl rfl rfl rfl Z2q mm4 ?_; refine Z16 rfl rfl rfl rfl Z4w ?_; refine Z2y rfl rfl rfl rfl Z2q mm1 rfl ?_; refine TQ.tail [8, 9, 10, 11] rfl rfl ?_; refine Z1a j7 rfl rfl rfl rfl rfl ?_; refine Z30 b9 b7 b6 i8 rfl rfl rfl rfl rfl Z1c Z1l ?_; refine TO.faR rfl rfl rfl rfl Z4w ?_; refine TO.stFV (f := Z3b) (u := (Arc.mk ((a4.getD (Zb3 0 ((n0.Arcs.getD a6.toNat default).fr, (n0.Arcs.getD a6.toNat default).to) a5).toNat default).fr) ((a4.getD (Zb3 0 ((n0.Arcs.getD a6.toNat default).fr, (n0.Arcs.getD a6.toNat default).to) a5).toNat default).to) (((a4.getD (Zb3 0 ((n0.Arcs.getD a6.toNat default).fr, (n0.Arcs.getD a6.toNat default).to) a5).toNat default).cap) + ((n0.Arcs.getD a6.toNat default).cap)))) default (fun _ => rfl) rfl b9 b7 b6 i8 rfl rfl rfl rfl rfl rfl tk4 Zg6 ?_; refine Z02 ?_; refine Z0i ?_; refine Z01 ?_; refine Z0m (Z00 (t := 2) rfl (Z00 (t := 4) rfl (Z00 (t := 5) rfl (Z00 (t := 6) rfl (Z00 (t := 25) rfl (Z00 (t := 26) rfl (Z00 (t := 27) rfl (Z00 (t := 10) rfl Z0b)))))))) ?_; obtain ⟨j8, H⟩ := Z0f H; refine Z04 (ll := [0, 1, 2, 3, 4]) rfl ?_; refine Z07 rfl rfl rfl rfl ?_; refine Z07 rfl rfl rfl rfl ?_; refine Z1h [.int .i64 0] [0] rfl rfl rfl rfl Z5z Z4c Z5a rfl rfl (by simp only [Z1m, setCells, Value.cells, List.toList_toArray, List.getD_cons_zero, List.getD_cons_succ, List.set_cons_zero, List.set_cons_succ]; rfl) (by kernel_rfl) ?_; intro l0; refine Zbd (f := (intC .i64)) (s := 1) (xs := a7) (ob := b5) (j := d2) (ys := [(Zb3 0 ((n0.Arcs.getD a6.toNat default).fr, (n0.Arcs.getD a6.toNat default).to) a5)]) (fun _ => rfl) (fun _ => rfl) Z7y j8 rfl rfl rfl rfl rfl tk7 c4 d5 d6 d7 (fun wc hwc => (hwc.rs (f := (intC .i64)) (s := 1) (xs := [(Zb3 0 ((n0.Arcs.getD a6.toNat default).fr, (n0.Arcs.getD a6.toNat default).to) a5)]) (j := ([])) (fun _ => rfl) mm0 rfl (Nat.le_refl _) Z3o)) ?_; intro g4 c60 j9 g5 g6 g8; refine Z08 rfl rfl rfl rfl ?_; refine Z02 ?_; refine Z0i ?_; refine Z01 ?_; obtain ⟨k1, H⟩ := Z0f H; refine Z04 (ll := [0, 1]) rfl ?_; refine Z1a k1 rfl rfl rfl rfl rfl ?_; refine Z07 rfl rfl rfl rfl ?_; refine Z02 ?_; have H := Z1f H f5; exact Zde f6 (a4.set (Zb3 0 ((n0.Arcs.getD a6.toNat default).fr, (n0.Arcs.getD a6.toNat default).to) a5).toNat (Arc.mk ((a4.getD (Zb3 0 ((n0.Arcs.getD a6.toNat default).fr, (n0.Arcs.getD a6.toNat default).to) a5).toNat default).fr) ((a4.getD (Zb3 0 ((n0.Arcs.getD a6.toNat default).fr, (n0.Arcs.getD a6.toNat default).to) a5).toNat default).to) (((a4.getD (Zb3 0 ((n0.Arcs.getD a6.toNat default).fr, (n0.Arcs.getD a6.toNat default).to) a5).toNat default).cap) + ((n0.Arcs.getD a6.toNat default).cap)))) c9 d0 b0 d1 a5 (a7 ++ ([(Zb3 0 ((n0.Arcs.getD a6.toNat default).fr, (n0.Arcs.getD a6.toNat default).to) a5)])) (n24 + 1) c60 g4 j9 (a6 + 1) ⟨H, (List.length_set.trans b6), b7, d4, b9, (Zdq c4 rfl), g5, g6, g8⟩ (Nat.lt_succ_self _) (Z00 rfl (Z00 rfl (Z00 rfl (Z00 rfl (Z00 rfl (Z00 rfl (Z00 rfl Z0b))))))) (Z03 tk5 (Z03 tk5 (Z03 tk2 (Z03 tk4 (Z03 tk0 Z0a)))))
     · refine Z2w rfl (Bool.eq_false_iff.2 g3) ?_; refine Z0d ?_; refine Z04 (ll := [0, 1, 2, 3]) rfl ?_; refine Z05 rfl rfl rfl rfl Z1d ?_; refine Z0c rfl rfl rfl rfl Z29 mm3 rfl ?_; refine Z26 (xs := a4) b6 rfl rfl rfl rfl rfl Z1c ?_; refine Z08 rfl rfl rfl rfl ?_; refine Z02 ?_; refine Z01 ?_; refine Z0d ?_; refine Z04 (ll := [0, 1, 2, 3]) rfl ?_; refine Z07 rfl rfl rfl rfl ?_; refine Z0r rfl rfl rfl rfl Za2 mm0 rfl ?_; refine Z07 rfl rfl rfl rfl ?_; refine TO.mputP (f := (Value.int .i64)) (u := (a4.length : Int)) (k := ((n0.Arcs.getD a6.toNat default).fr, (n0.Arcs.getD a6.toNat default).to)) (xs := a5) Za1 rfl rfl rfl rfl rfl rfl tk5 ?_; refine Z02 ?_; refine Z01 ?_; refine Z0m (Z00 (t := 2) rfl (Z00 (t := 4) rfl (Z00 (t := 5) rfl (Z00 (t := 6) rfl (Z00 (t := 25) rfl (Z00 (t := 26) rfl (Z00 (t := 27) rfl (Z00 (t := 8) rfl (Z00 (t := 10) rfl Z0b))))))))) ?_; obtain ⟨k2, H⟩ := Z0f H; refine Z04 (ll := [0, 1, 2, 3, 4, 5, 6]) rfl ?_; refine Z05 rfl rfl rfl rfl Z1d ?_; refine Z0c rfl rfl rfl rfl Z29 mm4 rfl ?_; refine Z0r rfl rfl rfl rfl Z80 mm2 rfl ?_; refine Z1h [.int .i64 0, .int .i64 0, .int .i64 0] [0] rfl rfl rfl rfl Z1c Z1l Z5u rfl rfl (by simp only [Z1m, setCells, Value.cells, List.toList_toArray, List.getD_cons_zero, List.getD_cons_succ, List.set_cons_zero, List.set_cons_succ]; rfl) (by kernel_rfl) ?_; intro b67; refine Zbd (f := Z3b) (s := 3) (xs := a4) (ob := b0) (j := d1) (ys := [(n0.Arcs.getD a6.toNat default)]) (fun _ => rfl) (fun _ => rfl) Z7z k2 rfl rfl rfl rfl rfl tk6 b6 b7 d4 b9 (fun wc hwc => (hwc.rs (f := Z3b) (s := 3) (xs := [(n0.Arcs.getD a6.toNat default)]) (j := ([])) (fun _ => rfl) mm0 rfl (Nat.le_refl _) Z3o)) ?_; intro e4 i9 k3 g9 h0 h2; refine Z05 rfl rfl rfl rfl Z1d ?_; refine Z1z (cs' := [.int .i64 n0.N, .int .i64 n0.S, .int .i64 n0.T, .slice (sb e4) (c9 + 1) i9]) rfl rfl rfl rfl tk6 Zar rfl rfl rfl ?_; refine Z02 ?_; refine Z0i ?_; refine Z01 ?_; obtain ⟨k4, H⟩ := Z0f H; refine Z04 (ll := [0, 1, 2, 3, 4]) rfl ?_; refine Z07 rfl rfl rfl rfl ?_; refine Z07 rfl rfl rfl rfl ?_; refine Z1h [.int .i64 0] [0] rfl rfl rfl rfl Z5z Z4c Z5a rfl rfl (by simp only [Z1m, setCells, Value.cells, List.toList_toArray, List.getD_cons_zero, List.getD_cons_succ, List.set_cons_zero, List.set_cons_succ]; rfl) (by kernel_rfl) ?_; intro l1; refine Zbd (f := (intC .i64)) (s := 1) (xs := a7) (ob := b5) (j := d2) (ys := [(a4.length : Int)]) (fun _ => rfl) (fun _ => rfl) Z7y k4 rfl rfl rfl rfl rfl tk8 c4 d5 d6 d7 (fun wc hwc => (hwc.rs (f := (intC .i64)) (s := 1) (xs := [(a4.length : Int)]) (j := ([])) (fun _ => rfl) mm0 rfl (Nat.le_refl _) Z3o)) ?_; intro h3 c81 k5 h4 h5 h6; refine Z08 rfl rfl rfl rfl ?_; refine Z02 ?_; refine Z0i ?_; refine Z01 ?_; refine Z0m (Z00 (t := 2) rfl (Z00 (t := 4) rfl (Z00 (t := 5) rfl (Z00 (t := 6) rfl (Z00 (t := 25) rfl (Z00 (t := 26) rfl (Z00 (t := 27) rfl Z0b))))))) ?_; obtain ⟨k6, H⟩ := Z0f H; refine Z04 (ll := [0, 1]) rfl ?_; refine Z1a k6 rfl rfl rfl rfl rfl ?_; refine Z07 rfl rfl rfl rfl ?_; refine Z02 ?_; have H := Z1f H f5; exact Zde f6 (a4 ++ ([(n0.Arcs.getD a6.toNat default)])) (c9 + 1) i9 e4 k3 (Zhv ((n0.Arcs.getD a6.toNat default).fr, (n0.Arcs.getD a6.toNat default).to) (a4.length : Int) a5) (a7 ++ ([(a4.length : Int)])) (n24 + 1) c81 h3 k5 (a6 + 1) ⟨H, (Zdq b6 rfl), g9, h0, h2, (Zdq c4 rfl), h4, h5, h6⟩ (Nat.lt_succ_self _) (Z00 rfl (Z00 rfl (Z00 rfl (Z00 rfl (Z00 rfl (Z00 rfl (Z00 rfl Z0b))))))) (Z03 tk8 (Z03 tk2 (Z03 tk2 (Z03 tk3 (Z03 tk0 Z0a)))))
   · refine Z14 rfl f7 ?_; refine T.exit ?_; refine Z0n ?_; have H := Z0y H f5 ▸ j2; refine Z0n ?_; refine Z11 ?_; exact X.metE10 a4 c9 d0 b0 d1 a7 n24 c25 b5 d2 ⟨H, b6, b7, d4, b9, c4, d5, d6, d7⟩ (Z00 rfl (Z00 rfl (Z00 rfl Z0b))) (Z03 tk0 (Z03 tk0 (Z03 tk0 (Z03 tk1 Z0a))))
  · rintro a8 d8 c90 c3 e2 c7 d9 c100 a9 c8 ⟨H, h7, h8, h9, i1, e5, e7, e8, e9⟩; unfold Z89 at H; refine Z0d ?_; refine Z04 (ll := [0, 1, 2, 3]) rfl ?_; refine Z0r rfl rfl rfl rfl Z0w mm1 rfl ?_; refine Z07 rfl rfl rfl rfl ?_; refine Z0o rfl rfl rfl rfl tk0 Z1b rfl rfl rfl ?_; refine Z08 rfl rfl rfl rfl ?_; refine Z02 ?_; refine Z01 ?_; refine T.ret ?_; obtain ⟨rfl, rfl⟩ := ret2 H; exact Z7o rfl rfl rfl rfl (Z22 rfl Z0w mm0 rfl) (Res.tmp rfl) (Z03 tk2 (Z03 tk2 Z0a)) ⟨c3, d8, c90, e2, a9, d9, c100, c8, rfl, rfl, h7, h8, h9, i1, e5, e7, e8, e9⟩
theorem Zln {n0 : Net} {n0f3_b : Option Addr} {n0f3_n : Nat} {n0f3_c : Nat} (w : World) (h_n0f3 : RS w [] Z3b 3 n0f3_b n0f3_n n0f3_c n0.Arcs) {r0 : Net} (H : Z9m n0 = some r0) : Fnc Try.prog 46 #[.agg #[.int .i64 n0.N, .int .i64 n0.S, .int .i64 n0.T, .slice n0f3_b n0f3_n n0f3_c]] w [] (fun v N => ∃ (b0 : Option Nat) (d0 : Nat) (d1 : Nat) (e0 : List Value), v = .agg #[.int .i64 r0.N, .int .i64 r0.S, .int .i64 r0.T, .slice (sb b0) d0 d1] ∧ N = [(b0, .cells (arr Z3b r0.Arcs e0).toArray 67 (0, 0))] ∧ r0.Arcs.length = d0 ∧ d0 ≤ d1 ∧ e0.length = (d1 - d0) * 3 ∧ (b0 = none → d1 = 0)) := by
 unfold Z9m at H; refine Fnc.enter (vs := [.agg #[.int .i64 n0.N, .int .i64 n0.S, .int .i64 n0.T, .slice n0f3_b n0f3_n n0f3_c]]) Try.func46 rfl rfl (Inv.refl w) ?_; refine Z0d ?_; refine Z04 (ll := [0, 1]) rfl ?_; refine Z1x rfl rfl rfl rfl ?_; intro b1; refine Z0s rfl rfl rfl Z28 ?_; intro b3; refine Z02 ?_; refine Z01 ?_; refine Z0d ?_; obtain ⟨r5, e6, H⟩ := Z0l H; refine Z04 (ll := [0, 1, 2, 3]) rfl ?_; refine Z0r rfl rfl rfl rfl Z0w mm1 rfl ?_; refine Z0p Zas rfl rfl rfl rfl (fun wc hwc => Zgl (n0 := n0) wc (h_n0f3.mono hwc) e6) ?_; rintro _ _ ⟨a6, n8, c9, b8, rfl, rfl, d2, b5, d4, b6⟩; refine Z0s rfl rfl rfl Z28 ?_; intro a8; refine Z0o rfl rfl rfl rfl tk0 Z1b rfl rfl rfl ?_; refine Z02 ?_; refine Z01 ?_; refine Z0d ?_; apply Z70 [⟨[], false, [], Z2u _⟩, ⟨[0], false, [], Z2u _⟩, ⟨[], false, [], Z2u _⟩, ⟨[2], false, [], Z2u _⟩, ⟨[], false, [], Z2u _⟩, ⟨[1, 4], true, [], Znt⟩] [8, 9, 10, 11, 12] 6 (HRk [[(some a8, .cells #[.int .i64 r5.N, .int .i64 r5.S, .int .i64 r5.T, .slice (sb a6) n8 c9] 24 (0, 0))], [(some a8, .cells #[.int .i64 r5.N, .int .i64 n0.T, .int .i64 r5.T, .slice (sb a6) n8 c9] 24 (0, 0))]]) [[], []] [(some a8, .cells #[.int .i64 r5.N, .int .i64 r5.S, .int .i64 r5.T, .slice (sb a6) n8 c9] 24 (0, 0))] [(a6, .cells (arr Z3b r5.Arcs b8).toArray 67 (0, 0)), (some b3, .cells #[.int .i64 0, .int .i64 0, .int .i64 0, .slice none 0 0] 24 (0, 0)), (some b1, .cells #[.int .i64 n0.N, .int .i64 n0.S, .int .i64 n0.T, .slice n0f3_b n0f3_n n0f3_c] 24 (0, 0))]
 · exact Z5d
 · exact rfl
 · kernel_rfl
 · kernel_rfl
 · kernel_rfl
 · exact rfl
 · exact rfl
 · exact rfl
 · exact rfl
 · exact (by repeat (first | exact Z06 _ | exact Z0a | apply Pick.none | refine Z03 (by repeat (first | exact Take.head _ _ | apply Take.tail)) ?_))
 ·
  refine ⟨?_, ?_, ?_, ?_, ?_, ?_, trivial⟩
  · rintro vs es Es Hx -; refine Z0e (D := []) rfl ?_; refine Z05 rfl rfl rfl rfl Z6x ?_; refine Z02 ?_; exact Z0v rfl ⟨rfl, rfl⟩ (Z06 _) rfl
  · rintro vs es Es Hx ⟨⟨b9, d5⟩, -⟩; refine Z0e (D := [(8, vs 0)]) rfl ?_; rw [b9]; refine Z0c rfl rfl rfl rfl Z25 mm2 rfl ?_; refine Z02 ?_; exact Z0v rfl ⟨rfl, rfl⟩ (Z06 _) (by show [(8, vs 0)] = _; rw [b9])
  · rintro vs es Es Hx -; refine Z0e (D := []) rfl ?_; refine Z05 rfl rfl rfl rfl Z6y ?_; refine Z02 ?_; exact Z0v rfl ⟨rfl, rfl⟩ (Z06 _) rfl
  · rintro vs es Es Hx ⟨⟨c3, d6⟩, -⟩; refine Z0e (D := [(10, vs 2)]) rfl ?_; rw [c3]; refine Z0c rfl rfl rfl rfl Z25 mm2 rfl ?_; refine Z02 ?_; exact Z0v rfl ⟨rfl, rfl⟩ (Z06 _) (by show [(10, vs 2)] = _; rw [c3])
  · rintro vs es Es Hx -; refine Z0e (D := []) rfl ?_; refine Z05 rfl rfl rfl rfl Z6y ?_; refine Z02 ?_; exact Z0v rfl ⟨rfl, rfl⟩ (Z06 _) rfl
  · rintro vs es Es Hx hb ⟨⟨c4, c7⟩, ⟨c8, d7⟩, -⟩ hHR; obtain rfl : hb = [(some a8, .cells #[.int .i64 r5.N, .int .i64 r5.S, .int .i64 r5.T, .slice (sb a6) n8 c9] 24 (0, 0))] := hHR; refine Z0e (D := [(9, vs 1), (12, vs 4)]) rfl ?_; rw [c4, c8]; refine Z1z (cs' := [.int .i64 r5.N, .int .i64 n0.T, .int .i64 r5.T, .slice (sb a6) n8 c9]) rfl rfl rfl rfl tk0 Z4c rfl rfl rfl ?_; refine Z02 ?_; exact Zf8 (hb' := [(some a8, .cells #[.int .i64 r5.N, .int .i64 n0.T, .int .i64 r5.T, .slice (sb a6) n8 c9] 24 (0, 0))]) rfl rfl rfl (by repeat (first | exact Z06 _ | exact Z0a | apply Pick.none | refine Z03 (by repeat (first | exact Take.head _ _ | apply Take.tail)) ?_)) (by show [(9, vs 1), (12, vs 4)] = _; rw [c4, c8])
 ·
  rintro vs es hb ⟨⟨b9, d5⟩, ⟨c4, c7⟩, ⟨c3, d6⟩, ⟨e1, e2⟩, ⟨c8, d7⟩, e3, -⟩ hHR; obtain rfl : hb = [(some a8, .cells #[.int .i64 r5.N, .int .i64 n0.T, .int .i64 r5.T, .slice (sb a6) n8 c9] 24 (0, 0))] := hHR; refine Z0e (D := [(8, vs 0), (9, vs 1), (10, vs 2), (11, vs 3), (12, vs 4)]) rfl ?_; refine Z1g (H := [(some a8, .cells #[.int .i64 r5.N, .int .i64 n0.T, .int .i64 r5.T, .slice (sb a6) n8 c9] 24 (0, 0)), (a6, .cells (arr Z3b r5.Arcs b8).toArray 67 (0, 0)), (some b3, .cells #[.int .i64 0, .int .i64 0, .int .i64 0, .slice none 0 0] 24 (0, 0)), (some b1, .cells #[.int .i64 n0.N, .int .i64 n0.S, .int .i64 n0.T, .slice n0f3_b n0f3_n n0f3_c] 24 (0, 0))]) (by show _ ++ (_ ++ (es 0 ++ (es 1 ++ (es 2 ++ (es 3 ++ (es 4 ++ (es 5 ++ ([])))))))) = _; rw [d5, c7, d6, e2, d7, e3]; rfl) ?_; rw [b9, c4, c3, e1, c8]; clear c8 e1 c3 c4 b9 d5 c7 d6 e2 d7 e3; refine Z05 rfl rfl rfl rfl Z6x ?_; refine Z1z (cs' := [.int .i64 r5.N, .int .i64 n0.T, .int .i64 n0.S, .slice (sb a6) n8 c9]) rfl rfl rfl rfl tk0 Z4c rfl rfl rfl ?_; refine Z02 ?_; refine Z01 ?_; refine Z0m (Z00 (t := 1) rfl (Z00 (t := 2) rfl (Z00 (t := 3) rfl Z0b))) ?_; refine Z0d ?_; refine Z0d ?_; refine Z04 (ll := [0, 1, 2, 3]) rfl ?_; refine Z05 rfl rfl rfl rfl Z1d ?_; refine Z0c rfl rfl rfl rfl Z29 mm3 rfl ?_; refine Z26 (xs := n0.Arcs) h_n0f3.len rfl rfl rfl rfl rfl Z1c ?_; refine Z07 rfl rfl rfl rfl ?_; refine Z02 ?_; refine Z01 ?_; refine Z27 (fun (a7 : List Arc) => Z88 n0 r5 a7 = some r0 ∧ a7.length = n8) (fun (a7 : List Arc) => [(2, .pointer (some ⟨b3, 0, none⟩)), (3, .pointer (some ⟨a8, 0, none⟩))]) (fun (a7 : List Arc) => [(some b3, .cells #[.int .i64 0, .int .i64 0, .int .i64 0, .slice none 0 0] 24 (0, 0)), (some a8, .cells #[.int .i64 r5.N, .int .i64 n0.T, .int .i64 n0.S, .slice (sb a6) n8 c9] 24 (0, 0)), (a6, .cells (arr Z3b a7 b8).toArray 67 (0, 0))]) ?_ ?_
  ·
   refine T.block ?_; obtain ⟨e8, c7, e9⟩ := Z0l H; refine Z9d (fun (b7 : Nat) (a4 : List Arc) (a5 : Int) => Z2k (fun s => Z6f n0 s.1 s.2) b7 (a4, a5) = some e8 ∧ a4.length = n8) (fun (b7 : Nat) (a4 : List Arc) (a5 : Int) => [(2, .pointer (some ⟨b3, 0, none⟩)), (3, .pointer (some ⟨a8, 0, none⟩)), (15, .slice n0f3_b n0f3_n n0f3_c), (16, .int .i64 (n0.Arcs.length : Int)), (17, .int .i64 a5)]) (fun (b7 : Nat) (a4 : List Arc) (a5 : Int) => [(some b3, .cells #[.int .i64 0, .int .i64 0, .int .i64 0, .slice none 0 0] 24 (0, 0)), (some a8, .cells #[.int .i64 r5.N, .int .i64 n0.T, .int .i64 n0.S, .slice (sb a6) n8 c9] 24 (0, 0)), (a6, .cells (arr Z3b a4 b8).toArray 67 (0, 0))]) (fun (b7 : Nat) (a4 : List Arc) (a5 : Int) => b7) Z4t r5.Arcs 0 ⟨c7, d2⟩ (Z00 rfl (Z00 rfl (Z00 rfl (Z00 rfl (Z00 rfl Z0b))))) (Z03 tk2 (Z03 tk0 (Z03 tk0 Z0a))) ?_; rintro b7 a4 a5 ⟨H, a9⟩; obtain ⟨f0, f2, rfl, H, e4⟩ := Z1s H; have H : Z6f n0 a4 a5 = some f2 := H; unfold Z6f at H; refine Z0d ?_; refine Z04 (ll := [0]) rfl ?_; refine Z0u rfl rfl rfl rfl rfl rfl ?_; refine Z02 ?_; refine Z01 ?_; refine Z0d ?_; rcases Z0j H with ⟨d8, H⟩ | ⟨d8, H⟩
   · refine Z13 rfl d8 ?_; refine T.skip ?_; refine Z01 ?_; refine Z0d ?_; refine T.block ?_; refine Z0d ?_; obtain ⟨e5, H⟩ := Z0f H; refine Z04 (ll := [0, 1, 2, 3, 4, 5]) rfl ?_; refine Z07 rfl rfl rfl rfl ?_; refine Z2e h_n0f3 e5 rfl rfl rfl rfl rfl Z1c Z1l ?_; refine Zam (cs := [.int .i64 ((n0.Arcs.getD a5.toNat default).fr), .int .i64 ((n0.Arcs.getD a5.toNat default).to), .int .i64 ((n0.Arcs.getD a5.toNat default).cap)]) default h_n0f3 e5 rfl rfl rfl rfl rfl Z80 ?_; refine Z0s rfl rfl rfl Z5u ?_; intro f4; refine Z08 rfl rfl rfl rfl ?_; refine Z0o rfl rfl rfl rfl tk0 Z1l rfl rfl rfl ?_; refine Z02 ?_; refine Z01 ?_; obtain ⟨e7, H⟩ := Z0f H; refine Z04 (ll := [0, 1, 2, 3, 4, 5, 6, 7, 8, 9, 10, 11]) rfl ?_; refine Z05 rfl rfl rfl rfl Z1d ?_; refine Z0c rfl rfl rfl rfl Z29 mm2 rfl ?_; refine Z07 rfl rfl rfl rfl ?_; refine Z05 rfl rfl rfl rfl Z6v ?_; refine Z0c rfl rfl rfl rfl Z25 mm0 rfl ?_; refine Z05 rfl rfl rfl rfl Z6w ?_; refine Z0c rfl rfl rfl rfl Z25 mm0 rfl ?_; refine Z05 rfl rfl rfl rfl Z4w ?_; refine Z0c rfl rfl rfl rfl Z2q mm0 rfl ?_; refine Z12 (t := 67) [.int .i64 0, .int .i64 0, .int .i64 0] [0, 1, 2] rfl rfl rfl rfl (by simp only [Z1m, setCells, Value.cells, List.toList_toArray, List.getD_cons_zero, List.getD_cons_succ, List.set_cons_zero, List.set_cons_succ]; rfl) (by kernel_rfl) ?_; refine Z30 b6 b5 a9 e7 rfl rfl rfl rfl rfl Z1c Z1l ?_; refine TO.stSV (v := (Arc.mk ((n0.Arcs.getD a5.toNat default).to) ((n0.Arcs.getD a5.toNat default).fr) ((n0.Arcs.getD a5.toNat default).cap))) (f := Z3b) (cs := [.int .i64 ((n0.Arcs.getD a5.toNat default).to), .int .i64 ((n0.Arcs.getD a5.toNat default).fr), .int .i64 ((n0.Arcs.getD a5.toNat default).cap)]) (fun _ => rfl) (fun _ => rfl) b6 b5 a9 e7 rfl rfl rfl rfl rfl tk3 Z1l ?_; refine Z02 ?_; refine Z0i ?_; refine Z01 ?_; refine Z0m (Z00 (t := 2) rfl (Z00 (t := 3) rfl (Z00 (t := 15) rfl (Z00 (t := 16) rfl (Z00 (t := 17) rfl Z0b))))) ?_; obtain ⟨f3, H⟩ := Z0f H; refine Z04 (ll := [0, 1]) rfl ?_; refine Z1a f3 rfl rfl rfl rfl rfl ?_; refine Z07 rfl rfl rfl rfl ?_; refine Z02 ?_; have H := Z1f H e4; exact Z4p f0 (a4.set a5.toNat (Arc.mk ((n0.Arcs.getD a5.toNat default).to) ((n0.Arcs.getD a5.toNat default).fr) ((n0.Arcs.getD a5.toNat default).cap))) (a5 + 1) ⟨H, (List.length_set.trans a9)⟩ (Nat.lt_succ_self _) (Z00 rfl (Z00 rfl (Z00 rfl (Z00 rfl (Z00 rfl Z0b))))) (Z03 tk2 (Z03 tk2 (Z03 tk0 Z0a)))
   · refine Z14 rfl d8 ?_; refine T.exit ?_; refine Z0n ?_; have H := Z0y H e4 ▸ e9; refine Z0n ?_; refine Z11 ?_; exact Z2c a4 ⟨H, a9⟩ (Z00 rfl (Z00 rfl Z0b)) (Z03 tk0 (Z03 tk0 (Z03 tk0 Z0a)))
  · rintro a7 ⟨H, d9⟩; unfold Z88 at H; refine Z0d ?_; refine Z04 (ll := [0, 1]) rfl ?_; refine Z0r rfl rfl rfl rfl Z0w mm1 rfl ?_; refine Z0o rfl rfl rfl rfl tk0 Z1b rfl rfl rfl ?_; refine Z02 ?_; refine Z01 ?_; refine T.ret ?_; obtain rfl := ret1 H; exact Z10 rfl rfl rfl rfl (Z22 rfl Z0w mm0 rfl) (Z03 tk2 Z0a) ⟨a6, n8, c9, b8, rfl, rfl, d9, b5, d4, b6⟩
theorem w_acequialaw08_FifoSame {n0 : Net} {turn1 : Int} {n0f3_b : Option Addr} {n0f3_n : Nat} {n0f3_c : Nat} (w : World) (h_n0f3 : RS w [] Z3b 3 n0f3_b n0f3_n n0f3_c n0.Arcs) {r0 : Bool} (H : Z3k n0 turn1 = some r0) : Fnc Try.prog 10 #[.agg #[.int .i64 n0.N, .int .i64 n0.S, .int .i64 n0.T, .slice n0f3_b n0f3_n n0f3_c], .int .u8 turn1] w [] (fun v N => v = .bool r0 ∧ N = []) := by
 unfold Z3k at H; refine Fnc.enter (vs := [.agg #[.int .i64 n0.N, .int .i64 n0.S, .int .i64 n0.T, .slice n0f3_b n0f3_n n0f3_c], .int .u8 turn1]) Try.func10 rfl rfl (Inv.refl w) ?_; refine Z0d ?_; refine Z04 (ll := [0, 1]) rfl ?_; refine Z1x rfl rfl rfl rfl ?_; intro b1; refine Z08 rfl rfl rfl rfl ?_; refine Z02 ?_; refine Z01 ?_; refine Z0d ?_; obtain ⟨r3, e4, H⟩ := Z0l H; refine Z04 (ll := [0, 1, 2]) rfl ?_; refine Z0r rfl rfl rfl rfl Z0w mm0 rfl ?_; refine Z0p Zea rfl rfl rfl rfl (fun wc hwc => Zd5 (n0 := n0) (verts1 := 20) (arcs2 := 50) wc (h_n0f3.mono hwc) e4) ?_; rintro _ _ ⟨d4, n6, c7, j8, rfl, rfl, e9, d5, q9, e2⟩; refine Z0o rfl rfl rfl rfl tk1 Z1b rfl rfl rfl ?_; refine Z02 ?_; refine Z01 ?_; refine Z0d ?_; obtain ⟨⟨b9, i1, j1⟩, r1, H⟩ := Z0l H; refine Z04 (ll := [0, 1, 2, 3, 4, 5, 6, 7, 8, 9, 10]) rfl ?_; refine Z0r rfl rfl rfl rfl Z0w mm0 rfl ?_; refine Z0p Z60 rfl rfl rfl rfl (fun wc hwc => Z65 (n0 := r3) wc (hwc.rs (f := Z3b) (s := 3) (xs := r3.Arcs) (j := j8) (fun _ => rfl) mm1 e9 d5 e2) r1) ?_; rintro _ _ ⟨b5, f6, f7, f8, b6, f9, g0, g1, rfl, rfl, r2, r4, r5, r6, r7, r8, r9, s5⟩; refine Z07 rfl rfl rfl rfl ?_; refine TO.extract rfl rfl rfl rfl rfl ?_; refine TO.extract rfl rfl rfl rfl rfl ?_; refine TO.extract rfl rfl rfl rfl rfl ?_; refine Z0s rfl rfl rfl Z5w ?_; intro f2; refine Z0s rfl rfl rfl Z5v ?_; intro j7; refine Z0o rfl rfl rfl rfl tk1 Z5y rfl rfl rfl ?_; refine Z0o rfl rfl rfl rfl tk1 Z5x rfl rfl rfl ?_; refine Z08 rfl rfl rfl rfl ?_; refine Z02 ?_; refine Z01 ?_; refine Z0m (Z00 (t := 1) rfl (Z00 (t := 2) rfl (Z00 (t := 5) rfl (Z00 (t := 7) rfl Z0b)))) ?_; refine Z0d ?_; obtain ⟨a4, s6, H⟩ := Z0l H; refine Z04 (ll := [0, 1, 2, 3]) rfl ?_; refine Z0r rfl rfl rfl rfl Z0w mm4 rfl ?_; refine Z0p Zas rfl rfl rfl rfl (fun wc hwc => Zgl (n0 := r3) wc (hwc.rs (f := Z3b) (s := 3) (xs := r3.Arcs) (j := j8) (fun _ => rfl) mm5 e9 d5 e2) s6) ?_; rintro _ _ ⟨d6, j2, j3, j4, rfl, rfl, g4, j9, k1, k2⟩; refine Z0s rfl rfl rfl Z28 ?_; intro f3; refine Z0o rfl rfl rfl rfl tk0 Z1b rfl rfl rfl ?_; refine Z02 ?_; refine Z01 ?_; refine Z0d ?_; refine Z0d ?_; refine Z04 (ll := [0, 1, 2, 3]) rfl ?_; refine Z05 rfl rfl rfl rfl Z1d ?_; refine Z0c rfl rfl rfl rfl Z29 mm0 rfl ?_; refine Z26 (xs := a4.Arcs) g4 rfl rfl rfl rfl rfl Z1c ?_; refine Z0u rfl rfl rfl rfl rfl rfl ?_; refine Z02 ?_; refine Z01 ?_; refine Zgd (fun (a7 : List Arc) (c4 : Nat) (c78 : Nat) (a8 : Option Nat) (f0 : List Value) => Z1w r3 b9 j1 a4 a7 = some r0 ∧ a7.length = c4 ∧ c4 ≤ c78 ∧ f0.length = (c78 - c4) * 3 ∧ (a8 = none → c78 = 0)) (fun (a7 : List Arc) (c4 : Nat) (c78 : Nat) (a8 : Option Nat) (f0 : List Value) => [(2, .pointer (some ⟨b1, 0, none⟩)), (5, .pointer (some ⟨f2, 0, none⟩)), (7, .int .i64 j1), (8, .pointer (some ⟨f3, 0, none⟩))]) (fun (a7 : List Arc) (c4 : Nat) (c78 : Nat) (a8 : Option Nat) (f0 : List Value) => [(some b1, .cells #[.int .i64 r3.N, .int .i64 r3.S, .int .i64 r3.T, .slice (sb d4) n6 c7] 24 (0, 0)), (d4, .cells (arr Z3b r3.Arcs j8).toArray 67 (0, 0)), (some f2, .cells #[.slice (sb b5) f6 f7, .slice (sb b6) f9 g0, .int .i64 b9.Value] 60 (0, 0)), (b5, .cells (arr (intC .i64) b9.Flow f8).toArray 2 (0, 0)), (b6, .cells (arr boolC b9.Side g1).toArray 4 (0, 0)), (some f3, .cells #[.int .i64 a4.N, .int .i64 a4.S, .int .i64 a4.T, .slice (sb a8) c4 c78] 24 (0, 0)), (a8, .cells (arr Z3b a7 f0).toArray 67 (0, 0))]) ?_ ?_
 ·
  rcases Z0j H with ⟨k3, H⟩ | ⟨k3, H⟩
  ·
   refine Z13 rfl k3 ?_; refine Z0d ?_; obtain ⟨m1, H⟩ := Z0f H; obtain ⟨s7, H⟩ := Z0f H; refine Z04 (ll := [0, 1, 2, 3, 4, 5, 6]) rfl ?_; refine Z07 rfl rfl rfl rfl ?_; refine Zpz rfl rfl rfl rfl Zg5 Zg7 (Z74 m1.1 m1.2) ?_; refine Z05 rfl rfl rfl rfl Z1d ?_; refine Z0c rfl rfl rfl rfl Z29 mm0 rfl ?_; refine Z26 (xs := a4.Arcs) g4 rfl rfl rfl rfl rfl Z1c ?_; refine TO.rem rfl rfl rfl rfl rfl s7 ?_; refine Z08 rfl rfl rfl rfl ?_; refine Z02 ?_; refine Z01 ?_; refine Z0m (Z00 (t := 2) rfl (Z00 (t := 5) rfl (Z00 (t := 7) rfl (Z00 (t := 8) rfl (Z00 (t := 9) rfl Z0b))))) ?_; obtain ⟨m2, H⟩ := Z0f H; obtain ⟨s8, H⟩ := Z0f H; obtain ⟨k4, H⟩ := Z0f H; obtain ⟨s9, H⟩ := Z0f H; apply Z70 [⟨[], false, [], fun _ v e => ∃ (g2 : Nat), v = .slice (some ⟨g2, 0, none⟩) 0 0 ∧ e = [(some g2, .cells (arr Z3b ([] : List Arc) ([])).toArray 67 (0, 0))]⟩, ⟨[], false, [], Z2u _⟩, ⟨[1], false, [], Z2u _⟩, ⟨[], false, [], Z2u _⟩, ⟨[2, 3], false, [], Z2u _⟩, ⟨[0, 4], false, [0], fun _ v e => ∃ (c8 : Option Nat) (g5 : Nat) (g6 : List Value), v = .slice (sb c8) (0 + (n6 - (turn1.tmod (a4.Arcs.length : Int)).toNat)) g5 ∧ e = [(c8, .cells (arr Z3b (r3.Arcs.drop (turn1.tmod (a4.Arcs.length : Int)).toNat) g6).toArray 67 (0, 0))] ∧ (0 + (n6 - (turn1.tmod (a4.Arcs.length : Int)).toNat)) ≤ g5 ∧ g6.length = (g5 - (0 + (n6 - (turn1.tmod (a4.Arcs.length : Int)).toNat))) * 3 ∧ (c8 = none → g5 = 0)⟩, ⟨[], false, [], Z2u _⟩, ⟨[6], false, [], Z2u _⟩, ⟨[], false, [], Z2u _⟩, ⟨[7, 8], false, [], Z2u _⟩] [37, 38, 39, 40, 41, 42, 43, 44, 45, 46] 10 (HRk [[]]) [[]] [] [(some f3, .cells #[.int .i64 a4.N, .int .i64 a4.S, .int .i64 a4.T, .slice (sb d6) j2 j3] 24 (0, 0)), (d6, .cells (arr Z3b a4.Arcs j4).toArray 67 (0, 0)), (some j7, .cells #[.int .i64 i1.Pushes, .int .i64 i1.Lifts] 62 (0, 0)), (some f2, .cells #[.slice (sb b5) f6 f7, .slice (sb b6) f9 g0, .int .i64 b9.Value] 60 (0, 0)), (b5, .cells (arr (intC .i64) b9.Flow f8).toArray 2 (0, 0)), (b6, .cells (arr boolC b9.Side g1).toArray 4 (0, 0)), (some b1, .cells #[.int .i64 r3.N, .int .i64 r3.S, .int .i64 r3.T, .slice (sb d4) n6 c7] 24 (0, 0)), (d4, .cells (arr Z3b r3.Arcs j8).toArray 67 (0, 0))]
   · exact Z5d
   · exact rfl
   · kernel_rfl
   · kernel_rfl
   · kernel_rfl
   · exact rfl
   · exact rfl
   · exact rfl
   · exact rfl
   · exact (by repeat (first | exact Z06 _ | exact Z0a | apply Pick.none | refine Z03 (by repeat (first | exact Take.head _ _ | apply Take.tail)) ?_))
   ·
    refine ⟨?_, ?_, ?_, ?_, ?_, ?_, ?_, ?_, ?_, ?_, trivial⟩
    · rintro vs es Es Hx -; refine Z0e (D := []) rfl ?_; refine Z9c rfl rfl rfl Z1c Z1l ?_; intro g2; refine Z02 ?_; exact Z0v rfl ⟨g2, rfl, rfl⟩ (by repeat (first | exact Z06 _ | exact Z0a | apply Pick.none | refine Z03 (by repeat (first | exact Take.head _ _ | apply Take.tail)) ?_)) rfl
    · rintro vs es Es Hx -; refine Z0e (D := []) rfl ?_; refine Z05 rfl rfl rfl rfl Z1d ?_; refine Z02 ?_; exact Z0v rfl ⟨rfl, rfl⟩ (Z06 _) rfl
    · rintro vs es Es Hx ⟨⟨d9, e3⟩, -⟩; refine Z0e (D := [(38, vs 1)]) rfl ?_; rw [d9]; refine Z0c rfl rfl rfl rfl Z29 mm6 rfl ?_; refine Z02 ?_; exact Z0v rfl ⟨rfl, rfl⟩ (Z06 _) (by show [(38, vs 1)] = _; rw [d9])
    · rintro vs es Es Hx -; refine Z0e (D := []) rfl ?_; refine Z07 rfl rfl rfl rfl ?_; refine Z02 ?_; exact Z0v rfl ⟨rfl, rfl⟩ (Z06 _) rfl
    · rintro vs es Es Hx ⟨⟨e7, g7⟩, ⟨c9, e5⟩, -⟩; refine Z0e (D := [(39, vs 2), (40, vs 3)]) rfl ?_; rw [e7, c9]; refine TO.slL (xs := r3.Arcs) e9 m2 rfl rfl rfl rfl rfl Z1c Z1l ?_; refine Z02 ?_; exact Z0v rfl ⟨rfl, rfl⟩ (Z06 _) (by show [(39, vs 2), (40, vs 3)] = _; rw [e7, c9])
    · rintro vs es Es Hx ⟨⟨g2, e0, e6⟩, ⟨e8, d7⟩, -⟩; refine Z0e (D := [(37, vs 0), (41, vs 4)]) rfl ?_; rw [e0, e8]; refine Z1g (H := [(some f3, .cells #[.int .i64 a4.N, .int .i64 a4.S, .int .i64 a4.T, .slice (sb d6) j2 j3] 24 (0, 0)), (d6, .cells (arr Z3b a4.Arcs j4).toArray 67 (0, 0)), (some j7, .cells #[.int .i64 i1.Pushes, .int .i64 i1.Lifts] 62 (0, 0)), (some f2, .cells #[.slice (sb b5) f6 f7, .slice (sb b6) f9 g0, .int .i64 b9.Value] 60 (0, 0)), (b5, .cells (arr (intC .i64) b9.Flow f8).toArray 2 (0, 0)), (b6, .cells (arr boolC b9.Side g1).toArray 4 (0, 0)), (some b1, .cells #[.int .i64 r3.N, .int .i64 r3.S, .int .i64 r3.T, .slice (sb d4) n6 c7] 24 (0, 0)), (d4, .cells (arr Z3b r3.Arcs j8).toArray 67 (0, 0))] ++ ([(some g2, .cells (arr Z3b ([] : List Arc) ([])).toArray 67 (0, 0))] ++ Hx)) (by show _ ++ ((es 0 ++ (es 4 ++ ([]))) ++ _) = _; rw [e6, d7]; rfl) ?_; refine Zbd (f := Z3b) (s := 3) (xs := ([] : List Arc)) (ob := some g2) (j := ([])) (ys := (r3.Arcs.drop (turn1.tmod (a4.Arcs.length : Int)).toNat)) (fun _ => rfl) (fun _ => rfl) Z7z s8 rfl rfl rfl rfl rfl tk8 rfl (Nat.le_refl _) (Z2g 0 _) Z3o (fun wc hwc => (RS.drop (hwc.rs (f := Z3b) (s := 3) (xs := r3.Arcs) (j := j8) (fun _ => rfl) mm7 e9 d5 e2) m2)) ?_; intro c8 g5 g6 g8 g9 h0; refine Z02 ?_; exact Z0v rfl ⟨c8, g5, g6, rfl, rfl, g8, g9, h0⟩ (by show Pick (_ ++ (_ ++ ((es 4 ++ ([])) ++ _))) _; rw [d7]; exact (by repeat (first | exact Z06 _ | exact Z0a | apply Pick.none | refine Z03 (by repeat (first | exact Take.head _ _ | apply Take.tail)) ?_))) (by show [(37, vs 0), (41, vs 4)] = _; rw [e0, e8])
    · rintro vs es Es Hx -; refine Z0e (D := []) rfl ?_; refine Z05 rfl rfl rfl rfl Z1d ?_; refine Z02 ?_; exact Z0v rfl ⟨rfl, rfl⟩ (Z06 _) rfl
    · rintro vs es Es Hx ⟨⟨g3, i2⟩, -⟩; refine Z0e (D := [(43, vs 6)]) rfl ?_; rw [g3]; refine Z0c rfl rfl rfl rfl Z29 mm6 rfl ?_; refine Z02 ?_; exact Z0v rfl ⟨rfl, rfl⟩ (Z06 _) (by show [(43, vs 6)] = _; rw [g3])
    · rintro vs es Es Hx -; refine Z0e (D := []) rfl ?_; refine Z07 rfl rfl rfl rfl ?_; refine Z02 ?_; exact Z0v rfl ⟨rfl, rfl⟩ (Z06 _) rfl
    · rintro vs es Es Hx ⟨⟨i4, k5⟩, ⟨i5, k6⟩, -⟩; refine Z0e (D := [(44, vs 7), (45, vs 8)]) rfl ?_; rw [i4, i5]; refine TO.slH (xs := r3.Arcs) e9 d5 k4 rfl rfl rfl rfl rfl Z1c Z1l ?_; refine Z02 ?_; exact Z0v rfl ⟨rfl, rfl⟩ (Z06 _) (by show [(44, vs 7), (45, vs 8)] = _; rw [i4, i5])
   · rintro vs es hb ⟨⟨g2, e0, e6⟩, ⟨d9, e3⟩, ⟨e7, g7⟩, ⟨c9, e5⟩, ⟨e8, d7⟩, ⟨c8, g5, g6, i6, i7, g8, g9, h0⟩, ⟨g3, i2⟩, ⟨i4, k5⟩, ⟨i5, k6⟩, ⟨m3, m4⟩, -⟩ hHR; obtain rfl : hb = [] := hHR; refine Z0e (D := [(37, vs 0), (38, vs 1), (39, vs 2), (40, vs 3), (41, vs 4), (42, vs 5), (43, vs 6), (44, vs 7), (45, vs 8), (46, vs 9)]) rfl ?_; refine Z1g (H := [(some f3, .cells #[.int .i64 a4.N, .int .i64 a4.S, .int .i64 a4.T, .slice (sb d6) j2 j3] 24 (0, 0)), (d6, .cells (arr Z3b a4.Arcs j4).toArray 67 (0, 0)), (some j7, .cells #[.int .i64 i1.Pushes, .int .i64 i1.Lifts] 62 (0, 0)), (some f2, .cells #[.slice (sb b5) f6 f7, .slice (sb b6) f9 g0, .int .i64 b9.Value] 60 (0, 0)), (b5, .cells (arr (intC .i64) b9.Flow f8).toArray 2 (0, 0)), (b6, .cells (arr boolC b9.Side g1).toArray 4 (0, 0)), (some b1, .cells #[.int .i64 r3.N, .int .i64 r3.S, .int .i64 r3.T, .slice (sb d4) n6 c7] 24 (0, 0)), (d4, .cells (arr Z3b r3.Arcs j8).toArray 67 (0, 0)), (c8, .cells (arr Z3b (r3.Arcs.drop (turn1.tmod (a4.Arcs.length : Int)).toNat) g6).toArray 67 (0, 0))]) (by show _ ++ (_ ++ (es 1 ++ (es 2 ++ (es 3 ++ (es 4 ++ (es 5 ++ (es 6 ++ (es 7 ++ (es 8 ++ (es 9 ++ ([]))))))))))) = _; rw [e3, g7, e5, d7, i7, i2, k5, k6, m4]; rfl) ?_; rw [e0, d9, e7, c9, e8, i6, g3, i4, i5, m3]; clear m3 i5 i4 g3 i6 e8 c9 e7 d9 e0 e6 e3 g7 e5 d7 i7 i2 k5 k6 m4; refine Zbd (f := Z3b) (s := 3) (xs := (r3.Arcs.drop (turn1.tmod (a4.Arcs.length : Int)).toNat)) (ob := c8) (j := g6) (ys := (r3.Arcs.take (turn1.tmod (a4.Arcs.length : Int)).toNat)) (fun _ => rfl) (fun _ => rfl) Z7z s9 rfl rfl rfl rfl rfl tk8 (Zez (Zoa e9)) g8 g9 h0 (fun wc hwc => (RS.take (hwc.rs (f := Z3b) (s := 3) (xs := r3.Arcs) (j := j8) (fun _ => rfl) mm7 e9 d5 e2) k4)) ?_; intro i8 c70 t0 k7 k8 k9; refine Z05 rfl rfl rfl rfl Z1d ?_; refine Z1z (cs' := [.int .i64 a4.N, .int .i64 a4.S, .int .i64 a4.T, .slice (sb i8) ((0 + (n6 - (turn1.tmod (a4.Arcs.length : Int)).toNat)) + (turn1.tmod (a4.Arcs.length : Int)).toNat) c70]) rfl rfl rfl rfl tk1 Zar rfl rfl rfl ?_; refine Z02 ?_; exact Zi0 ((r3.Arcs.drop (turn1.tmod (a4.Arcs.length : Int)).toNat) ++ (r3.Arcs.take (turn1.tmod (a4.Arcs.length : Int)).toNat)) ((0 + (n6 - (turn1.tmod (a4.Arcs.length : Int)).toNat)) + (turn1.tmod (a4.Arcs.length : Int)).toNat) c70 i8 t0 ⟨H, (Zdq (Zez (Zoa e9)) (takeLen k4)), k7, k8, k9⟩ (Z00 rfl (Z00 rfl (Z00 rfl (Z00 rfl Z0b)))) (Z03 tk7 (Z03 tk7 (Z03 tk4 (Z03 tk4 (Z03 tk4 (Z03 tk0 (Z03 tk0 Z0a)))))))
  · refine Z14 rfl k3 ?_; refine T.skip ?_; exact Zi0 a4.Arcs j2 j3 d6 j4 ⟨H, g4, j9, k1, k2⟩ (Z00 rfl (Z00 rfl (Z00 rfl (Z00 rfl Z0b)))) (Z03 tk6 (Z03 tk6 (Z03 tk3 (Z03 tk3 (Z03 tk3 (Z03 tk0 (Z03 tk0 Z0a)))))))
 ·
  rintro a7 c4 c78 a8 f0 ⟨H, l0, l1, t1, l3⟩; unfold Z1w at H; refine Z0d ?_; obtain ⟨⟨a9, j5⟩, t2, H⟩ := Z0l H; refine Z04 (ll := [0, 1, 2, 3, 4, 5, 6, 7]) rfl ?_; refine Z0r rfl rfl rfl rfl Z0w mm0 rfl ?_; refine Z0p Ze8 rfl rfl rfl rfl (fun wc hwc => Zlo (n0 := r3) wc (hwc.rs (f := Z3b) (s := 3) (xs := r3.Arcs) (j := j8) (fun _ => rfl) mm1 e9 d5 e2) t2) ?_; rintro _ _ ⟨b0, d8, c91, i9, f4, y0, c95, j6, rfl, rfl, l4, l5, t3, j0, m5, m6, m7, m8⟩; refine Z07 rfl rfl rfl rfl ?_; refine TO.extract rfl rfl rfl rfl rfl ?_; refine TO.extract rfl rfl rfl rfl rfl ?_; refine Z0s rfl rfl rfl Z28 ?_; intro f5; refine Z0o rfl rfl rfl rfl tk0 Z1b rfl rfl rfl ?_; refine Z08 rfl rfl rfl rfl ?_; refine Z02 ?_; refine Z01 ?_; refine Z0d ?_; refine Z0d ?_; obtain ⟨a5, l6, H⟩ := Z0l H; apply Z70 [⟨[], false, [], Z2u _⟩, ⟨[], false, [], Z2u _⟩, ⟨[], false, [], Z2u _⟩, ⟨[2], false, [], fun _ v e => ∃ (a6 : Option Nat) (b7 : Nat) (c113 : Nat) (c3 : List Value), v = .agg #[.int .i64 a5.N, .int .i64 a5.S, .int .i64 a5.T, .slice (sb a6) b7 c113] ∧ e = [(a6, .cells (arr Z3b a5.Arcs c3).toArray 67 (0, 0))] ∧ a5.Arcs.length = b7 ∧ b7 ≤ c113 ∧ c3.length = (c113 - b7) * 3 ∧ (a6 = none → c113 = 0)⟩, ⟨[0, 1, 3], false, [], fun vl v e => ∃ (b8 : Nat), v = .slice (some ⟨b8, 0, none⟩) 3 3 ∧ e = [(some b8, .cells #[.int .i64 a4.N, .int .i64 a4.S, .int .i64 a4.T, .slice (sb a8) c4 c78, .int .i64 a9.N, .int .i64 a9.S, .int .i64 a9.T, .slice (sb b0) d8 c91, (Z7x (vl.getD 2 undef) 0), (Z7x (vl.getD 2 undef) 1), (Z7x (vl.getD 2 undef) 2), (Z7x (vl.getD 2 undef) 3)] 24 (0, 0))]⟩, ⟨[0, 1, 3, 4], false, [], Z2u _⟩, ⟨[], false, [], Z2u _⟩] [54, 55, 56, 57, 58, 59, 60] 7 (HRk [[]]) [[]] [] [(some f5, .cells #[.int .i64 a9.N, .int .i64 a9.S, .int .i64 a9.T, .slice (sb b0) d8 c91] 24 (0, 0)), (b0, .cells (arr Z3b a9.Arcs i9).toArray 67 (0, 0)), (f4, .cells (arr (intC .i64) j5 j6).toArray 3 (0, 0)), (some b1, .cells #[.int .i64 r3.N, .int .i64 r3.S, .int .i64 r3.T, .slice (sb d4) n6 c7] 24 (0, 0)), (d4, .cells (arr Z3b r3.Arcs j8).toArray 67 (0, 0)), (some f2, .cells #[.slice (sb b5) f6 f7, .slice (sb b6) f9 g0, .int .i64 b9.Value] 60 (0, 0)), (b5, .cells (arr (intC .i64) b9.Flow f8).toArray 2 (0, 0)), (b6, .cells (arr boolC b9.Side g1).toArray 4 (0, 0)), (some f3, .cells #[.int .i64 a4.N, .int .i64 a4.S, .int .i64 a4.T, .slice (sb a8) c4 c78] 24 (0, 0)), (a8, .cells (arr Z3b a7 f0).toArray 67 (0, 0))]
  · exact Z5d
  · exact rfl
  · kernel_rfl
  · kernel_rfl
  · kernel_rfl
  · exact rfl
  · exact rfl
  · exact rfl
  · exact rfl
  · exact (by repeat (first | exact Z06 _ | exact Z0a | apply Pick.none | refine Z03 (by repeat (first | exact Take.head _ _ | apply Take.tail)) ?_))
  ·
   refine ⟨?_, ?_, ?_, ?_, ?_, ?_, ?_, trivial⟩
   · rintro vs es Es Hx -; refine Z0e (D := []) rfl ?_; refine Z0r rfl rfl rfl rfl Z0w mm8 rfl ?_; refine Z02 ?_; exact Z0v rfl ⟨rfl, rfl⟩ (Z06 _) rfl
   · rintro vs es Es Hx -; refine Z0e (D := []) rfl ?_; refine Z0r rfl rfl rfl rfl Z0w mm0 rfl ?_; refine Z02 ?_; exact Z0v rfl ⟨rfl, rfl⟩ (Z06 _) rfl
   · rintro vs es Es Hx -; refine Z0e (D := []) rfl ?_; refine Z0r rfl rfl rfl rfl Z0w mm3 rfl ?_; refine Z02 ?_; exact Z0v rfl ⟨rfl, rfl⟩ (Z06 _) rfl
   · rintro vs es Es Hx ⟨⟨e7, g7⟩, -⟩; refine Z0e (D := [(56, vs 2)]) rfl ?_; rw [e7]; refine Z0p Ze7 rfl rfl rfl rfl (fun wc hwc => Zln (n0 := r3) wc (hwc.rs (f := Z3b) (s := 3) (xs := r3.Arcs) (j := j8) (fun _ => rfl) mm4 e9 d5 e2) l6) ?_; rintro _ _ ⟨a6, b7, c113, c3, rfl, rfl, d0, d1, e1, d2⟩; refine Z02 ?_; exact Z0v rfl ⟨a6, b7, c113, c3, rfl, rfl, d0, d1, e1, d2⟩ (by repeat (first | exact Z06 _ | exact Z0a | apply Pick.none | refine Z03 (by repeat (first | exact Take.head _ _ | apply Take.tail)) ?_)) (by show [(56, vs 2)] = _; rw [e7])
   · rintro vs es Es Hx ⟨⟨e0, e6⟩, ⟨d9, e3⟩, ⟨a6, b7, c113, c3, c9, e5, d0, d1, e1, d2⟩, -⟩; refine Z0e (D := [(54, vs 0), (55, vs 1), (57, vs 3)]) rfl ?_; rw [e0, d9, c9]; refine Z1g (H := [(some f5, .cells #[.int .i64 a9.N, .int .i64 a9.S, .int .i64 a9.T, .slice (sb b0) d8 c91] 24 (0, 0)), (b0, .cells (arr Z3b a9.Arcs i9).toArray 67 (0, 0)), (f4, .cells (arr (intC .i64) j5 j6).toArray 3 (0, 0)), (some b1, .cells #[.int .i64 r3.N, .int .i64 r3.S, .int .i64 r3.T, .slice (sb d4) n6 c7] 24 (0, 0)), (d4, .cells (arr Z3b r3.Arcs j8).toArray 67 (0, 0)), (some f2, .cells #[.slice (sb b5) f6 f7, .slice (sb b6) f9 g0, .int .i64 b9.Value] 60 (0, 0)), (b5, .cells (arr (intC .i64) b9.Flow f8).toArray 2 (0, 0)), (b6, .cells (arr boolC b9.Side g1).toArray 4 (0, 0)), (some f3, .cells #[.int .i64 a4.N, .int .i64 a4.S, .int .i64 a4.T, .slice (sb a8) c4 c78] 24 (0, 0)), (a8, .cells (arr Z3b a7 f0).toArray 67 (0, 0))] ++ ([(a6, .cells (arr Z3b a5.Arcs c3).toArray 67 (0, 0))] ++ Hx)) (by show _ ++ ((es 0 ++ (es 1 ++ (es 3 ++ ([])))) ++ _) = _; rw [e6, e3, e5]; rfl) ?_; refine Z1h [.int .i64 0, .int .i64 0, .int .i64 0, .slice none 0 0, .int .i64 0, .int .i64 0, .int .i64 0, .slice none 0 0, .int .i64 0, .int .i64 0, .int .i64 0, .slice none 0 0] [0, 4, 8] rfl rfl rfl rfl Z4q Z1b Z28 rfl rfl (by simp only [Z1m, setCells, Value.cells, List.toList_toArray, List.getD_cons_zero, List.getD_cons_succ, List.set_cons_zero, List.set_cons_succ]; rfl) (by kernel_rfl) ?_; intro b8; refine Z02 ?_; exact Z0v (e' := [(some b8, .cells #[.int .i64 a4.N, .int .i64 a4.S, .int .i64 a4.T, .slice (sb a8) c4 c78, .int .i64 a9.N, .int .i64 a9.S, .int .i64 a9.T, .slice (sb b0) d8 c91, .int .i64 a5.N, .int .i64 a5.S, .int .i64 a5.T, .slice (sb a6) b7 c113] 24 (0, 0))]) rfl ⟨b8, rfl, by show ([(some b8, .cells #[.int .i64 a4.N, .int .i64 a4.S, .int .i64 a4.T, .slice (sb a8) c4 c78, .int .i64 a9.N, .int .i64 a9.S, .int .i64 a9.T, .slice (sb b0) d8 c91, .int .i64 a5.N, .int .i64 a5.S, .int .i64 a5.T, .slice (sb a6) b7 c113] 24 (0, 0))] : Heap) = [(some b8, .cells #[.int .i64 a4.N, .int .i64 a4.S, .int .i64 a4.T, .slice (sb a8) c4 c78, .int .i64 a9.N, .int .i64 a9.S, .int .i64 a9.T, .slice (sb b0) d8 c91, (Z7x (vs 3) 0), (Z7x (vs 3) 1), (Z7x (vs 3) 2), (Z7x (vs 3) 3)] 24 (0, 0))]; rw [c9] <;> rfl⟩ (by show Pick (_ ++ (_ ++ ((es 0 ++ (es 1 ++ (es 3 ++ ([])))) ++ _))) _; rw [e6, e3, e5]; exact (by repeat (first | exact Z06 _ | exact Z0a | apply Pick.none | refine Z03 (by repeat (first | exact Take.head _ _ | apply Take.tail)) ?_))) (by show [(54, vs 0), (55, vs 1), (57, vs 3)] = _; rw [e0, d9, c9])
   ·
    rintro vs es Es Hx ⟨⟨e0, e6⟩, ⟨d9, e3⟩, ⟨a6, b7, c113, c3, c9, e5, d0, d1, e1, d2⟩, ⟨b8, e8, d7⟩, -⟩; replace d7 : es 4 = [(some b8, .cells #[.int .i64 a4.N, .int .i64 a4.S, .int .i64 a4.T, .slice (sb a8) c4 c78, .int .i64 a9.N, .int .i64 a9.S, .int .i64 a9.T, .slice (sb b0) d8 c91, .int .i64 a5.N, .int .i64 a5.S, .int .i64 a5.T, .slice (sb a6) b7 c113] 24 (0, 0))] := by refine Eq.trans d7 ?_; show ([(some b8, .cells #[.int .i64 a4.N, .int .i64 a4.S, .int .i64 a4.T, .slice (sb a8) c4 c78, .int .i64 a9.N, .int .i64 a9.S, .int .i64 a9.T, .slice (sb b0) d8 c91, (Z7x (vs 3) 0), (Z7x (vs 3) 1), (Z7x (vs 3) 2), (Z7x (vs 3) 3)] 24 (0, 0))] : Heap) = _; rw [c9] <;> rfl
    refine Z0e (D := [(54, vs 0), (55, vs 1), (57, vs 3), (58, vs 4)]) rfl ?_; rw [e0, d9, c9, e8]; refine Z1g (H := [(some f5, .cells #[.int .i64 a9.N, .int .i64 a9.S, .int .i64 a9.T, .slice (sb b0) d8 c91] 24 (0, 0)), (b0, .cells (arr Z3b a9.Arcs i9).toArray 67 (0, 0)), (f4, .cells (arr (intC .i64) j5 j6).toArray 3 (0, 0)), (some b1, .cells #[.int .i64 r3.N, .int .i64 r3.S, .int .i64 r3.T, .slice (sb d4) n6 c7] 24 (0, 0)), (d4, .cells (arr Z3b r3.Arcs j8).toArray 67 (0, 0)), (some f2, .cells #[.slice (sb b5) f6 f7, .slice (sb b6) f9 g0, .int .i64 b9.Value] 60 (0, 0)), (b5, .cells (arr (intC .i64) b9.Flow f8).toArray 2 (0, 0)), (b6, .cells (arr boolC b9.Side g1).toArray 4 (0, 0)), (some f3, .cells #[.int .i64 a4.N, .int .i64 a4.S, .int .i64 a4.T, .slice (sb a8) c4 c78] 24 (0, 0)), (a8, .cells (arr Z3b a7 f0).toArray 67 (0, 0))] ++ ([(a6, .cells (arr Z3b a5.Arcs c3).toArray 67 (0, 0)), (some b8, .cells #[.int .i64 a4.N, .int .i64 a4.S, .int .i64 a4.T, .slice (sb a8) c4 c78, .int .i64 a9.N, .int .i64 a9.S, .int .i64 a9.T, .slice (sb b0) d8 c91, .int .i64 a5.N, .int .i64 a5.S, .int .i64 a5.T, .slice (sb a6) b7 c113] 24 (0, 0))] ++ Hx)) (by show _ ++ ((es 0 ++ (es 1 ++ (es 3 ++ (es 4 ++ ([]))))) ++ _) = _; rw [e6, e3, e5, d7]; rfl) ?_; refine Z26 (xs := [(), (), ()]) (n := 3) rfl rfl rfl rfl rfl rfl Z4q ?_; refine Z02 ?_; exact Z0v rfl ⟨rfl, rfl⟩ (by show Pick (_ ++ (_ ++ ((es 0 ++ (es 1 ++ (es 3 ++ (es 4 ++ ([]))))) ++ _))) _; rw [e6, e3, e5, d7]; exact (by repeat (first | exact Z06 _ | exact Z0a | apply Pick.none | refine Z03 (by repeat (first | exact Take.head _ _ | apply Take.tail)) ?_))) (by show [(54, vs 0), (55, vs 1), (57, vs 3), (58, vs 4)] = _; rw [e0, d9, c9, e8])
   · rintro vs es Es Hx -; refine Z0e (D := []) rfl ?_; refine Z07 rfl rfl rfl rfl ?_; refine Z02 ?_; exact Z0v rfl ⟨rfl, rfl⟩ (Z06 _) rfl
  ·
   rintro vs es hb ⟨⟨e0, e6⟩, ⟨d9, e3⟩, ⟨e7, g7⟩, ⟨a6, b7, c113, c3, c9, e5, d0, d1, e1, d2⟩, ⟨b8, e8, d7⟩, ⟨i6, i7⟩, ⟨g3, i2⟩, -⟩ hHR; obtain rfl : hb = [] := hHR; replace d7 : es 4 = [(some b8, .cells #[.int .i64 a4.N, .int .i64 a4.S, .int .i64 a4.T, .slice (sb a8) c4 c78, .int .i64 a9.N, .int .i64 a9.S, .int .i64 a9.T, .slice (sb b0) d8 c91, .int .i64 a5.N, .int .i64 a5.S, .int .i64 a5.T, .slice (sb a6) b7 c113] 24 (0, 0))] := by refine Eq.trans d7 ?_; show ([(some b8, .cells #[.int .i64 a4.N, .int .i64 a4.S, .int .i64 a4.T, .slice (sb a8) c4 c78, .int .i64 a9.N, .int .i64 a9.S, .int .i64 a9.T, .slice (sb b0) d8 c91, (Z7x (vs 3) 0), (Z7x (vs 3) 1), (Z7x (vs 3) 2), (Z7x (vs 3) 3)] 24 (0, 0))] : Heap) = _; rw [c9] <;> rfl
   refine Z0e (D := [(54, vs 0), (55, vs 1), (56, vs 2), (57, vs 3), (58, vs 4), (59, vs 5), (60, vs 6)]) rfl ?_; refine Z1g (H := [(some f5, .cells #[.int .i64 a9.N, .int .i64 a9.S, .int .i64 a9.T, .slice (sb b0) d8 c91] 24 (0, 0)), (b0, .cells (arr Z3b a9.Arcs i9).toArray 67 (0, 0)), (f4, .cells (arr (intC .i64) j5 j6).toArray 3 (0, 0)), (some b1, .cells #[.int .i64 r3.N, .int .i64 r3.S, .int .i64 r3.T, .slice (sb d4) n6 c7] 24 (0, 0)), (d4, .cells (arr Z3b r3.Arcs j8).toArray 67 (0, 0)), (some f2, .cells #[.slice (sb b5) f6 f7, .slice (sb b6) f9 g0, .int .i64 b9.Value] 60 (0, 0)), (b5, .cells (arr (intC .i64) b9.Flow f8).toArray 2 (0, 0)), (b6, .cells (arr boolC b9.Side g1).toArray 4 (0, 0)), (some f3, .cells #[.int .i64 a4.N, .int .i64 a4.S, .int .i64 a4.T, .slice (sb a8) c4 c78] 24 (0, 0)), (a8, .cells (arr Z3b a7 f0).toArray 67 (0, 0)), (a6, .cells (arr Z3b a5.Arcs c3).toArray 67 (0, 0)), (some b8, .cells #[.int .i64 a4.N, .int .i64 a4.S, .int .i64 a4.T, .slice (sb a8) c4 c78, .int .i64 a9.N, .int .i64 a9.S, .int .i64 a9.T, .slice (sb b0) d8 c91, .int .i64 a5.N, .int .i64 a5.S, .int .i64 a5.T, .slice (sb a6) b7 c113] 24 (0, 0))]) (by show _ ++ (_ ++ (es 0 ++ (es 1 ++ (es 2 ++ (es 3 ++ (es 4 ++ (es 5 ++ (es 6 ++ ([]))))))))) = _; rw [e6, e3, g7, e5, d7, i7, i2]; rfl) ?_; rw [e0, d9, e7, c9, e8, i6, g3]; clear g3 i6 e8 c9 e7 d9 e0 e6 e3 g7 e5 d7 i7 i2; refine Z02 ?_; refine Z01 ?_; refine Z0m (Z00 (t := 5) rfl (Z00 (t := 7) rfl (Z00 (t := 58) rfl (Z00 (t := 59) rfl (Z00 (t := 60) rfl Z0b))))) ?_; refine Z27 (fun (h2 : Unit) => Z2x j1 = some r0) (fun (h2 : Unit) => [(7, .int .i64 j1)]) (fun (h2 : Unit) => []) ?_ ?_
   ·
    refine T.block ?_; refine Zq3 ?_; refine Z71 ?_; refine Z0d ?_; refine Z04 (ll := [0]) rfl ?_; refine Z7d (b := true) rfl rfl rfl rfl rfl rfl (by first | decide | rfl) ?_; refine Z02 ?_; refine Z01 ?_; refine Z0d ?_; refine Z1u rfl rfl ?_; refine T.skip ?_; refine Z01 ?_; refine Z0d ?_; refine T.block ?_; refine Z0d ?_; refine Z04 (ll := [0, 1, 2, 3]) rfl ?_; refine Zli (xs := [(), (), ()]) (n := 3) rfl (Zo2 (k := 0) rfl) rfl rfl rfl rfl rfl Z4q Z1b ?_; refine Zd4 (vs := [.int .i64 a4.N, .int .i64 a4.S, .int .i64 a4.T, .slice (sb a8) c4 c78]) rfl rfl rfl rfl Z0w mm11 rfl rfl ?_; refine Z0s rfl rfl rfl Z28 ?_; intro t4; refine Z0o rfl rfl rfl rfl tk0 Z1b rfl rfl rfl ?_; refine Z02 ?_; refine Z01 ?_; refine Z0d ?_; obtain ⟨⟨t5, t6, t7⟩, l7, H⟩ := Z0l H; refine Z04 (ll := [0, 1, 2, 3, 4, 5, 6, 7, 8, 9, 10]) rfl ?_; refine Z0r rfl rfl rfl rfl Z0w mm0 rfl ?_; refine Z0p Z60 rfl rfl rfl rfl (fun wc hwc => Z65 (n0 := (Net.mk a4.N a4.S a4.T a7)) wc (hwc.rs (f := Z3b) (s := 3) (xs := a7) (j := f0) (fun _ => rfl) mm10 l0 l1 l3) l7) ?_; rintro _ _ ⟨m9, t8, t9, u3, n5, u5, u6, u7, rfl, rfl, n7, n8, n9, o0, o1, o2, o4, o6⟩; refine Z07 rfl rfl rfl rfl ?_; refine TO.extract rfl rfl rfl rfl rfl ?_; refine TO.extract rfl rfl rfl rfl rfl ?_; refine TO.extract rfl rfl rfl rfl rfl ?_; refine Z0s rfl rfl rfl Z5w ?_; intro u9; refine Z0s rfl rfl rfl Z5v ?_; intro v2; refine Z0o rfl rfl rfl rfl tk1 Z5y rfl rfl rfl ?_; refine Z0o rfl rfl rfl rfl tk1 Z5x rfl rfl rfl ?_; refine Z08 rfl rfl rfl rfl ?_; refine Z02 ?_; refine Z01 ?_; refine Z0m (Z00 (t := 5) rfl (Z00 (t := 7) rfl (Z00 (t := 58) rfl (Z00 (t := 59) rfl (Z00 (t := 60) rfl (Z00 (t := 14) rfl (Z00 (t := 16) rfl Z0b))))))) ?_; refine Z0d ?_; rcases Z0j H with ⟨h3, H⟩ | ⟨h3, H⟩
    · refine Z04 (ll := [0, 1, 2, 3, 4, 5, 6, 7, 8]) rfl ?_; refine Z07 rfl rfl rfl rfl ?_; refine Z0u rfl rfl rfl rfl rfl rfl ?_; refine Z07 rfl rfl rfl rfl ?_; refine Z0x (t := 72) (b' := true) rfl (decide_eq_true h3) ?_; refine Z0g rfl rfl rfl rfl ?_; refine Z0g rfl rfl rfl rfl ?_; refine Z0g rfl rfl rfl rfl ?_; refine Z0g rfl rfl rfl rfl ?_; refine Z0g rfl rfl rfl rfl ?_; refine Z1n rfl rfl rfl rfl rfl ?_; refine Z02 ?_; refine Z01 ?_; refine Z1u rfl rfl ?_; refine Z0d ?_; refine Z04 (ll := [0]) rfl ?_; refine Z08 rfl rfl rfl rfl ?_; refine Z02 ?_; refine Z01 ?_; refine Z0m (Z00 (t := 4) rfl Z0b) ?_; refine T.ret ?_; refine Z0k ?_; refine Z0h ?_; refine Z0h ?_; refine Z0k ?_; refine Z0h ?_; obtain rfl := ret1 H; exact Z10 rfl rfl rfl rfl (Res.tmp rfl) Z0a ⟨rfl, rfl⟩
    ·
     refine Z04 (ll := [0, 1, 2, 3, 4, 5, 6, 7, 8]) rfl ?_; refine Z07 rfl rfl rfl rfl ?_; refine Z0u rfl rfl rfl rfl rfl rfl ?_; refine Z07 rfl rfl rfl rfl ?_; refine Z0x (t := 72) (b' := false) rfl (decide_eq_false h3) ?_; refine Z05 rfl rfl rfl rfl Z39 ?_; refine Z0c rfl rfl rfl rfl Z2q mm1 rfl ?_; refine Z05 rfl rfl rfl rfl Z39 ?_; refine Z0c rfl rfl rfl rfl Z2q mm10 rfl ?_; refine Z0u rfl rfl rfl rfl rfl rfl ?_; refine Z1k rfl rfl rfl rfl rfl ?_; refine Z02 ?_; refine Z01 ?_; rcases Z0j H with ⟨h4, H⟩ | ⟨h4, H⟩
     · refine Z13 rfl h4 ?_; refine Z0d ?_; refine Z04 (ll := [0]) rfl ?_; refine Z08 rfl rfl rfl rfl ?_; refine Z02 ?_; refine Z01 ?_; refine Z0m (Z00 (t := 4) rfl Z0b) ?_; refine T.ret ?_; refine Z0k ?_; refine Z0h ?_; refine Z0h ?_; refine Z0k ?_; refine Z0h ?_; obtain rfl := ret1 H; exact Z10 rfl rfl rfl rfl (Res.tmp rfl) Z0a ⟨rfl, rfl⟩
     ·
      refine Z14 rfl h4 ?_; refine T.skip ?_; refine Z0i ?_; refine Z01 ?_; refine Z04 (ll := [0, 1]) rfl ?_; refine Zan (r := 1) (by decide) rfl rfl rfl rfl rfl ?_; refine Z07 rfl rfl rfl rfl ?_; refine Z02 ?_; refine Zag ?_; refine Z71 ?_; refine Z0d ?_; refine Z04 (ll := [0]) rfl ?_; refine Z7d (b := true) rfl rfl rfl rfl rfl rfl (by first | decide | rfl) ?_; refine Z02 ?_; refine Z01 ?_; refine Z0d ?_; refine Z1u rfl rfl ?_; refine T.skip ?_; refine Z01 ?_; refine Z0m (Z00 (t := 5) rfl (Z00 (t := 7) rfl (Z00 (t := 58) rfl (Z00 (t := 59) rfl (Z00 (t := 60) rfl (Z00 (t := 73) rfl (Z00 (t := 74) rfl (Z00 (t := 75) rfl (Z00 (t := 76) rfl (Z00 (t := 77) rfl Z0b)))))))))) ?_; refine Z0d ?_; refine T.block ?_; refine Z0d ?_; refine Z04 (ll := [0, 1, 2, 3]) rfl ?_; refine Zli (xs := [(), (), ()]) (n := 3) rfl (Zo2 (k := 1) rfl) rfl rfl rfl rfl rfl Z4q Z1b ?_; refine Zd4 (vs := [.int .i64 a9.N, .int .i64 a9.S, .int .i64 a9.T, .slice (sb b0) d8 c91]) rfl rfl rfl rfl Z0w mm16 rfl rfl ?_; refine Z0s rfl rfl rfl Z28 ?_; intro v3; refine Z0o rfl rfl rfl rfl tk0 Z1b rfl rfl rfl ?_; refine Z02 ?_; refine Z01 ?_; refine Z0d ?_; obtain ⟨⟨v4, v5, v6⟩, l8, H⟩ := Z0l H; refine Z04 (ll := [0, 1, 2, 3, 4, 5, 6, 7, 8, 9, 10]) rfl ?_; refine Z0r rfl rfl rfl rfl Z0w mm0 rfl ?_; refine Z0p Z60 rfl rfl rfl rfl (fun wc hwc => Z65 (n0 := a9) wc (hwc.rs (f := Z3b) (s := 3) (xs := a9.Arcs) (j := i9) (fun _ => rfl) mm7 l4 l5 j0) l8) ?_; rintro _ _ ⟨o7, v7, v8, v9, o8, w0, w1, w2, rfl, rfl, o9, p2, p3, p4, p5, p6, p7, p8⟩; refine Z07 rfl rfl rfl rfl ?_; refine TO.extract rfl rfl rfl rfl rfl ?_; refine TO.extract rfl rfl rfl rfl rfl ?_; refine TO.extract rfl rfl rfl rfl rfl ?_; refine Z0s rfl rfl rfl Z5w ?_; intro w3; refine Z0s rfl rfl rfl Z5v ?_; intro w4; refine Z0o rfl rfl rfl rfl tk1 Z5y rfl rfl rfl ?_; refine Z0o rfl rfl rfl rfl tk1 Z5x rfl rfl rfl ?_; refine Z08 rfl rfl rfl rfl ?_; refine Z02 ?_; refine Z01 ?_; refine Z0m (Z00 (t := 5) rfl (Z00 (t := 7) rfl (Z00 (t := 58) rfl (Z00 (t := 59) rfl (Z00 (t := 60) rfl (Z00 (t := 73) rfl (Z00 (t := 74) rfl (Z00 (t := 75) rfl (Z00 (t := 76) rfl (Z00 (t := 77) rfl (Z00 (t := 14) rfl (Z00 (t := 16) rfl Z0b)))))))))))) ?_; refine Z0d ?_; rcases Z0j H with ⟨h5, H⟩ | ⟨h5, H⟩
      · refine Z04 (ll := [0, 1, 2, 3, 4, 5, 6, 7, 8]) rfl ?_; refine Z07 rfl rfl rfl rfl ?_; refine Z0u rfl rfl rfl rfl rfl rfl ?_; refine Z07 rfl rfl rfl rfl ?_; refine Z0x (t := 72) (b' := true) rfl (decide_eq_true h5) ?_; refine Z0g rfl rfl rfl rfl ?_; refine Z0g rfl rfl rfl rfl ?_; refine Z0g rfl rfl rfl rfl ?_; refine Z0g rfl rfl rfl rfl ?_; refine Z0g rfl rfl rfl rfl ?_; refine Z1n rfl rfl rfl rfl rfl ?_; refine Z02 ?_; refine Z01 ?_; refine Z1u rfl rfl ?_; refine Z0d ?_; refine Z04 (ll := [0]) rfl ?_; refine Z08 rfl rfl rfl rfl ?_; refine Z02 ?_; refine Z01 ?_; refine Z0m (Z00 (t := 4) rfl Z0b) ?_; refine T.ret ?_; refine Z0k ?_; refine Z0h ?_; refine Z0h ?_; refine Z0k ?_; refine Z0h ?_; obtain rfl := ret1 H; exact Z10 rfl rfl rfl rfl (Res.tmp rfl) Z0a ⟨rfl, rfl⟩
      ·
       refine Z04 (ll := [0, 1, 2, 3, 4, 5, 6, 7, 8]) rfl ?_; refine Z07 rfl rfl rfl rfl ?_; refine Z0u rfl rfl rfl rfl rfl rfl ?_; refine Z07 rfl rfl rfl rfl ?_; refine Z0x (t := 72) (b' := false) rfl (decide_eq_false h5) ?_; refine Z05 rfl rfl rfl rfl Z39 ?_; refine Z0c rfl rfl rfl rfl Z2q mm1 rfl ?_; refine Z05 rfl rfl rfl rfl Z39 ?_; refine Z0c rfl rfl rfl rfl Z2q mm15 rfl ?_; refine Z0u rfl rfl rfl rfl rfl rfl ?_; refine Z1k rfl rfl rfl rfl rfl ?_; refine Z02 ?_; refine Z01 ?_; rcases Z0j H with ⟨h6, H⟩ | ⟨h6, H⟩
       · refine Z13 rfl h6 ?_; refine Z0d ?_; refine Z04 (ll := [0]) rfl ?_; refine Z08 rfl rfl rfl rfl ?_; refine Z02 ?_; refine Z01 ?_; refine Z0m (Z00 (t := 4) rfl Z0b) ?_; refine T.ret ?_; refine Z0k ?_; refine Z0h ?_; refine Z0h ?_; refine Z0k ?_; refine Z0h ?_; obtain rfl := ret1 H; exact Z10 rfl rfl rfl rfl (Res.tmp rfl) Z0a ⟨rfl, rfl⟩
       ·
        refine Z14 rfl h6 ?_; refine T.skip ?_; refine Z0i ?_; refine Z01 ?_; refine Z04 (ll := [0, 1]) rfl ?_; refine Zan (r := 2) (by decide) rfl rfl rfl rfl rfl ?_; refine Z07 rfl rfl rfl rfl ?_; refine Z02 ?_; refine Zag ?_; refine Z71 ?_; refine Z0d ?_; refine Z04 (ll := [0]) rfl ?_; refine Z7d (b := true) rfl rfl rfl rfl rfl rfl (by first | decide | rfl) ?_; refine Z02 ?_; refine Z01 ?_; refine Z0d ?_; refine Z1u rfl rfl ?_; refine T.skip ?_; refine Z01 ?_; refine Z0m (Z00 (t := 5) rfl (Z00 (t := 7) rfl (Z00 (t := 58) rfl (Z00 (t := 59) rfl (Z00 (t := 60) rfl (Z00 (t := 73) rfl (Z00 (t := 74) rfl (Z00 (t := 75) rfl (Z00 (t := 76) rfl (Z00 (t := 77) rfl Z0b)))))))))) ?_; refine Z0d ?_; refine T.block ?_; refine Z0d ?_; refine Z04 (ll := [0, 1, 2, 3]) rfl ?_; refine Zli (xs := [(), (), ()]) (n := 3) rfl (Zo2 (k := 2) rfl) rfl rfl rfl rfl rfl Z4q Z1b ?_; refine Zd4 (vs := [.int .i64 a5.N, .int .i64 a5.S, .int .i64 a5.T, .slice (sb a6) b7 c113]) rfl rfl rfl rfl Z0w mm21 rfl rfl ?_; refine Z0s rfl rfl rfl Z28 ?_; intro w5; refine Z0o rfl rfl rfl rfl tk0 Z1b rfl rfl rfl ?_; refine Z02 ?_; refine Z01 ?_; refine Z0d ?_; obtain ⟨⟨w6, w7, w8⟩, l9, H⟩ := Z0l H; refine Z04 (ll := [0, 1, 2, 3, 4, 5, 6, 7, 8, 9, 10]) rfl ?_; refine Z0r rfl rfl rfl rfl Z0w mm0 rfl ?_; refine Z0p Z60 rfl rfl rfl rfl (fun wc hwc => Z65 (n0 := a5) wc (hwc.rs (f := Z3b) (s := 3) (xs := a5.Arcs) (j := c3) (fun _ => rfl) mm21 d0 d1 d2) l9) ?_; rintro _ _ ⟨p9, w9, x2, x3, q0, x4, x5, x6, rfl, rfl, q1, q2, q3, q4, q5, q6, q7, q8⟩; refine Z07 rfl rfl rfl rfl ?_; refine TO.extract rfl rfl rfl rfl rfl ?_; refine TO.extract rfl rfl rfl rfl rfl ?_; refine TO.extract rfl rfl rfl rfl rfl ?_; refine Z0s rfl rfl rfl Z5w ?_; intro x7; refine Z0s rfl rfl rfl Z5v ?_; intro x8; refine Z0o rfl rfl rfl rfl tk1 Z5y rfl rfl rfl ?_; refine Z0o rfl rfl rfl rfl tk1 Z5x rfl rfl rfl ?_; refine Z08 rfl rfl rfl rfl ?_; refine Z02 ?_; refine Z01 ?_; refine Z0m (Z00 (t := 5) rfl (Z00 (t := 7) rfl (Z00 (t := 58) rfl (Z00 (t := 59) rfl (Z00 (t := 60) rfl (Z00 (t := 73) rfl (Z00 (t := 74) rfl (Z00 (t := 75) rfl (Z00 (t := 76) rfl (Z00 (t := 77) rfl (Z00 (t := 14) rfl (Z00 (t := 16) rfl Z0b)))))))))))) ?_; refine Z0d ?_; rcases Z0j H with ⟨h7, H⟩ | ⟨h7, H⟩
        · refine Z04 (ll := [0, 1, 2, 3, 4, 5, 6, 7, 8]) rfl ?_; refine Z07 rfl rfl rfl rfl ?_; refine Z0u rfl rfl rfl rfl rfl rfl ?_; refine Z07 rfl rfl rfl rfl ?_; refine Z0x (t := 72) (b' := true) rfl (decide_eq_true h7) ?_; refine Z0g rfl rfl rfl rfl ?_; refine Z0g rfl rfl rfl rfl ?_; refine Z0g rfl rfl rfl rfl ?_; refine Z0g rfl rfl rfl rfl ?_; refine Z0g rfl rfl rfl rfl ?_; refine Z1n rfl rfl rfl rfl rfl ?_; refine Z02 ?_; refine Z01 ?_; refine Z1u rfl rfl ?_; refine Z0d ?_; refine Z04 (ll := [0]) rfl ?_; refine Z08 rfl rfl rfl rfl ?_; refine Z02 ?_; refine Z01 ?_; refine Z0m (Z00 (t := 4) rfl Z0b) ?_; refine T.ret ?_; refine Z0k ?_; refine Z0h ?_; refine Z0h ?_; refine Z0k ?_; refine Z0h ?_; obtain rfl := ret1 H; exact Z10 rfl rfl rfl rfl (Res.tmp rfl) Z0a ⟨rfl, rfl⟩
        ·
         refine Z04 (ll := [0, 1, 2, 3, 4, 5, 6, 7, 8]) rfl ?_; refine Z07 rfl rfl rfl rfl ?_; refine Z0u rfl rfl rfl rfl rfl rfl ?_; refine Z07 rfl rfl rfl rfl ?_; refine Z0x (t := 72) (b' := false) rfl (decide_eq_false h7) ?_; refine Z05 rfl rfl rfl rfl Z39 ?_; refine Z0c rfl rfl rfl rfl Z2q mm1 rfl ?_; refine Z05 rfl rfl rfl rfl Z39 ?_; refine Z0c rfl rfl rfl rfl Z2q mm20 rfl ?_; refine Z0u rfl rfl rfl rfl rfl rfl ?_; refine Z1k rfl rfl rfl rfl rfl ?_; refine Z02 ?_; refine Z01 ?_; rcases Z0j H with ⟨h8, H⟩ | ⟨h8, H⟩
         · refine Z13 rfl h8 ?_; refine Z0d ?_; refine Z04 (ll := [0]) rfl ?_; refine Z08 rfl rfl rfl rfl ?_; refine Z02 ?_; refine Z01 ?_; refine Z0m (Z00 (t := 4) rfl Z0b) ?_; refine T.ret ?_; refine Z0k ?_; refine Z0h ?_; refine Z0h ?_; refine Z0k ?_; refine Z0h ?_; obtain rfl := ret1 H; exact Z10 rfl rfl rfl rfl (Res.tmp rfl) Z0a ⟨rfl, rfl⟩
         · refine Z14 rfl h8 ?_; refine T.skip ?_; refine Z0i ?_; refine Z01 ?_; refine Z04 (ll := [0, 1]) rfl ?_; refine Zan (r := 3) (by decide) rfl rfl rfl rfl rfl ?_; refine Z07 rfl rfl rfl rfl ?_; refine Z02 ?_; refine Zag ?_; refine Z71 ?_; refine Z0d ?_; refine Z04 (ll := [0]) rfl ?_; refine Z7d (b := false) rfl rfl rfl rfl rfl rfl (by first | decide | rfl) ?_; refine Z02 ?_; refine Z01 ?_; refine Z0d ?_; refine Z2w rfl rfl ?_; refine T.exit ?_; refine Z0n ?_; refine Z0n ?_; refine Z11 ?_; exact Z2c () H (Z00 rfl Z0b) Z0a
   ·
    rintro h2 H; unfold Z2x at H; refine Z0d ?_; rcases Z0j H with ⟨h9, H⟩ | ⟨h9, H⟩
    · obtain ⟨x9, m0, H⟩ := Z0l H; refine Z04 (ll := [0, 1, 2, 3, 4, 5]) rfl ?_; refine Z07 rfl rfl rfl rfl ?_; refine Z0u rfl rfl rfl rfl rfl rfl ?_; refine Z07 rfl rfl rfl rfl ?_; refine Z0x (t := 82) (b' := true) rfl (decide_eq_true h9) ?_; refine Z0p Ze9 rfl rfl rfl rfl (fun wc hwc => Zbs  wc  m0) ?_; rintro _ _ ⟨rfl, rfl⟩; refine Z1n rfl rfl rfl rfl rfl ?_; refine Z08 rfl rfl rfl rfl ?_; refine Z02 ?_; refine Z01 ?_; refine T.ret ?_; obtain rfl := ret1 H; exact Z10 rfl rfl rfl rfl (Res.tmp rfl) Z0a ⟨rfl, rfl⟩
    · refine Z04 (ll := [0, 1, 2, 3, 4, 5]) rfl ?_; refine Z07 rfl rfl rfl rfl ?_; refine Z0u rfl rfl rfl rfl rfl rfl ?_; refine Z07 rfl rfl rfl rfl ?_; refine Z0x (t := 82) (b' := false) rfl (decide_eq_false h9) ?_; refine Z0g rfl rfl rfl rfl ?_; refine Z1k rfl rfl rfl rfl rfl ?_; refine Z08 rfl rfl rfl rfl ?_; refine Z02 ?_; refine Z01 ?_; refine T.ret ?_; obtain rfl := ret1 H; exact Z10 rfl rfl rfl rfl (Res.tmp rfl) Z0a ⟨rfl, rfl⟩
end Go.Proofs.Ytjeenmabclghoaa.Ax
namespace Go.Acq
open Go
def hit (a : Arc) (v : Nat) : Nat := if a.fr = a.to then 0 else if a.fr = v ∨ a.to = v then 1 else 0
def cnt (al : List Arc) (v : Nat) : Nat → Nat
  | 0 => 0
  | k + 1 => cnt al v k + hit (al.getD k default) v
def Z0t (al : List Arc) : Nat → Nat
  | 0 => 0
  | v + 1 => Z0t al v + cnt al v al.length
def vtx (a : Arc) (s : Bool) : Int := if s then a.to else a.fr
def pos (al : List Arc) (i : Nat) (s : Bool) : Nat := Z0t al (vtx (al.getD i default) s).toNat + cnt al (vtx (al.getD i default) s).toNat i
def Z5i (n : Nat) (al : List Arc) : Prop := ∀ i, i < al.length → ∀ s, 0 ≤ vtx (al.getD i default) s ∧ vtx (al.getD i default) s < n
theorem Zcm {α : Type} (xs : List α) (i j : Nat) (v d : α) : (xs.set i v).getD j d = if i = j ∧ i < xs.length then v else xs.getD j d := by
 rw [List.getD_eq_getElem?_getD, List.getD_eq_getElem?_getD, List.getElem?_set]
 split
 ·
  rename_i h; subst h
  split
  · rename_i h2; simp [h2]
  · rename_i h2; simp [h2]
 · rename_i h; simp [h]
theorem Z48 {α : Type} {xs : List α} {i j : Nat} {v d : α} (h : i ≠ j) : (xs.set i v).getD j d = xs.getD j d := by
 rw [Zcm, if_neg (fun e => h e.1)]
theorem Zc5 {α : Type} {xs : List α} {i : Nat} {v d : α} (h : i < xs.length) : (xs.set i v).getD i d = v := by
 rw [Zcm, if_pos ⟨rfl, h⟩]
theorem Z2b {α : Type} (n j : Nat) (v : α) : (List.replicate n v).getD j v = v := by
 rw [List.getD_eq_getElem?_getD, List.getElem?_replicate]; split <;> simp
theorem hit_le (a : Arc) (v : Nat) : hit a v ≤ 1 := by unfold hit; split; omega; split <;> omega
theorem cnt_mono {al : List Arc} {v i j : Nat} (h : i ≤ j) : cnt al v i ≤ cnt al v j := by
 induction h with
 | refl => exact Nat.le_refl _
 | step _ ih => exact Nat.le_trans ih (Nat.le_add_right _ _)
theorem Zl8 (al : List Arc) (v k : Nat) : cnt al v k ≤ k := by
 induction k with
 | zero => exact Nat.le_refl _
 | succ k ih => have := hit_le (al.getD k default) v; simp only [cnt]; omega
theorem Z3m {al : List Arc} {u v : Nat} (h : u ≤ v) : Z0t al u ≤ Z0t al v := by
 induction h with
 | refl => exact Nat.le_refl _
 | step _ ih => exact Nat.le_trans ih (Nat.le_add_right _ _)
theorem Zoc (al : List Arc) (v : Nat) : Z0t al v ≤ v * al.length := by
 induction v with
 | zero => exact Nat.zero_le _
 | succ v ih => have := Zl8 al v al.length; simp only [Z0t, Nat.succ_mul]; omega
theorem hit_vtx {a : Arc} {s : Bool} (h : a.fr ≠ a.to) (h0 : 0 ≤ vtx a s) : hit a (vtx a s).toNat = 1 := by
 unfold hit; rw [if_neg h, if_pos]
 cases s
 · left; simp only [vtx] at h0 ⊢; simp only [Bool.false_eq_true, if_false] at h0 ⊢; omega
 · right; simp only [vtx] at h0 ⊢; simp only [if_true] at h0 ⊢; omega
theorem Zds {al : List Arc} {i j : Nat} {s : Bool} (hij : i < j) (h : (al.getD i default).fr ≠ (al.getD i default).to) (h0 : 0 ≤ vtx (al.getD i default) s) :
    cnt al (vtx (al.getD i default) s).toNat i < cnt al (vtx (al.getD i default) s).toNat j := by
  have h1 := cnt_mono (al := al) (v := (vtx (al.getD i default) s).toNat) (i := i + 1) (j := j) hij
  have h2 := hit_vtx h h0
  simp only [cnt] at h1
  omega
theorem Zaz {al : List Arc} {n i : Nat} {s : Bool} (hi : i < al.length) (h : (al.getD i default).fr ≠ (al.getD i default).to) (he : Z5i n al) : pos al i s < Z0t al n := by
 have h1 := Zds (s := s) hi h (he i hi s).1
 have h2 := Z3m (al := al) (u := (vtx (al.getD i default) s).toNat + 1) (v := n) (by have := he i hi s; omega)
 simp only [Z0t] at h2
 unfold pos; omega
theorem Z9g {al : List Arc} {n i j : Nat} {s t : Bool} (he : Z5i n al) (hi : i < al.length) (hj : j < al.length) (h : (al.getD i default).fr ≠ (al.getD i default).to) (g : (al.getD j default).fr ≠ (al.getD j default).to)
    (e : pos al i s = pos al j t) : i = j ∧ s = t := by
  have hi1 := Zds (s := s) hi h (he i hi s).1
  have hj1 := Zds (s := t) hj g (he j hj t).1
  have hv : (vtx (al.getD i default) s).toNat = (vtx (al.getD j default) t).toNat := by
    rcases Nat.lt_trichotomy (vtx (al.getD i default) s).toNat (vtx (al.getD j default) t).toNat with h1 | h1 | h1
    · have := Z3m (al := al) (u := (vtx (al.getD i default) s).toNat + 1) h1
      simp only [Z0t] at this
      unfold pos at e; omega
    · exact h1
    · have := Z3m (al := al) (u := (vtx (al.getD j default) t).toNat + 1) h1
      simp only [Z0t] at this
      unfold pos at e; omega
  have hij : i = j := by
    rcases Nat.lt_trichotomy i j with h1 | h1 | h1
    · have h2 := Zds (s := s) h1 h (he i hi s).1
      unfold pos at e; rw [hv] at e h2; omega
    · exact h1
    · have h2 := Zds (s := t) h1 g (he j hj t).1
      unfold pos at e; rw [hv] at e; omega
  refine ⟨hij, ?_⟩
  subst hij
  have h1 := (he i hi s).1
  have h2 := (he i hi t).1
  cases s <;> cases t <;> first | rfl | (simp only [vtx, Bool.false_eq_true, if_false, if_true] at hv h1 h2; omega)
theorem Zl9 {al : List Arc} {v r : Nat} : ∀ {k : Nat}, r < cnt al v k → ∃ i, i < k ∧ cnt al v i = r ∧ hit (al.getD i default) v = 1
 | 0, h => by simp [cnt] at h
 | k + 1, h => by
  by_cases h1 : r < cnt al v k
  · obtain ⟨i, h2, h3⟩ := Zl9 h1; exact ⟨i, by omega, h3⟩
  ·
   have := hit_le (al.getD k default) v
   simp only [cnt] at h
   exact ⟨k, by omega, by omega, by omega⟩
theorem Zf4 {al : List Arc} {p : Nat} : ∀ {n : Nat}, p < Z0t al n → ∃ v, v < n ∧ Z0t al v ≤ p ∧ p < Z0t al (v + 1)
 | 0, h => by simp [Z0t] at h
 | n + 1, h => by
  by_cases h1 : p < Z0t al n
  · obtain ⟨v, h2, h3⟩ := Zf4 h1; exact ⟨v, by omega, h3⟩
  · exact ⟨n, by omega, by omega, h⟩
theorem pos_surj {al : List Arc} {n p : Nat} (h : p < Z0t al n) : ∃ i s, i < al.length ∧ (al.getD i default).fr ≠ (al.getD i default).to ∧ pos al i s = p ∧ 0 ≤ vtx (al.getD i default) s ∧ vtx (al.getD i default) s < n ∧
    Z0t al (vtx (al.getD i default) s).toNat ≤ p ∧ p < Z0t al ((vtx (al.getD i default) s).toNat + 1) := by
  obtain ⟨v, hv, h1, h2⟩ := Zf4 h
  simp only [Z0t] at h2
  obtain ⟨i, hi, h3, h4⟩ := Zl9 (al := al) (v := v) (r := p - Z0t al v) (k := al.length) (by omega)
  unfold hit at h4
  split at h4
  · omega
  · rename_i hne
    split at h4
    · rename_i ho
      rcases ho with ho | ho
      · refine ⟨i, false, hi, hne, ?_, ?_, ?_, ?_, ?_⟩ <;> simp only [pos, vtx, Bool.false_eq_true, if_false, ho, Int.toNat_natCast, Z0t] <;> omega
      · refine ⟨i, true, hi, hne, ?_, ?_, ?_, ?_, ?_⟩ <;> simp only [pos, vtx, if_true, ho, Int.toNat_natCast, Z0t] <;> omega
    · omega
def CsrAt (al : List Arc) (hs rs cs aa : List Int) (bs : List Bool) (k : Nat) : Prop :=
  ∀ i, i < k → (al.getD i default).fr ≠ (al.getD i default).to → ∀ s,
    hs.getD (pos al i s) 0 = vtx (al.getD i default) (!s) ∧ rs.getD (pos al i s) 0 = pos al i (!s) ∧ cs.getD (pos al i s) 0 = (if s then 0 else (al.getD i default).cap) ∧
    aa.getD (pos al i s) 0 = i ∧ bs.getD (pos al i s) false = s
structure CsrOK (al : List Arc) (n : Nat) (fs hs rs cs aa : List Int) (bs : List Bool) : Prop where
  lf : fs.length = n + 1
  lh : hs.length = Z0t al n
  lr : rs.length = Z0t al n
  lc : cs.length = Z0t al n
  la : aa.length = Z0t al n
  lb : bs.length = Z0t al n
  hf : ∀ v, v ≤ n → fs.getD v 0 = Z0t al v
  hat : CsrAt al hs rs cs aa bs al.length
theorem CsrAt.skip {al : List Arc} {hs rs cs aa : List Int} {bs : List Bool} {k : Nat} (h : CsrAt al hs rs cs aa bs k) (e : (al.getD k default).fr = (al.getD k default).to) : CsrAt al hs rs cs aa bs (k + 1) := by
 intro i hi hne s
 rcases Nat.lt_succ_iff_lt_or_eq.1 hi with h1 | h1
 · exact h i h1 hne s
 · subst h1; exact absurd e hne
theorem set2 {α : Type} {xs : List α} {p q j : Nat} {u v d : α} (hp : p < xs.length) (hq : q < xs.length) (hpq : p ≠ q) :
    ((xs.set p u).set q v).getD j d = if j = p then u else if j = q then v else xs.getD j d := by
  rw [Zcm, Zcm]
  by_cases h1 : j = p
  · subst h1; rw [if_pos rfl, if_neg (fun e => hpq e.1.symm), if_pos ⟨rfl, hp⟩]
  · rw [if_neg h1]
    by_cases h2 : j = q
    · subst h2; rw [if_pos rfl, if_pos ⟨rfl, by simpa using hq⟩]
    · rw [if_neg h2, if_neg (fun e => h2 e.1.symm), if_neg (fun e => h1 e.1.symm)]
theorem CsrAt.put {al : List Arc} {n : Nat} {hs rs cs aa : List Int} {bs : List Bool} {k : Nat} (h : CsrAt al hs rs cs aa bs k) (he : Z5i n al) (hk : k < al.length) (hne : (al.getD k default).fr ≠ (al.getD k default).to)
    (lh : hs.length = Z0t al n) (lr : rs.length = Z0t al n) (lc : cs.length = Z0t al n) (la : aa.length = Z0t al n) (lb : bs.length = Z0t al n) :
    CsrAt al ((hs.set (pos al k false) (al.getD k default).to).set (pos al k true) (al.getD k default).fr) ((rs.set (pos al k false) (pos al k true)).set (pos al k true) (pos al k false))
      ((cs.set (pos al k false) (al.getD k default).cap).set (pos al k true) 0) ((aa.set (pos al k false) k).set (pos al k true) k) ((bs.set (pos al k false) false).set (pos al k true) true) (k + 1) := by
  have hp : pos al k false < Z0t al n := Zaz hk hne he
  have hq : pos al k true < Z0t al n := Zaz hk hne he
  have hpq : pos al k false ≠ pos al k true := fun e => by have := (Z9g he hk hk hne hne e).2; cases this
  intro i hi hni s
  have hil : i < al.length := by omega
  rw [set2 (by omega) (by omega) hpq, set2 (by omega) (by omega) hpq, set2 (by omega) (by omega) hpq, set2 (by omega) (by omega) hpq, set2 (by omega) (by omega) hpq]
  by_cases hik : i = k
  · subst hik
    cases s
    · simp [vtx]
    · simp [vtx, hpq.symm]
  · have h1 : pos al i s ≠ pos al k false := fun e => hik (Z9g he hil hk hni hne e).1
    have h2 : pos al i s ≠ pos al k true := fun e => hik (Z9g he hil hk hni hne e).1
    simp only [if_neg h1, if_neg h2]
    exact h i (by omega) hni s
def Counted (al : List Arc) (m k : Nat) (fs : List Int) : Prop := fs.length = m + 1 ∧ fs.getD 0 0 = 0 ∧ ∀ v : Int, 0 ≤ v → v < m → fs.getD (v + 1).toNat 0 = cnt al v.toNat k
def Summed (al : List Arc) (m k : Nat) (fs : List Int) : Prop := fs.length = m + 1 ∧ (∀ u, u ≤ k → fs.getD u 0 = Z0t al u) ∧ ∀ u, k ≤ u → u < m → fs.getD (u + 1) 0 = cnt al u al.length
theorem Z56 {al : List Arc} {v : Nat} (hv : v ≤ 4096) (hl : al.length ≤ 16384) : Z0t al v ≤ 67108864 :=
 Nat.le_trans (Zoc al v) (Nat.mul_le_mul hv hl)
theorem Counted.start (al : List Arc) (m : Nat) {p : Nat} (h : p = m + 1) : Counted al m 0 (List.replicate p 0) :=
 ⟨by simp [h], Z2b _ _ _, fun v _ _ => by rw [Z2b]; rfl⟩
theorem Counted.skip {al : List Arc} {m k : Nat} {fs : List Int} (h : Counted al m k fs) (e : (al.getD k default).fr = (al.getD k default).to) : Counted al m (k + 1) fs :=
 ⟨h.1, h.2.1, fun v h0 h1 => by rw [h.2.2 v h0 h1]; simp only [cnt, hit, if_pos e, Nat.add_zero]⟩
theorem Counted.put {al : List Arc} {m k : Nat} {fs : List Int} (h : Counted al m k fs) (he : Z5i m al) (hk : k < al.length) (hne : (al.getD k default).fr ≠ (al.getD k default).to) :
    Counted al m (k + 1) ((fs.set ((al.getD k default).fr + 1).toNat (fs.getD ((al.getD k default).fr + 1).toNat 0 + 1)).set ((al.getD k default).to + 1).toNat
      ((fs.set ((al.getD k default).fr + 1).toNat (fs.getD ((al.getD k default).fr + 1).toNat 0 + 1)).getD ((al.getD k default).to + 1).toNat 0 + 1)) := by
  have e0 := he k hk false
  have e1 := he k hk true
  simp only [vtx, Bool.false_eq_true, if_false, if_true] at e0 e1
  obtain ⟨hl, hz, hv⟩ := h
  refine ⟨by simpa using hl, ?_, ?_⟩
  · rw [Z48 (by omega), Z48 (by omega)]; exact hz
  · intro v h0 h1
    have hvv := hv v h0 h1
    rw [Z48 (i := ((al.getD k default).fr + 1).toNat) (j := ((al.getD k default).to + 1).toNat) (by omega), set2 (by omega) (by omega) (by omega)]
    simp only [cnt, hit, if_neg hne]
    by_cases a1 : v = (al.getD k default).fr
    · rw [if_pos (by omega), if_pos (by omega), ← a1, hvv]; omega
    · rw [if_neg (by omega)]
      by_cases a2 : v = (al.getD k default).to
      · rw [if_pos (by omega), if_pos (by omega), ← a2, hvv]; omega
      · rw [if_neg (by omega), if_neg (by omega), hvv]; omega
theorem Counted.summed {al : List Arc} {m : Nat} {fs : List Int} (h : Counted al m al.length fs) : Summed al m 0 fs :=
 ⟨h.1, fun u hu => by rw [Nat.le_zero.1 hu]; exact h.2.1, fun u _ hu => by have := h.2.2 u (by omega) (by omega); rw [show ((u : Int) + 1).toNat = u + 1 by omega] at this; simpa using this⟩
theorem Summed.put {al : List Arc} {m k : Nat} {fs : List Int} (h : Summed al m k fs) (hk : k < m) {i : Nat} (hi : i = k + 1) : Summed al m (k + 1) (fs.set i (fs.getD i 0 + fs.getD k 0)) := by
 subst hi
 obtain ⟨hl, h1, h2⟩ := h
 refine ⟨by simpa using hl, fun u hu => ?_, fun u h3 h4 => ?_⟩
 ·
  by_cases e : u = k + 1
  · subst e; rw [Zc5 (by omega), h1 k (Nat.le_refl _), h2 k (Nat.le_refl _) hk]; simp [Z0t]; omega
  · rw [Z48 (by omega)]; exact h1 u (by omega)
 · rw [Z48 (by omega)]; exact h2 u (by omega) h4
theorem Z31 {N S T : Int} {al : List Arc} (h : Z38 N S T al = 0) : (2 ≤ N ∧ N ≤ 4096) ∧ (al.length : Int) ≤ 16384 ∧ (Z3f N S = true ∧ Z3f N T = true ∧ S ≠ T) ∧ al.all (Z73 N) = true ∧ al.all Zm2 = true ∧ (Zem 4611686018427387904 al).isSome = true := by
 unfold Z38 at h
 split at h
 · omega
 ·
  rename_i h1
  split at h
  · omega
  ·
   rename_i h2
   split at h
   · omega
   ·
    rename_i h3
    split at h
    · omega
    ·
     rename_i h4
     split at h
     · omega
     ·
      rename_i h5
      split at h
      · omega
      ·
       rename_i h6
       refine ⟨Classical.not_not.1 h1, Classical.not_not.1 h2, Classical.not_not.1 h3, by simpa using h4, by simpa using h5, ?_⟩
       cases e : Zem 4611686018427387904 al <;> simp_all
theorem Zcr {m : Nat} {al : List Arc} (h : al.all (Z73 (m : Int)) = true) : Z5i m al := by
 intro i hi s
 have h1 := List.all_eq_true.1 h _ (Z6q hi default)
 simp only [Z73, Z3f, Bool.and_eq_true, decide_eq_true_eq] at h1
 cases s
 · simp only [vtx, Bool.false_eq_true, if_false]; exact h1.1
 · simp only [vtx, if_true]; exact h1.2
def MakeAt (al : List Arc) (m k : Nat) (nx hs rs cs aa : List Int) (bs : List Bool) : Prop :=
  (nx.length = m + 1 ∧ hs.length = Z0t al m ∧ rs.length = Z0t al m ∧ cs.length = Z0t al m ∧ aa.length = Z0t al m ∧ bs.length = Z0t al m) ∧
  CsrAt al hs rs cs aa bs k ∧ ∀ v : Int, 0 ≤ v → v < m → nx.getD v.toNat 0 = Z0t al v.toNat + cnt al v.toNat k
theorem MakeAt.start {al : List Arc} {m : Nat} {fs : List Int} (hl : fs.length = m + 1) (hf : ∀ u, u ≤ m → fs.getD u 0 = Z0t al u) :
    MakeAt al m 0 fs (List.replicate (Z0t al m) 0) (List.replicate (Z0t al m) 0) (List.replicate (Z0t al m) 0) (List.replicate (Z0t al m) 0) (List.replicate (Z0t al m) false) := by
  refine ⟨⟨hl, by simp, by simp, by simp, by simp, by simp⟩, fun i hi => by omega, fun v h0 h1 => ?_⟩
  rw [hf _ (by omega)]; simp [cnt]
theorem MakeAt.skip {al : List Arc} {m k : Nat} {nx hs rs cs aa : List Int} {bs : List Bool} (h : MakeAt al m k nx hs rs cs aa bs) (e : (al.getD k default).fr = (al.getD k default).to) : MakeAt al m (k + 1) nx hs rs cs aa bs :=
 ⟨h.1, h.2.1.skip e, fun v h0 h1 => by rw [h.2.2 v h0 h1]; simp only [cnt, hit, if_pos e, Nat.add_zero]⟩
theorem MakeAt.at {al : List Arc} {m k : Nat} {nx hs rs cs aa : List Int} {bs : List Bool} (h : MakeAt al m k nx hs rs cs aa bs) (he : Z5i m al) (hk : k < al.length) (s : Bool) : nx.getD (vtx (al.getD k default) s).toNat 0 = (pos al k s : Nat) := by
 rw [h.2.2 _ (he k hk s).1 (he k hk s).2]; simp only [pos]; omega
theorem MakeAt.put {al : List Arc} {m k : Nat} {nx hs rs cs aa : List Int} {bs : List Bool} (h : MakeAt al m k nx hs rs cs aa bs) (he : Z5i m al) (hk : k < al.length) (hne : (al.getD k default).fr ≠ (al.getD k default).to) :
    MakeAt al m (k + 1) ((nx.set (al.getD k default).fr.toNat ((pos al k false : Nat) + 1)).set (al.getD k default).to.toNat ((pos al k true : Nat) + 1))
      ((hs.set (pos al k false) (al.getD k default).to).set (pos al k true) (al.getD k default).fr) ((rs.set (pos al k false) (pos al k true)).set (pos al k true) (pos al k false))
      ((cs.set (pos al k false) (al.getD k default).cap).set (pos al k true) 0) ((aa.set (pos al k false) k).set (pos al k true) k) ((bs.set (pos al k false) false).set (pos al k true) true) := by
  have g0 := h.at he hk false
  have g1 := h.at he hk true
  obtain ⟨⟨l0, l1, l2, l3, l4, l5⟩, hA, hv⟩ := h
  have e0 := he k hk false
  have e1 := he k hk true
  simp only [vtx, Bool.false_eq_true, if_false, if_true] at e0 e1 g0 g1
  refine ⟨⟨by simpa using l0, by simpa using l1, by simpa using l2, by simpa using l3, by simpa using l4, by simpa using l5⟩, hA.put he hk hne l1 l2 l3 l4 l5, fun v h0 h1 => ?_⟩
  have hvv := hv v h0 h1
  rw [set2 (by omega) (by omega) (by omega)]
  simp only [cnt, hit, if_neg hne]
  by_cases a1 : v = (al.getD k default).fr
  · rw [if_pos (by omega), if_pos (by omega), ← g0, ← a1, hvv]; omega
  · rw [if_neg (by omega)]
    by_cases a2 : v = (al.getD k default).to
    · rw [if_pos (by omega), if_pos (by omega), ← g1, ← a2, hvv]; omega
    · rw [if_neg (by omega), if_neg (by omega), hvv]; omega
theorem MakeAt.done {al : List Arc} {m : Nat} {fs nx hs rs cs aa : List Int} {bs : List Bool} (h : MakeAt al m al.length nx hs rs cs aa bs) (hl : fs.length = m + 1) (hf : ∀ u, u ≤ m → fs.getD u 0 = Z0t al u) : CsrOK al m fs hs rs cs aa bs :=
 ⟨hl, h.1.2.1, h.1.2.2.1, h.1.2.2.2.1, h.1.2.2.2.2.1, h.1.2.2.2.2.2, hf, h.2.1⟩
end Go.Acq
namespace Go.Acq
open Go
theorem next_ne {S m : Int} (h0 : 0 ≤ S) (h1 : S < m) (h2 : 2 ≤ m) : 0 ≤ (S + 1).tmod m ∧ (S + 1).tmod m < m ∧ (S + 1).tmod m ≠ S := by
 rw [Int.tmod_eq_emod_of_nonneg (by omega)]
 refine ⟨Int.emod_nonneg _ (by omega), Int.emod_lt_of_pos _ (by omega), ?_⟩
 by_cases h : S + 1 < m
 · rw [Int.emod_eq_of_lt (by omega) h]; omega
 · rw [show S + 1 = m by omega, Int.emod_self]; omega
theorem Zlu {x n : Int} (h : 0 ≤ x) (hn : 0 < n) : 0 ≤ x.tmod n ∧ x.tmod n < n := by
 rw [Int.tmod_eq_emod_of_nonneg h]
 exact ⟨Int.emod_nonneg _ (by omega), Int.emod_lt_of_pos _ hn⟩
def SomeAt (m : Nat) (ol : List Arc) : Prop := ∀ a, a ∈ ol → Z73 m a = true ∧ 0 ≤ a.cap ∧ a.cap < 1125899906842624
theorem SomeAt.put {m : Nat} {ol : List Arc} {a : Arc} (h : SomeAt m ol) (h1 : 0 ≤ a.fr ∧ a.fr < m) (h2 : 0 ≤ a.to ∧ a.to < m) (h3 : 0 ≤ a.cap ∧ a.cap < 1125899906842624) : SomeAt m (ol ++ [a]) := by
 intro b hb
 rcases List.mem_append.1 hb with hb | hb
 · exact h b hb
 ·
  simp only [List.mem_singleton] at hb
  subst hb
  exact ⟨by simp [Z73, Z3f, h1, h2], h3⟩
theorem Znn {m : Nat} {ol : List Arc} {left : Int} (h : SomeAt m ol) (hl : (ol.length : Int) * 1125899906842624 ≤ left) : (Zem left ol).isSome = true := by
 induction ol generalizing left with
 | nil => simp [Zem]
 | cons a ol ih =>
  have ha := (h a (.head _)).2
  simp only [List.length_cons] at hl
  have h2 : (0 : Int) ≤ (ol.length : Int) * 1125899906842624 := by omega
  simp only [Zem]
  rw [if_neg (by omega)]
  exact ih (fun b hb => h b (.tail _ hb)) (by omega)
theorem Zgo {m : Nat} {S T : Int} {ol : List Arc} (hm : 2 ≤ m) (hm2 : m ≤ 4096) (hS : 0 ≤ S ∧ S < m) (hT : 0 ≤ T ∧ T < m) (hST : T ≠ S) (h : SomeAt m ol) (hl : ol.length ≤ 4096) : Z38 m S T ol = 0 := by
 have h1 : ol.all (Z73 m) = true := List.all_eq_true.2 fun a ha => (h a ha).1
 have h2 : ol.all Zm2 = true := List.all_eq_true.2 fun a ha => by simp [Zm2, (h a ha).2.1]
 have h3 : (Zem 4611686018427387904 ol).isSome = true := Znn h (by omega)
 unfold Z38
 rw [if_neg (by omega), if_neg (by omega), if_neg (by simp [Z3f, hS, hT, Ne.symm hST]), if_neg (by simp [h1]), if_neg (by simp [h2]), if_neg (by
  cases e : Zem 4611686018427387904 ol with
  | none => rw [e] at h3; cases h3
  | some x => simp)]
def WithinAt (al : List Arc) (n k : Nat) (fl : List Int) : Prop := fl.length = n ∧
  (∀ i, i < k → 0 ≤ fl.getD i 0 ∧ fl.getD i 0 ≤ (al.getD i default).cap ∧ ((al.getD i default).fr = (al.getD i default).to → fl.getD i 0 = 0)) ∧ ∀ i, k ≤ i → fl.getD i 0 = 0
theorem WithinAt.start (al : List Arc) (n : Nat) : WithinAt al n 0 (List.replicate n 0) := ⟨by simp, fun i h => by omega, fun i _ => Z2b _ _ _⟩
theorem WithinAt.skip {al : List Arc} {n k : Nat} {fl : List Int} (h : WithinAt al n k fl) (hc : 0 ≤ (al.getD k default).cap) : WithinAt al n (k + 1) fl := by
 refine ⟨h.1, fun i hi => ?_, fun i hi => h.2.2 i (by omega)⟩
 rcases Nat.lt_succ_iff_lt_or_eq.1 hi with h1 | h1
 · exact h.2.1 i h1
 · subst h1; have := h.2.2 i (Nat.le_refl _); rw [this]; exact ⟨Int.le_refl _, hc, fun _ => rfl⟩
theorem WithinAt.put {al : List Arc} {n k : Nat} {fl : List Int} {v : Int} (h : WithinAt al n k fl) (hk : k < n) (h0 : 0 ≤ v) (h1 : v ≤ (al.getD k default).cap) (hne : (al.getD k default).fr ≠ (al.getD k default).to) : WithinAt al n (k + 1) (fl.set k v) := by
 refine ⟨by simpa using h.1, fun i hi => ?_, fun i hi => by rw [Z48 (by omega)]; exact h.2.2 i (by omega)⟩
 by_cases e : i = k
 · subst e; rw [Zc5 (by rw [h.1]; exact hk)]; exact ⟨h0, h1, fun e => absurd e hne⟩
 · rw [Z48 (by omega)]; exact h.2.1 i (by omega)
def Zk3 (aa cs : List Int) (bs : List Bool) (fl : List Int) (j : Nat) : Prop := aa.getD j 0 < fl.length ∧ (bs.getD j false = true ∨ (0 ≤ fl.getD (aa.getD j 0).toNat 0 ∧ fl.getD (aa.getD j 0).toNat 0 ≤ cs.getD j 0))
def resV (aa cs : List Int) (bs : List Bool) (fl : List Int) (j : Nat) : Int := if bs.getD j false = true then fl.getD (aa.getD j 0).toNat 0 else cs.getD j 0 - fl.getD (aa.getD j 0).toNat 0
def ResAt (aa cs : List Int) (bs : List Bool) (fl : List Int) (L k : Nat) (rl : List Int) : Prop := rl.length = L ∧ ∀ j, j < k → Zk3 aa cs bs fl j ∧ rl.getD j 0 = resV aa cs bs fl j
theorem ResAt.put {aa cs : List Int} {bs : List Bool} {fl : List Int} {L k : Nat} {rl : List Int} {v : Int} (h : ResAt aa cs bs fl L k rl) (hk : k < L) (h1 : Zk3 aa cs bs fl k) (h2 : v = resV aa cs bs fl k) : ResAt aa cs bs fl L (k + 1) (rl.set k v) := by
 refine ⟨by simpa using h.1, fun j hj => ?_⟩
 by_cases e : j = k
 · subst e; rw [Zc5 (by rw [h.1]; exact hk)]; exact ⟨h1, h2⟩
 · rw [Z48 (by omega)]; exact h.2 j (by omega)
end Go.Acq
namespace Go.Acq
open Go
def turn (a : Arc) : Arc := ⟨a.to, a.fr, a.cap⟩
theorem Zii (al : List Arc) (i : Nat) : (al.map turn).getD i default = turn (al.getD i default) := by
 rw [List.getD_eq_getElem?_getD, List.getD_eq_getElem?_getD, List.getElem?_map]
 cases al[i]? <;> rfl
theorem SomeAt.turn {m : Nat} {ol : List Arc} (h : SomeAt m ol) : SomeAt m (ol.map turn) := by
 intro a ha
 obtain ⟨b, hb, rfl⟩ := List.mem_map.1 ha
 obtain ⟨h1, h2⟩ := h b hb
 simp only [Z73, Bool.and_eq_true] at h1
 exact ⟨by simp only [Z73, Acq.turn, Bool.and_eq_true]; exact ⟨h1.2, h1.1⟩, h2⟩
theorem Zlt {m : Nat} {S T : Int} {ol : List Arc} (h : Z38 m S T ol = 0) (hs : SomeAt m ol) (hl : ol.length ≤ 4096) : Z38 m T S (ol.map turn) = 0 := by
 obtain ⟨⟨h1, h2⟩, _, ⟨h3, h4, h5⟩, _⟩ := Z31 h
 simp only [Z3f, decide_eq_true_eq] at h3 h4
 exact Zgo (by omega) (by omega) h4 h3 h5 hs.turn (by simpa using hl)
theorem WithinAt.turn {al : List Arc} {n k : Nat} {fl : List Int} (h : WithinAt al n k fl) : WithinAt (al.map turn) n k fl :=
 ⟨h.1, fun i hi => by rw [Zii]; exact ⟨(h.2.1 i hi).1, (h.2.1 i hi).2.1, fun e => (h.2.1 i hi).2.2 e.symm⟩, h.2.2⟩
theorem CsrOK.place {al : List Arc} {m : Nat} {fs hs rs cs aa : List Int} {bs : List Bool} (h : CsrOK al m fs hs rs cs aa bs) {j : Nat} (hj : j < Z0t al m) :
    ∃ i s, i < al.length ∧ (al.getD i default).fr ≠ (al.getD i default).to ∧ pos al i s = j ∧ hs.getD j 0 = vtx (al.getD i default) (!s) ∧ rs.getD j 0 = pos al i (!s) ∧ cs.getD j 0 = (if s then 0 else (al.getD i default).cap) ∧ aa.getD j 0 = i ∧ bs.getD j false = s := by
  obtain ⟨i, s, hi, hne, hp, _⟩ := pos_surj hj
  have := h.hat i hi hne s
  rw [hp] at this
  exact ⟨i, s, hi, hne, hp, this⟩
theorem CsrOK.aa0 {al : List Arc} {m : Nat} {fs hs rs cs aa : List Int} {bs : List Bool} (h : CsrOK al m fs hs rs cs aa bs) : ∀ j, j < Z0t al m → 0 ≤ aa.getD j 0 := by
 intro j hj
 obtain ⟨i, s, _, _, _, _, _, _, h4, _⟩ := h.place hj
 omega
end Go.Acq
namespace Go.Acq
open Go
theorem Zgi {α : Type} {m : Option α} {v : α} (h : Ok m (fun a => a = v)) : m = some v := by obtain ⟨a, h1, h2⟩ := h; rw [h1, h2]
theorem Z8q {α : Type} {m : Option α} {v : α} {Q : α → Prop} (h : m = some v) (q : Q v) : Ok m Q := ⟨v, h, q⟩
abbrev lenok (n : Nat) : Prop := n ≤ 9223372036854775807
theorem Zep {x n : Int} (h1 : n ≤ 4611686018427387904) : Z20 x n = some (Zf5 x n) := by
 unfold Z20 Zf5
 by_cases h : n < 1
 · rw [if_pos h, if_pos h]
 ·
  have a1 := Int.tmod_lt_of_pos x (show 0 < n by omega)
  have a2 := Zew x (show 0 < n by omega)
  rw [if_neg h, if_neg h, Z81 (by omega), Z81 (by constructor <;> omega), Z81 (by omega)]
theorem Zee (n : Net) (v : Int) : Z4e n v = some (Z3f n.N v) := by
 unfold Z4e Z3f
 by_cases h : 0 ≤ v <;> simp [h]
theorem s_rules4 (n : Net) (a : Arc) : Z6e n a = some (Z73 n.N a) := by
 unfold Z6e Z73
 rw [Zee, Zee]
 simp only [Option.bind_some]
 cases Z3f n.N a.fr <;> simp
theorem s_of4 (n : Net) (h : lenok n.Arcs.length) : Z3r n = some (n.Arcs.all (Z73 n.N)) := by
 refine Zgi ?_
 unfold Z3r Z1j Z1r
 refine Ok.bind.2 (Ok.bind.2 (Ok.bind.2 (Zic (fun x => 0 ≤ x ∧ x ≤ n.Arcs.length ∧ ∀ i, i < x.toNat → Z73 n.N (n.Arcs.getD i default) = true) (fun x => (n.Arcs.length - x).toNat) ⟨by omega, by omega, fun i hi => by omega⟩ (by unfold Z4t; omega) ?_)))
 rintro x ⟨h0, h1, h2⟩
 unfold Z19 Z42
 refine Ok.ite.2 ⟨fun hx => ?_, fun hx => ?_⟩
 ·
  refine Ok.gd.2 ⟨(by omega), Ok.bind.2 (Ok.bind.2 (Z8q (s_rules4 _ _) (Ok.some.2 (Ok.ite.2 ⟨fun hb => ?_, fun hb => ?_⟩))))⟩
  ·
   refine Ok.some.2 (Ok.some.2 (Ok.some.2 (Ok.some.2 ?_)))
   simp only [h0, decide_true, Bool.not_true]
   refine Eq.symm (Bool.eq_false_iff.2 fun hall => ?_)
   have := List.all_eq_true.1 hall _ (Z6q (show x.toNat < n.Arcs.length by omega) default)
   rw [this] at hb; cases hb
  ·
   refine Ok.gd.2 ⟨(by omega), Ok.some.2 ⟨⟨by omega, by omega, fun i hi => ?_⟩, by omega⟩⟩
   rcases Nat.lt_or_ge i x.toNat with h3 | h3
   · exact h2 i h3
   · rw [show i = x.toNat by omega]; simpa using hb
 ·
  refine Ok.some.2 (Ok.some.2 (Ok.some.2 (Ok.some.2 ?_)))
  refine Eq.symm (List.all_eq_true.2 fun a ha => ?_)
  obtain ⟨i, hi, rfl⟩ := List.getElem_of_mem ha
  have := h2 i (by omega)
  rwa [List.getD_eq_getElem?_getD, List.getElem?_eq_getElem hi] at this
theorem s_of5 (n : Net) (h : lenok n.Arcs.length) : Z3q n = some (n.Arcs.all Zm2) := by
 refine Zgi ?_
 unfold Z3q Z1i Z1q
 refine Ok.bind.2 (Ok.bind.2 (Ok.bind.2 (Zic (fun x => 0 ≤ x ∧ x ≤ n.Arcs.length ∧ ∀ i, i < x.toNat → Zm2 (n.Arcs.getD i default) = true) (fun x => (n.Arcs.length - x).toNat) ⟨by omega, by omega, fun i hi => by omega⟩ (by unfold Z4t; omega) ?_)))
 rintro x ⟨h0, h1, h2⟩
 unfold Z18 Z41 Z84
 refine Ok.ite.2 ⟨fun hx => ?_, fun hx => ?_⟩
 ·
  refine Ok.gd.2 ⟨(by omega), Ok.bind.2 (Ok.bind.2 (Ok.some.2 (Ok.some.2 (Ok.ite.2 ⟨fun hb => ?_, fun hb => ?_⟩))))⟩
  ·
   refine Ok.some.2 (Ok.some.2 (Ok.some.2 (Ok.some.2 ?_)))
   simp only [h0, decide_true, Bool.not_true]
   refine Eq.symm (Bool.eq_false_iff.2 fun hall => ?_)
   have := List.all_eq_true.1 hall _ (Z6q (show x.toNat < n.Arcs.length by omega) default)
   simp only [Zm2] at this
   rw [this] at hb; cases hb
  ·
   refine Ok.gd.2 ⟨(by omega), Ok.some.2 ⟨⟨by omega, by omega, fun i hi => ?_⟩, by omega⟩⟩
   rcases Nat.lt_or_ge i x.toNat with h3 | h3
   · exact h2 i h3
   · rw [show i = x.toNat by omega]; simpa [Zm2] using hb
 ·
  refine Ok.some.2 (Ok.some.2 (Ok.some.2 (Ok.some.2 ?_)))
  refine Eq.symm (List.all_eq_true.2 fun a ha => ?_)
  obtain ⟨i, hi, rfl⟩ := List.getElem_of_mem ha
  have := h2 i (by omega)
  rwa [List.getD_eq_getElem?_getD, List.getElem?_eq_getElem hi] at this
theorem s_Sum (n : Net) (h : lenok n.Arcs.length) : Zb1 n = some (match Zem 4611686018427387904 n.Arcs with | some l => (4611686018427387904 - l, true) | none => (0, false)) := by
 refine Zgi ?_
 unfold Zb1
 refine Ok.bind.2 (Zic (fun s => 0 ≤ s.2 ∧ s.2 ≤ n.Arcs.length ∧ 0 ≤ s.1 ∧ s.1 ≤ 4611686018427387904 ∧ Zem 4611686018427387904 n.Arcs = Zem s.1 (n.Arcs.drop s.2.toNat)) (fun s => (n.Arcs.length - s.2).toNat) ⟨by simp, by simp, by simp, by simp, by simp⟩ (by unfold Z4t; simp; omega) ?_)
 rintro ⟨left, x⟩ ⟨h0, h1, h2, h3, h4⟩
 simp only at h0 h1 h2 h3 h4 ⊢
 unfold Z7k Z7l
 refine Ok.ite.2 ⟨fun hx => ?_, fun hx => ?_⟩
 ·
  rw [Zin (by omega)] at h4
  refine Ok.gd.2 ⟨(by omega), Ok.ite.2 ⟨fun hb => ?_, fun hb => ?_⟩⟩
  ·
   rw [if_pos rfl]
   refine Ok.some.2 (Ok.some.2 ?_)
   rw [h4, if_pos (.inl hb)]
  ·
   by_cases hc : left < (n.Arcs.getD x.toNat default).cap
   ·
    rw [if_pos (decide_eq_true hc)]
    refine Ok.some.2 (Ok.some.2 ?_)
    rw [h4, if_pos (.inr hc)]
   ·
    rw [if_neg (by simpa using hc)]
    refine Ok.gd.2 ⟨(by omega), Ok.gd.2 ⟨(by omega), Ok.some.2 ⟨⟨by simp only; omega, by simp only; omega, by simp only; omega, by simp only; omega, ?_⟩, by simp only; omega⟩⟩⟩
    rw [h4, if_neg (by omega)]
    simp only
    rw [show (x + 1).toNat = x.toNat + 1 by omega]
 ·
  unfold Z96
  refine Ok.some.2 (Ok.gd.2 ⟨(by omega), Ok.some.2 ?_⟩)
  rw [h4, List.drop_eq_nil_of_le (by omega)]
  rfl
theorem Zk1 (n : Net) (h : lenok n.Arcs.length) : Z61 n = some (Z38 n.N n.S n.T n.Arcs) := by
 unfold Z61 Za9 Z5q Z5p Z87 Z86 Z85 Z83 Z7f
 rw [Zee, Zee, s_of4 n h, s_of5 n h, s_Sum n h]
 unfold Z38
 simp only [Option.bind_some]
 by_cases h1 : 2 ≤ n.N ∧ n.N ≤ 4096
 ·
  rw [if_pos h1.1, if_neg (not_not_intro h1)]
  simp only [Option.bind_some, decide_eq_true h1.2, Bool.not_true, Bool.false_eq_true, if_false]
  by_cases h2 : (n.Arcs.length : Int) ≤ 16384
  ·
   rw [if_neg (by simp [h2]), if_neg (not_not_intro h2)]
   by_cases h3 : Z3f n.N n.S = true ∧ Z3f n.N n.T = true ∧ n.S ≠ n.T
   ·
    rw [if_pos h3.1, if_pos h3.2.1, if_neg (not_not_intro h3)]
    simp only [Option.bind_some, decide_eq_true h3.2.2, Bool.not_true, Bool.false_eq_true, if_false]
    cases h4 : n.Arcs.all (Z73 n.N)
    · simp
    ·
     cases h5 : n.Arcs.all Zm2
     · simp
     · cases h6 : Zem 4611686018427387904 n.Arcs <;> simp
   ·
    rw [if_pos h3]
    by_cases a1 : Z3f n.N n.S = true
    ·
     by_cases a2 : Z3f n.N n.T = true
     ·
      have a3 : ¬ n.S ≠ n.T := fun e => h3 ⟨a1, a2, e⟩
      simp [a1, a2, a3]
     · simp [a1, a2]
    · simp [a1]
  · rw [if_pos (by simp [h2]), if_pos h2]
 ·
  rw [if_pos h1]
  by_cases a1 : 2 ≤ n.N
  ·
   have a2 : ¬ n.N ≤ 4096 := fun e => h1 ⟨a1, e⟩
   simp [a1, a2]
  · simp [a1]
end Go.Acq
namespace Go.Acq
open Go
set_option linter.unusedSimpArgs false
structure NetIn (n : Net) : Prop where
  nN : i64ok n.N
  nS : i64ok n.S
  nT : i64ok n.T
  arcs : ∀ a, a ∈ n.Arcs → i64ok a.fr ∧ i64ok a.to ∧ i64ok a.cap
  len : n.Arcs.length ≤ 9223372036854775807
structure Made (n : Net) (v a : Int) : Prop where
  check : Z38 n.N n.S n.T n.Arcs = 0
  rows : SomeAt n.N.toNat n.Arcs
  verts : n.N ≤ v
  arcs : (n.Arcs.length : Int) ≤ a
  ends : 2 ≤ n.N ∧ 0 ≤ n.S ∧ n.S < n.N ∧ 0 ≤ n.T ∧ n.T < n.N ∧ n.S ≠ n.T
theorem Made.nat {n : Net} {v a : Int} (h : Made n v a) : ∃ m : Nat, n.N = m ∧ SomeAt m n.Arcs := ⟨n.N.toNat, by have := h.ends.1; omega, h.rows⟩
theorem Made.caps {n : Net} {m : Nat} (h : SomeAt m n.Arcs) : ∀ i, i < n.Arcs.length → 0 ≤ (n.Arcs.getD i default).cap ∧ (n.Arcs.getD i default).cap < 1125899906842624 := fun _ hi => (h _ (Z6q hi default)).2
theorem s_Some {n : Net} {v a : Int} (h : NetIn n) (hv0 : 2 ≤ v) (hv1 : v ≤ 4096) (ha0 : 0 ≤ a) (ha1 : a ≤ 4096) : Ok (Z47 n v a) (fun r => Made r v a) := by
 have hN := Z8u (x := n.N) (n := v - 1) (by omega)
 unfold Z47
 refine Ok.gd.2 ⟨(by omega), Ok.bind.2 (Z8q (Zep (by omega)) (Ok.gd.2 ⟨(by omega), ?_⟩))⟩
 obtain ⟨m, hm⟩ : ∃ m : Nat, 2 + Zf5 n.N (v - 1) = m := ⟨(2 + Zf5 n.N (v - 1)).toNat, by omega⟩
 rw [hm]
 have hS := Z8u (x := n.S) (n := (m : Int)) (by omega)
 have hT := Z8u (x := n.T) (n := (m : Int)) (by omega)
 refine Ok.bind.2 (Z8q (Zep (by omega)) (Ok.bind.2 (Z8q (Zep (by omega)) ?_)))
 have key : ∀ t : Int, 0 ≤ t → t < m → t ≠ Zf5 n.S m → Ok (Z2s n a (Zf5 n.N (v - 1)) (Zf5 n.S m) t) (fun r => Made r v a) := by
  intro t t0 t1 t2
  unfold Z2s
  refine Ok.gd.2 ⟨(by omega), Ok.bind.2 ?_⟩
  obtain ⟨q, hq⟩ : ∃ q : Nat, min (n.Arcs.length : Int) a = q := ⟨(min (n.Arcs.length : Int) a).toNat, by omega⟩
  obtain ⟨al, hal⟩ : ∃ l, l = n.Arcs.take (q : Int).toNat := ⟨_, rfl⟩
  have hlen : al.length = q := by rw [hal, List.length_take]; omega
  have hcap : ∀ b, b ∈ al → i64ok b.cap := fun b hb => (h.arcs b (List.mem_of_mem_take (by rw [← hal]; exact hb))).2.2
  refine Za5 (fun s => ∃ k : Nat, s.2 = k ∧ k ≤ q ∧ s.1.length = k ∧ SomeAt m s.1) (fun s => (q - s.2).toNat) ⟨0, rfl, by omega, rfl, fun b hb => by cases hb⟩ (by unfold Z4t; simp only; omega) ?_
  rintro ⟨ol, x⟩ ⟨k, h1, h2, h3, h4⟩ P next exit
  simp only at h1 h2 h3 h4 next ⊢
  subst h1
  unfold Z3c
  rw [hq, ← hal]
  simp only [Int.toNat_natCast]
  refine Ok.ite.2 ⟨fun hx => ?_, fun hx => ?_⟩
  ·
   have hkl : k < al.length := by omega
   have hc := hcap _ (Z6q hkl default)
   have hj : ∀ c : Int, 0 ≤ c → Ok (Z2r n a (Zf5 n.N (v - 1)) ol k c) P := by
    intro c hc0
    unfold Z2r
    rw [hq, ← hal, hm]
    refine Ok.bind.2 (Z8q (Zep (by omega)) (Ok.bind.2 (Z8q (Zep (by omega)) (Ok.gd.2 ⟨?_, Ok.gd.2 ⟨(by omega), Ok.some.2 (next _ ⟨k + 1, by simp, by omega, by simp [h3], ?_⟩ (by simp only; omega))⟩⟩))))
    · rw [List.length_append, h3]; simp only [List.length_cons, List.length_nil]; constructor <;> omega
    · exact h4.put (Z8u (by omega)) (Z8u (by omega)) (Zlu hc0 (by omega))
   refine Ok.gd.2 ⟨(by omega), Ok.ite.2 ⟨fun hn => ?_, fun hn => ?_⟩⟩
   · exact Ok.gd.2 ⟨by constructor <;> omega, Ok.gd.2 ⟨by constructor <;> omega, hj (-((al.getD k default).cap + 1)) (by omega)⟩⟩
   · exact hj (al.getD k default).cap (by omega)
  ·
   refine Ok.some.2 (exit _ ?_)
   unfold Z43
   refine Ok.some.2 ?_
   rw [hm]
   exact ⟨Zgo (by omega) (by omega) hS ⟨t0, t1⟩ t2 h4 (show ol.length ≤ 4096 by omega), by simpa using h4, by simp only; omega, by show (ol.length : Int) ≤ a; omega, ⟨by simp only; omega, hS.1, hS.2, t0, t1, fun e => t2 e.symm⟩⟩
 refine Ok.ite.2 ⟨fun he => ?_, fun he => ?_⟩
 ·
  refine Ok.gd.2 ⟨(by omega), Ok.gd.2 ⟨by omega, ?_⟩⟩
  obtain ⟨n1, n2, n3⟩ := next_ne hS.1 hS.2 (by omega)
  exact key _ n1 n2 n3
 · exact key _ hT.1 hT.2 (fun e => he e.symm)
theorem Znp {n : Net} {m : Nat} (hN : n.N = m) (hm : m ≤ 4096) (hl : n.Arcs.length ≤ 16384) (he : Z5i m n.Arcs) :
    Ok (Z6l n) (fun fs => fs.length = m + 1 ∧ ∀ u, u ≤ m → fs.getD u 0 = Z0t n.Arcs u) := by
  unfold Z6l
  simp only [hN]
  refine Ok.gd.2 ⟨(by omega), Ok.gd.2 ⟨(by omega), Ok.bind.2 (Za5 (fun s => ∃ k : Nat, s.2 = k ∧ k ≤ n.Arcs.length ∧ Counted n.Arcs m k s.1) (fun s => (n.Arcs.length - s.2).toNat) ⟨0, rfl, by omega, Counted.start n.Arcs m (by omega)⟩ (by unfold Z4t; simp only; omega) ?_)⟩⟩
  rintro ⟨fs, x⟩ ⟨k, h1, h2, h3⟩ P next exit
  simp only at h1 h2 h3 next ⊢
  subst h1
  unfold Z4n
  simp only [Int.toNat_natCast]
  refine Ok.ite.2 ⟨fun hx => ?_, fun hx => ?_⟩
  · have hkl : k < n.Arcs.length := by omega
    have hfl := h3.1
    have e0 := he k hkl false
    have e1 := he k hkl true
    simp only [vtx, Bool.false_eq_true, if_false, if_true] at e0 e1
    have c0 := h3.2.2 _ e0.1 e0.2
    have c1 := h3.2.2 _ e1.1 e1.2
    have d0 := Zl8 n.Arcs (n.Arcs.getD k default).fr.toNat k
    have d1 := Zl8 n.Arcs (n.Arcs.getD k default).to.toNat k
    refine Ok.gd.2 ⟨(by omega), Ok.ite.2 ⟨fun hne => ?_, fun hne => ?_⟩⟩
    · have c2 : (fs.set ((n.Arcs.getD k default).fr + 1).toNat (fs.getD ((n.Arcs.getD k default).fr + 1).toNat 0 + 1)).getD ((n.Arcs.getD k default).to + 1).toNat 0 = cnt n.Arcs (n.Arcs.getD k default).to.toNat k := by rw [Z48 (by omega)]; exact c1
      refine Ok.gd.2 ⟨(by omega), Ok.gd.2 ⟨(by omega), Ok.gd.2 ⟨(by omega), Ok.gd.2 ⟨(by omega), Ok.gd.2 ⟨(by omega), Ok.gd.2 ⟨(by simp only [List.length_set, List.length_replicate]; omega), Ok.gd.2 ⟨(by omega), Ok.gd.2 ⟨(by simp only [List.length_set, List.length_replicate]; omega), Ok.gd.2 ⟨(by omega), Ok.some.2 (next _ ⟨k + 1, by simp, by omega, ?_⟩ (by simp only; omega))⟩⟩⟩⟩⟩⟩⟩⟩⟩
      exact h3.put he hkl hne
    · refine Ok.gd.2 ⟨(by omega), Ok.some.2 (next _ ⟨k + 1, by simp, by omega, h3.skip (Classical.not_not.1 hne)⟩ (by simp only; omega))⟩
  · refine Ok.some.2 (exit _ ?_)
    have hk : k = n.Arcs.length := by omega
    subst hk
    unfold Z5t
    refine Ok.bind.2 (Za5 (fun s => ∃ v : Nat, s.2 = v ∧ v ≤ m ∧ Summed n.Arcs m v s.1) (fun s => (m - s.2).toNat) ⟨0, rfl, by omega, h3.summed⟩ (by unfold Z4t; simp only; omega) ?_)
    rintro ⟨gs, y⟩ ⟨v, g1, g2, g3⟩ P2 next2 exit2
    simp only at g1 g2 g3 next2 ⊢
    subst g1
    unfold Z4m
    simp only [hN, Int.toNat_natCast]
    have hgl := g3.1
    have b0 := g3.2.1 v (Nat.le_refl _)
    refine Ok.ite.2 ⟨fun hv => ?_, fun hv => ?_⟩
    · have b1 := g3.2.2 v (Nat.le_refl _) (by omega)
      have b2 := Z56 (al := n.Arcs) (v := v) (by omega) hl
      have b3 := Zl8 n.Arcs v n.Arcs.length
      have b5 : ((v : Int) + 1).toNat = v + 1 := by omega
      simp only [b5]
      refine Ok.gd.2 ⟨(by omega), Ok.gd.2 ⟨(by omega), Ok.gd.2 ⟨(by omega), Ok.gd.2 ⟨(by omega), Ok.gd.2 ⟨(by omega), Ok.gd.2 ⟨(by omega), Ok.some.2 (next2 _ ⟨v + 1, by simp, by omega, ?_⟩ (by simp only; omega))⟩⟩⟩⟩⟩⟩
      exact g3.put (by omega) rfl
    · refine Ok.some.2 (exit2 _ ?_)
      unfold Z5s
      have : v = m := by omega
      subst this
      exact Ok.some.2 ⟨hgl, g3.2.1⟩
structure CsrIs (n : Net) (m : Nat) (c : Csr) : Prop where
  hN : c.N = m
  hS : c.S = n.S
  hT : c.T = n.T
  ok : CsrOK n.Arcs m c.First c.Head c.Rev c.Cap c.Arc c.Back
theorem s_Make {n : Net} {m : Nat} (hN : n.N = m) (hc : Z38 n.N n.S n.T n.Arcs = 0) (hl : lenok n.Arcs.length) :
    Ok (Z8h n) (fun r => CsrIs n m r.1 ∧ r.2 = 0) := by
  have hz := Z31 hc
  have hm : m ≤ 4096 := by omega
  have he : Z5i m n.Arcs := Zcr (by rw [← hN]; exact hz.2.2.2.1)
  unfold Z8h
  refine Ok.bind.2 (Z8q (Zk1 n hl) (Ok.ite.2 ⟨fun h => absurd hc h, fun _ => Ok.bind.2 (Ok.mono (Znp hN hm (by omega) he) ?_)⟩))
  rintro fs ⟨hfl, hfs⟩
  simp only [hN, Int.toNat_natCast, hfs m (Nat.le_refl _)]
  have hbs := Z56 (al := n.Arcs) (v := m) hm (by omega)
  unfold Z2m
  refine Ok.gd.2 ⟨(by omega), Ok.gd.2 ⟨(by omega), Ok.gd.2 ⟨(by omega), Ok.gd.2 ⟨(by omega), Ok.gd.2 ⟨(by omega), Ok.gd.2 ⟨(by omega), Ok.bind.2 (Ok.gd.2 ⟨(by omega), Ok.some.2 (Ok.bind.2 ?_)⟩)⟩⟩⟩⟩⟩⟩
  refine Za5 (fun s => ∃ k : Nat, s.2.2.2.2.2.2 = k ∧ k ≤ n.Arcs.length ∧ MakeAt n.Arcs m k s.2.2.2.2.2.1 s.1 s.2.1 s.2.2.1 s.2.2.2.1 s.2.2.2.2.1) (fun s => (n.Arcs.length - s.2.2.2.2.2.2).toNat) ⟨0, rfl, by omega, MakeAt.start hfl hfs⟩ (by unfold Z4t; simp only; omega) ?_
  rintro ⟨hs, rs, cs, aa, bs, nx, x⟩ ⟨k, h1, h2, h3⟩ P next exit
  simp only at h1 h2 h3 next ⊢
  subst h1
  unfold Z6m
  simp only [Int.toNat_natCast]
  refine Ok.ite.2 ⟨fun hx => ?_, fun hx => ?_⟩
  · have hkl : k < n.Arcs.length := by omega
    refine Ok.gd.2 ⟨(by omega), Ok.ite.2 ⟨fun heq => ?_, fun hne => ?_⟩⟩
    · exact Ok.gd.2 ⟨(by omega), Ok.some.2 (next _ ⟨k + 1, by simp, by omega, h3.skip heq⟩ (by simp only; omega))⟩
    · have e0 := he k hkl false
      have e1 := he k hkl true
      have n0 := h3.at he hkl false
      have n1 := h3.at he hkl true
      have p0 : pos n.Arcs k false < Z0t n.Arcs m := Zaz hkl hne he
      have p1 : pos n.Arcs k true < Z0t n.Arcs m := Zaz hkl hne he
      simp only [vtx, Bool.false_eq_true, if_false, if_true] at e0 e1 n0 n1
      have hh := h3
      obtain ⟨⟨l0, l1, l2, l3, l4, l5⟩, _, _⟩ := h3
      unfold Z7n
      simp only [n0, Int.toNat_natCast]
      have n2 : (nx.set (n.Arcs.getD k default).fr.toNat ((pos n.Arcs k false : Int) + 1)).getD (n.Arcs.getD k default).to.toNat 0 = (pos n.Arcs k true : Nat) := by rw [Z48 (by omega)]; exact n1
      refine Ok.bind.2 (Ok.gd.2 ⟨(by omega), Ok.gd.2 ⟨(by omega), Ok.gd.2 ⟨(by omega), Ok.gd.2 ⟨(by omega), Ok.gd.2 ⟨(by omega), Ok.gd.2 ⟨(by omega), Ok.gd.2 ⟨(by omega), Ok.gd.2 ⟨(by omega), Ok.some.2 (Ok.bind.2 ?_)⟩⟩⟩⟩⟩⟩⟩⟩)
      simp only [n2, Int.toNat_natCast]
      refine Ok.gd.2 ⟨(by simp only [List.length_set, List.length_replicate]; omega), Ok.gd.2 ⟨(by simp only [List.length_set, List.length_replicate]; omega), Ok.gd.2 ⟨(by omega), Ok.gd.2 ⟨(by simp only [List.length_set, List.length_replicate]; omega), Ok.gd.2 ⟨(by simp only [List.length_set, List.length_replicate]; omega), Ok.gd.2 ⟨(by simp only [List.length_set, List.length_replicate]; omega), Ok.gd.2 ⟨(by simp only [List.length_set, List.length_replicate]; omega), Ok.gd.2 ⟨(by simp only [List.length_set, List.length_replicate]; omega), Ok.some.2 (Ok.gd.2 ⟨(by omega), Ok.gd.2 ⟨(by simp only [List.length_set, List.length_replicate]; omega), Ok.gd.2 ⟨(by omega), Ok.some.2 (next _ ⟨k + 1, by simp, by omega, ?_⟩ (by simp only; omega))⟩⟩⟩)⟩⟩⟩⟩⟩⟩⟩⟩
      exact hh.put he hkl hne
  · refine Ok.some.2 (exit _ ?_)
    unfold Z8b
    have hk : k = n.Arcs.length := by omega
    subst hk
    exact Ok.some.2 ⟨⟨hN, rfl, rfl, h3.done hfl hfs⟩, rfl⟩
theorem s_Res {c : Csr} {f : List Int} {L : Nat} (hh : c.Head.length = L) (hc : c.Cap.length = L) (ha : c.Arc.length = L) (hb : c.Back.length = L) (hL : L ≤ 67108864)
    (h0 : ∀ j, j < L → 0 ≤ c.Arc.getD j 0) (h1 : ∀ j, j < L → 0 ≤ c.Cap.getD j 0 ∧ c.Cap.getD j 0 ≤ 9223372036854775807) :
    Ok (Zb2 c f) (fun r => ((∀ j, j < L → Zk3 c.Arc c.Cap c.Back f j) ∧ r.2 = 0 ∧ ResAt c.Arc c.Cap c.Back f L L r.1) ∨ ((∃ j, j < L ∧ ¬Zk3 c.Arc c.Cap c.Back f j) ∧ r = ([], 20))) := by
  unfold Zb2 Z9r
  simp only [hh]
  refine Ok.bind.2 (Ok.some.2 (Ok.gd.2 ⟨(by omega), Ok.bind.2 (Za5 (fun s => ∃ k : Nat, s.2 = k ∧ k ≤ L ∧ ResAt c.Arc c.Cap c.Back f L k s.1) (fun s => (L - s.2).toNat) ⟨0, rfl, by omega, by simp, fun j hj => by omega⟩ (by unfold Z4t; simp only; omega) ?_)⟩))
  rintro ⟨rl, x⟩ ⟨k, g1, g2, g3⟩ P next exit
  simp only at g1 g2 g3 next ⊢
  subst g1
  unfold Z7m
  simp only [Int.toNat_natCast, List.length_replicate]
  have hrl := g3.1
  refine Ok.ite.2 ⟨fun hx => ?_, fun hx => ?_⟩
  · have hkl : k < L := by omega
    have a0 := h0 k hkl
    have c1 := h1 k hkl
    have bad : ¬Zk3 c.Arc c.Cap c.Back f k → P (.inr (.inl ([], 20))) := fun hr => exit _ (Ok.some.2 (.inr ⟨⟨k, hkl, hr⟩, rfl⟩))
    have step : ∀ v : Int, Zk3 c.Arc c.Cap c.Back f k → v = resV c.Arc c.Cap c.Back f k → Ok (gd (i64ok ((k : Int) + 1)) (some (.inl (rl.set k v, (k : Int) + 1)))) P := fun v hr hv =>
      Ok.gd.2 ⟨(by omega), Ok.some.2 (next _ ⟨k + 1, by simp, by omega, g3.put hkl hr hv⟩ (by simp only; omega))⟩
    refine Ok.gd.2 ⟨(by omega), Ok.ite.2 ⟨fun hk => ?_, fun hk => ?_⟩⟩
    · exact Ok.some.2 (bad fun hr => by have := hr.1; omega)
    · refine Ok.gd.2 ⟨(by omega), Ok.ite.2 ⟨fun hbk => ?_, fun hbk => ?_⟩⟩
      · exact Ok.gd.2 ⟨(by omega), Ok.gd.2 ⟨(by omega), step _ ⟨by omega, .inl hbk⟩ (by unfold resV; rw [if_pos hbk])⟩⟩
      · refine Ok.gd.2 ⟨(by omega), Ok.ite.2 ⟨fun hn => ?_, fun hn => ?_⟩⟩
        · unfold Z67
          rw [if_pos rfl]
          exact Ok.some.2 (bad fun hr => by rcases hr.2 with h | h; exact hbk h; omega)
        · refine Ok.gd.2 ⟨(by omega), Ok.gd.2 ⟨(by omega), ?_⟩⟩
          unfold Z67
          simp only [Int.toNat_natCast]
          refine Ok.ite.2 ⟨fun hd => ?_, fun hd => ?_⟩
          · have hd := of_decide_eq_true hd
            exact Ok.some.2 (bad fun hr => by rcases hr.2 with h | h; exact hbk h; omega)
          · have hd : ¬ c.Cap.getD k 0 < f.getD (c.Arc.getD k 0).toNat 0 := fun h => hd (decide_eq_true h)
            exact Ok.gd.2 ⟨(by omega), Ok.gd.2 ⟨(by omega), Ok.gd.2 ⟨(by omega), Ok.gd.2 ⟨(by omega), step _ ⟨by omega, .inr ⟨by omega, by omega⟩⟩ (by unfold resV; rw [if_neg hbk])⟩⟩⟩⟩
  · refine Ok.some.2 (exit _ ?_)
    unfold Z97
    have : k = L := by omega
    subst this
    exact Ok.some.2 (.inl ⟨fun j hj => (g3.2 j hj).1, rfl, g3⟩)
def Zbw (rs cs : List Int) (res : List Int) (j : Nat) : Prop :=
  0 ≤ res.getD j 0 ∧ res.getD j 0 ≤ max (cs.getD j 0) (cs.getD (rs.getD j 0).toNat 0) ∧ res.getD (rs.getD j 0).toNat 0 = max (cs.getD j 0) (cs.getD (rs.getD j 0).toNat 0) - res.getD j 0
def FlowK (al : List Arc) (a : Nat) (res : List Int) (k : Nat) (fl : List Int) : Prop :=
  fl.length = a ∧ ∀ i, fl.getD i 0 = if i < al.length ∧ (al.getD i default).fr ≠ (al.getD i default).to ∧ pos al i true < k then res.getD (pos al i true) 0 else 0
theorem s_over {l : List Int} {a : Int} (hl : lenok l.length) : Ok (Z1p l a) (fun r => r = decide (∃ j, j < l.length ∧ a ≤ l.getD j 0)) := by
 unfold Z1p Z2f
 refine Ok.bind.2 (Ok.bind.2 (Za5 (fun x => ∃ k : Nat, x = k ∧ k ≤ l.length ∧ ∀ j, j < k → ¬ a ≤ l.getD j 0) (fun x => (l.length - x).toNat) ⟨0, rfl, by omega, fun j hj => by omega⟩ (by unfold Z4t; omega) ?_))
 rintro x ⟨k, rfl, g2, g3⟩ P next exit
 unfold Z1o Z98
 simp only [Int.toNat_natCast]
 refine Ok.ite.2 ⟨fun hx => ?_, fun hx => ?_⟩
 ·
  refine Ok.gd.2 ⟨(by omega), Ok.bind.2 (Ok.some.2 (Ok.ite.2 ⟨fun hd => ?_, fun hd => ?_⟩))⟩
  ·
   have hd := of_decide_eq_true hd
   refine Ok.some.2 (exit _ (Ok.some.2 (Ok.some.2 ?_)))
   rw [decide_eq_true (show (0 : Int) ≤ k by omega)]
   exact (decide_eq_true ⟨k, by omega, hd⟩).symm
  ·
   refine Ok.gd.2 ⟨(by omega), Ok.some.2 (next _ ⟨k + 1, by simp, by omega, fun j hj => ?_⟩ (by omega))⟩
   rcases Nat.lt_or_ge j k with h | h
   · exact g3 j h
   · rw [show j = k by omega]; exact fun h => hd (decide_eq_true h)
 ·
  refine Ok.some.2 (exit _ (Ok.some.2 (Ok.some.2 ?_)))
  refine (decide_eq_false ?_).symm
  rintro ⟨j, hj, hja⟩
  exact g3 j (by omega) hja
end Go.Acq
namespace Go.Acq
open Go
set_option linter.unusedSimpArgs false
end Go.Acq
namespace Go.Acq
open Go
set_option linter.unusedSimpArgs false
def ex (al : List Arc) (f : List Int) (v : Int) : Nat → Int
  | 0 => 0
  | k + 1 => ex al f v k - (if (al.getD k default).fr = v then f.getD k 0 else 0) + (if (al.getD k default).to = v then f.getD k 0 else 0)
def tot (f : List Int) : Nat → Int
  | 0 => 0
  | k + 1 => tot f k + f.getD k 0
def part (al : List Arc) (f : List Int) (j : Int) : Nat → Int
  | 0 => 0
  | k + 1 => part al f j k - (if (al.getD k default).fr < j then f.getD k 0 else 0) + (if (al.getD k default).to < j then f.getD k 0 else 0)
theorem ex_le {al : List Arc} {f : List Int} (v : Int) {n : Nat} (h : ∀ i, i < n → 0 ≤ f.getD i 0) : ∀ k, k ≤ n → -tot f k ≤ ex al f v k ∧ ex al f v k ≤ tot f k
 | 0, _ => by simp [ex, tot]
 | k + 1, hk => by
  have ih := ex_le (al := al) v h k (by omega)
  have := h k hk
  simp only [ex, tot]
  split <;> split <;> omega
theorem Zhl {f : List Int} {n : Nat} (h : ∀ i, i < n → 0 ≤ f.getD i 0) : ∀ j k, j ≤ k → k ≤ n → tot f j ≤ tot f k
  | j, 0, hj, _ => by have : j = 0 := by omega
                      subst this; exact Int.le_refl _
  | j, k + 1, hj, hk => by
    rcases Nat.lt_or_ge j (k + 1) with h1 | h1
    · have := Zhl h j k (by omega) (by omega)
      have := h k hk
      simp only [tot]; omega
    · rw [show j = k + 1 by omega]; exact Int.le_refl _
theorem sumL_tot {f : List Int} : ∀ (al : List Arc) (left : Int) (k : Nat), (Zem left (al.drop k)).isSome = true → 0 ≤ left → k ≤ al.length → (∀ i, i < al.length → 0 ≤ f.getD i 0 ∧ f.getD i 0 ≤ (al.getD i default).cap) → tot f al.length - tot f k ≤ left := by
 intro al left k
 induction hn : al.length - k generalizing left k with
 | zero =>
  intro _ h0 hk _
  rw [show k = al.length by omega]; omega
 | succ n ih =>
  intro hs h0 hk hf
  have hkl : k < al.length := by omega
  rw [Zin hkl] at hs
  by_cases hc : (al.getD k default).cap < 0 ∨ left < (al.getD k default).cap
  · rw [if_pos hc] at hs; cases hs
  ·
   rw [if_neg hc] at hs
   have := ih (left - (al.getD k default).cap) (k + 1) (by omega) hs (by omega) (by omega) hf
   have hfk := hf k hkl
   simp only [tot] at this
   omega
def FwithinP (n : Net) (f : List Int) : Prop := Z38 n.N n.S n.T n.Arcs = 0 ∧ f.length = n.Arcs.length ∧ ∀ i, i < n.Arcs.length → 0 ≤ f.getD i 0 ∧ f.getD i 0 ≤ (n.Arcs.getD i default).cap
theorem FwithinP.tot {n : Net} {f : List Int} (h : FwithinP n f) : ∀ k, k ≤ n.Arcs.length → 0 ≤ tot f k ∧ tot f k ≤ 4611686018427387904 := by
 intro k hk
 have hz := Z31 h.1
 have h1 := sumL_tot (f := f) n.Arcs 4611686018427387904 0 (by simpa using hz.2.2.2.2.2) (by omega) (by omega) h.2.2
 have h2 := Zhl (fun i hi => (h.2.2 i hi).1) k n.Arcs.length hk (Nat.le_refl _)
 have h3 := Zhl (fun i hi => (h.2.2 i hi).1) 0 k (by omega) hk
 simp only [Acq.tot] at h1 h3
 omega
theorem Znr {n : Net} {f : List Int} (hl : lenok n.Arcs.length) : Ok (Z6h n f) (fun b => b = true ↔ FwithinP n f) := by
 unfold Z6h
 refine Ok.bind.2 (Z8q (Zk1 n hl) (Ok.ite.2 ⟨fun h => Ok.some.2 ⟨fun h2 => (by cases h2), fun h2 => absurd h2.1 h⟩, fun h1 => Ok.ite.2 ⟨fun h => Ok.some.2 ⟨fun h2 => (by cases h2), fun h2 => absurd h2.2.1 (by omega)⟩, fun h2 => Ok.bind.2 ?_⟩⟩))
 have hz := Z31 (Classical.not_not.1 h1)
 refine Za5 (fun x => ∃ k : Nat, x = k ∧ k ≤ n.Arcs.length ∧ ∀ i, i < k → 0 ≤ f.getD i 0 ∧ f.getD i 0 ≤ (n.Arcs.getD i default).cap) (fun x => (n.Arcs.length - x).toNat) ⟨0, rfl, by omega, fun i hi => by omega⟩ (by unfold Z4t; omega) ?_
 rintro x ⟨k, rfl, hk, h3⟩ P next exit
 unfold Z4l
 simp only [Int.toNat_natCast]
 refine Ok.ite.2 ⟨fun hx => ?_, fun hx => ?_⟩
 ·
  refine Ok.gd.2 ⟨(by omega), Ok.gd.2 ⟨(by omega), Ok.ite.2 ⟨fun h => Ok.some.2 (exit _ (Ok.some.2 ⟨fun h2 => (by cases h2), fun h2 => by have := h2.2.2 k (by omega); omega⟩)), fun h4 => Ok.gd.2 ⟨(by omega), Ok.ite.2 ⟨fun h => Ok.some.2 (exit _ (Ok.some.2 ⟨fun h2 => (by cases h2), fun h2 => by have := h2.2.2 k (by omega); omega⟩)), fun h5 => Ok.gd.2 ⟨(by omega), Ok.some.2 (next _ ⟨k + 1, by simp, by omega, fun i hi => ?_⟩ (by omega))⟩⟩⟩⟩⟩⟩
  rcases Nat.lt_or_ge i k with h | h
  · exact h3 i h
  · rw [show i = k by omega]; omega
 ·
  refine Ok.some.2 (exit _ ?_)
  unfold Z5r
  exact Ok.some.2 ⟨fun _ => ⟨Classical.not_not.1 h1, by omega, fun i hi => h3 i (by omega)⟩, fun _ => rfl⟩
theorem Zkd {b : Bool} (h : ¬(!b) = true) : b = true := by cases b; exact absurd rfl h; rfl
def AllP (n : Net) (f : List Int) (so : Int → Prop) (but : List Int) : Prop := FwithinP n f ∧ ∀ v : Nat, v < n.N.toNat → so (ex n.Arcs f v n.Arcs.length) ∨ (v : Int) ∈ but
end Go.Acq
namespace Go.Acq
open Go
set_option linter.unusedSimpArgs false
theorem Z4o {α : Type} {xs ys : List α} {d : α} {i : Nat} (h : i < xs.length) : (xs ++ ys).getD i d = xs.getD i d := by
 rw [List.getD_eq_getElem?_getD, List.getElem?_append_left h, List.getD_eq_getElem?_getD]
theorem Zb4 {α : Type} {xs ys : List α} {d : α} {i : Nat} (h : xs.length ≤ i) : (xs ++ ys).getD i d = ys.getD (i - xs.length) d := by
 rw [List.getD_eq_getElem?_getD, List.getElem?_append_right h, List.getD_eq_getElem?_getD]
theorem Znv {al : List Arc} {i v : Nat} {s : Bool} (hi : i < al.length) (hne : (al.getD i default).fr ≠ (al.getD i default).to) (h0 : 0 ≤ vtx (al.getD i default) s) (h1 : Z0t al v ≤ pos al i s) (h2 : pos al i s < Z0t al (v + 1)) : vtx (al.getD i default) s = v ∧ pos al i s = Z0t al v + cnt al v i := by
 obtain ⟨u, hu⟩ : ∃ u : Nat, vtx (al.getD i default) s = u := ⟨(vtx (al.getD i default) s).toNat, by omega⟩
 have hcl := Zds (s := s) hi hne h0
 have hpos : pos al i s = Z0t al u + cnt al u i := by unfold pos; rw [hu, Int.toNat_natCast]
 rw [hu, Int.toNat_natCast] at hcl
 have hb1 : Z0t al (u + 1) = Z0t al u + cnt al u al.length := rfl
 have : u = v := by
  rcases Nat.lt_trichotomy u v with h | h | h
  · have := Z3m (al := al) (show u + 1 ≤ v by omega); omega
  · exact h
  · have := Z3m (al := al) (show v + 1 ≤ u by omega); omega
 subst this
 exact ⟨hu, hpos⟩
end Go.Acq
namespace Go.Acq
open Go
set_option linter.unusedSimpArgs false
def inS (c : List Bool) (v : Int) : Bool := c.getD v.toNat false
def CutR (n : Net) (c : List Bool) : Prop := Z38 n.N n.S n.T n.Arcs = 0 ∧ (c.length : Int) = n.N ∧ inS c n.S = true ∧ inS c n.T = false
def Zna (al : List Arc) (c : List Bool) : Nat → Int
  | 0 => 0
  | k + 1 => Zna al c k + (if inS c (al.getD k default).fr = true ∧ inS c (al.getD k default).to = false then (al.getD k default).cap else 0)
def acK (al : List Arc) (f : List Int) (c : List Bool) : Nat → Int
  | 0 => 0
  | k + 1 => acK al f c k + (if inS c (al.getD k default).fr = true ∧ inS c (al.getD k default).to = false then f.getD k 0 else 0) - (if inS c (al.getD k default).fr = false ∧ inS c (al.getD k default).to = true then f.getD k 0 else 0)
def totC (al : List Arc) : Nat → Int
  | 0 => 0
  | k + 1 => totC al k + (al.getD k default).cap
theorem Zks (al : List Arc) : ∀ k, k ≤ al.length → totC al k = tot (al.map (·.cap)) k
 | 0, _ => rfl
 | k + 1, hk => by
  simp only [totC, tot, Zks al k (by omega)]
  rw [List.getD_eq_getElem?_getD, List.getD_eq_getElem?_getD, List.getElem?_map, List.getElem?_eq_getElem (show k < al.length by omega)]; rfl
theorem Zo7 {al : List Arc} {i : Nat} (hi : i < al.length) : (al.map (·.cap)).getD i 0 = (al.getD i default).cap := by
 rw [List.getD_eq_getElem?_getD, List.getD_eq_getElem?_getD, List.getElem?_map, List.getElem?_eq_getElem hi]; rfl
theorem Zkc {n : Net} (h : Z38 n.N n.S n.T n.Arcs = 0) (hc : ∀ i, i < n.Arcs.length → 0 ≤ (n.Arcs.getD i default).cap) : FwithinP n (n.Arcs.map (·.cap)) :=
 ⟨h, by simp, fun i hi => by rw [Zo7 hi]; exact ⟨hc i hi, Int.le_refl _⟩⟩
theorem Zdd {n : Net} (h : Z38 n.N n.S n.T n.Arcs = 0) : ∀ i, i < n.Arcs.length → 0 ≤ (n.Arcs.getD i default).cap := fun i hi => by
 have := List.all_eq_true.1 (Z31 h).2.2.2.2.1 _ (Z6q hi default)
 simpa [Zm2] using this
theorem Zhm {n : Net} (h : Z38 n.N n.S n.T n.Arcs = 0) : ∀ k, k ≤ n.Arcs.length → 0 ≤ totC n.Arcs k ∧ totC n.Arcs k ≤ 4611686018427387904 := fun k hk => by
 rw [Zks _ k hk]
 have := (Zkc h (Zdd h)).tot k (by simpa using hk)
 exact this
theorem Zl7 {n : Net} (h : Z38 n.N n.S n.T n.Arcs = 0) : ∃ m : Nat, n.N = m ∧ Z5i m n.Arcs := by
 have hz := Z31 h
 obtain ⟨m, hm⟩ : ∃ m : Nat, n.N = m := ⟨n.N.toNat, by omega⟩
 exact ⟨m, hm, Zcr (by rw [← hm]; exact hz.2.2.2.1)⟩
def Zbt (al : List Arc) (f : List Int) (c : List Bool) (i : Nat) : Prop :=
  (inS c (al.getD i default).fr = true → inS c (al.getD i default).to = false → (al.getD i default).cap ≤ f.getD i 0) ∧ (inS c (al.getD i default).fr = false → inS c (al.getD i default).to = true → f.getD i 0 ≤ 0)
end Go.Acq
namespace Go.Acq
open Go
set_option linter.unusedSimpArgs false
inductive Reach (G : Nat → Nat → Prop) (s : Nat) : Nat → Prop
  | refl : Reach G s s
  | step {u v : Nat} : Reach G s u → G u v → Reach G s v
theorem Reach.trans {G : Nat → Nat → Prop} {a b c : Nat} (h : Reach G a b) (g : Reach G b c) : Reach G a c := by
 induction g with
 | refl => exact h
 | step _ h2 ih => exact .step ih h2
theorem Reach.flip {G : Nat → Nat → Prop} {a b : Nat} (h : Reach G a b) : Reach (fun u v => G v u) b a := by
 induction h with
 | refl => exact .refl
 | step _ h2 ih => exact Reach.trans (.step .refl h2) ih
theorem Reach.mono {G K : Nat → Nat → Prop} {a b : Nat} (h : Reach G a b) (hk : ∀ u v, G u v → K u v) : Reach K a b := by
 induction h with
 | refl => exact .refl
 | step _ h2 ih => exact .step ih (hk _ _ h2)
def tc (l : List Bool) : Nat → Nat
  | 0 => 0
  | k + 1 => tc l k + if l.getD k false = true then 1 else 0
theorem tc_le (l : List Bool) : ∀ k, tc l k ≤ k
 | 0 => Nat.le_refl _
 | k + 1 => by have := tc_le l k; simp only [tc]; split <;> omega
theorem Zij {l : List Bool} {i : Nat} (hi : i < l.length) (hf : l.getD i false = false) : ∀ k : Nat, tc (l.set i true) k = tc l k + (if i < k then 1 else 0)
 | 0 => by simp [tc]
 | k + 1 => by
  have ih := Zij hi hf k
  simp only [tc, ih, Zcm]
  by_cases c : i = k
  ·
   subst c
   rw [if_neg (show ¬ i < i by omega), if_pos (show i = i ∧ i < l.length from ⟨rfl, hi⟩), hf, if_pos rfl, if_pos (show i < i + 1 by omega)]; rfl
  ·
   rw [if_neg (show ¬(i = k ∧ i < l.length) from fun h => c h.1)]
   by_cases c2 : i < k
   · rw [if_pos c2, if_pos (show i < k + 1 by omega)]; omega
   · rw [if_neg c2, if_neg (show ¬ i < k + 1 by omega)]; omega
theorem Zjy (n : Nat) : ∀ k, tc (List.replicate n false) k = 0
 | 0 => rfl
 | k + 1 => by simp only [tc, Zjy n k, Z2b]; rfl
def g_s2 (c0 : Csr) (my : Int → Option Bool) (i25 : Int) (xs29 : List Bool) (row31 : List Int) (a41 : Int) : Option ((List Bool × List Int × Int) ⊕ (List Bool × List Int)) :=
  gd (inb i25 row31.length) <|
  gd (i64ok ((row31.getD i25.toNat 0) + 1)) <|
  gd (inb ((row31.getD i25.toNat 0) + 1) c0.First.length) <|
  if a41 < (c0.First.getD ((row31.getD i25.toNat 0) + 1).toNat 0) then
  (Option.bind (my a41) fun r46 =>
  if r46 = true then
  (gd (inb a41 c0.Head.length) <|
  Option.bind (Z8s (c0.Head.getD a41.toNat 0) xs29 row31) fun (r50, r51) =>
  gd (i64ok (a41 + 1)) <|
  some (.inl (r50, r51, (a41 + 1))))
  else
  gd (i64ok (a41 + 1)) <|
  some (.inl (xs29, row31, (a41 + 1))))
  else
  some (.inr (xs29, row31))
def g_s1 (c0 : Csr) (my : Int → Option Bool) (xs13 : List Bool) (row15 : List Int) (i25 : Int) : Option ((List Bool × List Int × Int) ⊕ (List Bool)) :=
  if i25 < (row15.length : Int) then
  (gd (inb i25 row15.length) <|
  gd (inb (row15.getD i25.toNat 0) c0.First.length) <|
  Option.bind (Z2k (fun s => g_s2 c0 my i25 s.1 s.2.1 s.2.2) Z4t (xs13, row15, (c0.First.getD (row15.getD i25.toNat 0).toNat 0))) fun (p2_0_0, p2_0_1) => gd (i64ok (i25 + 1)) <| some (.inl (p2_0_0, p2_0_1, (i25 + 1))))
  else
  some (.inr xs13)
def g_met (c0 : Csr) (from1 : Int) (my : Int → Option Bool) : Option (List Bool) :=
  gd (mkok c0.N) <|
  gd (inb from1 (List.replicate c0.N.toNat (false : Bool)).length) <|
  Option.bind (Z2k (fun s => g_s1 c0 my s.1 s.2.1 s.2.2) Z4t (((List.replicate c0.N.toNat (false : Bool)).set from1.toNat true), [from1], 0)) fun p1_0_0 => some p1_0_0
theorem g_To (c : Csr) (s : Int) (r : List Int) (d : Csr) : Z7g c s r d = g_met c s (fun a => Z9q a r d) := rfl
structure MetI (G : Nat → Nat → Prop) (s m : Nat) (xs : List Bool) (row : List Int) : Prop where
  len : xs.length = m
  nat : ∀ q, q < row.length → ∃ v : Nat, row.getD q 0 = v ∧ v < m ∧ xs.getD v false = true ∧ Reach G s v
  has : ∀ v, v < m → xs.getD v false = true → ∃ q, q < row.length ∧ row.getD q 0 = (v : Int)
  cnt : row.length = tc xs m
theorem MetI.le {G : Nat → Nat → Prop} {s m : Nat} {xs : List Bool} {row : List Int} (h : MetI G s m xs row) : row.length ≤ m := by rw [h.cnt]; exact tc_le _ _
theorem MetI.put {G : Nat → Nat → Prop} {s m v : Nat} {xs : List Bool} {row : List Int} (h : MetI G s m xs row) (hv : v < m) (hf : xs.getD v false = false) (hr : Reach G s v) : MetI G s m (xs.set v true) (row ++ [(v : Int)]) := by
 have hl := h.len
 refine ⟨by simp [hl], fun q hq => ?_, fun u hu hx => ?_, ?_⟩
 ·
  rw [List.length_append, List.length_singleton] at hq
  rcases Nat.lt_or_ge q row.length with h1 | h1
  ·
   obtain ⟨u, h2, h3, h4, h5⟩ := h.nat q h1
   refine ⟨u, by rw [Z4o h1]; exact h2, h3, ?_, h5⟩
   rw [Zcm]; split
   · rfl
   · exact h4
  ·
   refine ⟨v, ?_, hv, by rw [Zcm, if_pos ⟨rfl, by omega⟩], hr⟩
   rw [Zb4 h1, show q - row.length = 0 by omega]; rfl
 ·
  rw [Zcm] at hx
  by_cases c : v = u
  ·
   refine ⟨row.length, by simp, ?_⟩
   rw [Zb4 (Nat.le_refl _), Nat.sub_self, ← c]; rfl
  ·
   rw [if_neg (fun h => c h.1)] at hx
   obtain ⟨q, h1, h2⟩ := h.has u hu hx
   exact ⟨q, by rw [List.length_append]; omega, by rw [Z4o h1]; exact h2⟩
 · rw [List.length_append, List.length_singleton, Zij (by omega) hf, if_pos hv, h.cnt]
theorem s_met {n : Net} {m s : Nat} {c : Csr} {my : Int → Option Bool} {mb : Nat → Bool} (hc : CsrIs n m c) (he : Z5i m n.Arcs) (hm : m ≤ 4096) (hl : n.Arcs.length ≤ 16384) (hs : s < m) (hmy : ∀ j : Nat, j < Z0t n.Arcs m → my j = some (mb j)) :
    Ok (g_met c s my) (fun r => r.length = m ∧ ∀ v, v < m → (r.getD v false = true ↔ Reach (fun u w => ∃ j, Z0t n.Arcs u ≤ j ∧ j < Z0t n.Arcs (u + 1) ∧ mb j = true ∧ c.Head.getD j 0 = w) s v)) := by
  obtain ⟨G, hG⟩ : ∃ G : Nat → Nat → Prop, (fun (u w : Nat) => ∃ j, Z0t n.Arcs u ≤ j ∧ j < Z0t n.Arcs (u + 1) ∧ mb j = true ∧ c.Head.getD j 0 = (w : Int)) = G := ⟨_, rfl⟩
  rw [hG]
  have hbs := Z56 (al := n.Arcs) (v := m) hm hl
  have lf := hc.ok.lf
  have lh := hc.ok.lh
  have hf := hc.ok.hf
  unfold g_met
  rw [hc.hN]
  simp only [Int.toNat_natCast]
  refine Ok.gd.2 ⟨(by omega), Ok.gd.2 ⟨by rw [List.length_replicate]; constructor <;> omega, Ok.bind.2 ?_⟩⟩
  refine Za5 (fun st => ∃ k : Nat, st.2.2 = k ∧ k ≤ st.2.1.length ∧ MetI G s m st.1 st.2.1 ∧ st.1.getD s false = true ∧ ∀ q, q < k → ∀ w, w < m → G (st.2.1.getD q 0).toNat w → st.1.getD w false = true) (fun st => (m - st.2.2).toNat)
    ⟨0, rfl, by omega, ⟨by simp, fun q hq => ?_, fun v hv hx => ?_, ?_⟩, by rw [Zcm, if_pos ⟨rfl, by simpa using hs⟩], fun q hq => by omega⟩ (by unfold Z4t; simp only; omega) ?_
  · have : q = 0 := by simp at hq; exact hq
    subst this
    exact ⟨s, rfl, hs, by rw [Zcm, if_pos ⟨rfl, by simpa using hs⟩], .refl⟩
  · rw [Zcm] at hx
    by_cases c1 : s = v
    · exact ⟨0, by simp, by rw [← c1]; rfl⟩
    · rw [if_neg (fun h => c1 h.1), Z2b] at hx; cases hx
  · rw [Zij (by simpa using hs) (Z2b _ _ _), Zjy, if_pos hs]; rfl
  rintro ⟨xs, row, x⟩ ⟨k, h1, hk, hI, hS, hP⟩ P next exit
  simp only at h1 hk hI hS hP next ⊢
  subst h1
  unfold g_s1
  have hle := hI.le
  simp only [Int.toNat_natCast]
  refine Ok.ite.2 ⟨fun hx => ?_, fun hx => Ok.some.2 (exit _ (Ok.some.2 ?_))⟩
  · obtain ⟨u, hu, hum, -, hur⟩ := hI.nat k (by omega)
    simp only [hu, Int.toNat_natCast, hf u (by omega)]
    refine Ok.gd.2 ⟨(by omega), Ok.gd.2 ⟨(by omega), Ok.bind.2 ?_⟩⟩
    have hmo := Z3m (al := n.Arcs) (show u ≤ u + 1 by omega)
    have hmo2 := Z3m (al := n.Arcs) (show u + 1 ≤ m by omega)
    refine Za5 (fun st => ∃ j : Nat, st.2.2 = j ∧ Z0t n.Arcs u ≤ j ∧ j ≤ Z0t n.Arcs (u + 1) ∧ MetI G s m st.1 st.2.1 ∧ st.1.getD s false = true ∧ k < st.2.1.length ∧ st.2.1.getD k 0 = u ∧ (∀ q, q < k → ∀ w, w < m → G (st.2.1.getD q 0).toNat w → st.1.getD w false = true) ∧
      ∀ i, Z0t n.Arcs u ≤ i → i < j → mb i = true → ∀ w : Nat, c.Head.getD i 0 = (w : Int) → st.1.getD w false = true) (fun st => (Z0t n.Arcs (u + 1) - st.2.2).toNat) ⟨_, rfl, Nat.le_refl _, hmo, hI, hS, by simp only; omega, hu, hP, fun i h1 h2 => by omega⟩ (by unfold Z4t; simp only; omega) ?_
    rintro ⟨ys, rw', y⟩ ⟨j, h1, hj0, hj1, hI2, hS2, hkl, hku, hP2, hA⟩ P2 next2 exit2
    simp only at h1 hI2 hS2 hkl hku hP2 hA next2 ⊢
    subst h1
    unfold g_s2
    have eu : ((u : Int) + 1).toNat = u + 1 := by omega
    have hle2 := hI2.le
    have hyl := hI2.len
    simp only [Int.toNat_natCast, hku, eu, hf (u + 1) (by omega)]
    refine Ok.gd.2 ⟨(by omega), Ok.gd.2 ⟨(by omega), Ok.gd.2 ⟨(by omega), Ok.ite.2 ⟨fun hy => ?_, fun hy => Ok.some.2 (exit2 _ ?_)⟩⟩⟩⟩
    · refine Ok.bind.2 (Z8q (hmy j (by omega)) (Ok.ite.2 ⟨fun hb => ?_, fun hb => ?_⟩))
      · obtain ⟨i, t, hi, hne, hp, q1, -, -, -, -⟩ := hc.ok.place (j := j) (by omega)
        have hv := he i hi (!t)
        obtain ⟨v, hvv⟩ : ∃ v : Nat, vtx (n.Arcs.getD i default) (!t) = v := ⟨(vtx (n.Arcs.getD i default) (!t)).toNat, by omega⟩
        rw [hvv] at q1 hv
        have hGu : G u v := by rw [← hG]; exact ⟨j, hj0, by omega, hb, q1⟩
        simp only [q1]
        refine Ok.gd.2 ⟨(by omega), Ok.bind.2 ?_⟩
        unfold Z8s
        simp only [Int.toNat_natCast]
        refine Ok.gd.2 ⟨(by omega), Ok.ite.2 ⟨fun hn => ?_, fun hn => Ok.some.2 (Ok.gd.2 ⟨(by omega), Ok.some.2 (next2 _ ⟨j + 1, by simp, by omega, by omega, hI2, hS2, hkl, hku, hP2, fun i' h1 h2 h3 w hw => ?_⟩ (by simp only; omega))⟩)⟩⟩
        · have hn' : ys.getD v false = false := by simpa using hn
          have hI3 := hI2.put (by omega) hn' (.step hur hGu)
          have up : ∀ w, ys.getD w false = true → (ys.set v true).getD w false = true := fun w hw => by
            rw [Zcm]; split
            · rfl
            · exact hw
          refine Ok.gd.2 ⟨(by omega), Ok.gd.2 ⟨?_, Ok.some.2 (Ok.gd.2 ⟨(by omega), Ok.some.2 (next2 _ ⟨j + 1, by simp, by omega, by omega, hI3, up _ hS2, by rw [List.length_append]; omega, by rw [Z4o hkl]; exact hku, fun q hq w hw hg => ?_, fun i' h1 h2 h3 w hw => ?_⟩ (by simp only; omega))⟩)⟩⟩
          · rw [List.length_append, List.length_singleton]; constructor <;> omega
          · simp only at hg ⊢
            rw [Z4o (by omega)] at hg
            exact up w (hP2 q hq w hw hg)
          · simp only
            rcases Nat.lt_or_ge i' j with h4 | h4
            · exact up w (hA i' h1 h4 h3 w hw)
            · rw [show i' = j by omega, q1] at hw
              have : v = w := by omega
              subst this
              rw [Zcm, if_pos ⟨rfl, by omega⟩]
        · simp only
          rcases Nat.lt_or_ge i' j with h4 | h4
          · exact hA i' h1 h4 h3 w hw
          · rw [show i' = j by omega, q1] at hw
            have : v = w := by omega
            subst this
            simpa using hn
      · refine Ok.gd.2 ⟨(by omega), Ok.some.2 (next2 _ ⟨j + 1, by simp, by omega, by omega, hI2, hS2, hkl, hku, hP2, fun i' h1 h2 h3 w hw => ?_⟩ (by simp only; omega))⟩
        rcases Nat.lt_or_ge i' j with h4 | h4
        · exact hA i' h1 h4 h3 w hw
        · rw [show i' = j by omega] at h3; exact absurd h3 hb
    · obtain rfl : j = Z0t n.Arcs (u + 1) := by omega
      refine Ok.gd.2 ⟨(by omega), Ok.some.2 (next _ ⟨k + 1, by simp, by simp only; omega, hI2, hS2, fun q hq w hw hg => ?_⟩ (by simp only; omega))⟩
      simp only at hg ⊢
      rcases Nat.lt_or_ge q k with h4 | h4
      · exact hP2 q h4 w hw hg
      · rw [show q = k by omega, hku, Int.toNat_natCast, ← hG] at hg
        obtain ⟨i, h5, h6, h7, h8⟩ := hg
        exact hA i h5 h6 h7 w h8
  · obtain rfl : k = row.length := by omega
    refine ⟨hI.len, fun v hv => ⟨fun hx => ?_, fun hr => ?_⟩⟩
    · obtain ⟨q, hq, hqv⟩ := hI.has v hv hx
      obtain ⟨u, h1, h2, h3, h4⟩ := hI.nat q hq
      have : u = v := by omega
      subst this; exact h4
    · clear hv
      have : v < m ∧ xs.getD v false = true := by
        induction hr with
        | refl => exact ⟨hs, hS⟩
        | step _ hg ih =>
          obtain ⟨h1, h2⟩ := ih
          rename_i u w _
          have hw : w < m := by
            rw [← hG] at hg
            obtain ⟨i, h5, h6, h7, h8⟩ := hg
            have := Z3m (al := n.Arcs) (show u + 1 ≤ m by omega)
            obtain ⟨i', t, hi, hne, hp, q1, -, -, -, -⟩ := hc.ok.place (j := i) (by omega)
            have hv := he i' hi (!t)
            omega
          obtain ⟨q, hq, hqv⟩ := hI.has u h1 h2
          refine ⟨hw, hP q hq w hw ?_⟩
          rw [hqv, Int.toNat_natCast]; exact hg
      exact this.2
def Zec (n : Net) (f : List Int) (u v : Nat) : Prop := ∃ i, i < n.Arcs.length ∧ (n.Arcs.getD i default).fr ≠ (n.Arcs.getD i default).to ∧
  (((n.Arcs.getD i default).fr = u ∧ (n.Arcs.getD i default).to = v ∧ f.getD i 0 < (n.Arcs.getD i default).cap) ∨ ((n.Arcs.getD i default).to = u ∧ (n.Arcs.getD i default).fr = v ∧ 0 < f.getD i 0))
theorem s_left {n : Net} {f : List Int} (hl : lenok n.Arcs.length) : Ok (Z9p n f) (fun r => (FwithinP n f ∧ r.2.2 = 0 ∧ CsrIs n n.N.toNat r.1 ∧ ResAt r.1.Arc r.1.Cap r.1.Back f (Z0t n.Arcs n.N.toNat) (Z0t n.Arcs n.N.toNat) r.2.1) ∨ (¬FwithinP n f ∧ r.2.2 = 20)) := by
 unfold Z9p
 refine Ok.bind.2 (Ok.mono (Znr hl) fun b hb => Ok.ite.2 ⟨fun h => Ok.some.2 (.inr ⟨fun h2 => (by rw [hb.2 h2] at h; cases h), rfl⟩), fun h => ?_⟩)
 have hw := hb.1 (Zkd h)
 have hz := Z31 hw.1
 obtain ⟨m, hm, he⟩ := Zl7 hw.1
 refine Ok.bind.2 (Ok.mono (s_Make hm hw.1 hl) ?_)
 rintro ⟨c, e⟩ ⟨hc, rfl⟩
 have hc : CsrIs n m c := hc
 simp only
 rw [if_neg (by simp)]
 have hbs := Z56 (al := n.Arcs) (v := m) (by omega) (by omega)
 have hcaps := Zdd hw.1
 have hcapt : ∀ i, i < n.Arcs.length → (n.Arcs.getD i default).cap ≤ 4611686018427387904 := fun i hi => by
  have h1 := Zhm hw.1 (i + 1) hi
  have h2 := Zhm hw.1 i (by omega)
  simp only [totC] at h1
  omega
 refine Ok.bind.2 (Ok.mono (s_Res (L := Z0t n.Arcs m) hc.ok.lh hc.ok.lc hc.ok.la hc.ok.lb hbs hc.ok.aa0 fun j hj => ?_) ?_)
 ·
  obtain ⟨i, s, hi, hne, hp, q1, q2, q3, q4, q5⟩ := hc.ok.place hj
  have := hcaps i hi
  have := hcapt i hi
  rw [q3]; split <;> omega
 ·
  rintro ⟨r, e⟩ (⟨-, h1, h2⟩ | ⟨⟨j, hj, hbad⟩, -⟩)
  ·
   refine Ok.some.2 (.inl ⟨hw, h1, ?_, ?_⟩)
   · rw [hm, Int.toNat_natCast]; exact hc
   · rw [hm, Int.toNat_natCast]; exact h2
  ·
   exfalso
   obtain ⟨i, s, hi, hne, hp, q1, q2, q3, q4, q5⟩ := hc.ok.place hj
   refine hbad ?_
   unfold Zk3
   rw [q3, q4, q5]
   have := hw.2.1
   refine ⟨by omega, ?_⟩
   cases s
   · right; simp only [Int.toNat_natCast, Bool.false_eq_true, if_false]; exact hw.2.2 i hi
   · exact .inl rfl
theorem Zir {n : Net} {m : Nat} {c : Csr} {f r : List Int} (hc : CsrIs n m c) (he : Z5i m n.Arcs) (hr : ResAt c.Arc c.Cap c.Back f (Z0t n.Arcs m) (Z0t n.Arcs m) r) {i : Nat} {s : Bool} (hi : i < n.Arcs.length) (hne : (n.Arcs.getD i default).fr ≠ (n.Arcs.getD i default).to) :
    r.getD (pos n.Arcs i s) 0 = if s then f.getD i 0 else (n.Arcs.getD i default).cap - f.getD i 0 := by
  obtain ⟨z1, z2, z3, z4, z5⟩ := hc.ok.hat i hi hne s
  rw [(hr.2 _ (Zaz hi hne he)).2]
  unfold resV
  rw [z3, z4, z5]
  cases s <;> simp
theorem Zny {n : Net} {m : Nat} {c : Csr} {f r : List Int} (hc : CsrIs n m c) (he : Z5i m n.Arcs) (hr : ResAt c.Arc c.Cap c.Back f (Z0t n.Arcs m) (Z0t n.Arcs m) r) {u v : Nat} (hu : u < m) (t : Bool) :
    (∃ j, Z0t n.Arcs u ≤ j ∧ j < Z0t n.Arcs (u + 1) ∧ (decide (0 < r.getD (if t then (c.Rev.getD j 0).toNat else j) 0)) = true ∧ c.Head.getD j 0 = (v : Int)) ↔ (if t then Zec n f v u else Zec n f u v) := by
  have hmo := Z3m (al := n.Arcs) (show u + 1 ≤ m by omega)
  constructor
  · rintro ⟨j, h1, h2, h3, h4⟩
    obtain ⟨i, s, hi, hne, hp, q1, q2, q3, q4, q5⟩ := hc.ok.place (j := j) (by omega)
    have hv := he i hi s
    obtain ⟨p1, p2⟩ := Znv (v := u) hi hne hv.1 (by omega) (by omega)
    have h3 := of_decide_eq_true h3
    rw [q1] at h4
    have ha : (if t then (c.Rev.getD j 0).toNat else j) = pos n.Arcs i (if t then !s else s) := by
      cases t
      · exact hp.symm
      · show (c.Rev.getD j 0).toNat = _
        rw [q2, Int.toNat_natCast]; rfl
    rw [ha, Zir hc he hr hi hne] at h3
    cases t <;> cases s <;> simp only [Bool.not_true, Bool.not_false, if_true, if_false, Bool.false_eq_true, vtx] at h3 h4 p1 ⊢
    · exact ⟨i, hi, hne, .inl ⟨p1, h4, by omega⟩⟩
    · exact ⟨i, hi, hne, .inr ⟨p1, h4, h3⟩⟩
    · exact ⟨i, hi, hne, .inr ⟨h4, p1, h3⟩⟩
    · exact ⟨i, hi, hne, .inl ⟨h4, p1, by omega⟩⟩
  · intro h
    have key : ∀ (i : Nat) (s : Bool), i < n.Arcs.length → (n.Arcs.getD i default).fr ≠ (n.Arcs.getD i default).to → vtx (n.Arcs.getD i default) s = (u : Int) → vtx (n.Arcs.getD i default) (!s) = (v : Int) → 0 < r.getD (pos n.Arcs i (if t then !s else s)) 0 →
        ∃ j, Z0t n.Arcs u ≤ j ∧ j < Z0t n.Arcs (u + 1) ∧ (decide (0 < r.getD (if t then (c.Rev.getD j 0).toNat else j) 0)) = true ∧ c.Head.getD j 0 = (v : Int) := by
      intro i s hi hne hu' hv' h0
      have hcl := Zds (s := s) hi hne (by omega)
      have hpos : pos n.Arcs i s = Z0t n.Arcs u + cnt n.Arcs u i := by unfold pos; rw [hu', Int.toNat_natCast]
      rw [hu', Int.toNat_natCast] at hcl
      have hb1 : Z0t n.Arcs (u + 1) = Z0t n.Arcs u + cnt n.Arcs u n.Arcs.length := rfl
      obtain ⟨z1, z2, z3, z4, z5⟩ := hc.ok.hat i hi hne s
      refine ⟨pos n.Arcs i s, by omega, by omega, decide_eq_true ?_, by rw [z1]; exact hv'⟩
      rw [z2]
      cases t
      · simpa using h0
      · simpa using h0
    cases t
    · simp only [Bool.false_eq_true, if_false] at h key ⊢
      obtain ⟨i, hi, hne, ⟨a1, a2, a3⟩ | ⟨a1, a2, a3⟩⟩ := h
      · refine key i false hi hne (by simpa [vtx] using a1) (by simpa [vtx] using a2) ?_
        rw [Zir hc he hr hi hne]; simp only [Bool.false_eq_true, if_false]; omega
      · refine key i true hi hne (by simpa [vtx] using a1) (by simpa [vtx] using a2) ?_
        rw [Zir hc he hr hi hne]; simpa using a3
    · simp only [if_true] at h key ⊢
      obtain ⟨i, hi, hne, ⟨a1, a2, a3⟩ | ⟨a1, a2, a3⟩⟩ := h
      · refine key i true hi hne (by simpa [vtx] using a2) (by simpa [vtx] using a1) ?_
        rw [Zir hc he hr hi hne]; simp only [Bool.not_true, Bool.false_eq_true, if_false]; omega
      · refine key i false hi hne (by simpa [vtx] using a2) (by simpa [vtx] using a1) ?_
        rw [Zir hc he hr hi hne]; simpa using a3
theorem Zk5 {n : Net} {m : Nat} {f : List Int} (he : Z5i m n.Arcs) {G : Nat → Nat → Prop} {s : Nat} (hs : s < m) (h : ∀ u v, u < m → (G u v ↔ Zec n f v u)) {v : Nat} : Reach G s v ↔ Reach (Zec n f) v s := by
 have lt : ∀ {u w}, Zec n f u w → u < m ∧ w < m := by
  rintro u w ⟨i, hi, _, h1⟩
  have h0 := he i hi false
  have h2 := he i hi true
  simp only [vtx, Bool.false_eq_true, if_false, if_true] at h0 h2
  omega
 constructor
 ·
  intro hr
  have : v < m ∧ Reach (fun a b => Zec n f b a) s v := by
   induction hr with
   | refl => exact ⟨hs, .refl⟩
   | step _ hg ih => have ho := (h _ _ ih.1).1 hg; exact ⟨(lt ho).1, .step ih.2 ho⟩
  exact this.2.flip
 ·
  intro hr
  exact hr.flip.mono fun u w ho => (h u w (lt ho).2).2 ho
theorem s_To {n : Net} {f : List Int} (hl : lenok n.Arcs.length) : Ok (Zcl n f) (fun r => (FwithinP n f ∧ r.2 = 0 ∧ r.1.length = n.N.toNat ∧ ∀ v, v < n.N.toNat → (r.1.getD v false = true ↔ ¬Reach (Zec n f) v n.T.toNat)) ∨ (¬FwithinP n f ∧ r = ([], 20))) := by
 unfold Zcl
 refine Ok.bind.2 (Ok.mono (s_left hl) ?_)
 rintro ⟨c, r, e⟩ (⟨hw, h1, hc, hr⟩ | ⟨hw, h1⟩)
 rotate_left
 ·
  simp only at h1
  subst h1
  exact Ok.ite.2 ⟨fun _ => Ok.some.2 (.inr ⟨hw, rfl⟩), fun h => absurd (by omega) h⟩
 simp only at h1 hc hr
 subst h1
 simp only
 rw [if_neg (by simp)]
 have hz := Z31 hw.1
 simp only [Z3f, decide_eq_true_eq] at hz
 obtain ⟨m, hm, he⟩ := Zl7 hw.1
 obtain ⟨t, ht⟩ : ∃ t : Nat, n.T = t := ⟨n.T.toNat, by omega⟩
 rw [hm, Int.toNat_natCast] at hc hr
 have hbs := Z56 (al := n.Arcs) (v := m) (by omega) (by omega)
 have hrl := hr.1
 have hlr := hc.ok.lr
 rw [g_To, ht]
 refine Ok.bind.2 (Ok.mono (s_met (mb := fun j => decide (0 < r.getD (c.Rev.getD j 0).toNat 0)) hc he (by omega) (by omega) (show t < m by omega) fun j hj => ?_) fun x hx => Ok.bind.2 ?_)
 ·
  unfold Z9q
  obtain ⟨i, s, hi, hne, hp, q1, q2, q3, q4, q5⟩ := hc.ok.place hj
  have hq : pos n.Arcs i (!s) < Z0t n.Arcs m := Zaz hi hne he
  simp only [Int.toNat_natCast, q2]
  rw [Z81 (by constructor <;> omega), Z81 (by constructor <;> omega)]
 have hxl := hx.1
 refine Za5 (fun s => ∃ k : Nat, s.2 = k ∧ k ≤ m ∧ s.1.length = m ∧ ∀ v, v < m → s.1.getD v false = if v < k then !x.getD v false else x.getD v false) (fun s => (m - s.2).toNat) ⟨0, rfl, by omega, hxl, fun v hv => by rw [if_neg (by omega)]⟩ (by unfold Z4t; simp only; omega) ?_
 rintro ⟨ys, y⟩ ⟨k, h1, hk, hyl, hy⟩ P next exit
 simp only at h1 hyl hy next ⊢
 subst h1
 unfold Z8t
 simp only [Int.toNat_natCast]
 refine Ok.ite.2 ⟨fun h => Ok.gd.2 ⟨(by omega), Ok.gd.2 ⟨(by omega), Ok.gd.2 ⟨(by omega), Ok.some.2 (next _ ⟨k + 1, by simp, by omega, by simp [hyl], fun v hv => ?_⟩ (by simp only; omega))⟩⟩⟩, fun h => Ok.some.2 (exit _ ?_)⟩
 ·
  simp only [Zcm]
  by_cases c1 : k = v
  ·
   subst c1
   rw [if_pos ⟨rfl, by omega⟩, if_pos (by omega), hy k hv, if_neg (by omega)]
  ·
   rw [if_neg (fun h => c1 h.1), hy v hv]
   by_cases c2 : v < k
   · rw [if_pos c2, if_pos (by omega)]
   · rw [if_neg c2, if_neg (by omega)]
 ·
  obtain rfl : k = m := by omega
  unfold Zaa
  refine Ok.some.2 (.inl ⟨hw, rfl, by simp only [hm, Int.toNat_natCast]; exact hyl, fun v hv => ?_⟩)
  rw [hm, Int.toNat_natCast] at hv
  simp only
  rw [hy v hv, if_pos hv, Int.toNat_natCast]
  have h2 := (hx.2 v hv).trans (Zk5 he (by omega) fun u w hu => by simpa using Zny (v := w) hc he hr hu true)
  rw [← h2]
  cases x.getD v false <;> simp
end Go.Acq
namespace Go.Acq
open Go
set_option linter.unusedSimpArgs false
def Ze4 (al : List Arc) (f : List Int) (c : List Bool) (j : Int) : Nat → Int
  | 0 => 0
  | k + 1 => Ze4 al f c j k - (if (al.getD k default).fr < j ∧ inS c (al.getD k default).fr = false then f.getD k 0 else 0) + (if (al.getD k default).to < j ∧ inS c (al.getD k default).to = false then f.getD k 0 else 0)
theorem Zd8 {al : List Arc} {f : List Int} {c : List Bool} (j : Int) : ∀ k, Ze4 al f c (j + 1) k = Ze4 al f c j k + (if inS c j = false then ex al f j k else 0)
 | 0 => by simp [Ze4, ex]
 | k + 1 => by
  have ih := Zd8 (al := al) (f := f) (c := c) j k
  simp only [Ze4, ex, ih]
  have e1 : ∀ x : Int, (if x < j + 1 ∧ inS c x = false then f.getD k 0 else 0) = (if x < j ∧ inS c x = false then f.getD k 0 else 0) + (if x = j ∧ inS c j = false then f.getD k 0 else 0) := fun x => by
   by_cases h1 : x < j
   ·
    by_cases h3 : inS c x = false
    · rw [if_pos ⟨by omega, h3⟩, if_pos ⟨h1, h3⟩, if_neg (fun h => by omega)]; omega
    · rw [if_neg (fun h => h3 h.2), if_neg (fun h => h3 h.2), if_neg (fun h => by omega)]; omega
   ·
    by_cases h2 : x = j
    ·
     subst h2
     by_cases h3 : inS c x = false
     · rw [if_pos ⟨by omega, h3⟩, if_neg (fun h => h1 h.1), if_pos ⟨rfl, h3⟩]; omega
     · rw [if_neg (fun h => h3 h.2), if_neg (fun h => h3 h.2), if_neg (fun h => h3 h.2)]; omega
    · rw [if_neg (fun h => by omega), if_neg (fun h => by omega), if_neg (fun h => h2 h.1)]; omega
  rw [e1, e1]
  by_cases h : inS c j = false
  ·
   simp only [h, and_true, if_true]
   omega
  ·
   simp only [h, Bool.not_eq_false, and_false, if_false, ite_false, reduceCtorEq]
   omega
theorem Zd9 {al : List Arc} {f : List Int} {c : List Bool} {m : Nat} (he : Z5i m al) : ∀ k, k ≤ al.length → Ze4 al f c 0 k = 0
 | 0, _ => rfl
 | k + 1, hk => by
  have h0 := he k hk false
  have h1 := he k hk true
  simp only [vtx, Bool.false_eq_true, if_false, if_true] at h0 h1
  simp only [Ze4, Zd9 he k (by omega)]
  rw [if_neg (fun h => by omega), if_neg (fun h => by omega)]; rfl
theorem Zeu {al : List Arc} {f : List Int} {c : List Bool} {m : Nat} (he : Z5i m al) : ∀ k, k ≤ al.length → Ze4 al f c m k = acK al f c k
 | 0, _ => rfl
 | k + 1, hk => by
  have h0 := he k hk false
  have h1 := he k hk true
  simp only [vtx, Bool.false_eq_true, if_false, if_true] at h0 h1
  simp only [Ze4, acK, Zeu he k (by omega)]
  obtain ⟨A, hA⟩ : ∃ A, al.getD k default = A := ⟨_, rfl⟩
  obtain ⟨F, hF⟩ : ∃ F, f.getD k 0 = F := ⟨_, rfl⟩
  rw [hA] at h0 h1 ⊢
  rw [hF]
  cases a : inS c A.fr <;> cases b : inS c A.to <;> simp [h0.2, h1.2] <;> omega
theorem Zod {al : List Arc} {f : List Int} {c : List Bool} (h : ∀ i, i < al.length → 0 ≤ f.getD i 0 ∧ f.getD i 0 ≤ (al.getD i default).cap) : ∀ k, k ≤ al.length → acK al f c k ≤ Zna al c k ∧ (acK al f c k = Zna al c k ↔ ∀ i, i < k → Zbt al f c i)
 | 0, _ => ⟨Int.le_refl _, fun _ i hi => by omega, fun _ => rfl⟩
 | k + 1, hk => by
  obtain ⟨g1, g2⟩ := Zod (c := c) h k (by omega)
  have hf := h k (by omega)
  have key : (∀ i, i < k + 1 → Zbt al f c i) ↔ (∀ i, i < k → Zbt al f c i) ∧ Zbt al f c k :=
   ⟨fun hh => ⟨fun i hi => hh i (by omega), hh k (by omega)⟩, fun hh i hi => by
    rcases Nat.lt_or_ge i k with h1 | h1
    · exact hh.1 i h1
    · rw [show i = k by omega]; exact hh.2⟩
  rw [key, ← g2]
  simp only [acK, Zna, Zbt]
  obtain ⟨A, hA⟩ : ∃ A, al.getD k default = A := ⟨_, rfl⟩
  obtain ⟨F, hF⟩ : ∃ F, f.getD k 0 = F := ⟨_, rfl⟩
  rw [hA, hF] at hf
  rw [hA, hF]
  cases a : inS c A.fr <;> cases b : inS c A.to <;> simp <;> omega
theorem Zk9 {n : Net} {f : List Int} {c : List Bool} {m : Nat} (hm : n.N = m) (he : Z5i m n.Arcs) (hA : AllP n f (fun x => x = 0) [n.S, n.T]) (hc : CutR n c) : acK n.Arcs f c n.Arcs.length = ex n.Arcs f n.T n.Arcs.length := by
 have hz := Z31 hc.1
 simp only [Z3f, decide_eq_true_eq] at hz
 have hj : ∀ j : Nat, j ≤ m → Ze4 n.Arcs f c j n.Arcs.length = if n.T < j then ex n.Arcs f n.T n.Arcs.length else 0 := by
  intro j
  induction j with
  | zero => intro _; rw [show ((0 : Nat) : Int) = 0 from rfl, Zd9 he _ (Nat.le_refl _), if_neg (by omega)]
  | succ j ih =>
   intro hj
   rw [Int.natCast_succ, Zd8, ih (by omega)]
   by_cases c1 : n.T = j
   · rw [← c1, if_neg (by omega), if_pos hc.2.2.2, if_pos (by omega)]; omega
   ·
    have hz : (if inS c j = false then ex n.Arcs f j n.Arcs.length else 0) = 0 := by
     by_cases c2 : inS c j = false
     ·
      rw [if_pos c2]
      rcases hA.2 j (by omega) with h7 | h7
      · exact h7
      ·
       simp only [List.mem_cons, List.not_mem_nil, or_false] at h7
       rcases h7 with h7 | h7
       · rw [h7, hc.2.2.1] at c2; cases c2
       · exact absurd h7.symm c1
     · rw [if_neg c2]
    rw [hz]
    by_cases c3 : n.T < j
    · rw [if_pos c3, if_pos (by omega)]; omega
    · rw [if_neg c3, if_neg (by omega)]; rfl
 have := hj m (Nat.le_refl _)
 rw [Zeu he _ (Nat.le_refl _), if_pos (by omega)] at this
 exact this
end Go.Acq
namespace Go.Acq
open Go
set_option linter.unusedSimpArgs false
def Z75 (g : Nat → Int) : Nat → Int
  | 0 => 0
  | k + 1 => Z75 g k + g k
theorem Zgn {g h : Nat → Int} : ∀ {k : Nat}, (∀ i, i < k → g i = h i) → Z75 g k = Z75 h k
 | 0, _ => rfl
 | k + 1, e => by simp only [Z75]; rw [Zgn fun i hi => e i (by omega), e k (by omega)]
theorem Zhq (g h : Nat → Int) : ∀ k, Z75 (fun i => g i + h i) k = Z75 g k + Z75 h k
 | 0 => rfl
 | k + 1 => by simp only [Z75, Zhq g h k]; omega
theorem Znm {g : Nat → Int} {k : Nat} (h : ∀ i, i < k → g i = 0) : Z75 g k = 0 := by
 induction k with
 | zero => rfl
 | succ k ih => simp only [Z75]; rw [ih fun i hi => h i (by omega), h k (by omega)]; rfl
theorem Za7 {g : Nat → Int} {i : Nat} : ∀ {k : Nat}, i < k → (∀ j, j < k → j ≠ i → g j = 0) → Z75 g k = g i
 | 0, h, _ => by omega
 | k + 1, h, e => by
  simp only [Z75]
  by_cases c : i = k
  · subst c; rw [Znm fun j hj => e j (by omega) (by omega)]; omega
  · rw [Za7 (show i < k by omega) fun j hj hne => e j (by omega) hne, e k (by omega) (fun h => c h.symm)]; omega
theorem Zel {g h : Nat → Int} : ∀ {k : Nat}, (∀ i, i < k → g i ≤ h i) → Z75 g k ≤ Z75 h k
 | 0, _ => Int.le_refl _
 | k + 1, e => by
  have := Zel (k := k) fun i hi => e i (by omega)
  have := e k (by omega)
  simp only [Z75]; omega
theorem Zil {g : Nat → Int} {k : Nat} : ∀ {l : Nat}, k ≤ l → (∀ i, i < l → 0 ≤ g i) → Z75 g k ≤ Z75 g l
 | 0, h, _ => by rw [show k = 0 by omega]; exact Int.le_refl _
 | l + 1, h, e => by
  by_cases c : k = l + 1
  · subst c; exact Int.le_refl _
  ·
   have := Zil (show k ≤ l by omega) fun i hi => e i (by omega)
   have := e l (by omega)
   simp only [Z75]; omega
theorem sumN_nn {g : Nat → Int} {k : Nat} (h : ∀ i, i < k → 0 ≤ g i) : 0 ≤ Z75 g k := Zil (Nat.zero_le k) h
def hd (c : Csr) (j : Nat) : Nat := (c.Head.getD j 0).toNat
def rv (c : Csr) (j : Nat) : Nat := (c.Rev.getD j 0).toNat
def fs (c : Csr) (v : Nat) : Nat := (c.First.getD v 0).toNat
def tl (c : Csr) (j : Nat) : Nat := hd c (rv c j)
def bk (c : Csr) (j : Nat) : Bool := c.Back.getD j false
def cp (c : Csr) (j : Nat) : Int := max (c.Cap.getD j 0) (c.Cap.getD (rv c j) 0)
structure Row (n : Net) (m L : Nat) (c : Csr) : Prop where
  is : CsrIs n m c
  chk : Z38 n.N n.S n.T n.Arcs = 0
  hm : n.N = m
  hL : Z0t n.Arcs m = L
section row
variable {n : Net} {m L : Nat} {c : Csr}
theorem Row.he (r : Row n m L c) : Z5i m n.Arcs := Zcr (by rw [← r.hm]; exact (Z31 r.chk).2.2.2.1)
theorem Row.bd (r : Row n m L c) : 2 ≤ m ∧ m ≤ 4096 ∧ n.Arcs.length ≤ 16384 ∧ L ≤ 67108864 := by
 have hz := Z31 r.chk
 have := r.hm
 have hb := Z56 (al := n.Arcs) (v := m) (by omega) (by omega)
 have := r.hL
 omega
theorem Row.ends (r : Row n m L c) : (∃ S : Nat, n.S = S ∧ c.S = S ∧ S < m) ∧ (∃ T : Nat, n.T = T ∧ c.T = T ∧ T < m) ∧ n.S ≠ n.T ∧ c.N = m := by
 have hz := Z31 r.chk
 simp only [Z3f, decide_eq_true_eq] at hz
 have h1 := r.hm
 have h2 := r.is.hS
 have h3 := r.is.hT
 exact ⟨⟨n.S.toNat, by omega, by omega, by omega⟩, ⟨n.T.toNat, by omega, by omega, by omega⟩, hz.2.2.1.2.2, r.is.hN⟩
theorem Row.caps (r : Row n m L c) : ∀ i, i < n.Arcs.length → 0 ≤ (n.Arcs.getD i default).cap ∧ (n.Arcs.getD i default).cap ≤ 4611686018427387904 := fun i hi => by
 have h0 := Zdd r.chk i hi
 have h1 := Zhm r.chk (i + 1) hi
 have h2 := Zhm r.chk i (by omega)
 simp only [totC] at h1
 omega
theorem Row.lens (r : Row n m L c) : c.First.length = m + 1 ∧ c.Head.length = L ∧ c.Rev.length = L ∧ c.Cap.length = L ∧ c.Arc.length = L ∧ c.Back.length = L := by
 have h := r.is.ok
 rw [← r.hL]
 exact ⟨h.lf, h.lh, h.lr, h.lc, h.la, h.lb⟩
theorem Row.at (r : Row n m L c) {j : Nat} (hj : j < L) : ∃ i s, i < n.Arcs.length ∧ (n.Arcs.getD i default).fr ≠ (n.Arcs.getD i default).to ∧ pos n.Arcs i s = j ∧ c.Head.getD j 0 = (hd c j : Nat) ∧ (hd c j : Int) = vtx (n.Arcs.getD i default) (!s) ∧ (tl c j : Int) = vtx (n.Arcs.getD i default) s ∧
    c.Rev.getD j 0 = (rv c j : Nat) ∧ rv c j = pos n.Arcs i (!s) ∧ c.Cap.getD j 0 = (if s then 0 else (n.Arcs.getD i default).cap) ∧ c.Arc.getD j 0 = i ∧ bk c j = s := by
  obtain ⟨i, s, hi, hne, hp, q1, q2, q3, q4, q5⟩ := r.is.ok.place (by rw [r.hL]; exact hj)
  have hv := r.he i hi (!s)
  have hv2 := r.he i hi s
  have hr : rv c j = pos n.Arcs i (!s) := by unfold rv; rw [q2, Int.toNat_natCast]
  refine ⟨i, s, hi, hne, hp, by unfold hd; omega, by unfold hd; omega, ?_, by unfold rv; omega, hr, q3, q4, q5⟩
  unfold tl hd
  rw [hr, (r.is.ok.hat i hi hne (!s)).1, Bool.not_not]; omega
theorem Row.head (r : Row n m L c) {j : Nat} (hj : j < L) : c.Head.getD j 0 = (hd c j : Nat) ∧ hd c j < m := by
 obtain ⟨i, s, hi, hne, hp, q1, q2, q3, q4, q5, q6, q7, q8⟩ := r.at hj
 have hv := r.he i hi (!s)
 exact ⟨q1, by omega⟩
theorem Row.rev (r : Row n m L c) {j : Nat} (hj : j < L) : c.Rev.getD j 0 = (rv c j : Nat) ∧ rv c j < L ∧ rv c (rv c j) = j ∧ rv c j ≠ j := by
 obtain ⟨i, s, hi, hne, hp, q1, q2, q3, q4, q5, q6, q7, q8⟩ := r.at hj
 have hq : pos n.Arcs i (!s) < L := by rw [← r.hL]; exact Zaz hi hne r.he
 refine ⟨q4, by rw [q5]; exact hq, ?_, fun e => ?_⟩
 ·
  have := (r.is.ok.hat i hi hne (!s)).2.1
  rw [q5]; unfold rv; rw [this, Int.toNat_natCast, Bool.not_not, hp]
 ·
  have := (Z9g r.he hi hi hne hne (q5.symm.trans (e.trans hp.symm))).2
  cases s <;> cases this
theorem Row.tlh (r : Row n m L c) {j : Nat} (hj : j < L) : tl c j < m ∧ tl c (rv c j) = hd c j ∧ hd c (rv c j) = tl c j ∧ tl c j ≠ hd c j := by
 obtain ⟨i, s, hi, hne, hp, q1, q2, q3, q4, q5, q6, q7, q8⟩ := r.at hj
 have hv := r.he i hi s
 refine ⟨by omega, ?_, rfl, fun e => ?_⟩
 · unfold tl; rw [(r.rev hj).2.2.1]
 ·
  apply hne
  have : vtx (n.Arcs.getD i default) s = vtx (n.Arcs.getD i default) (!s) := by omega
  cases s <;> simpa [vtx, eq_comm] using this
theorem Row.back (r : Row n m L c) {j : Nat} (hj : j < L) : bk c (rv c j) = !bk c j := by
 obtain ⟨i, s, hi, hne, hp, q1, q2, q3, q4, q5, q6, q7, q8⟩ := r.at hj
 unfold bk at q8 ⊢
 rw [q5, (r.is.ok.hat i hi hne (!s)).2.2.2.2, q8]
theorem Row.first (r : Row n m L c) : (∀ v, v ≤ m → c.First.getD v 0 = (fs c v : Nat) ∧ fs c v = Z0t n.Arcs v) ∧ fs c 0 = 0 ∧ fs c m = L ∧ ∀ v, v < m → fs c v ≤ fs c (v + 1) ∧ fs c (v + 1) ≤ L := by
 have h : ∀ v, v ≤ m → c.First.getD v 0 = (fs c v : Nat) ∧ fs c v = Z0t n.Arcs v := fun v hv => by
  have := r.is.ok.hf v hv
  unfold fs; rw [this, Int.toNat_natCast]; exact ⟨rfl, rfl⟩
 refine ⟨h, by rw [(h 0 (by omega)).2]; rfl, by rw [(h m (Nat.le_refl _)).2]; exact r.hL, fun v hv => ?_⟩
 rw [(h v (by omega)).2, (h (v + 1) (by omega)).2, ← r.hL]
 exact ⟨Z3m (by omega), Z3m (by omega)⟩
theorem Row.range (r : Row n m L c) {j u : Nat} (hj : j < L) (hu : u < m) : (fs c u ≤ j ∧ j < fs c (u + 1)) ↔ tl c j = u := by
 obtain ⟨i, s, hi, hne, hp, q1, q2, q3, q4, q5, q6, q7, q8⟩ := r.at hj
 have hv := r.he i hi s
 have f1 := (r.first.1 u (by omega)).2
 have f2 := (r.first.1 (u + 1) (by omega)).2
 constructor
 ·
  rintro ⟨h1, h2⟩
  have := (Znv (v := u) hi hne hv.1 (by omega) (by omega)).1
  omega
 ·
  intro h
  have hcl := Zds (s := s) hi hne hv.1
  have hpos : pos n.Arcs i s = Z0t n.Arcs (vtx (n.Arcs.getD i default) s).toNat + cnt n.Arcs (vtx (n.Arcs.getD i default) s).toNat i := rfl
  have e : (vtx (n.Arcs.getD i default) s).toNat = u := by omega
  rw [e] at hcl hpos
  have hb1 : Z0t n.Arcs (u + 1) = Z0t n.Arcs u + cnt n.Arcs u n.Arcs.length := rfl
  omega
theorem Row.cap (r : Row n m L c) {j : Nat} (hj : j < L) : 0 ≤ c.Cap.getD j 0 ∧ c.Cap.getD j 0 + c.Cap.getD (rv c j) 0 = cp c j ∧ cp c (rv c j) = cp c j ∧ 0 ≤ cp c j ∧ cp c j ≤ 4611686018427387904 ∧ (bk c j = true → c.Cap.getD j 0 = 0) := by
 obtain ⟨i, s, hi, hne, hp, q1, q2, q3, q4, q5, q6, q7, q8⟩ := r.at hj
 have hc := r.caps i hi
 have h2 : c.Cap.getD (rv c j) 0 = if (!s) then 0 else (n.Arcs.getD i default).cap := by rw [q5]; exact (r.is.ok.hat i hi hne (!s)).2.2.1
 have h3 := (r.rev hj).2.2.1
 unfold cp
 rw [h3, q6, h2, q8]
 cases s
 · simp only [Bool.not_false, if_true, Bool.false_eq_true, if_false, false_implies, and_true]; omega
 · simp only [Bool.not_true, if_true, Bool.false_eq_true, if_false, true_implies, and_true]; omega
theorem Row.cpPos (r : Row n m L c) {i : Nat} (hi : i < n.Arcs.length) (hne : (n.Arcs.getD i default).fr ≠ (n.Arcs.getD i default).to) (s : Bool) : cp c (pos n.Arcs i s) = (n.Arcs.getD i default).cap ∧ rv c (pos n.Arcs i s) = pos n.Arcs i (!s) ∧ pos n.Arcs i s < L := by
 have z := r.is.ok.hat i hi hne s
 have z2 := r.is.ok.hat i hi hne (!s)
 have hc := r.caps i hi
 have hr : rv c (pos n.Arcs i s) = pos n.Arcs i (!s) := by unfold rv; rw [z.2.1, Int.toNat_natCast]
 refine ⟨?_, hr, by rw [← r.hL]; exact Zaz hi hne r.he⟩
 unfold cp
 rw [hr, z.2.2.1, z2.2.2.1]
 cases s <;> simp only [Bool.not_true, Bool.not_false, if_true, Bool.false_eq_true, if_false] <;> omega
theorem Znq {S X : Type} {y : S → Int → Option (S ⊕ X)} {s0 : S} {u : Nat} (r : Row n m L c) (hu : u < m) (I : Nat → S → Prop) (J : X → Prop) (h0 : I (fs c u) s0)
    (hstep : ∀ j s, fs c u ≤ j → j < fs c (u + 1) → I j s → Ok (y s (j : Nat)) (fun t => match t with | .inl s' => I (j + 1) s' | .inr x => J x)) :
    Ok (Z50 y c (u : Nat) (.inl s0)) (fun t => match t with | .inl s => I (fs c (u + 1)) s | .inr x => J x) := by
  have lf := r.lens.1
  have b := r.bd
  have f1 := (r.first.1 u (by omega)).1
  have f2 := (r.first.1 (u + 1) (by omega)).1
  have f3 := r.first.2.2.2 u hu
  have e1 : ((u : Int) + 1).toNat = u + 1 := by omega
  unfold Z50
  simp only [Int.toNat_natCast, f1]
  refine Ok.gd.2 ⟨(by omega), Ok.bind.2 (Za5 (fun s => ∃ (k : Nat) (st : S), s = ((k : Int), Sum.inl st) ∧ fs c u ≤ k ∧ k ≤ fs c (u + 1) ∧ I k st) (fun s => (fs c (u + 1) - s.1).toNat) ⟨fs c u, s0, rfl, Nat.le_refl _, f3.1, h0⟩ (by unfold Z4t; simp only; omega) ?_)⟩
  rintro s ⟨k, st, rfl, hk0, hk, hI⟩ P next exit
  unfold Z4z
  simp only [Int.toNat_natCast, e1, f2]
  refine Ok.gd.2 ⟨(by omega), Ok.gd.2 ⟨(by omega), Ok.ite.2 ⟨fun hx => ?_, fun hx => Ok.some.2 (exit _ (Ok.some.2 ?_))⟩⟩⟩
  · refine Ok.bind.2 ?_
    show Ok (y st _) _
    refine Ok.mono (hstep k st hk0 (by omega) hI) ?_
    rintro (s' | x) hr
    · exact Ok.ite.2 ⟨fun h => by simp at h, fun _ => Ok.gd.2 ⟨(by omega), Ok.some.2 (next _ ⟨k + 1, s', by simp, by omega, by omega, hr⟩ (by simp only; omega))⟩⟩
    · exact Ok.ite.2 ⟨fun _ => Ok.some.2 (exit _ (Ok.some.2 hr)), fun h => by simp at h⟩
  · obtain rfl : k = fs c (u + 1) := by omega
    exact hI
def flN (al : List Arc) (R : List Int) : List Int := (List.range al.length).map fun i => if (al.getD i default).fr = (al.getD i default).to then 0 else R.getD (pos al i true) 0
theorem Zo8 (al : List Arc) (R : List Int) : (flN al R).length = al.length := by simp [flN]
theorem Zac {al : List Arc} {R : List Int} {i : Nat} (h : i < al.length) : (flN al R).getD i 0 = if (al.getD i default).fr = (al.getD i default).to then 0 else R.getD (pos al i true) 0 := by
 unfold flN
 rw [List.getD_eq_getElem?_getD, List.getElem?_map, List.getElem?_range h]; rfl
structure ResOK (n : Net) (m L : Nat) (c : Csr) (R X : List Int) : Prop where
  lr : R.length = L
  lx : X.length = m
  res : ∀ j, j < L → 0 ≤ R.getD j 0 ∧ R.getD j 0 + R.getD (rv c j) 0 = cp c j
  ex : ∀ v : Nat, v < m → X.getD v 0 = ex n.Arcs (flN n.Arcs R) v n.Arcs.length
theorem Zlw {R : List Int} (r : Row n m L c) (h : ∀ j, j < L → 0 ≤ R.getD j 0 ∧ R.getD j 0 + R.getD (rv c j) 0 = cp c j) : FwithinP n (flN n.Arcs R) := by
 refine ⟨r.chk, Zo8 _ _, fun i hi => ?_⟩
 rw [Zac hi]
 have hc := r.caps i hi
 by_cases e : (n.Arcs.getD i default).fr = (n.Arcs.getD i default).to
 · rw [if_pos e]; omega
 ·
  rw [if_neg e]
  obtain ⟨a1, a2, a3⟩ := r.cpPos hi e true
  have h1 := h _ a3
  have h2 := h _ (r.rev a3).2.1
  omega
theorem ResOK.within {R X : List Int} (h : ResOK n m L c R X) (r : Row n m L c) : FwithinP n (flN n.Arcs R) := Zlw r h.res
theorem Zne {f : List Int} (hw : FwithinP n f) (v : Int) : -4611686018427387904 ≤ ex n.Arcs f v n.Arcs.length ∧ ex n.Arcs f v n.Arcs.length ≤ 4611686018427387904 := by
 have := ex_le (al := n.Arcs) v (fun i hi => (hw.2.2 i hi).1) n.Arcs.length (Nat.le_refl _)
 have := hw.tot n.Arcs.length (Nat.le_refl _)
 omega
theorem ResOK.bnd {R X : List Int} (h : ResOK n m L c R X) (r : Row n m L c) {v : Nat} (hv : v < m) : -4611686018427387904 ≤ X.getD v 0 ∧ X.getD v 0 ≤ 4611686018427387904 := by
 rw [h.ex v hv]; exact Zne (h.within r) v
theorem ResOK.rle {R X : List Int} (h : ResOK n m L c R X) (r : Row n m L c) {j : Nat} (hj : j < L) : 0 ≤ R.getD j 0 ∧ R.getD j 0 ≤ cp c j ∧ R.getD j 0 ≤ 4611686018427387904 := by
 have h1 := h.res j hj
 have h2 := h.res _ (r.rev hj).2.1
 have h3 := r.cap hj
 omega
def mvR (c : Csr) (R : List Int) (j : Nat) (d : Int) : List Int := (R.set j (R.getD j 0 - d)).set (rv c j) (R.getD (rv c j) 0 + d)
def mvX (c : Csr) (X : List Int) (j : Nat) (d : Int) : List Int := (X.set (tl c j) (X.getD (tl c j) 0 - d)).set (hd c j) (X.getD (hd c j) 0 + d)
theorem Z92 {R : List Int} {j k : Nat} {d : Int} (r : Row n m L c) (hl : R.length = L) (hj : j < L) : (mvR c R j d).getD k 0 = if k = rv c j then R.getD (rv c j) 0 + d else if k = j then R.getD j 0 - d else R.getD k 0 := by
 have := r.rev hj
 unfold mvR
 rw [Zcm, Zcm, List.length_set]
 by_cases c1 : k = rv c j
 · rw [if_pos ⟨c1.symm, by omega⟩, if_pos c1]
 ·
  rw [if_neg fun h => c1 h.1.symm, if_neg c1]
  by_cases c2 : k = j
  · rw [if_pos ⟨c2.symm, by omega⟩, if_pos c2]
  · rw [if_neg fun h => c2 h.1.symm, if_neg c2]
theorem Zbh {X : List Int} {j k : Nat} {d : Int} (r : Row n m L c) (hl : X.length = m) (hj : j < L) : (mvX c X j d).getD k 0 = X.getD k 0 - (if tl c j = k then d else 0) + (if hd c j = k then d else 0) := by
 have h1 := r.tlh hj
 have h2 := r.head hj
 unfold mvX
 rw [Zcm, Zcm, List.length_set]
 by_cases c1 : hd c j = k
 ·
  subst c1
  rw [if_pos ⟨rfl, by omega⟩, if_neg h1.2.2.2, if_pos rfl]; omega
 ·
  rw [if_neg fun h => c1 h.1]
  by_cases c2 : tl c j = k
  ·
   subst c2
   rw [if_pos ⟨rfl, by omega⟩, if_pos rfl, if_neg c1]; omega
  · rw [if_neg fun h => c2 h.1, if_neg c2, if_neg c1]; omega
theorem ex_bump {al : List Arc} {f g : List Int} {i : Nat} {δ : Int} {K : Nat} (v : Int) (hi : i < K) (h : ∀ k, k < K → g.getD k 0 = f.getD k 0 + if k = i then δ else 0) :
    ex al g v K = ex al f v K + ((if (al.getD i default).to = v then δ else 0) - (if (al.getD i default).fr = v then δ else 0)) := by
  have key : ∀ k, k ≤ K → ex al g v k = ex al f v k + if i < k then ((if (al.getD i default).to = v then δ else 0) - (if (al.getD i default).fr = v then δ else 0)) else 0 := by
    intro k
    induction k with
    | zero => intro _; rw [if_neg (by omega)]; rfl
    | succ k ih =>
      intro hk
      simp only [ex]
      rw [ih (by omega), h k (by omega)]
      by_cases e : k = i
      · subst e
        rw [if_neg (show ¬ k < k by omega), if_pos rfl, if_pos (show k < k + 1 by omega)]
        split <;> split <;> omega
      · rw [if_neg e]
        by_cases e2 : i < k
        · rw [if_pos e2, if_pos (show i < k + 1 by omega)]; simp only [Int.add_zero]; omega
        · rw [if_neg e2, if_neg (show ¬ i < k + 1 by omega)]; simp only [Int.add_zero]
  rw [key K (Nat.le_refl _), if_pos hi]
theorem ResOK.move {R X : List Int} {j : Nat} {d : Int} (h : ResOK n m L c R X) (r : Row n m L c) (hj : j < L) (d0 : 0 ≤ d) (d1 : d ≤ R.getD j 0) : ResOK n m L c (mvR c R j d) (mvX c X j d) := by
 have hr := r.rev hj
 have hlr := h.lr
 have hlx := h.lx
 refine ⟨by simp [mvR, hlr], by simp [mvX, hlx], fun k hk => ?_, fun v hv => ?_⟩
 ·
  have hk2 := r.rev hk
  have a := h.res k hk
  have a2 := h.res _ hr.2.1
  have a3 := h.res j hj
  have a4 := r.cap hj
  rw [Z92 r hlr hj, Z92 r hlr hj]
  by_cases c1 : k = rv c j
  ·
   subst c1
   rw [if_pos rfl, hr.2.2.1, if_neg fun e => hr.2.2.2 e.symm, if_pos rfl, a4.2.2.1]; omega
  ·
   by_cases c2 : k = j
   ·
    subst c2
    rw [if_neg c1, if_pos rfl, if_pos rfl]; omega
   ·
    have c3 : rv c k ≠ rv c j := fun e => c2 (by rw [← hk2.2.2.1, e, hr.2.2.1])
    have c4 : rv c k ≠ j := fun e => c1 (by rw [← e, hk2.2.2.1])
    rw [if_neg c1, if_neg c2, if_neg c3, if_neg c4]; exact a
 ·
  obtain ⟨i, s, hi, hne, hp, q1, q2, q3, q4, q5, q6, q7, q8⟩ := r.at hj
  rw [Zbh r hlx hj, h.ex v hv, ex_bump (f := flN n.Arcs R) (g := flN n.Arcs (mvR c R j d)) (i := i) (δ := if s then -d else d) (v : Int) hi fun k hk => ?_]
  ·
   have t1 : (tl c j = v) ↔ vtx (n.Arcs.getD i default) s = (v : Int) := by rw [← q3]; omega
   have t2 : (hd c j = v) ↔ vtx (n.Arcs.getD i default) (!s) = (v : Int) := by rw [← q2]; omega
   simp only [t1, t2]
   cases s <;> simp only [vtx, Bool.not_false, Bool.not_true, if_true, if_false, Bool.false_eq_true] <;> split <;> split <;> omega
  ·
   rw [Zac hk, Zac hk]
   by_cases e : (n.Arcs.getD k default).fr = (n.Arcs.getD k default).to
   ·
    have : k ≠ i := fun e2 => by subst e2; exact hne e
    rw [if_pos e, if_pos e, if_neg this]; rfl
   ·
    rw [if_neg e, if_neg e, Z92 r hlr hj]
    by_cases e2 : k = i
    ·
     subst e2
     cases s
     ·
      have b1 : pos n.Arcs k true = rv c j := by rw [q5]; rfl
      rw [if_pos b1, if_pos rfl, b1]; rfl
     ·
      have b1 : pos n.Arcs k true ≠ rv c j := fun e3 => by rw [q5] at e3; have := (Z9g r.he hk hk e e e3).2; cases this
      rw [if_neg b1, if_pos hp, if_pos rfl, hp]; rfl
    ·
     have b1 : pos n.Arcs k true ≠ rv c j := fun e3 => by rw [q5] at e3; exact e2 (Z9g r.he hk hi e hne e3).1
     have b2 : pos n.Arcs k true ≠ j := fun e3 => by rw [← hp] at e3; exact e2 (Z9g r.he hk hi e hne e3).1
     rw [if_neg b1, if_neg b2, if_neg e2, Int.add_zero]
theorem s_move {p : Pre} {j : Nat} {d : Int} (r : Row n m L c) (h : ResOK n m L c p.Res p.Ex) (hj : j < L) (d0 : 0 ≤ d) (d1 : d ≤ p.Res.getD j 0) : Z9k c p (j : Nat) d = some ⟨mvR c p.Res j d, mvX c p.Ex j d, p.H⟩ := by
 refine Zgi ?_
 obtain ⟨-, lh, lr, -, -, -⟩ := r.lens
 have h1 := r.head hj
 have h2 := r.rev hj
 have h3 := r.tlh hj
 have h4 := r.head h2.2.1
 have hlr := h.lr
 have hlx := h.lx
 have hm := h.move r hj d0 d1
 have b1 := h.bnd r h3.1
 have b2 := hm.bnd r h1.2
 have b3 := h.rle r hj
 have b4 := hm.rle r h2.2.1
 have b5 := h.rle r h2.2.1
 rw [Zbh r hlx hj, if_neg h3.2.2.2, if_pos rfl] at b2
 rw [Z92 r hlr hj, if_pos rfl] at b4
 have e1 : (p.Res.set j (p.Res.getD j 0 - d)).getD (rv c j) 0 = p.Res.getD (rv c j) 0 := Z48 fun e => h2.2.2.2 e.symm
 have e2 : (p.Ex.set (tl c j) (p.Ex.getD (tl c j) 0 - d)).getD (hd c j) 0 = p.Ex.getD (hd c j) 0 := Z48 h3.2.2.2
 have e3 : c.Head.getD (rv c j) 0 = (tl c j : Nat) := h4.1
 unfold Z9k
 simp only [Int.toNat_natCast, h1.1, h2.1, e3, e1, e2, List.length_set, hlr, hlx, lh, lr]
 have i1 : inb (j : Int) L := by constructor <;> omega
 have i2 : inb ((rv c j : Nat) : Int) L := by constructor <;> omega
 have i3 : inb ((tl c j : Nat) : Int) m := by constructor <;> omega
 have i4 : inb ((hd c j : Nat) : Int) m := by constructor <;> omega
 have o1 : i64ok (p.Res.getD j 0 - d) := by constructor <;> omega
 have o2 : i64ok (p.Res.getD (rv c j) 0 + d) := by constructor <;> omega
 have o3 : i64ok (p.Ex.getD (tl c j) 0 - d) := by constructor <;> omega
 have o4 : i64ok (p.Ex.getD (hd c j) 0 + d) := by constructor <;> omega
 refine Ok.gd.2 ⟨i1, Ok.gd.2 ⟨i2, Ok.gd.2 ⟨i1, Ok.gd.2 ⟨o1, Ok.gd.2 ⟨i1, Ok.gd.2 ⟨i1, Ok.gd.2 ⟨i2, Ok.gd.2 ⟨o2, Ok.gd.2 ⟨i2, Ok.gd.2 ⟨i3, Ok.gd.2 ⟨o3, Ok.gd.2 ⟨i3, Ok.gd.2 ⟨i1, Ok.gd.2 ⟨i4, Ok.gd.2 ⟨o4, Ok.gd.2 ⟨i4, Ok.some.2 rfl⟩⟩⟩⟩⟩⟩⟩⟩⟩⟩⟩⟩⟩⟩⟩⟩
theorem Zeo {xs : List Int} (h : xs.length ≤ 1000000000) : Z2a xs = some xs := by
 refine Zgi ?_
 unfold Z2a
 exact Ok.gd.2 ⟨by constructor <;> omega, Ok.some.2 rfl⟩
theorem s_CloneI {xs : List Int} (h : xs.length ≤ 1000000000) : Z2m xs = some xs := by
 refine Zgi ?_
 unfold Z2m
 exact Ok.gd.2 ⟨by constructor <;> omega, Ok.some.2 rfl⟩
end row
end Go.Acq
namespace Go.Acq
open Go
set_option linter.unusedSimpArgs false
theorem s_FlowG {n : Net} {m a : Nat} {c : Csr} {res : List Int} (h : CsrIs n m c) (he : Z5i m n.Arcs) (hm : m ≤ 4096) (hl : n.Arcs.length ≤ 16384) (hal : ∀ j, j < Z0t n.Arcs m → c.Arc.getD j 0 < a) (ha : a ≤ 16384)
    (hcap : ∀ i, i < n.Arcs.length → 0 ≤ (n.Arcs.getD i default).cap ∧ (n.Arcs.getD i default).cap ≤ 4611686018427387904) (hr : res.length = Z0t n.Arcs m) :
    Ok (Z8i c res a) (fun r => ((∀ j, j < Z0t n.Arcs m → Zbw c.Rev c.Cap res j) ∧ r.2 = 0 ∧ FlowK n.Arcs a res (Z0t n.Arcs m) r.1) ∨ ((∃ j, j < Z0t n.Arcs m ∧ ¬Zbw c.Rev c.Cap res j) ∧ r = ([], 20))) := by
  have hok := h.ok
  have lh := hok.lh
  have lr := hok.lr
  have lc := hok.lc
  have la := hok.la
  have lb := hok.lb
  have hbs := Z56 (al := n.Arcs) (v := m) hm hl
  unfold Z8i Z9r
  refine Ok.bind.2 (Ok.some.2 (Ok.ite.2 ⟨fun hx => by omega, fun _ => Ok.ite.2 ⟨fun hx => by omega, fun _ => Ok.ite.2 ⟨fun hx => by omega, fun _ => Ok.bind.2 (Ok.mono (s_over (by omega)) ?_)⟩⟩⟩))
  rintro b rfl
  have hno : ¬ ∃ j, j < c.Arc.length ∧ (a : Int) ≤ c.Arc.getD j 0 := by
    rintro ⟨j, hj, hja⟩
    have := hal j (by omega)
    omega
  unfold Z4i
  refine Ok.ite.2 ⟨fun hx => absurd (of_decide_eq_true hx) hno, fun _ => Ok.gd.2 ⟨(by omega), Ok.bind.2 ?_⟩⟩
  refine Za5 (fun s => ∃ k : Nat, s.2 = k ∧ k ≤ Z0t n.Arcs m ∧ FlowK n.Arcs a res k s.1 ∧ ∀ j, j < k → Zbw c.Rev c.Cap res j) (fun s => (Z0t n.Arcs m - s.2).toNat) ⟨0, rfl, by omega, ⟨by simp, fun i => ?_⟩, fun j hj => by omega⟩ (by unfold Z4t; simp only; omega) ?_
  · simp only [Z2b, Nat.not_lt_zero, and_false, if_false]
  rintro ⟨fl, x⟩ ⟨k, g1, g2, g3, g4⟩ P next exit
  simp only at g1 g2 g3 next ⊢
  subst g1
  unfold Z6n
  simp only [Int.toNat_natCast]
  have hfl := g3.1
  refine Ok.ite.2 ⟨fun hx => ?_, fun hx => ?_⟩
  · have hk : k < Z0t n.Arcs m := by omega
    obtain ⟨i, s, hi, hne, hp, q1, q2, q3, q4, q5⟩ := hok.place hk
    have hq : pos n.Arcs i (!s) < Z0t n.Arcs m := Zaz hi hne he
    have hp2 : pos n.Arcs i s < Z0t n.Arcs m := Zaz hi hne he
    have hci := hcap i hi
    have hia := hal k hk
    rw [q4] at hia
    have r3 : c.Cap.getD (pos n.Arcs i (!s)) 0 = (if (!s) then 0 else (n.Arcs.getD i default).cap) := (hok.hat i hi hne (!s)).2.2.1
    have bad : ¬Zbw c.Rev c.Cap res k → P (.inr (.inl ([], 20))) := fun hr => exit _ (Ok.some.2 (.inr ⟨⟨k, hk, hr⟩, rfl⟩))
    have hmax : max (c.Cap.getD k 0) (c.Cap.getD (c.Rev.getD k 0).toNat 0) = (n.Arcs.getD i default).cap := by
      rw [q2, Int.toNat_natCast, q3, r3]; cases s <;> simp only [Bool.not_false, Bool.not_true, if_true, Bool.false_eq_true, if_false] <;> omega
    have j3 : ∀ t : Bool, (t = true → ¬Zbw c.Rev c.Cap res k) → (t = false → Zbw c.Rev c.Cap res k) → Ok (Z4h c res fl k t) P := by
      intro t t1 t2
      unfold Z4h
      simp only [Int.toNat_natCast]
      refine Ok.ite.2 ⟨fun ht => Ok.some.2 (bad (t1 ht)), fun ht => ?_⟩
      have hfk := t2 (by simpa using ht)
      have hall : ∀ j, j < k + 1 → Zbw c.Rev c.Cap res j := fun j hj => by
        rcases Nat.lt_or_ge j k with h | h
        · exact g4 j h
        · rw [show j = k by omega]; exact hfk
      refine Ok.gd.2 ⟨(by omega), Ok.ite.2 ⟨fun hb => ?_, fun hb => ?_⟩⟩
      · have hs : s = true := by rw [q5] at hb; exact hb
        subst hs
        simp only [q4, Int.toNat_natCast]
        refine Ok.gd.2 ⟨(by omega), Ok.gd.2 ⟨(by omega), Ok.gd.2 ⟨(by omega), Ok.some.2 (next _ ⟨k + 1, by simp, by omega, ⟨by simp [hfl], fun i' => ?_⟩, hall⟩ (by simp only; omega))⟩⟩⟩
        simp only
        rw [Zcm]
        by_cases e : i = i'
        · subst e
          rw [if_pos ⟨rfl, by omega⟩, if_pos ⟨hi, hne, by omega⟩, hp]
        · rw [if_neg (fun h => e h.1), g3.2 i']
          by_cases c1 : i' < n.Arcs.length ∧ (n.Arcs.getD i' default).fr ≠ (n.Arcs.getD i' default).to
          · have : pos n.Arcs i' true ≠ k := fun h => e (Z9g he hi c1.1 hne c1.2 (hp.trans h.symm)).1
            by_cases c2 : pos n.Arcs i' true < k
            · rw [if_pos ⟨c1.1, c1.2, c2⟩, if_pos ⟨c1.1, c1.2, by omega⟩]
            · rw [if_neg (fun h => c2 h.2.2), if_neg (fun h => by have := h.2.2; omega)]
          · rw [if_neg (fun h => c1 ⟨h.1, h.2.1⟩), if_neg (fun h => c1 ⟨h.1, h.2.1⟩)]
      · have hs : s = false := by rw [q5] at hb; simpa using hb
        subst hs
        refine Ok.gd.2 ⟨(by omega), Ok.some.2 (next _ ⟨k + 1, by simp, by omega, ⟨hfl, fun i' => ?_⟩, hall⟩ (by simp only; omega))⟩
        rw [g3.2 i']
        by_cases c1 : i' < n.Arcs.length ∧ (n.Arcs.getD i' default).fr ≠ (n.Arcs.getD i' default).to
        · have : pos n.Arcs i' true ≠ k := fun h => by have := (Z9g he hi c1.1 hne c1.2 (hp.trans h.symm)).2; cases this
          by_cases c2 : pos n.Arcs i' true < k
          · rw [if_pos ⟨c1.1, c1.2, c2⟩, if_pos ⟨c1.1, c1.2, by omega⟩]
          · rw [if_neg (fun h => c2 h.2.2), if_neg (fun h => by have := h.2.2; omega)]
        · rw [if_neg (fun h => c1 ⟨h.1, h.2.1⟩), if_neg (fun h => c1 ⟨h.1, h.2.1⟩)]
    have hrev : inb (c.Rev.getD k 0) c.Cap.length := by rw [q2]; constructor <;> omega
    have hrev2 : inb (c.Rev.getD k 0) res.length := by rw [q2]; constructor <;> omega
    refine Ok.gd.2 ⟨(by omega), Ok.gd.2 ⟨(by omega), Ok.gd.2 ⟨(by omega), Ok.gd.2 ⟨hrev, Ok.ite.2 ⟨fun h1 => ?_, fun h1 => Ok.ite.2 ⟨fun h2 => ?_, fun h2 => ?_⟩⟩⟩⟩⟩⟩
    · exact j3 true (fun _ hf => by have := hf.1; omega) (fun h => by cases h)
    · exact j3 true (fun _ hf => by have := hf.2.1; omega) (fun h => by cases h)
    · refine Ok.gd.2 ⟨(by omega), Ok.gd.2 ⟨hrev2, Ok.gd.2 ⟨by rw [hmax]; constructor <;> omega, j3 _ (fun h hf => (of_decide_eq_true h) hf.2.2) (fun h => ⟨by omega, by omega, ?_⟩)⟩⟩⟩
      exact Classical.not_not.1 (of_decide_eq_false h)
  · refine Ok.some.2 (exit _ ?_)
    unfold Z8c
    have : k = Z0t n.Arcs m := by omega
    subst this
    exact Ok.some.2 (.inl ⟨g4, rfl, g3⟩)
section row
variable {n : Net} {m L : Nat} {c : Csr}
theorem Zlz {R : List Int} (r : Row n m L c) : (∀ j, j < L → Zbw c.Rev c.Cap R j) ↔ ∀ j, j < L → 0 ≤ R.getD j 0 ∧ R.getD j 0 + R.getD (rv c j) 0 = cp c j := by
 constructor
 ·
  intro h j hj
  have := h j hj
  unfold Zbw at this
  rw [(r.rev hj).1, Int.toNat_natCast] at this
  unfold cp; omega
 ·
  intro h j hj
  have h1 := h j hj
  have h2 := h _ (r.rev hj).2.1
  unfold Zbw
  rw [(r.rev hj).1, Int.toNat_natCast]
  unfold cp at h1; omega
def HeightsP (n : Net) (m : Nat) (h : List Int) : Prop := h.length = m ∧ (∀ s : Nat, n.S = s → h.getD s 0 = m) ∧ (∀ t : Nat, n.T = t → h.getD t 0 = 0) ∧ ∀ v, v < m → 0 ≤ h.getD v 0 ∧ h.getD v 0 < 2 * m
structure PreOK (n : Net) (m L : Nat) (c : Csr) (p : Pre) : Prop where
  ok : ResOK n m L c p.Res p.Ex
  nn : ∀ v, v < m → (v : Int) ≠ n.S → 0 ≤ p.Ex.getD v 0
  hs : HeightsP n m p.H
  val : ∀ j, j < L → 0 < p.Res.getD j 0 → p.H.getD (tl c j) 0 ≤ p.H.getD (hd c j) 0 + 1
structure PreLen (p : Pre) : Prop where
  r : lenok p.Res.length
  x : lenok p.Ex.length
  h : lenok p.H.length
theorem PreOK.len {p : Pre} (h : PreOK n m L c p) (r : Row n m L c) : PreLen p := by
 have := r.bd
 have h1 := h.ok.lr
 have h2 := h.ok.lx
 have h3 := h.hs.1
 exact ⟨by omega, by omega, by omega⟩
end row
end Go.Acq
namespace Go.Acq
open Go
set_option linter.unusedSimpArgs false
def Zau (n : Net) (X : List Int) (u : Nat) : Prop := (u : Int) ≠ n.S ∧ (u : Int) ≠ n.T ∧ 0 < X.getD u 0
instance (n : Net) (X : List Int) (u : Nat) : Decidable (Zau n X u) := by unfold Zau; infer_instance
def Zgf (c : Csr) (p : Pre) (u j : Nat) : Prop := 0 < p.Res.getD j 0 ∧ p.H.getD u 0 = p.H.getD (hd c j) 0 + 1
instance (c : Csr) (p : Pre) (u j : Nat) : Decidable (Zgf c p u j) := by unfold Zgf; infer_instance
def Zbz (n : Net) (c : Csr) (p : Pre) (u : Nat) : Prop := Zau n p.Ex u ∧ ∀ j, fs c u ≤ j → j < fs c (u + 1) → ¬Zgf c p u j
instance (n : Net) (c : Csr) (p : Pre) (u : Nat) : Decidable (Zbz n c p u) :=
  if h : Zau n p.Ex u ∧ ∀ j, j < fs c (u + 1) → fs c u ≤ j → ¬Zgf c p u j then .isTrue ⟨h.1, fun j a b => h.2 j b a⟩ else .isFalse fun g => h ⟨g.1, fun j a b => g.2 j b a⟩
def Zip (p : Nat → Bool) : Nat → List Int
  | 0 => []
  | k + 1 => Zip p k ++ (if p k = true then [(k : Int)] else [])
theorem Zhr (p : Nat → Bool) : ∀ k, (Zip p k).length ≤ k
 | 0 => Nat.le_refl _
 | k + 1 => by
  have := Zhr p k
  simp only [Zip, List.length_append]
  split <;> simp <;> omega
section row
variable {n : Net} {m L : Nat} {c : Csr}
theorem Zkx {p : Pre} {u : Nat} (r : Row n m L c) (lx : p.Ex.length = m) (hu : u < m) : Z94 c p (u : Nat) = some (decide (Zau n p.Ex u)) := by
 have h2 := r.is.hS
 have h3 := r.is.hT
 unfold Z94 Zau
 rw [h2, h3]
 by_cases a : (u : Int) ≠ n.S
 ·
  by_cases b : (u : Int) ≠ n.T
  · rw [if_pos a, if_pos b, Z81 (by constructor <;> omega), Int.toNat_natCast]; simp [a, b]
  · rw [if_pos a, if_neg b]; simp [b]
 · rw [if_neg a]; simp [a]
def HtB (m : Nat) (h : List Int) : Prop := h.length = m ∧ ∀ v, v < m → -1000000 ≤ h.getD v 0 ∧ h.getD v 0 ≤ 1000000
theorem HeightsP.hb {h : List Int} (r : Row n m L c) (hh : HeightsP n m h) : HtB m h := ⟨hh.1, fun v hv => by have := hh.2.2.2 v hv; have := r.bd; omega⟩
theorem Zdl {p : Pre} {u j : Nat} (r : Row n m L c) (lr : p.Res.length = L) (hb : HtB m p.H) (hu : u < m) (hj : j < L) : Z5o c p (u : Nat) (j : Nat) = some (decide (Zgf c p u j)) := by
 have g1 := r.head hj
 have g2 := hb.2 _ g1.2
 have := hb.1
 have := r.lens.2.1
 unfold Z5o Zgf
 simp only [Int.toNat_natCast, g1.1]
 rw [Z81 (by constructor <;> omega)]
 by_cases h : 0 < p.Res.getD j 0
 ·
  rw [if_pos h, Z81 (by constructor <;> omega), Z81 (by constructor <;> omega), Z81 (by constructor <;> omega), Z81 (by constructor <;> omega)]
  exact congrArg some (decide_eq_decide.2 ⟨fun e => ⟨h, e⟩, fun e => e.2⟩)
 ·
  rw [if_neg h]
  exact congrArg some (decide_eq_false fun e => h e.1).symm
theorem s_stuck {p : Pre} {u : Nat} (r : Row n m L c) (lr : p.Res.length = L) (lx : p.Ex.length = m) (hb : HtB m p.H) (hu : u < m) : Ok (Zc4 c p (u : Nat)) (fun b => b = decide (Zbz n c p u)) := by
 have hfl := r.first.2.2.2 u hu
 unfold Zc4 Z66
 refine Ok.bind.2 (Ok.some.2 (Ok.bind.2 (Ok.mono (Znq r hu (fun j _ => ∀ i, fs c u ≤ i → i < j → ¬Zgf c p u i) (fun _ => ∃ j, fs c u ≤ j ∧ j < fs c (u + 1) ∧ Zgf c p u j) (fun i h1 h2 => by omega) fun j s h1 h2 h3 => ?_) ?_)))
 ·
  unfold Zbv
  refine Ok.bind.2 (Z8q (Zdl r lr hb hu (by omega)) (Ok.ite.2 ⟨fun h => Ok.some.2 ⟨j, h1, h2, of_decide_eq_true h⟩, fun h => Ok.some.2 fun i h4 h5 => ?_⟩))
  rcases Nat.lt_or_ge i j with h6 | h6
  · exact h3 i h4 h6
  · rw [show i = j by omega]; exact fun h7 => h (decide_eq_true h7)
 ·
  rintro (s | x) h
  ·
   refine Ok.bind.2 (Z8q (Zkx r lx hu) (Ok.some.2 ?_))
   rw [Bool.eq_iff_iff, decide_eq_true_iff, decide_eq_true_iff]
   exact ⟨fun h1 => ⟨h1, h⟩, fun h1 => h1.1⟩
  ·
   obtain ⟨j, h1, h2, h3⟩ := h
   exact Ok.some.2 (decide_eq_false fun h4 => h4.2 j h1 h2 h3).symm
theorem s_all {p : Nat → Bool} {step : List Int → Int → Option ((List Int × Int) ⊕ List Int)} (hm : m ≤ 4096)
    (hs : ∀ (o : List Int) (k : Nat), k ≤ m → o.length ≤ k → step o k = if k < m then (if p k = true then some (.inl (o ++ [(k : Int)], (k : Int) + 1)) else some (.inl (o, (k : Int) + 1))) else some (.inr o)) : Ok (Z2k (fun s => step s.1 s.2) Z4t ([], 0)) (fun o => o = Zip p m) := by
  refine Za5 (fun s => ∃ k : Nat, s.2 = k ∧ k ≤ m ∧ s.1 = Zip p k) (fun s => (m - s.2).toNat) ⟨0, rfl, by omega, rfl⟩ (by unfold Z4t; simp only; omega) ?_
  rintro ⟨o, x⟩ ⟨k, h1, hk, ho⟩ P next exit
  simp only at h1 ho next ⊢
  subst h1; subst ho
  rw [hs _ k hk (Zhr p k)]
  refine Ok.ite.2 ⟨fun hx => Ok.ite.2 ⟨fun h => Ok.some.2 (next _ ⟨k + 1, by simp, by omega, by simp only [Zip]; rw [if_pos h]⟩ (by simp only; omega)), fun h => Ok.some.2 (next _ ⟨k + 1, by simp, by omega, by simp only [Zip]; rw [if_neg h, List.append_nil]⟩ (by simp only; omega))⟩, fun hx => Ok.some.2 (exit _ (by rw [show k = m by omega]))⟩
theorem s_May {p : Pre} (r : Row n m L c) (lr : p.Res.length = L) (lx : p.Ex.length = m) (hb : HtB m p.H) : Zey c p = some (Zip (fun j => decide (Zau n p.Ex (tl c j) ∧ Zgf c p (tl c j) j)) L, Zip (fun u => decide (Zbz n c p u)) m) := by
 have b := r.bd
 have hN := r.is.hN
 refine Zgi ?_
 unfold Zey
 refine Ok.bind.2 (Za5 (fun s => ∃ k : Nat, s.2 = k ∧ k ≤ m ∧ s.1 = Zip (fun j => decide (Zau n p.Ex (tl c j) ∧ Zgf c p (tl c j) j)) (fs c k)) (fun s => (m - s.2).toNat) ⟨0, rfl, by omega, by rw [r.first.2.1]; rfl⟩ (by unfold Z4t; simp only; omega) ?_)
 rintro ⟨o, x⟩ ⟨k, h1, hk, ho⟩ P next exit
 simp only at h1 ho next ⊢
 subst h1
 unfold Zdo
 rw [hN]
 refine Ok.ite.2 ⟨fun hx => ?_, fun hx => Ok.some.2 (exit _ ?_)⟩
 ·
  have hkm : k < m := by omega
  have hfl := r.first.2.2.2 k hkm
  unfold Z66
  refine Ok.bind.2 (Ok.some.2 (Ok.bind.2 (Ok.mono (Znq r hkm (fun j s => s = Zip (fun j => decide (Zau n p.Ex (tl c j) ∧ Zgf c p (tl c j) j)) j) (fun _ => False) ho fun j s g1 g2 g3 => ?_) ?_)))
  ·
   have hjL : j < L := by omega
   have ht := (r.range hjL hkm).1 ⟨g1, g2⟩
   subst g3
   have hle := Zhr (fun j => decide (Zau n p.Ex (tl c j) ∧ Zgf c p (tl c j) j)) j
   have j3 : ∀ (b : Bool) (P : List Int ⊕ Empty → Prop), (P (.inl (Zip (fun j => decide (Zau n p.Ex (tl c j) ∧ Zgf c p (tl c j) j)) (j + 1)))) → (b = true ↔ (Zau n p.Ex k ∧ Zgf c p k j)) → Ok (Z95 (Zip (fun j => decide (Zau n p.Ex (tl c j) ∧ Zgf c p (tl c j) j)) j) (j : Nat) b) P := by
    intro b P hP hb
    unfold Z95
    have e : decide (Zau n p.Ex (tl c j) ∧ Zgf c p (tl c j) j) = b := by rw [ht, Bool.eq_iff_iff, decide_eq_true_iff]; exact hb.symm
    refine Ok.ite.2 ⟨fun h => Ok.gd.2 ⟨?_, Ok.some.2 ?_⟩, fun h => Ok.some.2 ?_⟩
    · rw [List.length_append, List.length_singleton]; constructor <;> omega
    · simp only [Zip] at hP; rw [if_pos (e.trans h)] at hP; exact hP
    · simp only [Zip] at hP; rw [if_neg (by rw [e]; exact h), List.append_nil] at hP; exact hP
   unfold Zdn
   refine Ok.bind.2 (Z8q (Zkx r lx hkm) (Ok.ite.2 ⟨fun h => Ok.bind.2 (Z8q (Zdl r lr hb hkm hjL) (j3 _ _ rfl ?_)), fun h => j3 false _ rfl ⟨fun h2 => (by cases h2), fun h2 => absurd (decide_eq_true h2.1) h⟩⟩))
   rw [decide_eq_true_iff]
   exact ⟨fun h2 => ⟨of_decide_eq_true h, h2⟩, fun h2 => h2.2⟩
  ·
   rintro (s | x) h
   · exact Ok.gd.2 ⟨(by omega), Ok.some.2 (next _ ⟨k + 1, by simp, by omega, h⟩ (by simp only; omega))⟩
   · exact h.elim
 ·
  obtain rfl : k = m := by omega
  unfold Zdp Zb0
  refine Ok.bind.2 (Ok.bind.2 (Ok.mono (s_all (m := k) (p := fun u => decide (Zbz n c p u)) (step := fun o x => Z6d c c p o x) (by omega) fun o q hq hol => ?_) fun o2 ho2 => ?_))
  ·
   unfold Z6d Zex
   rw [hN]
   by_cases h : q < k
   ·
    obtain ⟨b, hb1, hb2⟩ := s_stuck r lr lx hb h
    rw [if_pos (by omega), if_pos h, hb1]
    simp only [Option.bind_some]
    rw [hb2]
    by_cases h2 : decide (Zbz n c p q) = true
    · rw [if_pos h2, if_pos h2, Z81 (by rw [List.length_append, List.length_singleton]; constructor <;> omega), Z81 (by constructor <;> omega)]
    · rw [if_neg h2, if_neg h2, Z81 (by constructor <;> omega)]
   · rw [if_neg (by omega), if_neg h]
  ·
   unfold Z93
   refine Ok.some.2 (Ok.some.2 ?_)
   rw [ho, r.first.2.2.1, ho2]
def Zat (c : Csr) (p : Pre) (j : Nat) : Int := min (p.Ex.getD (tl c j) 0) (p.Res.getD j 0)
def Z9f (c : Csr) (p : Pre) (j : Nat) : Pre := ⟨mvR c p.Res j (Zat c p j), mvX c p.Ex j (Zat c p j), p.H⟩
theorem s_Copy {p : Pre} (h1 : p.Res.length ≤ 1000000000) (h2 : p.Ex.length ≤ 1000000000) (h3 : p.H.length ≤ 1000000000) : Z9l p = some p := by
 unfold Z9l
 rw [Zeo h1, Zeo h2, s_CloneI h3]; rfl
theorem PreOK.push {p : Pre} {j : Nat} (h : PreOK n m L c p) (r : Row n m L c) (hj : j < L) (hA : Zau n p.Ex (tl c j)) (hB : Zgf c p (tl c j) j) : PreOK n m L c (Z9f c p j) := by
 have h1 := hA.2.2
 have h2 := hB.1
 have hD : Zat c p j = min (p.Ex.getD (tl c j) 0) (p.Res.getD j 0) := rfl
 have hlr := h.ok.lr
 have hlx := h.ok.lx
 have ht := r.tlh hj
 have hr := r.rev hj
 refine ⟨h.ok.move r hj (by omega) (by omega), fun v hv hvS => ?_, h.hs, fun k hk h0 => ?_⟩
 ·
  have := h.nn v hv hvS
  simp only [Z9f]
  rw [Zbh r hlx hj]
  by_cases c1 : tl c j = v
  ·
   subst c1
   rw [if_pos rfl, if_neg fun e => ht.2.2.2 e.symm]; omega
  · rw [if_neg c1]; split <;> omega
 ·
  simp only [Z9f] at h0 ⊢
  rw [Z92 r hlr hj] at h0
  by_cases c1 : k = rv c j
  ·
   subst c1
   rw [ht.2.1, ht.2.2.1]
   have := hB.2
   omega
  ·
   rw [if_neg c1] at h0
   by_cases c2 : k = j
   · subst c2; exact h.val k hk h2
   · rw [if_neg c2] at h0; exact h.val k hk h0
def Zl2 (c : Csr) (p : Pre) (m : Nat) (a : Nat) : Nat → Int
  | 0 => 2 * m
  | k + 1 => if 0 < p.Res.getD (a + k) 0 then min (Zl2 c p m a k) (p.H.getD (hd c (a + k)) 0) else Zl2 c p m a k
def Zgs (c : Csr) (p : Pre) (m u : Nat) : Int := Zl2 c p m (fs c u) (fs c (u + 1) - fs c u)
def Zc6 (c : Csr) (p : Pre) (m u : Nat) : Pre := ⟨p.Res, p.Ex, p.H.set u (Zgs c p m u + 1)⟩
theorem Zo1 {p : Pre} {a : Nat} : ∀ {k i : Nat}, i < k → 0 < p.Res.getD (a + i) 0 → Zl2 c p m a k ≤ p.H.getD (hd c (a + i)) 0
 | 0, _, h, _ => by omega
 | k + 1, i, h, h0 => by
  simp only [Zl2]
  rcases Nat.lt_or_ge i k with h1 | h1
  ·
   have := Zo1 h1 h0
   split <;> omega
  ·
   have : i = k := by omega
   subst this
   rw [if_pos h0]; omega
theorem Zk8 (p : Pre) (a : Nat) : ∀ k : Nat, Zl2 c p m a k ≤ 2 * m ∧ (Zl2 c p m a k = 2 * m ∨ ∃ i, i < k ∧ 0 < p.Res.getD (a + i) 0 ∧ p.H.getD (hd c (a + i)) 0 = Zl2 c p m a k)
 | 0 => ⟨Int.le_refl _, .inl rfl⟩
 | k + 1 => by
  obtain ⟨h1, h2⟩ := Zk8 p a k
  simp only [Zl2]
  by_cases h : 0 < p.Res.getD (a + k) 0
  ·
   rw [if_pos h]
   refine ⟨by omega, ?_⟩
   by_cases h3 : p.H.getD (hd c (a + k)) 0 ≤ Zl2 c p m a k
   · exact .inr ⟨k, by omega, h, by omega⟩
   ·
    rcases h2 with h2 | ⟨i, g1, g2, g3⟩
    · exact .inl (by omega)
    · exact .inr ⟨i, by omega, g2, by omega⟩
  ·
   rw [if_neg h]
   refine ⟨h1, ?_⟩
   rcases h2 with h2 | ⟨i, g1, g2, g3⟩
   · exact .inl h2
   · exact .inr ⟨i, by omega, g2, g3⟩
theorem lowV_le {p : Pre} {u j : Nat} (r : Row n m L c) (hu : u < m) (hj : j < L) (ht : tl c j = u) (h0 : 0 < p.Res.getD j 0) : Zgs c p m u ≤ p.H.getD (hd c j) 0 := by
 have h1 := (r.range hj hu).2 ht
 have e : fs c u + (j - fs c u) = j := by omega
 have := Zo1 (c := c) (m := m) (p := p) (a := fs c u) (k := fs c (u + 1) - fs c u) (i := j - fs c u) (by omega) (by rw [e]; exact h0)
 rw [e] at this; exact this
theorem Zk7 (p : Pre) {u : Nat} (r : Row n m L c) (hu : u < m) : Zgs c p m u ≤ 2 * m ∧ (Zgs c p m u = 2 * m ∨ ∃ j, j < L ∧ tl c j = u ∧ 0 < p.Res.getD j 0 ∧ p.H.getD (hd c j) 0 = Zgs c p m u) := by
 have hfl := r.first.2.2.2 u hu
 obtain ⟨h1, h2⟩ := Zk8 (c := c) (m := m) p (fs c u) (fs c (u + 1) - fs c u)
 refine ⟨h1, ?_⟩
 rcases h2 with h2 | ⟨i, g1, g2, g3⟩
 · exact .inl h2
 · exact .inr ⟨fs c u + i, by omega, (r.range (by omega) hu).1 ⟨by omega, by omega⟩, g2, g3⟩
def OpenJ (c : Csr) (L : Nat) (R : List Int) (u v : Nat) : Prop := ∃ j, j < L ∧ tl c j = u ∧ hd c j = v ∧ 0 < R.getD j 0
theorem OpenJ.lt {R : List Int} (r : Row n m L c) {u v : Nat} (h : OpenJ c L R u v) : u < m ∧ v < m := by
 obtain ⟨j, h1, h2, h3, _⟩ := h
 exact ⟨by rw [← h2]; exact (r.tlh h1).1, by rw [← h3]; exact (r.head h1).2⟩
theorem Zf0 {H : Nat → Int} {G : Nat → Nat → Prop} (hG : ∀ u v, G u v → H u ≤ H v + 1) {u v : Nat} (hr : Reach G u v) : ∀ k : Int, H v ≤ k → k ≤ H u → ∃ w, Reach G u w ∧ H w = k := by
 induction hr with
 | refl => intro k h1 h2; exact ⟨u, .refl, by omega⟩
 | step h1 h2 ih =>
  rename_i x y
  intro k h3 h4
  by_cases c : H x ≤ k
  · exact ih k c h4
  ·
   have := hG _ _ h2
   exact ⟨y, .step h1 h2, by omega⟩
theorem pigeon : ∀ (m : Nat) (f : Nat → Nat), (∀ k, k ≤ m → f k < m) → ∃ i j, i < j ∧ j ≤ m ∧ f i = f j
 | 0, f, h => absurd (h 0 (Nat.le_refl _)) (by omega)
 | m + 1, f, h => by
  by_cases e : ∃ i, i ≤ m ∧ f i = f (m + 1)
  ·
   obtain ⟨i, h1, h2⟩ := e
   exact ⟨i, m + 1, by omega, by omega, h2⟩
  ·
   have ne : ∀ i, i ≤ m → f i ≠ f (m + 1) := fun i hi h2 => e ⟨i, hi, h2⟩
   obtain ⟨i, j, h1, h2, h3⟩ := pigeon m (fun k => if f (m + 1) < f k then f k - 1 else f k) fun k hk => by
    have a := h k (by omega)
    have a2 := h (m + 1) (by omega)
    have a3 := ne k hk
    split <;> omega
   have a1 := ne i (by omega)
   have a2 := ne j (by omega)
   refine ⟨i, j, h1, by omega, ?_⟩
   split at h3 <;> split at h3 <;> omega
theorem Zgq {H : Nat → Int} {a : Int} (h : ∀ k : Nat, k ≤ m → ∃ w, w < m ∧ H w = a + k) : False := by
 have : ∀ k : Nat, ∃ w, k ≤ m → w < m ∧ H w = a + k := fun k => by
  by_cases c : k ≤ m
  · obtain ⟨w, hw⟩ := h k c; exact ⟨w, fun _ => hw⟩
  · exact ⟨0, fun h => absurd h c⟩
 obtain ⟨f, hf⟩ := Classical.axiomOfChoice this
 obtain ⟨i, j, h1, h2, h3⟩ := pigeon m f fun k hk => (hf k hk).1
 have a1 := (hf i (by omega)).2
 have a2 := (hf j h2).2
 rw [h3] at a1
 omega
theorem Zl0 {R : List Int} (r : Row n m L c) {u v : Nat} (hu : u < m) (h : Reach (OpenJ c L R) u v) : v < m := by
 induction h with
 | refl => exact hu
 | step _ h2 _ => exact (h2.lt r).2
theorem Zgk {R X : List Int} {S u : Nat} (r : Row n m L c) (h : ResOK n m L c R X) (hS : n.S = S) (nn : ∀ v, v < m → v ≠ S → 0 ≤ X.getD v 0) (hu : u < m) (hx : 0 < X.getD u 0) : Reach (OpenJ c L R) u S := by
 refine Classical.byContradiction fun hno => ?_
 let q : Nat → Bool := fun v => @decide (¬Reach (OpenJ c L R) u v) (Classical.propDecidable _)
 have hq : ∀ v, q v = true ↔ ¬Reach (OpenJ c L R) u v := fun v => @decide_eq_true_iff _ (Classical.propDecidable _)
 obtain ⟨cl, hcl⟩ : ∃ cl : List Bool, cl = (List.range m).map q := ⟨_, rfl⟩
 have inc : ∀ v : Nat, v < m → (inS cl v = true ↔ ¬Reach (OpenJ c L R) u v) := fun v hv => by
  unfold inS
  rw [hcl, Int.toNat_natCast, List.getD_eq_getElem?_getD, List.getElem?_map, List.getElem?_range hv]
  exact hq v
 have inf : ∀ v : Nat, v < m → (inS cl v = false ↔ Reach (OpenJ c L R) u v) := fun v hv => by
  rw [Bool.eq_false_iff, ne_eq, inc v hv]; exact Classical.not_not
 have he := r.he
 have hw := h.within r
 have hac : ∀ k, k ≤ n.Arcs.length → acK n.Arcs (flN n.Arcs R) cl k ≤ 0 := by
  intro k
  induction k with
  | zero => intro _; simp [acK]
  | succ k ih =>
   intro hk
   have h0 := he k hk false
   have h1 := he k hk true
   simp only [vtx, Bool.false_eq_true, if_false, if_true] at h0 h1
   have hf := (hw.2.2 k hk).1
   have ih := ih (by omega)
   simp only [acK]
   by_cases c1 : inS cl (n.Arcs.getD k default).fr = true ∧ inS cl (n.Arcs.getD k default).to = false
   ·
    have hz : (flN n.Arcs R).getD k 0 = 0 := by
     rw [Zac hk]
     by_cases e : (n.Arcs.getD k default).fr = (n.Arcs.getD k default).to
     · rw [if_pos e]
     ·
      rw [if_neg e]
      obtain ⟨-, a2, a3⟩ := r.cpPos hk e true
      have z := r.is.ok.hat k hk e true
      have z2 := r.is.ok.hat k hk e false
      have nnR := (h.res _ a3).1
      refine Int.le_antisymm (Int.not_lt.1 fun hpos => ?_) nnR
      obtain ⟨p, hp⟩ : ∃ p : Nat, (n.Arcs.getD k default).fr = p := ⟨(n.Arcs.getD k default).fr.toNat, by omega⟩
      obtain ⟨t, ht⟩ : ∃ t : Nat, (n.Arcs.getD k default).to = t := ⟨(n.Arcs.getD k default).to.toNat, by omega⟩
      rw [hp, ht] at c1
      have r1 := (inf t (by omega)).1 c1.2
      refine (inc p (by omega)).1 c1.1 (.step r1 ⟨_, a3, ?_, ?_, hpos⟩)
      · unfold tl hd; rw [a2]; simp only [Bool.not_true]; rw [z2.1]; simp only [vtx, Bool.not_false, if_true, ht]; omega
      · unfold hd; rw [z.1]; simp only [vtx, Bool.not_true, Bool.false_eq_true, if_false, hp]; omega
    rw [if_pos c1, hz]; split <;> omega
   · rw [if_neg c1]; split <;> omega
 have hpc : ∀ j, j ≤ m → 0 ≤ Ze4 n.Arcs (flN n.Arcs R) cl j n.Arcs.length ∧ (u < j → 0 < Ze4 n.Arcs (flN n.Arcs R) cl j n.Arcs.length) := by
  intro j
  induction j with
  | zero => intro _; rw [show ((0 : Nat) : Int) = 0 from rfl, Zd9 he _ (Nat.le_refl _)]; exact ⟨Int.le_refl _, fun h => by omega⟩
  | succ j ih =>
   intro hj
   obtain ⟨i1, i2⟩ := ih (by omega)
   rw [Int.natCast_succ, Zd8]
   by_cases c1 : inS cl j = false
   ·
    rw [if_pos c1, ← h.ex j (by omega)]
    have hjS : j ≠ S := fun e => hno (by rw [← e]; exact (inf j (by omega)).1 c1)
    have := nn j (by omega) hjS
    refine ⟨by omega, fun hlt => ?_⟩
    by_cases e : u = j
    · subst e; omega
    · have := i2 (by omega); omega
   ·
    rw [if_neg c1]
    refine ⟨by omega, fun hlt => ?_⟩
    by_cases e : u = j
    · subst e; exact absurd ((inf u hu).2 .refl) c1
    · have := i2 (by omega); omega
 have := (hpc m (Nat.le_refl _)).2 hu
 rw [Zeu he _ (Nat.le_refl _)] at this
 have := hac _ (Nat.le_refl _)
 omega
theorem Ziu {R : List Int} {H : Nat → Int} {S u : Nat} (r : Row n m L c) (hu : u < m) (hval : ∀ j, j < L → 0 < R.getD j 0 → H (tl c j) ≤ H (hd c j) + 1) (hHS : H S = m) (hr : Reach (OpenJ c L R) u S) : H u < 2 * m := by
 refine Int.not_le.1 fun hge => ?_
 refine Zgq (m := m) (H := H) (a := m) fun k hk => ?_
 obtain ⟨w, h1, h2⟩ := Zf0 (H := H) (G := OpenJ c L R) (fun a b ⟨j, g1, g2, g3, g4⟩ => by rw [← g2, ← g3]; exact hval j g1 g4) hr (m + k) (by omega) (by omega)
 exact ⟨w, Zl0 r hu h1, h2⟩
theorem PreOK.lift {p : Pre} {u : Nat} (h : PreOK n m L c p) (r : Row n m L c) (hu : u < m) (hS : Zbz n c p u) : PreOK n m L c (Zc6 c p m u) ∧ p.H.getD u 0 ≤ Zgs c p m u := by
 obtain ⟨⟨S, hnS, -, hSm⟩, ⟨T, hnT, -, hTm⟩, -, -⟩ := r.ends
 have lh := h.hs.1
 obtain ⟨⟨hA1, hA2, hA3⟩, hB⟩ := hS
 have huS : u ≠ S := by omega
 have huT : u ≠ T := by omega
 have hlow : p.H.getD u 0 ≤ Zgs c p m u := by
  have h2 := h.hs.2.2.2 u hu
  rcases (Zk7 p r hu).2 with h1 | ⟨j, h1, h3, h4, h5⟩
  · omega
  ·
   have h6 := h.val j h1 h4
   rw [h3] at h6
   have h7 := (r.range h1 hu).2 h3
   have h8 := hB j h7.1 h7.2
   have : p.H.getD u 0 ≠ p.H.getD (hd c j) 0 + 1 := fun e => h8 ⟨h4, e⟩
   omega
 have hHu : ∀ v, (p.H.set u (Zgs c p m u + 1)).getD v 0 = if v = u then Zgs c p m u + 1 else p.H.getD v 0 := fun v => by
  rw [Zcm]
  by_cases e : v = u
  · rw [if_pos ⟨e.symm, by omega⟩, if_pos e]
  · rw [if_neg fun h => e h.1.symm, if_neg e]
 have hval : ∀ j, j < L → 0 < p.Res.getD j 0 → (p.H.set u (Zgs c p m u + 1)).getD (tl c j) 0 ≤ (p.H.set u (Zgs c p m u + 1)).getD (hd c j) 0 + 1 := fun j hj h0 => by
  have ht := r.tlh hj
  rw [hHu, hHu]
  by_cases c1 : tl c j = u
  ·
   have := lowV_le r hu hj c1 h0
   rw [if_pos c1, if_neg fun e => ht.2.2.2 (c1.trans e.symm)]; omega
  ·
   rw [if_neg c1]
   have := h.val j hj h0
   by_cases c2 : hd c j = u
   · rw [if_pos c2]; rw [c2] at this; omega
   · rw [if_neg c2]; exact this
 have hreach := Zgk r h.ok hnS (fun v hv hvS => h.nn v hv (by omega)) hu hA3
 have hbound := Ziu (H := fun v => (p.H.set u (Zgs c p m u + 1)).getD v 0) r hu hval (by simp only [hHu]; rw [if_neg fun e => huS e.symm]; exact h.hs.2.1 S hnS) hreach
 simp only [hHu, if_true] at hbound
 refine ⟨⟨h.ok, h.nn, ⟨by simp [Zc6, lh], fun s hs => ?_, fun t ht => ?_, fun v hv => ?_⟩, hval⟩, hlow⟩
 · simp only [Zc6]; rw [hHu, if_neg (by omega)]; exact h.hs.2.1 s hs
 · simp only [Zc6]; rw [hHu, if_neg (by omega)]; exact h.hs.2.2.1 t ht
 ·
  have h1 := h.hs.2.2.2 v hv
  have h2 := h.hs.2.2.2 u hu
  simp only [Zc6]; rw [hHu]
  by_cases e : v = u
  · rw [if_pos e]; omega
  · rw [if_neg e]; exact h1
end row
end Go.Acq
namespace Go.Acq
open Go
set_option linter.unusedSimpArgs false
theorem Ziv {α : Type} {z v : α} {k i : Int} : ∀ mp : List (Int × α), Zo6 z i (putM k v mp) = if i = k then v else Zo6 z i mp
 | [] => by simp only [putM, Zo6]
 | x :: mp => by
  simp only [putM]
  by_cases h : k = x.1
  ·
   rw [if_pos h]; simp only [Zo6]
   by_cases e : i = k
   · rw [if_pos e, if_pos e]
   · rw [if_neg e, if_neg e, if_neg (by omega)]
  ·
   rw [if_neg h]; simp only [Zo6]
   by_cases e : i = x.1
   · rw [if_pos e, if_pos e, if_neg (by omega)]
   · rw [if_neg e, if_neg e, Ziv mp]
theorem Zhw {α : Type} {v : α} {k : Int} : ∀ {mp : List (Int × α)} {x : Int × α}, x ∈ putM k v mp → x.1 = k ∨ ∃ y, y ∈ mp ∧ y.1 = x.1
 | [], x, h => by simp only [putM, List.mem_singleton] at h; left; rw [h]
 | y :: mp, x, h => by
  simp only [putM] at h
  by_cases e : k = y.1
  ·
   rw [if_pos e] at h
   rcases List.mem_cons.1 h with h | h
   · left; rw [h]
   · exact .inr ⟨x, List.mem_cons_of_mem _ h, rfl⟩
  ·
   rw [if_neg e] at h
   rcases List.mem_cons.1 h with h | h
   · exact .inr ⟨y, List.mem_cons_self, by rw [h]⟩
   ·
    rcases Zhw h with h | ⟨z, h1, h2⟩
    · exact .inl h
    · exact .inr ⟨z, List.mem_cons_of_mem _ h1, h2⟩
def Apart {α : Type} : List (Int × α) → Prop
  | [] => True
  | x :: mp => (∀ y, y ∈ mp → y.1 ≠ x.1) ∧ Apart mp
theorem Apart.put {α : Type} {v : α} {k : Int} : ∀ {mp : List (Int × α)}, Apart mp → Apart (putM k v mp)
 | [], _ => ⟨fun y h => (by cases h), trivial⟩
 | x :: mp, h => by
  simp only [putM]
  by_cases e : k = x.1
  · rw [if_pos e]; exact ⟨fun y hy => by rw [e]; exact h.1 y hy, h.2⟩
  ·
   rw [if_neg e]
   refine ⟨fun y hy => ?_, Apart.put h.2⟩
   rcases Zhw hy with h1 | ⟨z, h1, h2⟩
   · rw [h1]; exact e
   · rw [← h2]; exact h.1 z h1
theorem Apart.at {α : Type} {z : α} (d : Int × α) : ∀ {mp : List (Int × α)} {j : Nat}, Apart mp → j < mp.length → Zo6 z (mp.getD j d).1 mp = (mp.getD j d).2
 | [], j, _, h => by simp at h
 | x :: mp, 0, _, _ => by simp [Zo6]
 | x :: mp, j + 1, h, hj => by
  have hj' : j < mp.length := by simpa using hj
  have hm := h.1 _ (Z6q hj' d)
  show Zo6 z (mp.getD j d).1 (x :: mp) = (mp.getD j d).2
  simp only [Zo6]
  rw [if_neg hm]; exact Apart.at d h.2 hj'
theorem Apart.inj {α : Type} (d : Int × α) : ∀ {mp : List (Int × α)} {i j : Nat}, Apart mp → i < mp.length → j < mp.length → (mp.getD i d).1 = (mp.getD j d).1 → i = j
 | [], i, _, _, h, _, _ => by simp at h
 | x :: mp, 0, 0, _, _, _, _ => rfl
 | x :: mp, 0, j + 1, h, _, hj, e => absurd e.symm (h.1 _ (Z6q (by simpa using hj) d))
 | x :: mp, i + 1, 0, h, hi, _, e => absurd e (h.1 _ (Z6q (by simpa using hi) d))
 | x :: mp, i + 1, j + 1, h, hi, hj, e => congrArg (· + 1) (Apart.inj d h.2 (by simpa using hi) (by simpa using hj) e)
def hfr (n : Net) (h : Hop) : Int := if h.Back = true then (n.Arcs.getD h.Arc.toNat default).to else (n.Arcs.getD h.Arc.toNat default).fr
def hto (n : Net) (h : Hop) : Int := if h.Back = true then (n.Arcs.getD h.Arc.toNat default).fr else (n.Arcs.getD h.Arc.toNat default).to
def hok (n : Net) (h : Hop) : Prop := 0 ≤ h.Arc ∧ h.Arc < n.Arcs.length
def WayK (n : Net) (l : List Hop) (k : Nat) : Prop := (∀ i, i < k → hok n (l.getD i default)) ∧ ∀ i, i + 1 < k → hfr n (l.getD (i + 1) default) = hto n (l.getD i default)
def Zn9 (l : List Hop) (i : Int) : Nat → Int
  | 0 => 0
  | k + 1 => Zn9 l i k + (if (l.getD k default).Arc = i then (if (l.getD k default).Back = true then -1 else 1) else 0)
structure MapIs (n : Net) (mp : List (Int × Int)) (l : List Hop) (k : Nat) : Prop where
  val : ∀ i, Zo6 0 i mp = Zn9 l i k
  key : ∀ x, x ∈ mp → 0 ≤ x.1 ∧ x.1 < n.Arcs.length
  apart : Apart mp
theorem MapIs.put {n : Net} {mp : List (Int × Int)} {l : List Hop} {k : Nat} (h : MapIs n mp l k) (hk : hok n (l.getD k default)) {v : Int} (hv : v = Zn9 l (l.getD k default).Arc k + (if (l.getD k default).Back = true then -1 else 1)) : MapIs n (putM (l.getD k default).Arc v mp) l (k + 1) := by
 refine ⟨fun i => ?_, fun x hx => ?_, h.apart.put⟩
 ·
  rw [Ziv]
  simp only [Zn9]
  by_cases e : i = (l.getD k default).Arc
  · rw [if_pos e, if_pos e.symm, hv, e]
  · rw [if_neg e, if_neg (fun h => e h.symm), h.val, Int.add_zero]
 ·
  rcases Zhw hx with h1 | ⟨y, h1, h2⟩
  · rw [h1]; exact hk
  · rw [← h2]; exact h.key y h1
end Go.Acq
namespace Go.Acq
open Go
set_option linter.unusedSimpArgs false
def fits (n : Net) (f : List Int) (i : Nat) (c d : Int) : Prop := 0 ≤ f.getD i 0 + d * c ∧ f.getD i 0 + d * c ≤ (n.Arcs.getD i default).cap
end Go.Acq
namespace Go.Acq
open Go
set_option linter.unusedSimpArgs false
section row
variable {n : Net} {m L : Nat} {c : Csr}
theorem Zo9 {al : List Arc} {f : List Int} {v : Int} : ∀ {k : Nat}, (∀ i, i < k → f.getD i 0 = 0) → ex al f v k = 0
 | 0, _ => rfl
 | k + 1, h => by simp only [ex]; rw [Zo9 fun i hi => h i (by omega), h k (by omega)]; simp
theorem s_Begin (r : Row n m L c) : Ok (Z8r c) (fun p => PreOK n m L c p) := by
 have b := r.bd
 obtain ⟨⟨S, hS, hcS, hSm⟩, ⟨T, hT, hcT, hTm⟩, hne, hN⟩ := r.ends
 obtain ⟨-, -, -, lc, -, -⟩ := r.lens
 have hfl := r.first.2.2.2 S hSm
 unfold Z8r
 refine Ok.bind.2 (Z8q (Zeo (by omega)) ?_)
 rw [hN, hcS]
 simp only [Int.toNat_natCast]
 obtain ⟨H0, hH0⟩ : ∃ H0, (List.replicate m (0 : Int)).set S m = H0 := ⟨_, rfl⟩
 have hHl : H0.length = m := by rw [← hH0]; simp
 have hHv : ∀ v, H0.getD v 0 = if v = S then (m : Int) else 0 := fun v => by
  rw [← hH0, Zcm, List.length_replicate, Z2b]
  by_cases e : v = S
  · rw [if_pos ⟨e.symm, hSm⟩, if_pos e]
  · rw [if_neg fun h => e h.1.symm, if_neg e]
 rw [hH0]
 unfold Z66
 refine Ok.gd.2 ⟨(by omega), Ok.gd.2 ⟨(by omega), Ok.gd.2 ⟨by rw [List.length_replicate]; constructor <;> omega, Ok.bind.2 (Ok.some.2 (Ok.bind.2 (Ok.mono (Znq r hSm
  (fun k s => ResOK n m L c s.1 s.2 ∧ (∀ v, v < m → v ≠ S → 0 ≤ s.2.getD v 0) ∧ ∀ i, fs c S ≤ i → i < k → s.1.getD i 0 = 0) (fun _ => False) ⟨⟨lc, by simp, fun j hj => ?_, fun v hv => ?_⟩, fun v hv _ => by rw [Z2b]; exact Int.le_refl _, fun i h1 h2 => by omega⟩ fun j s h1 h2 h3 => ?_) ?_)))⟩⟩⟩
 · have := r.cap hj; exact ⟨this.1, this.2.1⟩
 ·
  rw [Z2b, Zo9 fun i hi => ?_]
  rw [Zac hi]
  by_cases e : (n.Arcs.getD i default).fr = (n.Arcs.getD i default).to
  · rw [if_pos e]
  · rw [if_neg e, (r.is.ok.hat i hi e true).2.2.1]; rfl
 ·
  obtain ⟨xs, ys⟩ := s
  obtain ⟨g1, g2, g3⟩ := h3
  simp only at g1 g2 g3
  have hjL : j < L := by omega
  have ht := (r.range hjL hSm).1 ⟨h1, h2⟩
  have htl := r.tlh hjL
  have hrv := r.rev hjL
  have hle := g1.rle r hjL
  have hxl := g1.lr
  unfold Z4s
  rw [hN, hcS]
  simp only [Int.toNat_natCast, hH0]
  refine Ok.gd.2 ⟨(by omega), Ok.bind.2 (Z8q (s_move (p := ⟨xs, ys, H0⟩) r g1 hjL hle.1 (Int.le_refl _)) (Ok.some.2 ⟨g1.move r hjL hle.1 (Int.le_refl _), fun v hv hvS => ?_, fun i h4 h5 => ?_⟩))⟩
  ·
   simp only
   rw [Zbh r g1.lx hjL, ht, if_neg fun e => hvS e.symm]
   have := g2 v hv hvS
   split <;> omega
  ·
   simp only
   have hiL : i < L := by omega
   have hti := (r.range hiL hSm).1 ⟨h4, by omega⟩
   rw [Z92 r hxl hjL, if_neg fun e => by rw [e, htl.2.1] at hti; exact htl.2.2.2 (ht.trans hti.symm)]
   by_cases e : i = j
   · rw [if_pos e]; omega
   · rw [if_neg e]; exact g3 i h4 (by omega)
 ·
  rintro (⟨xs, ys⟩ | x) h
  ·
   obtain ⟨g1, g2, g3⟩ := h
   simp only at g1 g2 g3
   refine Ok.some.2 ⟨g1, fun v hv hvS => g2 v hv (by omega), ⟨hHl, fun s hs => ?_, fun t ht => ?_, fun v hv => ?_⟩, fun j hj h0 => ?_⟩
   · simp only; rw [hHv, if_pos (by omega)]
   · simp only; rw [hHv, if_neg (by omega)]
   · simp only; rw [hHv]; split <;> omega
   ·
    simp only at h0 ⊢
    rw [hHv, hHv]
    by_cases e : tl c j = S
    ·
     have := (r.range hj hSm).2 e
     rw [g3 j this.1 this.2] at h0; omega
    · rw [if_neg e]; split <;> omega
  · exact h.elim
def StepP (n : Net) (m L : Nat) (c : Csr) (was p : Pre) : Prop :=
  (∃ j, j < L ∧ Zau n was.Ex (tl c j) ∧ Zgf c was (tl c j) j ∧ p = Z9f c was j) ∨ (∃ u, u < m ∧ Zbz n c was u ∧ p = Zc6 c was m u)
theorem PreOK.hb {p : Pre} (h : PreOK n m L c p) (r : Row n m L c) : HtB m p.H := h.hs.hb r
theorem PreOK.step {was p : Pre} (h : PreOK n m L c was) (r : Row n m L c) (hs : StepP n m L c was p) : PreOK n m L c p := by
 rcases hs with ⟨j, h1, h2, h3, rfl⟩ | ⟨u, h1, h2, rfl⟩
 · exact h.push r h1 h2 h3
 · exact (h.lift r h1 h2).1
def arcsOf (n : Net) (L : Nat) (c : Csr) (p : Pre) : List Int := Zip (fun j => decide (Zau n p.Ex (tl c j) ∧ Zgf c p (tl c j) j)) L
def vertsOf (n : Net) (m : Nat) (c : Csr) (p : Pre) : List Int := Zip (fun u => decide (Zbz n c p u)) m
theorem PreOK.may {p : Pre} (h : PreOK n m L c p) (r : Row n m L c) : Zey c p = some (arcsOf n L c p, vertsOf n m c p) := s_May r h.ok.lr h.ok.lx (h.hb r)
theorem row_of {m : Nat} (hc : CsrIs n m c) (hm : n.N = m) (hk : Z38 n.N n.S n.T n.Arcs = 0) : Row n m (Z0t n.Arcs m) c := ⟨hc, hk, hm, rfl⟩
end row
end Go.Acq
namespace Go.Acq
open Go
set_option linter.unusedSimpArgs false
set_option linter.unusedVariables false
section row
variable {n : Net} {m L : Nat} {c : Csr}
theorem open_j {R : List Int} (r : Row n m L c) (hR : ∀ j, j < L → 0 ≤ R.getD j 0 ∧ R.getD j 0 + R.getD (rv c j) 0 = cp c j) {u v : Nat} (h : Zec n (flN n.Arcs R) u v) : OpenJ c L R u v := by
 obtain ⟨i, hi, hne, h⟩ := h
 rw [Zac hi, if_neg hne] at h
 have ha : ∀ s, hd c (pos n.Arcs i s) = (vtx (n.Arcs.getD i default) (!s)).toNat := fun s => by unfold hd; rw [(r.is.ok.hat i hi hne s).1]
 have ht : ∀ s, tl c (pos n.Arcs i s) = (vtx (n.Arcs.getD i default) s).toNat := fun s => by unfold tl; rw [(r.cpPos hi hne s).2.1, ha, Bool.not_not]
 have e0 := r.he i hi false
 have e1 := r.he i hi true
 obtain ⟨c1, c2, c3⟩ := r.cpPos hi hne false
 obtain ⟨d1, d2, d3⟩ := r.cpPos hi hne true
 have hf := hR _ c3
 simp only [Bool.not_false, Bool.not_true] at c2 d2
 rw [c2, c1] at hf
 rcases h with ⟨a1, a2, a3⟩ | ⟨a1, a2, a3⟩
 ·
  refine ⟨pos n.Arcs i false, c3, ?_, ?_, by omega⟩
  · rw [ht]; simp only [vtx, Bool.false_eq_true, if_false]; omega
  · rw [ha]; simp only [vtx, Bool.not_false, if_true]; omega
 ·
  refine ⟨pos n.Arcs i true, d3, ?_, ?_, by omega⟩
  · rw [ht]; simp only [vtx, if_true]; omega
  · rw [ha]; simp only [vtx, Bool.not_true, Bool.false_eq_true, if_false]; omega
theorem PreOK.far {p : Pre} {S T : Nat} (h : PreOK n m L c p) (r : Row n m L c) (hS : n.S = S) (hT : n.T = T) : ¬Reach (Zec n (flN n.Arcs p.Res)) S T := fun hr => by
 obtain ⟨⟨S', hS', -, hSm⟩, ⟨T', hT', -, hTm⟩, -, -⟩ := r.ends
 have hr2 : Reach (OpenJ c L p.Res) S T := hr.mono fun u v ho => open_j r h.ok.res ho
 have hp := Zf0 (H := fun v => p.H.getD v 0) (G := OpenJ c L p.Res) (fun u v ⟨j, hj, h1, h2, h3⟩ => by have := h.val j hj h3; rw [h1, h2] at this; exact this) hr2
 have h1 := h.hs.2.1 S hS
 have h2 := h.hs.2.2.1 T hT
 simp only [h1, h2] at hp
 refine Zgq (m := m) (H := fun v => p.H.getD v 0) (a := 0) fun k hk => ?_
 obtain ⟨w, hw, he⟩ := hp k (by omega) (by omega)
 exact ⟨w, Zl0 r (by omega) hw, by omega⟩
theorem PreOK.flow {p : Pre} (h : PreOK n m L c p) (r : Row n m L c) (ha : ∀ u, u < m → ¬Zau n p.Ex u) : AllP n (flN n.Arcs p.Res) (fun x => x = 0) [n.S, n.T] := by
 refine ⟨h.ok.within r, fun v hv => ?_⟩
 have hm := r.hm
 by_cases hc : (v : Int) ∈ [n.S, n.T]
 · exact .inr hc
 ·
  left
  simp only [List.mem_cons, List.not_mem_nil, or_false, not_or] at hc
  have hvm : v < m := by omega
  have h1 := h.nn v hvm hc.1
  have h2 := h.ok.ex v hvm
  have h3 : ¬0 < p.Ex.getD v 0 := fun h0 => ha v hvm ⟨hc.1, hc.2, h0⟩
  omega
theorem to_tight {f : List Int} {b : List Bool} {T : Nat} (he : Z5i m n.Arcs) (hb : ∀ v, v < m → (b.getD v false = true ↔ ¬Reach (Zec n f) v T)) : ∀ i, i < n.Arcs.length → Zbt n.Arcs f b i := fun i hi => by
 have e0 := he i hi false
 have e1 := he i hi true
 simp only [vtx, Bool.false_eq_true, if_false, if_true] at e0 e1
 obtain ⟨p, hp⟩ : ∃ p : Nat, (n.Arcs.getD i default).fr = p := ⟨(n.Arcs.getD i default).fr.toNat, by omega⟩
 obtain ⟨q, hq⟩ : ∃ q : Nat, (n.Arcs.getD i default).to = q := ⟨(n.Arcs.getD i default).to.toNat, by omega⟩
 rw [hp] at e0
 rw [hq] at e1
 unfold Zbt inS
 rw [hp, hq, Int.toNat_natCast, Int.toNat_natCast]
 have step : ∀ u v : Nat, u < m → v < m → Zec n f u v → b.getD u false = true → b.getD v false = true := fun u v hu hv ho h => (hb v hv).2 fun h7 => (hb u hu).1 h (Reach.trans (.step .refl ho) h7)
 refine ⟨fun h4 h5 => Int.not_lt.1 fun h6 => ?_, fun h4 h5 => Int.not_lt.1 fun h6 => ?_⟩
 ·
  have hne : (n.Arcs.getD i default).fr ≠ (n.Arcs.getD i default).to := fun e => by rw [show p = q by omega, h5] at h4; cases h4
  rw [step p q (by omega) (by omega) ⟨i, hi, hne, .inl ⟨hp, hq, h6⟩⟩ h4] at h5; cases h5
 ·
  have hne : (n.Arcs.getD i default).fr ≠ (n.Arcs.getD i default).to := fun e => by rw [show p = q by omega, h5] at h4; cases h4
  rw [step q p (by omega) (by omega) ⟨i, hi, hne, .inr ⟨hq, hp, h6⟩⟩ h5] at h4; cases h4
theorem s_FlowR {R : List Int} (r : Row n m L c) (hr : R.length = L) (hR : ∀ j, j < L → 0 ≤ R.getD j 0 ∧ R.getD j 0 + R.getD (rv c j) 0 = cp c j) : Ok (Z8i c R (n.Arcs.length : Int)) (fun t => t = (flN n.Arcs R, 0)) := by
 have hbd := r.bd
 refine Ok.mono (s_FlowG r.is r.he hbd.2.1 hbd.2.2.1 (fun j hj => ?_) hbd.2.2.1 r.caps (by rw [r.hL]; exact hr)) ?_
 ·
  rw [r.hL] at hj
  obtain ⟨i, s, hi, _, _, _, _, _, _, _, _, h, _⟩ := r.at hj
  omega
 rintro ⟨f, e⟩ (⟨-, h1, h2⟩ | ⟨⟨j, hj, hn⟩, -⟩)
 ·
  simp only at h1 h2
  subst h1
  rw [show f = flN n.Arcs R from Zgu 0 (by rw [h2.1, Zo8]) fun i hi => by
   rw [h2.1] at hi
   rw [h2.2 i, Zac hi]
   by_cases hne : (n.Arcs.getD i default).fr = (n.Arcs.getD i default).to
   · rw [if_pos hne, if_neg (fun h => h.2.1 hne)]
   · rw [if_neg hne, if_pos ⟨hi, hne, Zaz hi hne r.he⟩]]
 ·
  rw [r.hL] at hj
  exact absurd ((Zlz r).2 hR j hj) hn
end row
end Go.Acq
namespace Go.Acq
open Go
set_option linter.unusedSimpArgs false
set_option linter.unusedVariables false
theorem Zhn {l : List Bool} {i : Nat} (hi : i < l.length) (hf : l.getD i false = true) : ∀ k : Nat, tc (l.set i false) k + (if i < k then 1 else 0) = tc l k
 | 0 => by simp [tc]
 | k + 1 => by
  have ih := Zhn hi hf k
  simp only [tc, Zcm]
  by_cases c : i = k
  ·
   subst c
   rw [if_neg (show ¬ i < i by omega)] at ih
   rw [if_pos (show i = i ∧ i < l.length from ⟨rfl, hi⟩), hf, if_pos (show i < i + 1 by omega)]; simp; omega
  ·
   rw [if_neg (show ¬(i = k ∧ i < l.length) from fun h => c h.1)]
   by_cases c2 : i < k
   · rw [if_pos c2] at ih; rw [if_pos (show i < k + 1 by omega)]; omega
   · rw [if_neg c2] at ih; rw [if_neg (show ¬ i < k + 1 by omega)]; omega
theorem Zku {l : List Int} {u : Nat} {x : Int} (hu : u < l.length) : ∀ m : Nat, Z75 (fun v => (l.set u x).getD v 0) m = Z75 (fun v => l.getD v 0) m + (if u < m then x - l.getD u 0 else 0)
 | 0 => by simp [Z75]
 | m + 1 => by
  have ih := Zku (x := x) hu m
  simp only [Z75]
  rw [ih, Zcm]
  by_cases c : u = m
  ·
   subst c
   rw [if_neg (show ¬ u < u by omega), if_pos ⟨rfl, hu⟩, if_pos (show u < u + 1 by omega)]; omega
  ·
   rw [if_neg (show ¬(u = m ∧ u < l.length) from fun h => c h.1)]
   by_cases c2 : u < m
   · rw [if_pos c2, if_pos (show u < m + 1 by omega)]; omega
   · rw [if_neg c2, if_neg (show ¬ u < m + 1 by omega)]; omega
theorem Zim {f : Nat → Int} {i0 : Nat} : ∀ {k : Nat}, i0 < k → Z75 (fun i => if i = i0 then f i + 1 else f i) k = Z75 f k + 1
 | 0, h => by omega
 | k + 1, h => by
  simp only [Z75]
  by_cases c : k = i0
  ·
   subst c
   rw [if_pos rfl, Zgn (g := fun i => if i = k then f i + 1 else f i) (h := f) fun i hi => if_neg (by omega)]; omega
  · rw [if_neg c, Zim (by omega)]; omega
theorem Zbg (a : Int) : ∀ k : Nat, Z75 (fun _ => a) k = k * a
 | 0 => by simp [Z75]
 | k + 1 => by simp only [Z75, Zbg a k]; rw [Int.natCast_succ, Int.add_mul, Int.one_mul]
theorem Zik (f : Nat → Int) (a : Int) : ∀ k : Nat, Z75 (fun i => a * f i) k = a * Z75 f k
 | 0 => by simp [Z75]
 | k + 1 => by simp only [Z75, Zik f a k]; rw [Int.mul_add]
theorem Znz {a b A B : Int} (h0 : 0 ≤ a) (h1 : a ≤ A) (h2 : 0 ≤ b) (h3 : b ≤ B) : 0 ≤ a * b ∧ a * b ≤ A * B := ⟨Int.mul_nonneg h0 h2, Int.mul_le_mul h1 h3 h2 (by omega)⟩
theorem upset {mt : List Bool} {v w : Nat} (h : mt.getD w false = true) : (mt.set v true).getD w false = true := by
 rw [Zcm]; split
 · rfl
 · exact h
structure QOK (n : Net) (m : Nat) (buf : List Int) (ins : List Bool) : Prop where
  len : ins.length = m
  nat : ∀ q, q < buf.length → ∃ u : Nat, buf.getD q 0 = u ∧ u < m ∧ ins.getD u false = true ∧ (u : Int) ≠ n.S ∧ (u : Int) ≠ n.T
  inj : ∀ q q', q < buf.length → q' < buf.length → buf.getD q 0 = buf.getD q' 0 → q = q'
  cnt : buf.length = tc ins m
theorem QOK.none (n : Net) (m : Nat) : QOK n m [] (List.replicate m false) := ⟨List.length_replicate, fun q hq => by simp at hq, fun q q' hq => by simp at hq, by rw [Zjy]; rfl⟩
theorem QOK.le {n : Net} {m : Nat} {buf : List Int} {ins : List Bool} (h : QOK n m buf ins) : buf.length ≤ m := by rw [h.cnt]; exact tc_le _ _
theorem QOK.room {n : Net} {m : Nat} {buf : List Int} {ins : List Bool} {v : Nat} (h : QOK n m buf ins) (hv : v < m) (hf : ins.getD v false = false) : buf.length < m := by
 have h1 := Zij (l := ins) (by rw [h.len]; exact hv) hf m
 have h2 := tc_le (ins.set v true) m
 rw [if_pos hv] at h1
 have := h.cnt
 omega
theorem QOK.put {n : Net} {m : Nat} {buf : List Int} {ins : List Bool} {v : Nat} (h : QOK n m buf ins) (hv : v < m) (hf : ins.getD v false = false) (hS : (v : Int) ≠ n.S) (hT : (v : Int) ≠ n.T) : QOK n m (buf ++ [(v : Int)]) (ins.set v true) := by
 have hl := h.len
 refine ⟨by simp [hl], fun q hq => ?_, fun q q' hq hq' he => ?_, ?_⟩
 ·
  rw [List.length_append, List.length_singleton] at hq
  rcases Nat.lt_or_ge q buf.length with h1 | h1
  ·
   obtain ⟨u, h2, h3, h4, h5⟩ := h.nat q h1
   refine ⟨u, by rw [Z4o h1]; exact h2, h3, ?_, h5⟩
   rw [Zcm]; split
   · rfl
   · exact h4
  ·
   refine ⟨v, ?_, hv, by rw [Zcm, if_pos ⟨rfl, by omega⟩], hS, hT⟩
   rw [Zb4 h1, show q - buf.length = 0 by omega]; rfl
 ·
  rw [List.length_append, List.length_singleton] at hq hq'
  have key : ∀ q, q < buf.length → buf.getD q 0 ≠ (v : Int) := fun q h1 e => by
   obtain ⟨u, h2, h3, h4, -⟩ := h.nat q h1
   have : u = v := by omega
   subst this; rw [hf] at h4; cases h4
  have last : ∀ q, ¬ q < buf.length → q < buf.length + 1 → (buf ++ [(v : Int)]).getD q 0 = v := fun q h1 h2 => by
   rw [Zb4 (by omega), show q - buf.length = 0 by omega]; rfl
  by_cases h1 : q < buf.length <;> by_cases h2 : q' < buf.length
  · rw [Z4o h1, Z4o h2] at he; exact h.inj q q' h1 h2 he
  · rw [Z4o h1, last q' h2 hq'] at he; exact absurd he (key q h1)
  · rw [Z4o h2, last q h1 hq] at he; exact absurd he.symm (key q' h2)
  · omega
 · rw [List.length_append, List.length_singleton, Zij (by omega) hf, if_pos hv, h.cnt]
theorem QOK.cut {n : Net} {m : Nat} {v : Int} {buf : List Int} {ins : List Bool} (h : QOK n m (v :: buf) ins) : ∃ u : Nat, v = u ∧ u < m ∧ (u : Int) ≠ n.S ∧ (u : Int) ≠ n.T ∧ ins.getD u false = true ∧ QOK n m buf (ins.set u false) := by
 obtain ⟨u, h1, h2, h3, h4, h5⟩ := h.nat 0 (by simp)
 have h1 : v = (u : Int) := h1
 have hl := h.len
 refine ⟨u, h1, h2, h4, h5, h3, by simp [hl], fun q hq => ?_, fun q q' hq hq' he => ?_, ?_⟩
 ·
  obtain ⟨w, g1, g2, g3, g4⟩ := h.nat (q + 1) (by simpa using hq)
  refine ⟨w, g1, g2, ?_, g4⟩
  rw [Z48 fun e => ?_]
  · exact g3
  ·
   subst e
   have := h.inj 0 (q + 1) (by simp) (by simpa using hq) (by rw [g1]; exact h1)
   omega
 ·
  have := h.inj (q + 1) (q' + 1) (by simpa using hq) (by simpa using hq') he
  omega
 ·
  have e1 := Zhn (l := ins) (by rw [hl]; exact h2) h3 m
  rw [if_pos h2] at e1
  have := h.cnt
  simp only [List.length_cons] at this
  omega
section row
variable {n : Net} {m L : Nat} {c : Csr}
def Z5c (n : Net) (r : FifoRun) (v : Nat) : FifoRun := if Zau n r.p.Ex v ∧ r.ins.getD v false = false then ⟨r.c, r.p, r.row.put v, r.ins.set v true, r.work⟩ else r
theorem s_wait {x : FifoRun} {v : Nat} (r : Row n m L c) (hc : x.c = c) (lx : x.p.Ex.length = m) (hq : QOK n m x.row.buf x.ins) (hcap : x.row.cap = m) (hv : v < m) : Z46 x (v : Nat) = some (Z5c n x v) := by
 obtain ⟨⟨S, hS, hcS, hSm⟩, ⟨T, hT, hcT, hTm⟩, -, -⟩ := r.ends
 have hl := hq.len
 refine Zgi ?_
 have j3 : ∀ b : Bool, (b = true ↔ Zau n x.p.Ex v ∧ x.ins.getD v false = false) → Ok (Z36 x v b) (fun t => t = Z5c n x v) := fun b hb => by
  unfold Z36 Z5c
  simp only [Int.toNat_natCast]
  refine Ok.ite.2 ⟨fun h => ?_, fun h => ?_⟩
  ·
   have h2 := hb.1 h
   rw [if_pos h2]
   have := hq.room hv h2.2
   exact Ok.gd.2 ⟨by constructor <;> omega, Ok.gd.2 ⟨by omega, Ok.some.2 rfl⟩⟩
  · rw [if_neg fun h2 => h (hb.2 h2)]; exact Ok.some.2 rfl
 have j2 : ∀ b : Bool, (b = true ↔ Zau n x.p.Ex v) → Ok (Z37 x v b) (fun t => t = Z5c n x v) := fun b hb => by
  unfold Z37
  simp only [Int.toNat_natCast]
  refine Ok.ite.2 ⟨fun h => Ok.gd.2 ⟨by constructor <;> omega, j3 _ ?_⟩, fun h => j3 _ ?_⟩
  ·
   have := hb.1 h
   cases x.ins.getD v false <;> simp [this]
  · exact ⟨fun h2 => (by cases h2), fun h2 => absurd (hb.2 h2.1) h⟩
 unfold Z46 Z3s
 rw [hc, hcS, hcT]
 refine Ok.ite.2 ⟨fun h1 => Ok.ite.2 ⟨fun h2 => Ok.gd.2 ⟨by constructor <;> omega, ?_⟩, fun h2 => ?_⟩, fun h1 => Ok.ite.2 ⟨fun h2 => (by cases h2), fun _ => ?_⟩⟩
 ·
  rw [Int.toNat_natCast]
  refine j2 _ ?_
  have := of_decide_eq_true h2
  unfold Zau
  rw [decide_eq_true_iff]
  exact ⟨fun h => ⟨by omega, by omega, h⟩, fun h => h.2.2⟩
 · refine j2 _ ⟨fun h => (by cases h), fun h => absurd (decide_eq_true (show (v : Int) ≠ T by have := h.2.1; omega)) h2⟩
 · exact j2 _ ⟨fun h => (by cases h), fun h => absurd (show (v : Int) ≠ S by have := h.1; omega) h1⟩
theorem Z8o (n : Net) (x : FifoRun) (v : Nat) : (Z5c n x v).p = x.p := by unfold Z5c; split <;> rfl
theorem Znh (n : Net) (x : FifoRun) (v : Nat) : (Z5c n x v).c = x.c := by unfold Z5c; split <;> rfl
theorem Zhc (n : Net) (x : FifoRun) (v : Nat) : (Z5c n x v).work = x.work := by unfold Z5c; split <;> rfl
theorem Zif (n : Net) (x : FifoRun) (v : Nat) : (Z5c n x v).row.cap = x.row.cap := by unfold Z5c; split <;> rfl
theorem Znf {x : FifoRun} {v : Nat} (hq : QOK n m x.row.buf x.ins) (hv : v < m) : QOK n m (Z5c n x v).row.buf (Z5c n x v).ins := by
 unfold Z5c
 split
 · rename_i h; exact hq.put hv h.2 h.1.1 h.1.2.1
 · exact hq
theorem Zie {x : FifoRun} {v w : Nat} (hw : x.ins.getD w false = true) : (Z5c n x v).ins.getD w false = true := by
 unfold Z5c
 split
 · exact upset hw
 · exact hw
theorem Zkq {x : FifoRun} {v : Nat} (hl : x.ins.length = m) (hv : v < m) (h : Zau n x.p.Ex v) : (Z5c n x v).ins.getD v false = true := by
 unfold Z5c
 split
 · exact Zc5 (by omega)
 ·
  rename_i h2
  cases e : x.ins.getD v false with
  | true => rfl
  | false => exact absurd ⟨h, e⟩ h2
theorem Zng {x : FifoRun} {v w : Nat} (hw : w ≠ v) : (Z5c n x v).ins.getD w false = x.ins.getD w false := by
 unfold Z5c
 split
 · exact Z48 (Ne.symm hw)
 · rfl
theorem s_fpush {x : FifoRun} {j : Nat} (r : Row n m L c) (hc : x.c = c) (h : PreOK n m L c x.p) (hq : QOK n m x.row.buf x.ins) (hcap : x.row.cap = m) (hj : j < L) (h1 : 0 < x.p.Ex.getD (tl c j) 0) (h2 : 0 < x.p.Res.getD j 0) (hw : 0 ≤ x.work.Pushes ∧ x.work.Pushes ≤ 1000000000000000) :
    Z51 x (tl c j : Nat) (j : Nat) = some (Z5c n ⟨c, Z9f c x.p j, x.row, x.ins, ⟨x.work.Pushes + 1, x.work.Lifts⟩⟩ (hd c j)) := by
  refine Zgi ?_
  obtain ⟨xc, p, row, ins, work⟩ := x
  simp only at hc h hq hcap h1 h2 hw
  subst hc
  obtain ⟨-, lh, lr, -, -, -⟩ := r.lens
  have g1 := r.head hj
  have g2 := r.rev hj
  have g3 := r.tlh hj
  have hlr := h.ok.lr
  have hlx := h.ok.lx
  have hD : Zat xc p j = min (p.Ex.getD (tl xc j) 0) (p.Res.getD j 0) := rfl
  have d0 : 0 ≤ Zat xc p j := by omega
  have d1 : Zat xc p j ≤ p.Res.getD j 0 := by omega
  have hm := h.ok.move r hj d0 d1
  have b1 := h.ok.bnd r g3.1
  have b2 := hm.bnd r g1.2
  have b3 := h.ok.rle r hj
  have b4 := hm.rle r g2.2.1
  have b5 := h.ok.rle r g2.2.1
  rw [Zbh r hlx hj, if_neg g3.2.2.2, if_pos rfl] at b2
  rw [Z92 r hlr hj, if_pos rfl] at b4
  have e1 : (p.Res.set j (p.Res.getD j 0 - Zat xc p j)).getD (rv xc j) 0 = p.Res.getD (rv xc j) 0 := Z48 fun e => g2.2.2.2 e.symm
  have e2 : (p.Ex.set (tl xc j) (p.Ex.getD (tl xc j) 0 - Zat xc p j)).getD (hd xc j) 0 = p.Ex.getD (hd xc j) 0 := Z48 g3.2.2.2
  unfold Z51
  simp only [Int.toNat_natCast, g1.1, g2.1, ← hD, e1, e2, List.length_set, hlr, hlx, lh, lr]
  have i1 : inb (j : Int) L := by constructor <;> omega
  have i2 : inb ((rv xc j : Nat) : Int) L := by constructor <;> omega
  have i3 : inb ((tl xc j : Nat) : Int) m := by constructor <;> omega
  have i4 : inb ((hd xc j : Nat) : Int) m := by constructor <;> omega
  have o1 : i64ok (p.Res.getD j 0 - Zat xc p j) := by constructor <;> omega
  have o2 : i64ok (p.Res.getD (rv xc j) 0 + Zat xc p j) := by constructor <;> omega
  have o3 : i64ok (p.Ex.getD (tl xc j) 0 - Zat xc p j) := by constructor <;> omega
  have o4 : i64ok (p.Ex.getD (hd xc j) 0 + Zat xc p j) := by constructor <;> omega
  have o5 : i64ok (work.Pushes + 1) := by constructor <;> omega
  refine Ok.gd.2 ⟨i1, Ok.gd.2 ⟨i1, Ok.gd.2 ⟨i3, Ok.gd.2 ⟨i1, Ok.gd.2 ⟨i1, Ok.gd.2 ⟨o1, Ok.gd.2 ⟨i1, Ok.gd.2 ⟨i2, Ok.gd.2 ⟨o2, Ok.gd.2 ⟨i2, Ok.gd.2 ⟨i3, Ok.gd.2 ⟨o3, Ok.gd.2 ⟨i3, Ok.gd.2 ⟨i4, Ok.gd.2 ⟨o4, Ok.gd.2 ⟨i4, Ok.gd.2 ⟨o5, Ok.bind.2 ?_⟩⟩⟩⟩⟩⟩⟩⟩⟩⟩⟩⟩⟩⟩⟩⟩⟩
  refine Z8q (s_wait (x := ⟨xc, Z9f xc p j, row, ins, ⟨work.Pushes + 1, work.Lifts⟩⟩) r rfl hm.lx hq hcap g1.2) (Ok.some.2 ?_)
  unfold Z5c
  split <;> rfl
theorem s_once {x : FifoRun} {u : Nat} (r : Row n m L c) (hc : x.c = c) (h : PreOK n m L c x.p) (hq : QOK n m x.row.buf x.ins) (hcap : x.row.cap = m) (hu : u < m) (hA : Zau n x.p.Ex u) (hw : 0 ≤ x.work.Pushes ∧ x.work.Pushes ≤ 1000000000000000) (hw2 : 0 ≤ x.work.Lifts ∧ x.work.Lifts ≤ 1000000000000000) :
    Ok (Z52 x (u : Nat)) (fun y => (∃ j, j < L ∧ tl c j = u ∧ Zgf c x.p u j ∧ y = Z5c n ⟨c, Z9f c x.p j, x.row, x.ins, ⟨x.work.Pushes + 1, x.work.Lifts⟩⟩ (hd c j)) ∨ (Zbz n c x.p u ∧ y = ⟨c, Zc6 c x.p m u, x.row, x.ins, ⟨x.work.Pushes, x.work.Lifts + 1⟩⟩)) := by
  have lf := r.lens.1
  have llh := r.lens.2.1
  have b := r.bd
  have hN := r.is.hN
  have f1 := (r.first.1 u (by omega)).1
  have f2 := (r.first.1 (u + 1) (by omega)).1
  have f3 := r.first.2.2.2 u hu
  have e1 : ((u : Int) + 1).toNat = u + 1 := by omega
  have hlr := h.ok.lr
  have hb := h.hb r
  have hlh := hb.1
  have hbu := hb.2 u hu
  unfold Z52
  rw [hc, hN]
  simp only [Int.toNat_natCast, f1]
  refine Ok.gd.2 ⟨by constructor <;> omega, Ok.gd.2 ⟨by constructor <;> omega, Ok.bind.2 (Za5 (fun s => ∃ k : Nat, s = (Zl2 c x.p m (fs c u) (k - fs c u), (k : Int)) ∧ fs c u ≤ k ∧ k ≤ fs c (u + 1) ∧ ∀ j, fs c u ≤ j → j < k → ¬Zgf c x.p u j) (fun s => (fs c (u + 1) - s.2).toNat) ⟨fs c u, by rw [Nat.sub_self]; rfl, Nat.le_refl _, f3.1, fun j h1 h2 => by omega⟩ (by unfold Z4t; simp only; omega) ?_)⟩⟩
  rintro s ⟨k, rfl, hk0, hk, hno⟩ P next exit
  have hlow := (Zk8 (c := c) (m := m) x.p (fs c u) (k - fs c u))
  unfold Z3t
  rw [hc]
  simp only [Int.toNat_natCast, e1, f2]
  refine Ok.gd.2 ⟨by constructor <;> omega, Ok.gd.2 ⟨by constructor <;> omega, Ok.ite.2 ⟨fun hx => ?_, fun hx => Ok.some.2 (exit _ ?_)⟩⟩⟩
  · have hkL : k < L := by omega
    have htl := (r.range hkL hu).1 ⟨hk0, by omega⟩
    have g1 := r.head hkL
    have g4 := h.ok.rle r hkL
    have hbh := hb.2 _ g1.2
    have ek : k + 1 - fs c u = (k - fs c u) + 1 := by omega
    have ek2 : fs c u + (k - fs c u) = k := by omega
    refine Ok.gd.2 ⟨by constructor <;> omega, Ok.ite.2 ⟨fun h0 => Ok.gd.2 ⟨by constructor <;> omega, Ok.some.2 (next _ ⟨k + 1, ?_, by omega, by omega, fun j h1 h2 => ?_⟩ (by simp only; omega))⟩, fun h0 => ?_⟩⟩
    · rw [ek]; simp only [Zl2, ek2]; rw [if_neg (by omega)]; simp
    · by_cases e : j = k
      · subst e; exact fun hA2 => by have := hA2.1; omega
      · exact hno j h1 (by omega)
    · simp only [g1.1, Int.toNat_natCast]
      refine Ok.gd.2 ⟨by constructor <;> omega, Ok.gd.2 ⟨by constructor <;> omega, Ok.gd.2 ⟨by constructor <;> omega, Ok.gd.2 ⟨by constructor <;> omega, Ok.ite.2 ⟨fun h5 => Ok.bind.2 ?_, fun h5 => Ok.gd.2 ⟨by constructor <;> omega, Ok.some.2 (next _ ⟨k + 1, ?_, by omega, by omega, fun j h1 h2 => ?_⟩ (by simp only; omega))⟩⟩⟩⟩⟩⟩
      · have hp := s_fpush r hc h hq hcap hkL (by rw [htl]; exact hA.2.2) (by omega) hw
        rw [htl] at hp
        refine Z8q hp (Ok.some.2 (exit _ (Ok.some.2 (.inl ⟨k, hkL, htl, ⟨by omega, h5⟩, ?_⟩))))
        unfold Z5c
        split <;> rfl
      · rw [ek]; simp only [Zl2, ek2]; rw [if_pos (by omega)]; simp
      · by_cases e : j = k
        · subst e; exact fun hA2 => h5 hA2.2
        · exact hno j h1 (by omega)
  · obtain rfl : k = fs c (u + 1) := by omega
    have hge : -1000000 ≤ Zgs c x.p m u := by
      rcases (Zk7 x.p r hu).2 with h | ⟨j, h1, -, -, h4⟩
      · omega
      · have := hb.2 _ (r.head h1).2; omega
    have hlv : Zl2 c x.p m (fs c u) (fs c (u + 1) - fs c u) = Zgs c x.p m u := rfl
    have hle := (Zk7 x.p r hu).1
    simp only
    unfold Z4v
    rw [hlv]
    simp only [Int.toNat_natCast]
    exact Ok.gd.2 ⟨by constructor <;> omega, Ok.gd.2 ⟨by constructor <;> omega, Ok.gd.2 ⟨by constructor <;> omega, Ok.some.2 (.inr ⟨⟨hA, fun j h1 h2 => hno j h1 h2⟩, by rw [hc]; rfl⟩)⟩⟩⟩
end row
end Go.Acq
namespace Go.Acq
open Go
set_option linter.unusedSimpArgs false
set_option linter.unusedVariables false
def nlI (n : Net) (i : Nat) : Int := if (n.Arcs.getD i default).fr = (n.Arcs.getD i default).to then 0 else 1
def ai (c : Csr) (j : Nat) : Nat := (c.Arc.getD j 0).toNat
def hsum (p : Pre) (m : Nat) : Int := Z75 (fun v => p.H.getD v 0) m
section row
variable {n : Net} {m L : Nat} {c : Csr}
theorem Row.ai (r : Row n m L c) {j : Nat} (hj : j < L) : ai c j < n.Arcs.length ∧ nlI n (ai c j) = 1 ∧ Acq.ai c (rv c j) = Acq.ai c j ∧ ∀ k, k < L → Acq.ai c k = Acq.ai c j → k = j ∨ k = rv c j := by
 obtain ⟨i, s, hi, hne, hp, q1, q2, q3, q4, q5, q6, q7, q8⟩ := r.at hj
 have e : Acq.ai c j = i := by unfold Acq.ai; omega
 have hr := r.rev hj
 rw [e]
 refine ⟨hi, if_neg hne, ?_, fun k hk he => ?_⟩
 ·
  obtain ⟨i', s', hi', hne', hp', -, -, -, -, -, -, q7', -⟩ := r.at hr.2.1
  have e' : Acq.ai c (rv c j) = i' := by unfold Acq.ai; omega
  rw [e']
  rw [q5] at hp'
  exact (Z9g r.he hi' hi hne' hne hp').1
 ·
  obtain ⟨i', s', hi', hne', hp', -, -, -, -, -, -, q7', -⟩ := r.at hk
  have e' : Acq.ai c k = i' := by unfold Acq.ai; omega
  have : i' = i := by omega
  subst this
  cases s <;> cases s'
  · exact .inl (by rw [← hp', hp])
  · exact .inr (by rw [← hp', q5]; rfl)
  · exact .inr (by rw [← hp', q5]; rfl)
  · exact .inl (by rw [← hp', hp])
theorem PreOK.hsum {p : Pre} (h : PreOK n m L c p) (r : Row n m L c) : (m : Int) ≤ hsum p m ∧ Acq.hsum p m ≤ m + ((m : Int) - 2) * (2 * m - 1) := by
 obtain ⟨⟨S, hS, -, hSm⟩, ⟨T, hT, -, hTm⟩, hne, -⟩ := r.ends
 have h1 := h.hs.2.1 S hS
 have h2 := h.hs.2.2.1 T hT
 have h3 := h.hs.2.2.2
 have hST : S ≠ T := by omega
 constructor
 ·
  have a : Z75 (fun v => if v = S then (m : Int) else 0) m = m := by
   rw [Za7 (i := S) hSm fun j _ hj => if_neg hj, if_pos rfl]
  rw [← a]
  refine Zel fun v hv => ?_
  split
  · rename_i e; subst e; omega
  · rename_i e; exact (h3 v hv).1
 ·
  have a : Z75 (fun v => (2 * (m : Int) - 1) + ((if v = S then (1 - (m : Int)) else 0) + (if v = T then (1 - 2 * (m : Int)) else 0))) m = m + ((m : Int) - 2) * (2 * m - 1) := by
   rw [Zhq, Zhq, Zbg, Za7 (i := S) hSm fun j _ hj => if_neg hj, if_pos rfl, Za7 (i := T) hTm fun j _ hj => if_neg hj, if_pos rfl, Int.sub_mul]
   omega
  rw [← a]
  refine Zel fun v hv => ?_
  have := h3 v hv
  by_cases e1 : v = S
  · subst e1; rw [if_pos rfl, if_neg hST, h1]; omega
  ·
   by_cases e2 : v = T
   · subst e2; rw [if_neg e1, if_pos rfl, h2]; omega
   · rw [if_neg e1, if_neg e2]; omega
structure SatI (n : Net) (m L : Nat) (c : Csr) (p : Pre) (f : Nat → Int) : Prop where
  nn : ∀ i, i < n.Arcs.length → 0 ≤ f i ∧ f i ≤ (2 * m - 1) * nlI n i
  op : ∀ j, j < L → 0 < p.Res.getD j 0 → f (ai c j) + 1 ≤ max (p.H.getD (tl c j) 0) (p.H.getD (hd c j) 0 + 1)
theorem SatI.zero {p : Pre} (h : PreOK n m L c p) (r : Row n m L c) : SatI n m L c p (fun _ => 0) := by
 have b := r.bd
 refine ⟨fun i hi => ⟨Int.le_refl _, ?_⟩, fun j hj _ => ?_⟩
 · unfold nlI; split <;> omega
 · have := h.hs.2.2.2 _ (r.head hj).2; omega
theorem SatI.lift {p : Pre} {f : Nat → Int} {u : Nat} (h : SatI n m L c p f) (hp : PreOK n m L c p) (r : Row n m L c) (hu : u < m) (hl : p.H.getD u 0 ≤ Zgs c p m u) : SatI n m L c (Zc6 c p m u) f := by
 refine ⟨h.nn, fun j hj h0 => ?_⟩
 have h1 := h.op j hj h0
 have hlh := hp.hs.1
 have key : ∀ v, p.H.getD v 0 ≤ (Zc6 c p m u).H.getD v 0 := fun v => by
  simp only [Zc6]
  rw [Zcm]; split
  · rename_i e; rw [← e.1]; omega
  · exact Int.le_refl _
 have := key (tl c j)
 have := key (hd c j)
 omega
theorem SatI.push {p : Pre} {f : Nat → Int} {j : Nat} (h : SatI n m L c p f) (hp : PreOK n m L c p) (r : Row n m L c) (hj : j < L) (hA : 0 < p.Ex.getD (tl c j) 0) (hB : Zgf c p (tl c j) j) :
    (p.Res.getD j 0 ≤ p.Ex.getD (tl c j) 0 → SatI n m L c (Z9f c p j) (fun i => if i = ai c j then f i + 1 else f i)) ∧ (¬p.Res.getD j 0 ≤ p.Ex.getD (tl c j) 0 → SatI n m L c (Z9f c p j) f) := by
  have hD : Zat c p j = min (p.Ex.getD (tl c j) 0) (p.Res.getD j 0) := rfl
  have hlr := hp.ok.lr
  have ht := r.tlh hj
  have hr := r.rev hj
  have hai := r.ai hj
  have h1 := h.op j hj hB.1
  have h2 := hB.2
  have h3 := hp.hs.2.2.2 _ ht.1
  have e0 : ∀ k, (Z9f c p j).Res.getD k 0 = if k = rv c j then p.Res.getD (rv c j) 0 + Zat c p j else if k = j then p.Res.getD j 0 - Zat c p j else p.Res.getD k 0 := fun k => Z92 r hlr hj
  have eh : (Z9f c p j).H = p.H := rfl
  have hnn := h.nn _ hai.1
  rw [hai.2.1] at hnn
  refine ⟨fun hs => ⟨fun i hi => ?_, fun k hk h0 => ?_⟩, fun hs => ⟨h.nn, fun k hk h0 => ?_⟩⟩
  · by_cases e : i = Acq.ai c j
    · subst e; rw [if_pos rfl, hai.2.1]; omega
    · rw [if_neg e]; exact h.nn i hi
  · rw [e0] at h0
    rw [eh]
    by_cases c1 : k = rv c j
    · subst c1; rw [if_pos hai.2.2.1, hai.2.2.1, ht.2.1, ht.2.2.1]; omega
    · rw [if_neg c1] at h0
      by_cases c2 : k = j
      · subst c2; rw [if_pos rfl] at h0; omega
      · rw [if_neg c2] at h0
        have : Acq.ai c k ≠ Acq.ai c j := fun e => (hai.2.2.2 k hk e).elim c2 c1
        rw [if_neg this]; exact h.op k hk h0
  · rw [e0] at h0
    rw [eh]
    by_cases c1 : k = rv c j
    · subst c1; rw [hai.2.2.1, ht.2.1, ht.2.2.1]; omega
    · rw [if_neg c1] at h0
      by_cases c2 : k = j
      · subst c2; exact h1
      · rw [if_neg c2] at h0; exact h.op k hk h0
structure FI (n : Net) (m L : Nat) (c : Csr) (h0 Hm R0 : Int) (x : FifoRun) (k : Nat) (X : Int) (f : Nat → Int) (q : Int) : Prop where
  cc : x.c = c
  ok : PreOK n m L c x.p
  qq : QOK n m x.row.buf x.ins
  cap : x.row.cap = m
  ps : ∀ v, v < m → x.ins.getD v false = true → 0 < x.p.Ex.getD v 0
  kl : k ≤ x.row.buf.length
  X0 : 0 ≤ X
  h1 : ∀ i, i < k → ∀ u : Nat, x.row.buf.getD i 0 = u → x.p.H.getD u 0 ≤ X
  h2 : ∀ i, k ≤ i → i < x.row.buf.length → ∀ u : Nat, x.row.buf.getD i 0 = u → x.p.H.getD u 0 + 1 ≤ X
  sat : SatI n m L c x.p f
  lf : 0 ≤ x.work.Lifts ∧ x.work.Lifts + h0 ≤ hsum x.p m
  pu : 0 ≤ x.work.Pushes
  hm : hsum x.p m ≤ Hm
  bud : q + m * (X + (Hm - hsum x.p m)) + k ≤ R0
  q0 : 0 ≤ q ∧ (q = 0 ∨ 3 ≤ m)
def InI (n : Net) (m L : Nat) (c : Csr) (h0 Hm R0 : Int) (u : Nat) (x : FifoRun) (k : Nat) (X : Int) (f : Nat → Int) (q : Int) : Prop :=
  FI n m L c h0 Hm R0 x k X f q ∧ x.ins.getD u false = false ∧ x.p.H.getD u 0 ≤ X ∧ (∀ v, v < m → v ≠ u → Zau n x.p.Ex v → x.ins.getD v false = true) ∧ x.work.Pushes + (if 0 < x.p.Ex.getD u 0 then 1 else 0) ≤ Z75 f n.Arcs.length + q
theorem FI.bnd {h0 Hm R0 X q : Int} {x : FifoRun} {k : Nat} {f : Nat → Int} (h : FI n m L c h0 Hm R0 x k X f q) (hP : x.work.Pushes ≤ Z75 f n.Arcs.length + q) :
    q ≤ R0 ∧ Z75 f n.Arcs.length ≤ (2 * m - 1) * Z75 (nlI n) n.Arcs.length ∧ x.work.Pushes ≤ (2 * m - 1) * Z75 (nlI n) n.Arcs.length + R0 ∧ x.work.Lifts ≤ Hm - h0 := by
  have h1 := h.hm
  have h2 := h.X0
  have h3 := h.bud
  have h4 : 0 ≤ (m : Int) * (X + (Hm - hsum x.p m)) := Int.mul_nonneg (by omega) (by omega)
  have h5 : Z75 f n.Arcs.length ≤ Z75 (fun i => (2 * (m : Int) - 1) * nlI n i) n.Arcs.length := Zel fun i hi => (h.sat.nn i hi).2
  rw [Zik] at h5
  have h6 := h.lf
  refine ⟨by omega, h5, by omega, by omega⟩
theorem Zid {x : FifoRun} {v w : Nat} (hw : (Z5c n x v).ins.getD w false = true) : x.ins.getD w false = true ∨ (w = v ∧ Zau n x.p.Ex v) := by
 unfold Z5c at hw
 split at hw
 ·
  rename_i h
  simp only at hw
  by_cases e : w = v
  · exact .inr ⟨e, h.1⟩
  · rw [Z48 (Ne.symm e)] at hw; exact .inl hw
 · exact .inl hw
theorem Zeh (x : FifoRun) (v : Nat) : (Z5c n x v).row.buf = x.row.buf ∨ (Z5c n x v).row.buf = x.row.buf ++ [(v : Int)] := by
 unfold Z5c; split
 · exact .inr rfl
 · exact .inl rfl
theorem InI.push {h0 Hm R0 X q : Int} {x : FifoRun} {k u j : Nat} {f : Nat → Int} (h : InI n m L c h0 Hm R0 u x k X f q) (r : Row n m L c) (hj : j < L) (ht : tl c j = u) (hA : Zau n x.p.Ex u) (hB : Zgf c x.p u j) :
    ∃ f', InI n m L c h0 Hm R0 u (Z5c n ⟨c, Z9f c x.p j, x.row, x.ins, ⟨x.work.Pushes + 1, x.work.Lifts⟩⟩ (hd c j)) k X f' q := by
  subst ht
  obtain ⟨hF, hu, hX, hact, hP⟩ := h
  have htl := r.tlh hj
  have hhd := r.head hj
  have hD : Zat c x.p j = min (x.p.Ex.getD (tl c j) 0) (x.p.Res.getD j 0) := rfl
  have hE : ∀ v, (Z9f c x.p j).Ex.getD v 0 = x.p.Ex.getD v 0 - (if tl c j = v then Zat c x.p j else 0) + (if hd c j = v then Zat c x.p j else 0) := fun v => Zbh r hF.ok.ok.lx hj
  have hA2 := hA.2.2
  have hB1 := hB.1
  have hB2 := hB.2
  have hok := hF.ok.push r hj hA hB
  have hsat := hF.sat.push hF.ok r hj hA2 hB
  rw [if_pos hA2] at hP
  generalize hy : (⟨c, Z9f c x.p j, x.row, x.ins, ⟨x.work.Pushes + 1, x.work.Lifts⟩⟩ : FifoRun) = y
  have y1 : y.c = c := by rw [← hy]
  have y2 : y.p = Z9f c x.p j := by rw [← hy]
  have y3 : y.row = x.row := by rw [← hy]
  have y4 : y.ins = x.ins := by rw [← hy]
  have y5 : y.work = ⟨x.work.Pushes + 1, x.work.Lifts⟩ := by rw [← hy]
  have hq : QOK n m y.row.buf y.ins := by rw [y3, y4]; exact hF.qq
  have hlen := hF.qq.len
  have main : ∀ f', SatI n m L c (Z9f c x.p j) f' → x.work.Pushes + 1 + (if 0 < (Z9f c x.p j).Ex.getD (tl c j) 0 then 1 else 0) ≤ Z75 f' n.Arcs.length + q → InI n m L c h0 Hm R0 (tl c j) (Z5c n y (hd c j)) k X f' q := fun f' hs hp => by
    refine ⟨⟨by rw [Znh, y1], by rw [Z8o, y2]; exact hok, Znf hq hhd.2, by rw [Zif, y3]; exact hF.cap, fun v hv hi => ?_, ?_, hF.X0, fun i hi w hw => ?_, fun i hi1 hi2 w hw => ?_, by rw [Z8o, y2]; exact hs, ?_, ?_, ?_, ?_, hF.q0⟩, ?_, ?_, fun v hv hvu ha => ?_, ?_⟩
    · rw [Z8o, y2]
      rcases Zid hi with h1 | ⟨h1, h2⟩
      · rw [y4] at h1
        have := hF.ps v hv h1
        have hne : tl c j ≠ v := fun e => by rw [e, h1] at hu; cases hu
        rw [hE, if_neg hne]; split <;> omega
      · subst h1; rw [y2] at h2; exact h2.2.2
    · have := hF.kl
      rcases Zeh (n := n) y (hd c j) with e | e <;> rw [e, y3]
      · exact this
      · rw [List.length_append]; omega
    · rw [Z8o, y2]
      have hk := hF.kl
      have : (Z5c n y (hd c j)).row.buf.getD i 0 = x.row.buf.getD i 0 := by
        rcases Zeh (n := n) y (hd c j) with e | e <;> rw [e, y3]
        rw [Z4o (by omega)]
      rw [this] at hw
      exact hF.h1 i hi w hw
    · rw [Z8o, y2]
      show x.p.H.getD w 0 + 1 ≤ X
      rcases Zeh (n := n) y (hd c j) with e | e <;> rw [e, y3] at hi2 hw
      · exact hF.h2 i hi1 hi2 w hw
      · by_cases hl : i < x.row.buf.length
        · rw [Z4o hl] at hw; exact hF.h2 i hi1 hl w hw
        · rw [List.length_append, List.length_singleton] at hi2
          rw [Zb4 (by omega), show i - x.row.buf.length = 0 by omega] at hw
          have hw2 : ((hd c j : Nat) : Int) = w := by simpa using hw
          have : hd c j = w := by omega
          rw [← this]; omega
    · rw [Zhc, Z8o, y2, y5]; exact hF.lf
    · rw [Zhc, y5]; have := hF.pu; simp only; omega
    · rw [Z8o, y2]; exact hF.hm
    · rw [Z8o, y2]; exact hF.bud
    · rw [Zng (Ne.symm (fun e => htl.2.2.2 e.symm)), y4]; exact hu
    · rw [Z8o, y2]; exact hX
    · rw [Z8o, y2] at ha
      by_cases e : v = hd c j
      · subst e; exact Zkq (m := m) (by rw [y4]; exact hlen) hv (by rw [y2]; exact ha)
      · refine Zie ?_
        rw [y4]
        refine hact v hv hvu ⟨ha.1, ha.2.1, ?_⟩
        have := ha.2.2
        rw [hE, if_neg (Ne.symm hvu), if_neg (Ne.symm e)] at this; omega
    · rw [Zhc, Z8o, y2, y5]; exact hp
  by_cases hs : x.p.Res.getD j 0 ≤ x.p.Ex.getD (tl c j) 0
  · refine ⟨_, main _ (hsat.1 hs) ?_⟩
    rw [Zim (r.ai hj).1]
    split <;> omega
  · refine ⟨f, main f (hsat.2 hs) ?_⟩
    have e0 : (Z9f c x.p j).Ex.getD (tl c j) 0 = 0 := by rw [hE, if_pos rfl, if_neg (fun e => htl.2.2.2 e.symm)]; omega
    rw [e0, if_neg (by omega)]
    omega
theorem InI.lift {h0 Hm R0 X q : Int} {x : FifoRun} {k u : Nat} {f : Nat → Int} (h : InI n m L c h0 Hm R0 u x k X f q) (r : Row n m L c) (hu : u < m) (hS : Zbz n c x.p u) (hHm : ∀ p : Pre, PreOK n m L c p → hsum p m ≤ Hm) :
    ∃ X', InI n m L c h0 Hm R0 u ⟨c, Zc6 c x.p m u, x.row, x.ins, ⟨x.work.Pushes, x.work.Lifts + 1⟩⟩ k X' f q := by
  obtain ⟨hF, hui, hX, hact, hP⟩ := h
  obtain ⟨hok, hle⟩ := hF.ok.lift r hu hS
  have hlh := hF.ok.hs.1
  have hsu : hsum (Zc6 c x.p m u) m = hsum x.p m + (Zgs c x.p m u + 1 - x.p.H.getD u 0) := by
    unfold hsum
    simp only [Zc6]
    rw [Zku (by omega), if_pos hu]
  have hoff : ∀ w, w ≠ u → (Zc6 c x.p m u).H.getD w 0 = x.p.H.getD w 0 := fun w hw => Z48 (Ne.symm hw)
  have hat : (Zc6 c x.p m u).H.getD u 0 = Zgs c x.p m u + 1 := Zc5 (by omega)
  have hnb : ∀ i, i < x.row.buf.length → ∀ w : Nat, x.row.buf.getD i 0 = w → w ≠ u := fun i hi w hw e => by
    obtain ⟨w', g1, g2, g3, -⟩ := hF.qq.nat i hi
    have : w' = u := by omega
    rw [this, hui] at g3; cases g3
  have hkl := hF.kl
  have hlf := hF.lf
  have hX0 := hF.X0
  refine ⟨X + (Zgs c x.p m u + 1 - x.p.H.getD u 0), ⟨rfl, hok, hF.qq, hF.cap, hF.ps, hF.kl, by omega, fun i hi w hw => ?_, fun i hi1 hi2 w hw => ?_, hF.sat.lift hF.ok r hu hle, ?_, hF.pu, hHm _ hok, ?_, hF.q0⟩, hui, ?_, hact, hP⟩
  · have := hF.h1 i hi w hw
    simp only
    rw [hoff w (hnb i (by omega) w hw)]; omega
  · have := hF.h2 i hi1 hi2 w hw
    simp only
    rw [hoff w (hnb i hi2 w hw)]; omega
  · simp only; rw [hsu]; omega
  · simp only
    rw [hsu, show X + (Zgs c x.p m u + 1 - x.p.H.getD u 0) + (Hm - (hsum x.p m + (Zgs c x.p m u + 1 - x.p.H.getD u 0))) = X + (Hm - hsum x.p m) by omega]
    exact hF.bud
  · simp only; rw [hat]; omega
theorem FI.take {h0 Hm R0 X q : Int} {x : FifoRun} {k : Nat} {f : Nat → Int} {v : Int} {rest : List Int} (h : FI n m L c h0 Hm R0 x k X f q) (hact : ∀ v, v < m → Zau n x.p.Ex v → x.ins.getD v false = true) (hP : x.work.Pushes ≤ Z75 f n.Arcs.length + q) (r : Row n m L c) (hb : x.row.buf = v :: rest) :
    ∃ u : Nat, v = u ∧ u < m ∧ Zau n x.p.Ex u ∧ ∃ k' X', InI n m L c h0 Hm R0 u ⟨c, x.p, x.row.cut, x.ins.set u false, x.work⟩ k' X' f (q + 1) := by
  have hq := h.qq
  rw [hb] at hq
  obtain ⟨u, rfl, hu, huS, huT, hiu, hq2⟩ := hq.cut
  have hpos := h.ps u hu hiu
  have hlen := h.qq.len
  have hcb : x.row.cut.buf = rest := by unfold Chan.cut; rw [hb]; rfl
  have h3m : 3 ≤ m := by
    obtain ⟨⟨S, hS, -, hSm⟩, ⟨T, hT, -, hTm⟩, hne, -⟩ := r.ends
    omega
  refine ⟨u, rfl, hu, ⟨huS, huT, hpos⟩, ?_⟩
  have hbl := h.qq.le
  rw [hb] at hbl
  simp only [List.length_cons] at hbl
  have hX0 := h.X0
  have hkl := h.kl
  rw [hb] at hkl
  simp only [List.length_cons] at hkl
  have hbud := h.bud
  have hq0 := h.q0
  obtain ⟨k1, X1, g1, g2, g3, g4, g5, g6⟩ : ∃ (k1 : Nat) (X1 : Int), 1 ≤ k1 ∧ k1 ≤ rest.length + 1 ∧ 0 ≤ X1 ∧ (∀ i, i < k1 → ∀ w : Nat, x.row.buf.getD i 0 = w → x.p.H.getD w 0 ≤ X1) ∧ (∀ i, k1 ≤ i → i < x.row.buf.length → ∀ w : Nat, x.row.buf.getD i 0 = w → x.p.H.getD w 0 + 1 ≤ X1) ∧ q + m * (X1 + (Hm - hsum x.p m)) + k1 ≤ R0 := by
    by_cases hk : k = 0
    · subst hk
      have h0 := h.h2 0 (Nat.le_refl _) (by rw [hb]; simp) u (by rw [hb]; rfl)
      have hh := h.ok.hs.2.2.2 u hu
      refine ⟨rest.length + 1, X - 1, by omega, Nat.le_refl _, by omega, fun i hi w hw => ?_, fun i hi1 hi2 => by rw [hb, List.length_cons] at hi2; omega, ?_⟩
      · have := h.h2 i (Nat.zero_le _) (by rw [hb, List.length_cons]; exact hi) w hw
        omega
      · rw [show X - 1 + (Hm - hsum x.p m) = X + (Hm - hsum x.p m) - 1 by omega, Int.mul_sub, Int.mul_one]
        omega
    · exact ⟨k, X, by omega, hkl, hX0, h.h1, h.h2, hbud⟩
  have hget : ∀ i, rest.getD i 0 = x.row.buf.getD (i + 1) 0 := fun i => by rw [hb]; rfl
  refine ⟨k1 - 1, X1, ⟨rfl, h.ok, by rw [hcb]; exact hq2, by rw [← h.cap]; rfl, fun w hw hi => ?_, by rw [hcb]; omega, g3, fun i hi w hw => ?_, fun i hi1 hi2 w hw => ?_, h.sat, h.lf, h.pu, h.hm, ?_, ⟨by omega, .inr h3m⟩⟩, ?_, ?_, fun w hw hwu ha => ?_, ?_⟩
  · simp only at hi ⊢
    by_cases e : u = w
    · subst e; rw [Zc5 (by omega)] at hi; cases hi
    · rw [Z48 e] at hi; exact h.ps w hw hi
  · simp only [hcb] at hw; rw [hget] at hw; exact g4 (i + 1) (by omega) w hw
  · simp only [hcb] at hw hi2; rw [hget] at hw; exact g5 (i + 1) (by omega) (by rw [hb, List.length_cons]; omega) w hw
  · simp only; omega
  · exact Zc5 (by omega)
  · exact g4 0 (by omega) u (by rw [hb]; rfl)
  · simp only
    rw [Z48 (Ne.symm hwu)]; exact hact w hw ha
  · simp only
    rw [if_pos hpos]; omega
end row
end Go.Acq
namespace Go.Acq
open Go
set_option linter.unusedSimpArgs false
set_option linter.unusedVariables false
section row
variable {n : Net} {m L : Nat} {c : Csr}
abbrev FS := List Int × List Int × List Int × Chan × List Bool × Int × Int
def xOf (c : Csr) (s : FS) : FifoRun := ⟨c, ⟨s.1, s.2.1, s.2.2.1⟩, s.2.2.2.1, s.2.2.2.2.1, ⟨s.2.2.2.2.2.1, s.2.2.2.2.2.2⟩⟩
theorem s_inner {h0 Hm R0 MS X q base : Int} {u k : Nat} {f : Nat → Int} {s0 : FS} (r : Row n m L c) (hu : u < m) (huS : (u : Int) ≠ n.S) (huT : (u : Int) ≠ n.T) (hHm : ∀ p : Pre, PreOK n m L c p → hsum p m ≤ Hm)
    (hMS : (2 * m - 1) * Z75 (nlI n) n.Arcs.length = MS) (hB : MS + R0 + (Hm - h0) ≤ 999999999999999) (hI : InI n m L c h0 Hm R0 u (xOf c s0) k X f q) (hb : base = s0.2.2.2.2.2.1 + s0.2.2.2.2.2.2) (hpos : 0 < s0.2.1.getD u 0)
    {Q : ((FS) ⊕ (Pre × Work)) → Prop}
    (done : ∀ s : FS, (∃ X f, InI n m L c h0 Hm R0 u (xOf c s) k X f q) → base + 1 ≤ s.2.2.2.2.2.1 + s.2.2.2.2.2.2 → ¬0 < s.2.1.getD u 0 → Q (.inl s)) :
    Ok (Option.bind (Z2k (fun s => Z5e c (u : Nat) s.1 s.2.1 s.2.2.1 s.2.2.2.1 s.2.2.2.2.1 s.2.2.2.2.2.1 s.2.2.2.2.2.2) Z4t s0) fun (p4_0_0, p4_0_1, p4_0_2, p4_0_3, p4_0_4, p4_0_5, p4_0_6) => some (Sum.inl (p4_0_0, p4_0_1, p4_0_2, p4_0_3, p4_0_4, p4_0_5, p4_0_6))) Q := by
  refine Ok.bind.2 (Za5 (fun s => (∃ X f, InI n m L c h0 Hm R0 u (xOf c s) k X f q) ∧ base ≤ s.2.2.2.2.2.1 + s.2.2.2.2.2.2 ∧ (0 < s.2.1.getD u 0 ∨ base + 1 ≤ s.2.2.2.2.2.1 + s.2.2.2.2.2.2)) (fun s => (1000000000000000 - (s.2.2.2.2.2.1 + s.2.2.2.2.2.2)).toNat) ⟨⟨X, f, hI⟩, by omega, .inl hpos⟩ ?_ ?_)
  · have h1 := hI.1.pu
    have h2 := hI.1.lf.1
    simp only [xOf] at h1 h2
    unfold Z4t; omega
  rintro ⟨R, E, H, ch, ins, P, Lf⟩ ⟨⟨X, f, hI⟩, hb1, hb2⟩ W next exit
  have hF := hI.1
  have h1 := hF.pu
  have h2 := hF.lf
  have hP := hI.2.2.2.2
  have h3 := hF.bnd (by split at hP <;> omega)
  rw [hMS] at h3
  have hlx := hF.ok.ok.lx
  simp only [xOf] at h1 h2 h3 hlx hb1 hb2 next ⊢
  unfold Z5e
  simp only [Int.toNat_natCast]
  refine Ok.gd.2 ⟨by constructor <;> omega, Ok.ite.2 ⟨fun hE => ?_, fun hE => Ok.some.2 (exit _ (Ok.some.2 (done _ ⟨X, f, hI⟩ (hb2.resolve_left hE) hE)))⟩⟩
  have hA : Zau n E u := ⟨huS, huT, hE⟩
  rw [if_pos (show 0 < (xOf c (R, E, H, ch, ins, P, Lf)).p.Ex.getD u 0 from hE)] at hP
  refine Ok.bind.2 (Ok.mono (s_once (x := xOf c (R, E, H, ch, ins, P, Lf)) r rfl hF.ok hF.qq hF.cap hu hA ⟨by simp only [xOf]; omega, by simp only [xOf]; omega⟩ ⟨by simp only [xOf]; omega, by simp only [xOf]; omega⟩) ?_)
  rintro y (⟨j, hj, ht, hAd, rfl⟩ | ⟨hS, rfl⟩)
  · obtain ⟨f', hI'⟩ := InI.push hI r hj ht hA hAd
    have hy := Zhc n ⟨c, Z9f c (xOf c (R, E, H, ch, ins, P, Lf)).p j, (xOf c (R, E, H, ch, ins, P, Lf)).row, (xOf c (R, E, H, ch, ins, P, Lf)).ins, ⟨(xOf c (R, E, H, ch, ins, P, Lf)).work.Pushes + 1, (xOf c (R, E, H, ch, ins, P, Lf)).work.Lifts⟩⟩ (hd c j)
    have hyc := Znh n ⟨c, Z9f c (xOf c (R, E, H, ch, ins, P, Lf)).p j, (xOf c (R, E, H, ch, ins, P, Lf)).row, (xOf c (R, E, H, ch, ins, P, Lf)).ins, ⟨(xOf c (R, E, H, ch, ins, P, Lf)).work.Pushes + 1, (xOf c (R, E, H, ch, ins, P, Lf)).work.Lifts⟩⟩ (hd c j)
    generalize Z5c n ⟨c, Z9f c (xOf c (R, E, H, ch, ins, P, Lf)).p j, (xOf c (R, E, H, ch, ins, P, Lf)).row, (xOf c (R, E, H, ch, ins, P, Lf)).ins, ⟨(xOf c (R, E, H, ch, ins, P, Lf)).work.Pushes + 1, (xOf c (R, E, H, ch, ins, P, Lf)).work.Lifts⟩⟩ (hd c j) = y at hI' hy hyc
    obtain ⟨yc, ⟨yR, yE, yH⟩, yr, yi, ⟨yP, yL⟩⟩ := y
    simp only [xOf] at hyc hy
    subst hyc
    injection hy with hy1 hy2
    subst hy1; subst hy2
    exact Ok.some.2 (next _ ⟨⟨X, f', hI'⟩, by simp only; omega, .inr (by simp only; omega)⟩ (by simp only; omega))
  · obtain ⟨X', hI'⟩ := InI.lift hI r hu hS hHm
    refine Ok.some.2 (next _ ⟨⟨X', f, hI'⟩, ?_, .inr ?_⟩ ?_)
    · simp only [xOf]; omega
    · simp only [xOf]; omega
    · simp only [xOf]; omega
theorem s_fRun {p : Pre} (r : Row n m L c) (h : PreOK n m L c p) : Ok (Z9o c p) (fun t => PreOK n m L c t.1 ∧ (∀ v, v < m → ¬Zau n t.1.Ex v) ∧ 0 ≤ t.2.Lifts ∧ t.2.Lifts ≤ ((m : Int) - 2) * (2 * m - 1) ∧ 0 ≤ t.2.Pushes ∧
    t.2.Pushes ≤ (2 * m - 1) * Z75 (nlI n) n.Arcs.length + m * (2 * (((m : Int) - 2) * (2 * m - 1)) + 1) ∧ ((∀ v, v < m → ¬Zau n p.Ex v) → t = (p, ⟨0, 0⟩))) := by
  have bd := r.bd
  have hN := r.is.hN
  have lr := h.ok.lr
  have lx := h.ok.lx
  have lh := h.hs.1
  obtain ⟨hs1, hs2⟩ := h.hsum r
  have hHm : ∀ q : Pre, PreOK n m L c q → hsum q m ≤ m + ((m : Int) - 2) * (2 * m - 1) := fun q hq => (hq.hsum r).2
  have e1 := Znz (a := (m : Int) - 2) (A := 4094) (b := 2 * m - 1) (B := 8191) (by omega) (by omega) (by omega) (by omega)
  obtain ⟨Λ, hΛ⟩ : ∃ z : Int, ((m : Int) - 2) * (2 * m - 1) = z := ⟨_, rfl⟩
  rw [hΛ] at hs2 e1 hHm ⊢
  obtain ⟨h0, hh0⟩ : ∃ z, hsum p m = z := ⟨_, rfl⟩
  rw [hh0] at hs1 hs2
  have e2 := Znz (a := (m : Int)) (A := 4096) (b := 2 * m - 1 + (m + Λ - h0)) (B := 33550000) (by omega) (by omega) (by omega) (by omega)
  obtain ⟨R0, hR0⟩ : ∃ z, (m : Int) * (2 * m - 1 + (m + Λ - h0)) + m = z := ⟨_, rfl⟩
  have eK : 0 ≤ Z75 (nlI n) n.Arcs.length ∧ Z75 (nlI n) n.Arcs.length ≤ 16384 := by
    constructor
    · exact sumN_nn fun i hi => by unfold nlI; split <;> omega
    · have : Z75 (nlI n) n.Arcs.length ≤ Z75 (fun _ => 1) n.Arcs.length := Zel fun i hi => by unfold nlI; split <;> omega
      rw [Zbg] at this; omega
  have e3 := Znz (a := 2 * (m : Int) - 1) (A := 8191) (b := Z75 (nlI n) n.Arcs.length) (B := 16384) (by omega) (by omega) eK.1 eK.2
  obtain ⟨MS, hMS⟩ : ∃ z, (2 * (m : Int) - 1) * Z75 (nlI n) n.Arcs.length = z := ⟨_, rfl⟩
  rw [hMS] at e3 ⊢
  have hB : MS + R0 + (m + Λ - h0) ≤ 999999999999999 := by omega
  have hR : ∀ q : Int, q ≤ R0 → (q = 0 ∨ 3 ≤ m) → 0 ≤ q → q ≤ m * (2 * Λ + 1) := fun q h1 h2 h3 => by
    rcases h2 with h2 | h2
    · have := Int.mul_nonneg (show (0 : Int) ≤ m by omega) (show (0 : Int) ≤ 2 * Λ + 1 by omega)
      omega
    · have a1 : 1 * (2 * (m : Int) - 1) ≤ ((m : Int) - 2) * (2 * m - 1) := Int.mul_le_mul_of_nonneg_right (by omega) (by omega)
      rw [hΛ] at a1
      have a2 : (m : Int) * (2 * m - 1 + (m + Λ - h0) + 1) ≤ m * (2 * Λ + 1) := Int.mul_le_mul_of_nonneg_left (by omega) (by omega)
      rw [Int.mul_add, Int.mul_one] at a2
      omega
  unfold Z9o
  refine Ok.bind.2 (Z8q (s_Copy (by omega) (by omega) (by omega)) ?_)
  rw [hN]
  simp only [Int.toNat_natCast]
  refine Ok.gd.2 ⟨by refine ⟨?_, ?_, ?_⟩ <;> omega, Ok.gd.2 ⟨by constructor <;> omega, Ok.bind.2 (Za5 (fun s => ∃ k : Nat, s.2.2 = k ∧ k ≤ m ∧ QOK n m s.1.buf s.2.1 ∧ s.1.cap = m ∧ (∀ v, v < m → s.2.1.getD v false = true → 0 < p.Ex.getD v 0) ∧ ∀ v, v < k → Zau n p.Ex v → s.2.1.getD v false = true) (fun s => (m - s.2.2).toNat)
    ⟨0, rfl, by omega, QOK.none n m, rfl, fun v hv hi => ?_, fun v hv => by omega⟩ (by unfold Z4t; simp only; omega) ?_)⟩⟩
  · simp only at hi; rw [Z2b] at hi; simp at hi
  rintro ⟨ch, ins, x⟩ ⟨k, g1, g2, g3, g4, g5, g6⟩ P next exit
  simp only at g1 g3 g4 g5 g6 next ⊢
  subst g1
  unfold Z6k
  rw [hN]
  refine Ok.ite.2 ⟨fun hx => ?_, fun hx => Ok.some.2 (exit _ ?_)⟩
  · have hkm : k < m := by omega
    refine Ok.bind.2 (Z8q (s_wait (x := ⟨c, p, ch, ins, ⟨0, 0⟩⟩) r rfl lx g3 g4 hkm) (Ok.gd.2 ⟨by constructor <;> omega, Ok.some.2 (next _ ⟨k + 1, by simp, by omega, Znf (x := ⟨c, p, ch, ins, ⟨0, 0⟩⟩) g3 hkm, by rw [Zif]; exact g4, fun v hv hi => ?_, fun v hv ha => ?_⟩ (by simp only; omega))⟩))
    · rcases Zid (x := ⟨c, p, ch, ins, ⟨0, 0⟩⟩) hi with h1 | ⟨h1, h2⟩
      · exact g5 v hv h1
      · subst h1; exact h2.2.2
    · by_cases e : v = k
      · subst e; exact Zkq (x := ⟨c, p, ch, ins, ⟨0, 0⟩⟩) (m := m) g3.len hkm ha
      · exact Zie (x := ⟨c, p, ch, ins, ⟨0, 0⟩⟩) (g6 v (by omega) ha)
  simp only
  obtain rfl : k = m := by omega
  have hbl := g3.le
  have hb0 : (∀ v, v < k → ¬Zau n p.Ex v) → ch.buf = [] := fun hno => by
    cases hb : ch.buf with
    | nil => rfl
    | cons v rest =>
      rw [hb] at g3
      obtain ⟨u, -, hu, huS, huT, hiu, -⟩ := g3.cut
      exact absurd ⟨huS, huT, g5 u hu hiu⟩ (hno u hu)
  unfold Z8a
  refine Ok.bind.2 (Za5 (fun s : FS => (∃ q0 X f q, FI n k L c h0 (k + Λ) R0 (xOf c s) q0 X f q ∧ (∀ v, v < k → Zau n s.2.1 v → s.2.2.2.2.1.getD v false = true) ∧ s.2.2.2.2.2.1 ≤ Z75 f n.Arcs.length + q) ∧ ((∀ v, v < k → ¬Zau n p.Ex v) → s.2.2.2.1.buf = [] ∧ Pre.mk s.1 s.2.1 s.2.2.1 = p ∧ s.2.2.2.2.2 = (0, 0)))
    (fun s => (1000000000000000 - (s.2.2.2.2.2.1 + s.2.2.2.2.2.2)).toNat) ⟨⟨ch.buf.length, 2 * k - 1, fun _ => 0, 0, ⟨rfl, h, g3, g4, g5, Nat.le_refl _, by omega, fun i hi u hu => ?_, fun i h1 h2 => absurd h2 (Nat.not_lt.2 h1), SatI.zero h r, ⟨Int.le_refl _, ?_⟩, Int.le_refl _, ?_, ?_, ⟨Int.le_refl _, .inl rfl⟩⟩, g6, ?_⟩, fun hno => ⟨hb0 hno, rfl, rfl⟩⟩ (by unfold Z4t; simp only; omega) ?_)
  · obtain ⟨w, q1, q2, -⟩ := g3.nat i hi
    have q1' : (w : Int) = u := by rw [← q1]; exact hu
    obtain rfl : w = u := by omega
    have := h.hs.2.2.2 w q2
    simp only [xOf]; omega
  · simp only [xOf]; rw [hh0]; omega
  · simp only [xOf]; rw [hh0]; omega
  · simp only [xOf]; rw [hh0]; omega
  · simp only; rw [Zbg]; omega
  rintro ⟨R, E, H, ch, ins, P', Lf⟩ ⟨⟨k0, X, f, q, hF, hact, hP⟩, hno⟩ W next exit
  have b1 := hF.bnd hP
  rw [hMS] at b1
  have b2 := hF.pu
  have b3 := hF.lf
  have b4 := hF.q0
  have hqq := hF.qq
  simp only [xOf] at b1 b2 b3 hqq hact hno hP next ⊢
  unfold Z6j Z6i
  simp only
  cases hb : ch.buf with
  | nil =>
    rw [if_pos rfl]
    refine Ok.bind.2 (Ok.some.2 ?_)
    simp only
    rw [if_pos (by simp)]
    refine Ok.some.2 (exit _ (Ok.some.2 ⟨hF.ok, fun v hv ha => ?_, by simp only; omega, by simp only; omega, by simp only; omega, ?_, fun hn => ?_⟩))
    · have h1 := hact v hv ha
      have h2 := hqq.cnt
      rw [hb] at h2
      have h3 := Zhn (l := ins) (by rw [hqq.len]; exact hv) h1 k
      rw [if_pos hv] at h3
      simp only [List.length_nil] at h2
      omega
    · have := hR q b1.1 b4.2 b4.1
      simp only; omega
    · obtain ⟨-, h2, h3⟩ := hno hn
      injection h3 with h3 h4
      subst h3; subst h4
      rw [h2]
  | cons v rest =>
    rw [if_neg (by simp)]
    obtain ⟨u, rfl, hu, hA, k', X', hI⟩ := FI.take hF hact hP r hb
    have hlen := hqq.len
    have e0 : ((u : Int) :: rest).getD 0 0 = u := rfl
    simp only [e0, Int.toNat_natCast]
    refine Ok.bind.2 (Ok.gd.2 ⟨by constructor <;> omega, Ok.some.2 ?_⟩)
    simp only
    rw [if_neg (by simp)]
    refine s_inner (s0 := (R, E, H, Chan.cut ch, ins.set u false, P', Lf)) (base := P' + Lf) r hu hA.1 hA.2.1 hHm hMS hB hI rfl hA.2.2 fun s hs hb2 hE => ?_
    obtain ⟨X2, f2, hF2, h2, h3, h4, h5⟩ := hs
    have c1 := hF2.pu
    have c2 := hF2.lf
    refine next s ⟨⟨k', X2, f2, q + 1, hF2, fun w hw ha => ?_, ?_⟩, fun hn => ?_⟩ ?_
    · refine h4 w hw (fun e => ?_) ha
      subst e; exact hE ha.2.2
    · split at h5 <;> (simp only [xOf] at h5; omega)
    · have := (hno hn).1; rw [hb] at this; cases this
    · have d1 := hF2.bnd (by split at h5 <;> omega)
      rw [hMS] at d1
      simp only [xOf] at d1 c1 c2
      omega
structure SolP (n : Net) (m : Nat) (a : Answer) (w : Work) : Prop where
  all : AllP n a.Flow (fun x => x = 0) [n.S, n.T]
  cut : CutR n a.Side
  tight : ∀ i, i < n.Arcs.length → Zbt n.Arcs a.Flow a.Side i
  val : a.Value = ex n.Arcs a.Flow n.T n.Arcs.length
  lifts : 0 ≤ w.Lifts ∧ w.Lifts ≤ ((m : Int) - 2) * (2 * m - 1)
  pushes : 0 ≤ w.Pushes ∧ w.Pushes ≤ (2 * m - 1) * Z75 (nlI n) n.Arcs.length + m * (2 * (((m : Int) - 2) * (2 * m - 1)) + 1)
theorem PreOK.sol {p : Pre} (h : PreOK n m L c p) (r : Row n m L c) (ha : ∀ v, v < m → ¬Zau n p.Ex v) {b : List Bool} (lb : b.length = m) (hb : ∀ v, v < m → (b.getD v false = true ↔ ¬Reach (Zec n (flN n.Arcs p.Res)) v n.T.toNat)) :
    AllP n (flN n.Arcs p.Res) (fun x => x = 0) [n.S, n.T] ∧ CutR n b ∧ (∀ i, i < n.Arcs.length → Zbt n.Arcs (flN n.Arcs p.Res) b i) ∧ p.Ex.getD n.T.toNat 0 = ex n.Arcs (flN n.Arcs p.Res) n.T n.Arcs.length := by
  obtain ⟨⟨S, hS, -, hSm⟩, ⟨T, hT, -, hTm⟩, -, -⟩ := r.ends
  have hm := r.hm
  rw [hT, Int.toNat_natCast] at hb
  have bS : b.getD S false = true := (hb S hSm).2 (h.far r hS hT)
  have bT : b.getD T false = false := by rw [Bool.eq_false_iff]; intro h; exact (hb T hTm).1 h .refl
  exact ⟨h.flow r ha, ⟨r.chk, by omega, by unfold inS; rw [hS, Int.toNat_natCast]; exact bS, by unfold inS; rw [hT, Int.toNat_natCast]; exact bT⟩, to_tight r.he hb, by rw [hT, Int.toNat_natCast]; exact h.ok.ex T hTm⟩
theorem Zk0 {n : Net} (hm : n.N = m) (hk : Z38 n.N n.S n.T n.Arcs = 0) (hl : lenok n.Arcs.length) : Ok (Z33 n) (fun t => t.2.2 = 0 ∧ SolP n m t.1 t.2.1) := by
 unfold Z33
 refine Ok.bind.2 (Ok.mono (s_Make hm hk hl) ?_)
 rintro ⟨c, e⟩ ⟨hc, h0⟩
 simp only at hc h0 ⊢
 subst h0
 have r := row_of hc hm hk
 obtain ⟨L, hL⟩ : ∃ L, Z0t n.Arcs m = L := ⟨_, rfl⟩
 rw [hL] at r
 rw [if_neg (by simp)]
 refine Ok.bind.2 (Ok.mono (s_Begin r) fun p0 hp0 => Ok.bind.2 (Ok.mono (s_fRun r hp0) ?_))
 rintro ⟨p, w⟩ ⟨hp, ha, h1, h2, h3, h4, -⟩
 simp only at hp ha h1 h2 h3 h4 ⊢
 refine Ok.bind.2 (Ok.mono (s_FlowR r hp.ok.lr hp.ok.res) ?_)
 rintro _ rfl
 simp only
 rw [if_neg (by simp)]
 refine Ok.bind.2 (Ok.mono (s_To hl) ?_)
 rintro ⟨b, e2⟩ (⟨-, h5, lb, hb⟩ | ⟨h, -⟩)
 rotate_left
 · exact absurd (hp.flow r ha).1 h
 simp only at h5 lb hb ⊢
 subst h5
 rw [hm, Int.toNat_natCast] at lb hb
 obtain ⟨z1, z2, z3, z4⟩ := hp.sol r ha lb hb
 obtain ⟨⟨S, hS, -, hSm⟩, ⟨T, hT, -, hTm⟩, -, -⟩ := r.ends
 have hlx := hp.ok.lx
 rw [if_neg (by simp)]
 exact Ok.gd.2 ⟨by constructor <;> omega, Ok.some.2 ⟨rfl, z1, z2, z3, z4, ⟨h1, h2⟩, h3, h4⟩⟩
end row
end Go.Acq
namespace Go.Acq
open Go
set_option linter.unusedSimpArgs false
end Go.Acq
namespace Go.Acq
open Go
set_option linter.unusedSimpArgs false
theorem Zco {α : Type} {xs : List α} {y d : α} {i : Nat} (h : i < xs.length) : (xs ++ [y]).getD i d = xs.getD i d := by
 rw [List.getD_eq_getElem?_getD, List.getElem?_append_left h, List.getD_eq_getElem?_getD]
theorem Zcn {α : Type} {xs : List α} {y d : α} {i : Nat} (h : i = xs.length) : (xs ++ [y]).getD i d = y := by
 subst h
 rw [List.getD_eq_getElem?_getD, List.getElem?_append_right (Nat.le_refl _)]; simp
structure PathP (n : Net) (v : Int) (l : List Hop) (w : Int) : Prop where
  way : WayK n l l.length
  start : 0 < l.length → hfr n (l.getD 0 default) = v
  fin : w = if l.length = 0 then v else hto n (l.getD (l.length - 1) default)
theorem PathP.nil (n : Net) (v : Int) : PathP n v [] v := ⟨⟨fun i h => by simp at h, fun i h => by simp at h⟩, fun h => by simp at h, rfl⟩
theorem PathP.app {n : Net} {v w : Int} {l : List Hop} (h : PathP n v l w) {p : Hop} (hp : hok n p) (hw : hfr n p = w) : PathP n v (l ++ [p]) (hto n p) := by
 refine ⟨⟨fun i hi => ?_, fun i hi => ?_⟩, fun _ => ?_, ?_⟩
 ·
  rw [List.length_append, List.length_singleton] at hi
  rcases Nat.lt_or_ge i l.length with h1 | h1
  · rw [Zco h1]; exact h.way.1 i h1
  · rw [Zcn (by omega)]; exact hp
 ·
  rw [List.length_append, List.length_singleton] at hi
  rcases Nat.lt_or_ge (i + 1) l.length with h1 | h1
  · rw [Zco h1, Zco (by omega)]; exact h.way.2 i h1
  · rw [Zcn (by omega), Zco (by omega), hw, h.fin, if_neg (by omega), show l.length - 1 = i by omega]
 ·
  rcases Nat.lt_or_ge 0 l.length with h1 | h1
  · rw [Zco h1]; exact h.start h1
  · rw [Zcn (by omega), hw, h.fin, if_pos (by omega)]
 · rw [List.length_append, List.length_singleton, if_neg (by omega), Nat.add_sub_cancel, Zcn rfl]
def one (a b : Int) : Int := if a = b then 1 else 0
def Zm0 (h : Hop) : Hop := ⟨h.Arc, !h.Back⟩
theorem hfr_flip (n : Net) (h : Hop) : hfr n (Zm0 h) = hto n h := by
 unfold hfr hto Zm0
 cases hB : h.Back <;> simp
theorem hto_flip (n : Net) (h : Hop) : hto n (Zm0 h) = hfr n h := by
 unfold hfr hto Zm0
 cases hB : h.Back <;> simp
def BackIs (l b : List Hop) : Prop := b.length = l.length ∧ ∀ q, q < l.length → b.getD q default = Zm0 (l.getD (l.length - 1 - q) default)
theorem BackIs.way {n : Net} {l b : List Hop} (h : BackIs l b) (hw : WayK n l l.length) : WayK n b b.length := by
 rw [h.1]
 refine ⟨fun i hi => ?_, fun i hi => ?_⟩
 · rw [h.2 i hi]; exact hw.1 _ (by omega)
 ·
  rw [h.2 i (by omega), h.2 (i + 1) hi, hfr_flip, hto_flip]
  have := hw.2 (l.length - 1 - (i + 1)) (by omega)
  rw [show l.length - 1 - (i + 1) + 1 = l.length - 1 - i by omega] at this
  exact this.symm
theorem BackIs.cnt {l b : List Hop} (h : BackIs l b) (i : Int) : Zn9 b i b.length = -Zn9 l i l.length := by
 have key : ∀ q, q ≤ l.length → Zn9 b i q = Zn9 l i (l.length - q) - Zn9 l i l.length := by
  intro q
  induction q with
  | zero => intro _; simp only [Zn9, Nat.sub_zero]; omega
  | succ q ih =>
   intro hq
   have e : l.length - q = (l.length - 1 - q) + 1 := by omega
   have ih := ih (by omega)
   rw [e] at ih
   simp only [Zn9] at ih ⊢
   rw [ih, h.2 q (by omega), show l.length - (q + 1) = l.length - 1 - q by omega]
   simp only [Zm0]
   by_cases c : (l.getD (l.length - 1 - q) default).Arc = i
   ·
    by_cases hB : (l.getD (l.length - 1 - q) default).Back = true
    · simp only [c, hB, if_true, Bool.not_true, Bool.false_eq_true, if_false]; omega
    · simp only [c, if_true, Bool.eq_false_iff.2 hB, Bool.not_false, Bool.false_eq_true, if_false]; omega
   · simp only [c, if_false]; omega
 rw [h.1, key _ (Nat.le_refl _), Nat.sub_self]
 simp only [Zn9]; omega
end Go.Acq
namespace Go.Acq
open Go
set_option linter.unusedSimpArgs false
theorem Znx : Z3d = some true := by decide +kernel
theorem aw08 : Ok (Option.bind Z3d fun r => some r) (fun a => a = true) := Ok.bind.2 (Z8q Znx (Ok.some.2 rfl))
theorem dual {n : Net} {m : Nat} {f : List Int} {c : List Bool} (hm : n.N = m) (he : Z5i m n.Arcs) (hA : AllP n f (fun x => x = 0) [n.S, n.T]) (hc : CutR n c) :
    ex n.Arcs f n.T n.Arcs.length ≤ Zna n.Arcs c n.Arcs.length ∧ ((∀ i, i < n.Arcs.length → Zbt n.Arcs f c i) → ex n.Arcs f n.T n.Arcs.length = Zna n.Arcs c n.Arcs.length) := by
  have h7 := Zod (c := c) hA.1.2.2 n.Arcs.length (Nat.le_refl _)
  rw [Zk9 hm he hA hc] at h7
  exact ⟨h7.1, h7.2.2⟩
theorem Zkb {n : Net} {m : Nat} (hm : n.N = m) (hk : Z38 n.N n.S n.T n.Arcs = 0) : Z5i m n.Arcs := Zcr (by rw [← hm]; exact (Z31 hk).2.2.2.1)
theorem SolP.cap {n : Net} {m : Nat} {a : Answer} {w : Work} (h : SolP n m a w) (hm : n.N = m) (hk : Z38 n.N n.S n.T n.Arcs = 0) : Zna n.Arcs a.Side n.Arcs.length = a.Value := by
 rw [h.val, (dual hm (Zkb hm hk) h.all h.cut).2 h.tight]
theorem SolP.most {n : Net} {m : Nat} {a : Answer} {w : Work} (h : SolP n m a w) (hm : n.N = m) (hk : Z38 n.N n.S n.T n.Arcs = 0) {f : List Int} (hf : AllP n f (fun x => x = 0) [n.S, n.T]) : ex n.Arcs f n.T n.Arcs.length ≤ a.Value := by
 rw [← h.cap hm hk]; exact (dual hm (Zkb hm hk) hf h.cut).1
theorem SolP.least {n : Net} {m : Nat} {a : Answer} {w : Work} (h : SolP n m a w) (hm : n.N = m) (hk : Z38 n.N n.S n.T n.Arcs = 0) {c : List Bool} (hc : CutR n c) : a.Value ≤ Zna n.Arcs c n.Arcs.length := by
 rw [h.val]; exact (dual hm (Zkb hm hk) h.all hc).1
end Go.Acq
