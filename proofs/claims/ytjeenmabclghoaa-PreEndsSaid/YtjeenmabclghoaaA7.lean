/- Texts of this claim, one behind the other. -/
import Derived.Test.YtjeenmabclghoaaA2
import Derived.Test.YtjeenmabclghoaaA6
import Derived.Test.YtjeenmabclghoaaA1
namespace Go.Proofs.Ytjeenmabclghoaa.Ax
open Go Go.Acq Go.RowKit Go.Proofs
set_option linter.unusedVariables false
set_option linter.unusedSimpArgs false
set_option maxHeartbeats 8000000
set_option maxRecDepth 20000
theorem Z4y : Zeo Try.prog 24 4 = true := by kernel_rfl
theorem Z2t : Zeo Try.prog 29 3 = true := by kernel_rfl
theorem Z3b : Zeo Try.prog 32 9 = true := by kernel_rfl
theorem Zjp : Z82 Try.prog 5 = some 1 := by kernel_rfl
theorem Zj7 : Z0s Try.prog 16 = true := by kernel_rfl
theorem Zj6 : Z0s Try.prog 17 = true := by kernel_rfl
theorem Zj5 : Z0s Try.prog 23 = true := by kernel_rfl
theorem Zj4 : Z0s Try.prog 26 = true := by kernel_rfl
theorem Zj3 : Z0s Try.prog 28 = true := by kernel_rfl
theorem Zj2 : Z0s Try.prog 30 = true := by kernel_rfl
theorem Ze4 : Z0s Try.prog 33 = true := by kernel_rfl
theorem Zj1 : Z0s Try.prog 34 = true := by kernel_rfl
theorem Zj0 : Z0s Try.prog 47 = true := by kernel_rfl
theorem Ziz : Z0s Try.prog 48 = true := by kernel_rfl
theorem Ziy : Z0s Try.prog 49 = true := by kernel_rfl
theorem Zix : Z0s Try.prog 51 = true := by kernel_rfl
theorem Ze3 : Z0s Try.prog 53 = true := by kernel_rfl
theorem Ziw : Z0s Try.prog 54 = true := by kernel_rfl
theorem Ziv : Z0s Try.prog 55 = true := by kernel_rfl
theorem Zgs : Z1r Try.prog 24 0 = some 0 := by kernel_rfl
theorem Zgr : Z1r Try.prog 24 2 = some 2 := by kernel_rfl
theorem Zgq : Z1r Try.prog 24 3 = some 3 := by kernel_rfl
theorem Zgp : Z1r Try.prog 29 0 = some 0 := by kernel_rfl
theorem Zcv : Z1r Try.prog 29 1 = some 1 := by kernel_rfl
theorem Zjo : intT Try.prog 3 = some .i64 := by kernel_rfl
theorem Ziu : Z2d Try.prog 22 = some 67 := by kernel_rfl
theorem Z9l : Z2d Try.prog 25 = some 5 := by kernel_rfl
theorem Ze2 : Z2d Try.prog 26 = some 2 := by kernel_rfl
theorem Z3a : Z2d Try.prog 27 = some 3 := by kernel_rfl
theorem Zjn : Z26 Try.prog 2 = some 1 := by kernel_rfl
theorem Zit : Z26 Try.prog 24 = some 4 := by kernel_rfl
theorem Z61 : Z26 Try.prog 29 = some 3 := by kernel_rfl
theorem Zet : Z26 Try.prog 3 = some 1 := by kernel_rfl
theorem Zbv : Z26 Try.prog 32 = some 9 := by kernel_rfl
theorem Zck : Z26 Try.prog 5 = some 1 := by kernel_rfl
theorem Zjm : (Try.prog.underlying 5).isSome = true := by kernel_rfl
theorem Zjl : Z3n Try.prog 2 = true := by kernel_rfl
theorem Zis : Z3n Try.prog 22 = true := by kernel_rfl
theorem Zbu : Z3n Try.prog 26 = true := by kernel_rfl
theorem Za9 : Z3n Try.prog 3 = true := by kernel_rfl
theorem Zjk : Z3n Try.prog 5 = true := by kernel_rfl
theorem Zbt : Z4v Try.prog 29 = some (.agg #[.slice none 0 0, .slice none 0 0, .slice none 0 0]) := by kernel_rfl
theorem Ze1 : Z4v Try.prog 32 = some (.agg #[.int .i64 0, .int .i64 0, .int .i64 0, .slice none 0 0, .slice none 0 0, .slice none 0 0, .slice none 0 0, .slice none 0 0, .slice none 0 0]) := by kernel_rfl
theorem Zjj : Z4v Try.prog 5 = some (.int .u8 0) := by kernel_rfl
theorem Zb3 {c0 : Csr} {was1 : Pre} {p2 : Pre} {c0f3_b : Option Addr} {c0f3_n : Nat} {c0f3_c : Nat} {c0f4_b : Option Addr} {c0f4_n : Nat} {c0f4_c : Nat} {c0f5_b : Option Addr} {c0f5_n : Nat} {c0f5_c : Nat} {c0f6_b : Option Addr} {c0f6_n : Nat} {c0f6_c : Nat} {c0f7_b : Option Addr} {c0f7_n : Nat} {c0f7_c : Nat} {c0f8_b : Option Addr} {c0f8_n : Nat} {c0f8_c : Nat} {was1f0_b : Option Addr} {was1f0_n : Nat} {was1f0_c : Nat} {was1f1_b : Option Addr} {was1f1_n : Nat} {was1f1_c : Nat} {was1f2_b : Option Addr} {was1f2_n : Nat} {was1f2_c : Nat} {p2f0_b : Option Addr} {p2f0_n : Nat} {p2f0_c : Nat} {p2f1_b : Option Addr} {p2f1_n : Nat} {p2f1_c : Nat} {p2f2_b : Option Addr} {p2f2_n : Nat} {p2f2_c : Nat} {c3_k : Nat} {c4_k : Nat} (w : World) (hin : Inv w (([(some c3_k, .cells #[.int .i64 0, .int .i64 0, .int .i64 0, .slice none 0 0, .slice none 0 0, .slice none 0 0, .slice none 0 0, .slice none 0 0, .slice none 0 0] 32 (0, 0)), (some c4_k, .cells #[.slice none 0 0, .slice none 0 0, .slice none 0 0] 29 (0, 0))] : Heap).filterMap Prod.fst) w [(some c3_k, .cells #[.int .i64 0, .int .i64 0, .int .i64 0, .slice none 0 0, .slice none 0 0, .slice none 0 0, .slice none 0 0, .slice none 0 0, .slice none 0 0] 32 (0, 0)), (some c4_k, .cells #[.slice none 0 0, .slice none 0 0, .slice none 0 0] 29 (0, 0))]) (h_c0f3 : RS w (([(some c3_k, .cells #[.int .i64 0, .int .i64 0, .int .i64 0, .slice none 0 0, .slice none 0 0, .slice none 0 0, .slice none 0 0, .slice none 0 0, .slice none 0 0] 32 (0, 0)), (some c4_k, .cells #[.slice none 0 0, .slice none 0 0, .slice none 0 0] 29 (0, 0))] : Heap).filterMap Prod.fst) (intC .i64) 1 c0f3_b c0f3_n c0f3_c c0.First) (h_c0f4 : RS w (([(some c3_k, .cells #[.int .i64 0, .int .i64 0, .int .i64 0, .slice none 0 0, .slice none 0 0, .slice none 0 0, .slice none 0 0, .slice none 0 0, .slice none 0 0] 32 (0, 0)), (some c4_k, .cells #[.slice none 0 0, .slice none 0 0, .slice none 0 0] 29 (0, 0))] : Heap).filterMap Prod.fst) (intC .i64) 1 c0f4_b c0f4_n c0f4_c c0.Head) (h_c0f5 : RS w (([(some c3_k, .cells #[.int .i64 0, .int .i64 0, .int .i64 0, .slice none 0 0, .slice none 0 0, .slice none 0 0, .slice none 0 0, .slice none 0 0, .slice none 0 0] 32 (0, 0)), (some c4_k, .cells #[.slice none 0 0, .slice none 0 0, .slice none 0 0] 29 (0, 0))] : Heap).filterMap Prod.fst) (intC .i64) 1 c0f5_b c0f5_n c0f5_c c0.Rev) (h_c0f6 : RS w (([(some c3_k, .cells #[.int .i64 0, .int .i64 0, .int .i64 0, .slice none 0 0, .slice none 0 0, .slice none 0 0, .slice none 0 0, .slice none 0 0, .slice none 0 0] 32 (0, 0)), (some c4_k, .cells #[.slice none 0 0, .slice none 0 0, .slice none 0 0] 29 (0, 0))] : Heap).filterMap Prod.fst) (intC .i64) 1 c0f6_b c0f6_n c0f6_c c0.Cap) (h_c0f7 : RS w (([(some c3_k, .cells #[.int .i64 0, .int .i64 0, .int .i64 0, .slice none 0 0, .slice none 0 0, .slice none 0 0, .slice none 0 0, .slice none 0 0, .slice none 0 0] 32 (0, 0)), (some c4_k, .cells #[.slice none 0 0, .slice none 0 0, .slice none 0 0] 29 (0, 0))] : Heap).filterMap Prod.fst) (intC .i64) 1 c0f7_b c0f7_n c0f7_c c0.Arc) (h_c0f8 : RS w (([(some c3_k, .cells #[.int .i64 0, .int .i64 0, .int .i64 0, .slice none 0 0, .slice none 0 0, .slice none 0 0, .slice none 0 0, .slice none 0 0, .slice none 0 0] 32 (0, 0)), (some c4_k, .cells #[.slice none 0 0, .slice none 0 0, .slice none 0 0] 29 (0, 0))] : Heap).filterMap Prod.fst) boolC 1 c0f8_b c0f8_n c0f8_c c0.Back) (h_was1f0 : RS w (([(some c3_k, .cells #[.int .i64 0, .int .i64 0, .int .i64 0, .slice none 0 0, .slice none 0 0, .slice none 0 0, .slice none 0 0, .slice none 0 0, .slice none 0 0] 32 (0, 0)), (some c4_k, .cells #[.slice none 0 0, .slice none 0 0, .slice none 0 0] 29 (0, 0))] : Heap).filterMap Prod.fst) (intC .i64) 1 was1f0_b was1f0_n was1f0_c was1.Res) (h_was1f1 : RS w (([(some c3_k, .cells #[.int .i64 0, .int .i64 0, .int .i64 0, .slice none 0 0, .slice none 0 0, .slice none 0 0, .slice none 0 0, .slice none 0 0, .slice none 0 0] 32 (0, 0)), (some c4_k, .cells #[.slice none 0 0, .slice none 0 0, .slice none 0 0] 29 (0, 0))] : Heap).filterMap Prod.fst) (intC .i64) 1 was1f1_b was1f1_n was1f1_c was1.Ex) (h_was1f2 : RS w (([(some c3_k, .cells #[.int .i64 0, .int .i64 0, .int .i64 0, .slice none 0 0, .slice none 0 0, .slice none 0 0, .slice none 0 0, .slice none 0 0, .slice none 0 0] 32 (0, 0)), (some c4_k, .cells #[.slice none 0 0, .slice none 0 0, .slice none 0 0] 29 (0, 0))] : Heap).filterMap Prod.fst) (intC .i64) 1 was1f2_b was1f2_n was1f2_c was1.H) (h_p2f0 : RS w (([(some c3_k, .cells #[.int .i64 0, .int .i64 0, .int .i64 0, .slice none 0 0, .slice none 0 0, .slice none 0 0, .slice none 0 0, .slice none 0 0, .slice none 0 0] 32 (0, 0)), (some c4_k, .cells #[.slice none 0 0, .slice none 0 0, .slice none 0 0] 29 (0, 0))] : Heap).filterMap Prod.fst) (intC .i64) 1 p2f0_b p2f0_n p2f0_c p2.Res) (h_p2f1 : RS w (([(some c3_k, .cells #[.int .i64 0, .int .i64 0, .int .i64 0, .slice none 0 0, .slice none 0 0, .slice none 0 0, .slice none 0 0, .slice none 0 0, .slice none 0 0] 32 (0, 0)), (some c4_k, .cells #[.slice none 0 0, .slice none 0 0, .slice none 0 0] 29 (0, 0))] : Heap).filterMap Prod.fst) (intC .i64) 1 p2f1_b p2f1_n p2f1_c p2.Ex) (h_p2f2 : RS w (([(some c3_k, .cells #[.int .i64 0, .int .i64 0, .int .i64 0, .slice none 0 0, .slice none 0 0, .slice none 0 0, .slice none 0 0, .slice none 0 0, .slice none 0 0] 32 (0, 0)), (some c4_k, .cells #[.slice none 0 0, .slice none 0 0, .slice none 0 0] 29 (0, 0))] : Heap).filterMap Prod.fst) (intC .i64) 1 p2f2_b p2f2_n p2f2_c p2.H) {r0 : Bool} {o0 : Csr} {o1 : Pre} (H : Z4t c0 was1 p2 = some (r0, o0, o1)) : Fnc Try.prog 53 #[.agg #[.int .i64 c0.N, .int .i64 c0.S, .int .i64 c0.T, .slice c0f3_b c0f3_n c0f3_c, .slice c0f4_b c0f4_n c0f4_c, .slice c0f5_b c0f5_n c0f5_c, .slice c0f6_b c0f6_n c0f6_c, .slice c0f7_b c0f7_n c0f7_c, .slice c0f8_b c0f8_n c0f8_c], .agg #[.slice was1f0_b was1f0_n was1f0_c, .slice was1f1_b was1f1_n was1f1_c, .slice was1f2_b was1f2_n was1f2_c], .agg #[.slice p2f0_b p2f0_n p2f0_c, .slice p2f1_b p2f1_n p2f1_c, .slice p2f2_b p2f2_n p2f2_c], .pointer (some ⟨c3_k, 0, none⟩), .pointer (some ⟨c4_k, 0, none⟩)] w (([(some c3_k, .cells #[.int .i64 0, .int .i64 0, .int .i64 0, .slice none 0 0, .slice none 0 0, .slice none 0 0, .slice none 0 0, .slice none 0 0, .slice none 0 0] 32 (0, 0)), (some c4_k, .cells #[.slice none 0 0, .slice none 0 0, .slice none 0 0] 29 (0, 0))] : Heap).filterMap Prod.fst) (fun v N => v = .bool r0 ∧ N = [(some c3_k, .cells #[.int .i64 o0.N, .int .i64 o0.S, .int .i64 o0.T, .slice c0f3_b c0f3_n c0f3_c, .slice c0f4_b c0f4_n c0f4_c, .slice c0f5_b c0f5_n c0f5_c, .slice c0f6_b c0f6_n c0f6_c, .slice c0f7_b c0f7_n c0f7_c, .slice c0f8_b c0f8_n c0f8_c] 32 (0, 0)), (some c4_k, .cells #[.slice p2f0_b p2f0_n p2f0_c, .slice p2f1_b p2f1_n p2f1_c, .slice p2f2_b p2f2_n p2f2_c] 29 (0, 0))]) := by
 unfold Z4t at H; refine Z0u (vs := [.agg #[.int .i64 c0.N, .int .i64 c0.S, .int .i64 c0.T, .slice c0f3_b c0f3_n c0f3_c, .slice c0f4_b c0f4_n c0f4_c, .slice c0f5_b c0f5_n c0f5_c, .slice c0f6_b c0f6_n c0f6_c, .slice c0f7_b c0f7_n c0f7_c, .slice c0f8_b c0f8_n c0f8_c], .agg #[.slice was1f0_b was1f0_n was1f0_c, .slice was1f1_b was1f1_n was1f1_c, .slice was1f2_b was1f2_n was1f2_c], .agg #[.slice p2f0_b p2f0_n p2f0_c, .slice p2f1_b p2f1_n p2f1_c, .slice p2f2_b p2f2_n p2f2_c], .pointer (some ⟨c3_k, 0, none⟩), .pointer (some ⟨c4_k, 0, none⟩)]) Try.func53 rfl rfl hin ?_; refine Z0c ?_; refine Z03 (ll := [0, 1, 2, 3]) rfl ?_; refine Z1c rfl rfl rfl rfl ?_; intro b3; refine Z1c rfl rfl rfl rfl ?_; intro b5; refine Z1c rfl rfl rfl rfl ?_; intro b7; refine Z05 rfl rfl rfl rfl ?_; refine Z04 ?_; refine Z01 ?_; refine Z0c ?_; apply Zb0 [⟨[], false, [], Z4n _⟩, ⟨[], false, [], Z4n _⟩, ⟨[0], true, [], Zqp⟩] [9, 10] 3 (HRk [[(some c3_k, .cells #[.int .i64 0, .int .i64 0, .int .i64 0, .slice none 0 0, .slice none 0 0, .slice none 0 0, .slice none 0 0, .slice none 0 0, .slice none 0 0] 32 (0, 0))], [(some c3_k, .cells #[.int .i64 c0.N, .int .i64 c0.S, .int .i64 c0.T, .slice c0f3_b c0f3_n c0f3_c, .slice c0f4_b c0f4_n c0f4_c, .slice c0f5_b c0f5_n c0f5_c, .slice c0f6_b c0f6_n c0f6_c, .slice c0f7_b c0f7_n c0f7_c, .slice c0f8_b c0f8_n c0f8_c] 32 (0, 0))]]) [[], []] [(some c3_k, .cells #[.int .i64 0, .int .i64 0, .int .i64 0, .slice none 0 0, .slice none 0 0, .slice none 0 0, .slice none 0 0, .slice none 0 0, .slice none 0 0] 32 (0, 0))] [(some b7, .cells #[.slice p2f0_b p2f0_n p2f0_c, .slice p2f1_b p2f1_n p2f1_c, .slice p2f2_b p2f2_n p2f2_c] 29 (0, 0)), (some b5, .cells #[.slice was1f0_b was1f0_n was1f0_c, .slice was1f1_b was1f1_n was1f1_c, .slice was1f2_b was1f2_n was1f2_c] 29 (0, 0)), (some b3, .cells #[.int .i64 c0.N, .int .i64 c0.S, .int .i64 c0.T, .slice c0f3_b c0f3_n c0f3_c, .slice c0f4_b c0f4_n c0f4_c, .slice c0f5_b c0f5_n c0f5_c, .slice c0f6_b c0f6_n c0f6_c, .slice c0f7_b c0f7_n c0f7_c, .slice c0f8_b c0f8_n c0f8_c] 32 (0, 0)), (some c4_k, .cells #[.slice none 0 0, .slice none 0 0, .slice none 0 0] 29 (0, 0))]
 · exact Z4c
 · exact rfl
 · kernel_rfl
 · kernel_rfl
 · kernel_rfl
 · exact rfl
 · exact rfl
 · exact rfl
 · exact rfl
 · exact (by repeat (first | exact Z09 _ | exact Z08 | apply Pick.none | refine Z02 (by repeat (first | exact Take.head _ _ | apply Z0z)) ?_))
 ·
  refine ⟨?_, ?_, ?_, trivial⟩
  · rintro vs es Es Hx -; refine Z0j (D := []) rfl ?_; refine Z0l rfl rfl rfl rfl Z3b mm2 rfl ?_; refine Z04 ?_; exact Z1j rfl ⟨rfl, rfl⟩ (Z09 _) rfl
  · rintro vs es Es Hx -; refine Z0j (D := []) rfl ?_; refine Z0l rfl rfl rfl rfl Z2t mm0 rfl ?_; refine Z04 ?_; exact Z1j rfl ⟨rfl, rfl⟩ (Z09 _) rfl
  · rintro vs es Es Hx hb ⟨⟨h_0, e_0⟩, -⟩ hHR; obtain rfl : hb = [(some c3_k, .cells #[.int .i64 0, .int .i64 0, .int .i64 0, .slice none 0 0, .slice none 0 0, .slice none 0 0, .slice none 0 0, .slice none 0 0, .slice none 0 0] 32 (0, 0))] := hHR; refine Z0j (D := [(9, vs 0)]) rfl ?_; rw [h_0]; refine Z15 rfl rfl rfl rfl tk0 Zbv rfl rfl rfl ?_; refine Z04 ?_; exact Zhf (hb' := [(some c3_k, .cells #[.int .i64 c0.N, .int .i64 c0.S, .int .i64 c0.T, .slice c0f3_b c0f3_n c0f3_c, .slice c0f4_b c0f4_n c0f4_c, .slice c0f5_b c0f5_n c0f5_c, .slice c0f6_b c0f6_n c0f6_c, .slice c0f7_b c0f7_n c0f7_c, .slice c0f8_b c0f8_n c0f8_c] 32 (0, 0))]) rfl rfl rfl (by repeat (first | exact Z09 _ | exact Z08 | apply Pick.none | refine Z02 (by repeat (first | exact Take.head _ _ | apply Z0z)) ?_)) (by show [(9, vs 0)] = _; rw [h_0])
 · rintro vs es hb ⟨⟨h_0, e_0⟩, ⟨h_1, e_1⟩, e_2, -⟩ hHR; obtain rfl : hb = [(some c3_k, .cells #[.int .i64 c0.N, .int .i64 c0.S, .int .i64 c0.T, .slice c0f3_b c0f3_n c0f3_c, .slice c0f4_b c0f4_n c0f4_c, .slice c0f5_b c0f5_n c0f5_c, .slice c0f6_b c0f6_n c0f6_c, .slice c0f7_b c0f7_n c0f7_c, .slice c0f8_b c0f8_n c0f8_c] 32 (0, 0))] := hHR; refine Z0j (D := [(9, vs 0), (10, vs 1)]) rfl ?_; refine Z1y (H := [(some c3_k, .cells #[.int .i64 c0.N, .int .i64 c0.S, .int .i64 c0.T, .slice c0f3_b c0f3_n c0f3_c, .slice c0f4_b c0f4_n c0f4_c, .slice c0f5_b c0f5_n c0f5_c, .slice c0f6_b c0f6_n c0f6_c, .slice c0f7_b c0f7_n c0f7_c, .slice c0f8_b c0f8_n c0f8_c] 32 (0, 0)), (some b7, .cells #[.slice p2f0_b p2f0_n p2f0_c, .slice p2f1_b p2f1_n p2f1_c, .slice p2f2_b p2f2_n p2f2_c] 29 (0, 0)), (some b5, .cells #[.slice was1f0_b was1f0_n was1f0_c, .slice was1f1_b was1f1_n was1f1_c, .slice was1f2_b was1f2_n was1f2_c] 29 (0, 0)), (some b3, .cells #[.int .i64 c0.N, .int .i64 c0.S, .int .i64 c0.T, .slice c0f3_b c0f3_n c0f3_c, .slice c0f4_b c0f4_n c0f4_c, .slice c0f5_b c0f5_n c0f5_c, .slice c0f6_b c0f6_n c0f6_c, .slice c0f7_b c0f7_n c0f7_c, .slice c0f8_b c0f8_n c0f8_c] 32 (0, 0)), (some c4_k, .cells #[.slice none 0 0, .slice none 0 0, .slice none 0 0] 29 (0, 0))]) (by show _ ++ (_ ++ (es 0 ++ (es 1 ++ (es 2 ++ ([]))))) = _; rw [e_0, e_1, e_2]; rfl) ?_; rw [h_0, h_1]; clear h_1 h_0 e_0 e_1 e_2; refine Z15 rfl rfl rfl rfl tk4 Z61 rfl rfl rfl ?_; refine Z04 ?_; refine Z01 ?_; refine Z0p Z0a ?_; refine Z0c ?_; refine Z03 (ll := [0]) rfl ?_; refine Z05 rfl rfl rfl rfl ?_; refine Z04 ?_; refine Z01 ?_; refine T.ret ?_; obtain ⟨rfl, rfl, rfl⟩ := ret3 H; exact Z0y rfl rfl rfl rfl (Res.tmp rfl) (Z02 tk1 (Z02 tk0 Z08)) ⟨rfl, rfl⟩
theorem Zcm {c0 : Csr} {was1 : Pre} {p2 : Pre} {c3 : Csr} {c4 : Pre} {c0f3_b : Option Addr} {c0f3_n : Nat} {c0f3_c : Nat} {c0f4_b : Option Addr} {c0f4_n : Nat} {c0f4_c : Nat} {c0f5_b : Option Addr} {c0f5_n : Nat} {c0f5_c : Nat} {c0f6_b : Option Addr} {c0f6_n : Nat} {c0f6_c : Nat} {c0f7_b : Option Addr} {c0f7_n : Nat} {c0f7_c : Nat} {c0f8_b : Option Addr} {c0f8_n : Nat} {c0f8_c : Nat} {was1f0_b : Option Addr} {was1f0_n : Nat} {was1f0_c : Nat} {was1f1_b : Option Addr} {was1f1_n : Nat} {was1f1_c : Nat} {was1f2_b : Option Addr} {was1f2_n : Nat} {was1f2_c : Nat} {p2f0_b : Option Addr} {p2f0_n : Nat} {p2f0_c : Nat} {p2f1_b : Option Addr} {p2f1_n : Nat} {p2f1_c : Nat} {p2f2_b : Option Addr} {p2f2_n : Nat} {p2f2_c : Nat} {c3_k : Nat} {c3f3_b : Option Addr} {c3f3_n : Nat} {c3f3_c : Nat} {c3f4_b : Option Addr} {c3f4_n : Nat} {c3f4_c : Nat} {c3f5_b : Option Addr} {c3f5_n : Nat} {c3f5_c : Nat} {c3f6_b : Option Addr} {c3f6_n : Nat} {c3f6_c : Nat} {c3f7_b : Option Addr} {c3f7_n : Nat} {c3f7_c : Nat} {c3f8_b : Option Addr} {c3f8_n : Nat} {c3f8_c : Nat} {c4_k : Nat} {c4f0_b : Option Addr} {c4f0_n : Nat} {c4f0_c : Nat} {c4f1_b : Option Addr} {c4f1_n : Nat} {c4f1_c : Nat} {c4f2_b : Option Addr} {c4f2_n : Nat} {c4f2_c : Nat} (w : World) (hin : Inv w (([(some c3_k, .cells #[.int .i64 c3.N, .int .i64 c3.S, .int .i64 c3.T, .slice c3f3_b c3f3_n c3f3_c, .slice c3f4_b c3f4_n c3f4_c, .slice c3f5_b c3f5_n c3f5_c, .slice c3f6_b c3f6_n c3f6_c, .slice c3f7_b c3f7_n c3f7_c, .slice c3f8_b c3f8_n c3f8_c] 32 (0, 0)), (some c4_k, .cells #[.slice c4f0_b c4f0_n c4f0_c, .slice c4f1_b c4f1_n c4f1_c, .slice c4f2_b c4f2_n c4f2_c] 29 (0, 0))] : Heap).filterMap Prod.fst) w [(some c3_k, .cells #[.int .i64 c3.N, .int .i64 c3.S, .int .i64 c3.T, .slice c3f3_b c3f3_n c3f3_c, .slice c3f4_b c3f4_n c3f4_c, .slice c3f5_b c3f5_n c3f5_c, .slice c3f6_b c3f6_n c3f6_c, .slice c3f7_b c3f7_n c3f7_c, .slice c3f8_b c3f8_n c3f8_c] 32 (0, 0)), (some c4_k, .cells #[.slice c4f0_b c4f0_n c4f0_c, .slice c4f1_b c4f1_n c4f1_c, .slice c4f2_b c4f2_n c4f2_c] 29 (0, 0))]) (h_c0f3 : RS w (([(some c3_k, .cells #[.int .i64 c3.N, .int .i64 c3.S, .int .i64 c3.T, .slice c3f3_b c3f3_n c3f3_c, .slice c3f4_b c3f4_n c3f4_c, .slice c3f5_b c3f5_n c3f5_c, .slice c3f6_b c3f6_n c3f6_c, .slice c3f7_b c3f7_n c3f7_c, .slice c3f8_b c3f8_n c3f8_c] 32 (0, 0)), (some c4_k, .cells #[.slice c4f0_b c4f0_n c4f0_c, .slice c4f1_b c4f1_n c4f1_c, .slice c4f2_b c4f2_n c4f2_c] 29 (0, 0))] : Heap).filterMap Prod.fst) (intC .i64) 1 c0f3_b c0f3_n c0f3_c c0.First) (h_c0f4 : RS w (([(some c3_k, .cells #[.int .i64 c3.N, .int .i64 c3.S, .int .i64 c3.T, .slice c3f3_b c3f3_n c3f3_c, .slice c3f4_b c3f4_n c3f4_c, .slice c3f5_b c3f5_n c3f5_c, .slice c3f6_b c3f6_n c3f6_c, .slice c3f7_b c3f7_n c3f7_c, .slice c3f8_b c3f8_n c3f8_c] 32 (0, 0)), (some c4_k, .cells #[.slice c4f0_b c4f0_n c4f0_c, .slice c4f1_b c4f1_n c4f1_c, .slice c4f2_b c4f2_n c4f2_c] 29 (0, 0))] : Heap).filterMap Prod.fst) (intC .i64) 1 c0f4_b c0f4_n c0f4_c c0.Head) (h_c0f5 : RS w (([(some c3_k, .cells #[.int .i64 c3.N, .int .i64 c3.S, .int .i64 c3.T, .slice c3f3_b c3f3_n c3f3_c, .slice c3f4_b c3f4_n c3f4_c, .slice c3f5_b c3f5_n c3f5_c, .slice c3f6_b c3f6_n c3f6_c, .slice c3f7_b c3f7_n c3f7_c, .slice c3f8_b c3f8_n c3f8_c] 32 (0, 0)), (some c4_k, .cells #[.slice c4f0_b c4f0_n c4f0_c, .slice c4f1_b c4f1_n c4f1_c, .slice c4f2_b c4f2_n c4f2_c] 29 (0, 0))] : Heap).filterMap Prod.fst) (intC .i64) 1 c0f5_b c0f5_n c0f5_c c0.Rev) (h_c0f6 : RS w (([(some c3_k, .cells #[.int .i64 c3.N, .int .i64 c3.S, .int .i64 c3.T, .slice c3f3_b c3f3_n c3f3_c, .slice c3f4_b c3f4_n c3f4_c, .slice c3f5_b c3f5_n c3f5_c, .slice c3f6_b c3f6_n c3f6_c, .slice c3f7_b c3f7_n c3f7_c, .slice c3f8_b c3f8_n c3f8_c] 32 (0, 0)), (some c4_k, .cells #[.slice c4f0_b c4f0_n c4f0_c, .slice c4f1_b c4f1_n c4f1_c, .slice c4f2_b c4f2_n c4f2_c] 29 (0, 0))] : Heap).filterMap Prod.fst) (intC .i64) 1 c0f6_b c0f6_n c0f6_c c0.Cap) (h_c0f7 : RS w (([(some c3_k, .cells #[.int .i64 c3.N, .int .i64 c3.S, .int .i64 c3.T, .slice c3f3_b c3f3_n c3f3_c, .slice c3f4_b c3f4_n c3f4_c, .slice c3f5_b c3f5_n c3f5_c, .slice c3f6_b c3f6_n c3f6_c, .slice c3f7_b c3f7_n c3f7_c, .slice c3f8_b c3f8_n c3f8_c] 32 (0, 0)), (some c4_k, .cells #[.slice c4f0_b c4f0_n c4f0_c, .slice c4f1_b c4f1_n c4f1_c, .slice c4f2_b c4f2_n c4f2_c] 29 (0, 0))] : Heap).filterMap Prod.fst) (intC .i64) 1 c0f7_b c0f7_n c0f7_c c0.Arc) (h_c0f8 : RS w (([(some c3_k, .cells #[.int .i64 c3.N, .int .i64 c3.S, .int .i64 c3.T, .slice c3f3_b c3f3_n c3f3_c, .slice c3f4_b c3f4_n c3f4_c, .slice c3f5_b c3f5_n c3f5_c, .slice c3f6_b c3f6_n c3f6_c, .slice c3f7_b c3f7_n c3f7_c, .slice c3f8_b c3f8_n c3f8_c] 32 (0, 0)), (some c4_k, .cells #[.slice c4f0_b c4f0_n c4f0_c, .slice c4f1_b c4f1_n c4f1_c, .slice c4f2_b c4f2_n c4f2_c] 29 (0, 0))] : Heap).filterMap Prod.fst) boolC 1 c0f8_b c0f8_n c0f8_c c0.Back) (h_was1f0 : RS w (([(some c3_k, .cells #[.int .i64 c3.N, .int .i64 c3.S, .int .i64 c3.T, .slice c3f3_b c3f3_n c3f3_c, .slice c3f4_b c3f4_n c3f4_c, .slice c3f5_b c3f5_n c3f5_c, .slice c3f6_b c3f6_n c3f6_c, .slice c3f7_b c3f7_n c3f7_c, .slice c3f8_b c3f8_n c3f8_c] 32 (0, 0)), (some c4_k, .cells #[.slice c4f0_b c4f0_n c4f0_c, .slice c4f1_b c4f1_n c4f1_c, .slice c4f2_b c4f2_n c4f2_c] 29 (0, 0))] : Heap).filterMap Prod.fst) (intC .i64) 1 was1f0_b was1f0_n was1f0_c was1.Res) (h_was1f1 : RS w (([(some c3_k, .cells #[.int .i64 c3.N, .int .i64 c3.S, .int .i64 c3.T, .slice c3f3_b c3f3_n c3f3_c, .slice c3f4_b c3f4_n c3f4_c, .slice c3f5_b c3f5_n c3f5_c, .slice c3f6_b c3f6_n c3f6_c, .slice c3f7_b c3f7_n c3f7_c, .slice c3f8_b c3f8_n c3f8_c] 32 (0, 0)), (some c4_k, .cells #[.slice c4f0_b c4f0_n c4f0_c, .slice c4f1_b c4f1_n c4f1_c, .slice c4f2_b c4f2_n c4f2_c] 29 (0, 0))] : Heap).filterMap Prod.fst) (intC .i64) 1 was1f1_b was1f1_n was1f1_c was1.Ex) (h_was1f2 : RS w (([(some c3_k, .cells #[.int .i64 c3.N, .int .i64 c3.S, .int .i64 c3.T, .slice c3f3_b c3f3_n c3f3_c, .slice c3f4_b c3f4_n c3f4_c, .slice c3f5_b c3f5_n c3f5_c, .slice c3f6_b c3f6_n c3f6_c, .slice c3f7_b c3f7_n c3f7_c, .slice c3f8_b c3f8_n c3f8_c] 32 (0, 0)), (some c4_k, .cells #[.slice c4f0_b c4f0_n c4f0_c, .slice c4f1_b c4f1_n c4f1_c, .slice c4f2_b c4f2_n c4f2_c] 29 (0, 0))] : Heap).filterMap Prod.fst) (intC .i64) 1 was1f2_b was1f2_n was1f2_c was1.H) (h_p2f0 : RS w (([(some c3_k, .cells #[.int .i64 c3.N, .int .i64 c3.S, .int .i64 c3.T, .slice c3f3_b c3f3_n c3f3_c, .slice c3f4_b c3f4_n c3f4_c, .slice c3f5_b c3f5_n c3f5_c, .slice c3f6_b c3f6_n c3f6_c, .slice c3f7_b c3f7_n c3f7_c, .slice c3f8_b c3f8_n c3f8_c] 32 (0, 0)), (some c4_k, .cells #[.slice c4f0_b c4f0_n c4f0_c, .slice c4f1_b c4f1_n c4f1_c, .slice c4f2_b c4f2_n c4f2_c] 29 (0, 0))] : Heap).filterMap Prod.fst) (intC .i64) 1 p2f0_b p2f0_n p2f0_c p2.Res) (h_p2f1 : RS w (([(some c3_k, .cells #[.int .i64 c3.N, .int .i64 c3.S, .int .i64 c3.T, .slice c3f3_b c3f3_n c3f3_c, .slice c3f4_b c3f4_n c3f4_c, .slice c3f5_b c3f5_n c3f5_c, .slice c3f6_b c3f6_n c3f6_c, .slice c3f7_b c3f7_n c3f7_c, .slice c3f8_b c3f8_n c3f8_c] 32 (0, 0)), (some c4_k, .cells #[.slice c4f0_b c4f0_n c4f0_c, .slice c4f1_b c4f1_n c4f1_c, .slice c4f2_b c4f2_n c4f2_c] 29 (0, 0))] : Heap).filterMap Prod.fst) (intC .i64) 1 p2f1_b p2f1_n p2f1_c p2.Ex) (h_p2f2 : RS w (([(some c3_k, .cells #[.int .i64 c3.N, .int .i64 c3.S, .int .i64 c3.T, .slice c3f3_b c3f3_n c3f3_c, .slice c3f4_b c3f4_n c3f4_c, .slice c3f5_b c3f5_n c3f5_c, .slice c3f6_b c3f6_n c3f6_c, .slice c3f7_b c3f7_n c3f7_c, .slice c3f8_b c3f8_n c3f8_c] 32 (0, 0)), (some c4_k, .cells #[.slice c4f0_b c4f0_n c4f0_c, .slice c4f1_b c4f1_n c4f1_c, .slice c4f2_b c4f2_n c4f2_c] 29 (0, 0))] : Heap).filterMap Prod.fst) (intC .i64) 1 p2f2_b p2f2_n p2f2_c p2.H) (h_c3f3 : RS w (([(some c3_k, .cells #[.int .i64 c3.N, .int .i64 c3.S, .int .i64 c3.T, .slice c3f3_b c3f3_n c3f3_c, .slice c3f4_b c3f4_n c3f4_c, .slice c3f5_b c3f5_n c3f5_c, .slice c3f6_b c3f6_n c3f6_c, .slice c3f7_b c3f7_n c3f7_c, .slice c3f8_b c3f8_n c3f8_c] 32 (0, 0)), (some c4_k, .cells #[.slice c4f0_b c4f0_n c4f0_c, .slice c4f1_b c4f1_n c4f1_c, .slice c4f2_b c4f2_n c4f2_c] 29 (0, 0))] : Heap).filterMap Prod.fst) (intC .i64) 1 c3f3_b c3f3_n c3f3_c c3.First) (h_c3f4 : RS w (([(some c3_k, .cells #[.int .i64 c3.N, .int .i64 c3.S, .int .i64 c3.T, .slice c3f3_b c3f3_n c3f3_c, .slice c3f4_b c3f4_n c3f4_c, .slice c3f5_b c3f5_n c3f5_c, .slice c3f6_b c3f6_n c3f6_c, .slice c3f7_b c3f7_n c3f7_c, .slice c3f8_b c3f8_n c3f8_c] 32 (0, 0)), (some c4_k, .cells #[.slice c4f0_b c4f0_n c4f0_c, .slice c4f1_b c4f1_n c4f1_c, .slice c4f2_b c4f2_n c4f2_c] 29 (0, 0))] : Heap).filterMap Prod.fst) (intC .i64) 1 c3f4_b c3f4_n c3f4_c c3.Head) (h_c3f5 : RS w (([(some c3_k, .cells #[.int .i64 c3.N, .int .i64 c3.S, .int .i64 c3.T, .slice c3f3_b c3f3_n c3f3_c, .slice c3f4_b c3f4_n c3f4_c, .slice c3f5_b c3f5_n c3f5_c, .slice c3f6_b c3f6_n c3f6_c, .slice c3f7_b c3f7_n c3f7_c, .slice c3f8_b c3f8_n c3f8_c] 32 (0, 0)), (some c4_k, .cells #[.slice c4f0_b c4f0_n c4f0_c, .slice c4f1_b c4f1_n c4f1_c, .slice c4f2_b c4f2_n c4f2_c] 29 (0, 0))] : Heap).filterMap Prod.fst) (intC .i64) 1 c3f5_b c3f5_n c3f5_c c3.Rev) (h_c3f6 : RS w (([(some c3_k, .cells #[.int .i64 c3.N, .int .i64 c3.S, .int .i64 c3.T, .slice c3f3_b c3f3_n c3f3_c, .slice c3f4_b c3f4_n c3f4_c, .slice c3f5_b c3f5_n c3f5_c, .slice c3f6_b c3f6_n c3f6_c, .slice c3f7_b c3f7_n c3f7_c, .slice c3f8_b c3f8_n c3f8_c] 32 (0, 0)), (some c4_k, .cells #[.slice c4f0_b c4f0_n c4f0_c, .slice c4f1_b c4f1_n c4f1_c, .slice c4f2_b c4f2_n c4f2_c] 29 (0, 0))] : Heap).filterMap Prod.fst) (intC .i64) 1 c3f6_b c3f6_n c3f6_c c3.Cap) (h_c3f7 : RS w (([(some c3_k, .cells #[.int .i64 c3.N, .int .i64 c3.S, .int .i64 c3.T, .slice c3f3_b c3f3_n c3f3_c, .slice c3f4_b c3f4_n c3f4_c, .slice c3f5_b c3f5_n c3f5_c, .slice c3f6_b c3f6_n c3f6_c, .slice c3f7_b c3f7_n c3f7_c, .slice c3f8_b c3f8_n c3f8_c] 32 (0, 0)), (some c4_k, .cells #[.slice c4f0_b c4f0_n c4f0_c, .slice c4f1_b c4f1_n c4f1_c, .slice c4f2_b c4f2_n c4f2_c] 29 (0, 0))] : Heap).filterMap Prod.fst) (intC .i64) 1 c3f7_b c3f7_n c3f7_c c3.Arc) (h_c3f8 : RS w (([(some c3_k, .cells #[.int .i64 c3.N, .int .i64 c3.S, .int .i64 c3.T, .slice c3f3_b c3f3_n c3f3_c, .slice c3f4_b c3f4_n c3f4_c, .slice c3f5_b c3f5_n c3f5_c, .slice c3f6_b c3f6_n c3f6_c, .slice c3f7_b c3f7_n c3f7_c, .slice c3f8_b c3f8_n c3f8_c] 32 (0, 0)), (some c4_k, .cells #[.slice c4f0_b c4f0_n c4f0_c, .slice c4f1_b c4f1_n c4f1_c, .slice c4f2_b c4f2_n c4f2_c] 29 (0, 0))] : Heap).filterMap Prod.fst) boolC 1 c3f8_b c3f8_n c3f8_c c3.Back) (h_c4f0 : RS w (([(some c3_k, .cells #[.int .i64 c3.N, .int .i64 c3.S, .int .i64 c3.T, .slice c3f3_b c3f3_n c3f3_c, .slice c3f4_b c3f4_n c3f4_c, .slice c3f5_b c3f5_n c3f5_c, .slice c3f6_b c3f6_n c3f6_c, .slice c3f7_b c3f7_n c3f7_c, .slice c3f8_b c3f8_n c3f8_c] 32 (0, 0)), (some c4_k, .cells #[.slice c4f0_b c4f0_n c4f0_c, .slice c4f1_b c4f1_n c4f1_c, .slice c4f2_b c4f2_n c4f2_c] 29 (0, 0))] : Heap).filterMap Prod.fst) (intC .i64) 1 c4f0_b c4f0_n c4f0_c c4.Res) (h_c4f1 : RS w (([(some c3_k, .cells #[.int .i64 c3.N, .int .i64 c3.S, .int .i64 c3.T, .slice c3f3_b c3f3_n c3f3_c, .slice c3f4_b c3f4_n c3f4_c, .slice c3f5_b c3f5_n c3f5_c, .slice c3f6_b c3f6_n c3f6_c, .slice c3f7_b c3f7_n c3f7_c, .slice c3f8_b c3f8_n c3f8_c] 32 (0, 0)), (some c4_k, .cells #[.slice c4f0_b c4f0_n c4f0_c, .slice c4f1_b c4f1_n c4f1_c, .slice c4f2_b c4f2_n c4f2_c] 29 (0, 0))] : Heap).filterMap Prod.fst) (intC .i64) 1 c4f1_b c4f1_n c4f1_c c4.Ex) (h_c4f2 : RS w (([(some c3_k, .cells #[.int .i64 c3.N, .int .i64 c3.S, .int .i64 c3.T, .slice c3f3_b c3f3_n c3f3_c, .slice c3f4_b c3f4_n c3f4_c, .slice c3f5_b c3f5_n c3f5_c, .slice c3f6_b c3f6_n c3f6_c, .slice c3f7_b c3f7_n c3f7_c, .slice c3f8_b c3f8_n c3f8_c] 32 (0, 0)), (some c4_k, .cells #[.slice c4f0_b c4f0_n c4f0_c, .slice c4f1_b c4f1_n c4f1_c, .slice c4f2_b c4f2_n c4f2_c] 29 (0, 0))] : Heap).filterMap Prod.fst) (intC .i64) 1 c4f2_b c4f2_n c4f2_c c4.H) {r0 : Bool} {o0 : Csr} {o1 : Pre} (H : Z5w c0 was1 p2 c3 c4 = some (r0, o0, o1)) : Fnc Try.prog 53 #[.agg #[.int .i64 c0.N, .int .i64 c0.S, .int .i64 c0.T, .slice c0f3_b c0f3_n c0f3_c, .slice c0f4_b c0f4_n c0f4_c, .slice c0f5_b c0f5_n c0f5_c, .slice c0f6_b c0f6_n c0f6_c, .slice c0f7_b c0f7_n c0f7_c, .slice c0f8_b c0f8_n c0f8_c], .agg #[.slice was1f0_b was1f0_n was1f0_c, .slice was1f1_b was1f1_n was1f1_c, .slice was1f2_b was1f2_n was1f2_c], .agg #[.slice p2f0_b p2f0_n p2f0_c, .slice p2f1_b p2f1_n p2f1_c, .slice p2f2_b p2f2_n p2f2_c], .pointer (some ⟨c3_k, 0, none⟩), .pointer (some ⟨c4_k, 0, none⟩)] w (([(some c3_k, .cells #[.int .i64 c3.N, .int .i64 c3.S, .int .i64 c3.T, .slice c3f3_b c3f3_n c3f3_c, .slice c3f4_b c3f4_n c3f4_c, .slice c3f5_b c3f5_n c3f5_c, .slice c3f6_b c3f6_n c3f6_c, .slice c3f7_b c3f7_n c3f7_c, .slice c3f8_b c3f8_n c3f8_c] 32 (0, 0)), (some c4_k, .cells #[.slice c4f0_b c4f0_n c4f0_c, .slice c4f1_b c4f1_n c4f1_c, .slice c4f2_b c4f2_n c4f2_c] 29 (0, 0))] : Heap).filterMap Prod.fst) (fun v N => v = .bool r0 ∧ N = [(some c3_k, .cells #[.int .i64 o0.N, .int .i64 o0.S, .int .i64 o0.T, .slice c0f3_b c0f3_n c0f3_c, .slice c0f4_b c0f4_n c0f4_c, .slice c0f5_b c0f5_n c0f5_c, .slice c0f6_b c0f6_n c0f6_c, .slice c0f7_b c0f7_n c0f7_c, .slice c0f8_b c0f8_n c0f8_c] 32 (0, 0)), (some c4_k, .cells #[.slice p2f0_b p2f0_n p2f0_c, .slice p2f1_b p2f1_n p2f1_c, .slice p2f2_b p2f2_n p2f2_c] 29 (0, 0))]) := by
 unfold Z5w at H; refine Z0u (vs := [.agg #[.int .i64 c0.N, .int .i64 c0.S, .int .i64 c0.T, .slice c0f3_b c0f3_n c0f3_c, .slice c0f4_b c0f4_n c0f4_c, .slice c0f5_b c0f5_n c0f5_c, .slice c0f6_b c0f6_n c0f6_c, .slice c0f7_b c0f7_n c0f7_c, .slice c0f8_b c0f8_n c0f8_c], .agg #[.slice was1f0_b was1f0_n was1f0_c, .slice was1f1_b was1f1_n was1f1_c, .slice was1f2_b was1f2_n was1f2_c], .agg #[.slice p2f0_b p2f0_n p2f0_c, .slice p2f1_b p2f1_n p2f1_c, .slice p2f2_b p2f2_n p2f2_c], .pointer (some ⟨c3_k, 0, none⟩), .pointer (some ⟨c4_k, 0, none⟩)]) Try.func53 rfl rfl hin ?_; refine Z0c ?_; refine Z03 (ll := [0, 1, 2, 3]) rfl ?_; refine Z1c rfl rfl rfl rfl ?_; intro b3; refine Z1c rfl rfl rfl rfl ?_; intro b5; refine Z1c rfl rfl rfl rfl ?_; intro b7; refine Z05 rfl rfl rfl rfl ?_; refine Z04 ?_; refine Z01 ?_; refine Z0c ?_; apply Zb0 [⟨[], false, [], Z4n _⟩, ⟨[], false, [], Z4n _⟩, ⟨[0], true, [], Zqp⟩] [9, 10] 3 (HRk [[(some c3_k, .cells #[.int .i64 c3.N, .int .i64 c3.S, .int .i64 c3.T, .slice c3f3_b c3f3_n c3f3_c, .slice c3f4_b c3f4_n c3f4_c, .slice c3f5_b c3f5_n c3f5_c, .slice c3f6_b c3f6_n c3f6_c, .slice c3f7_b c3f7_n c3f7_c, .slice c3f8_b c3f8_n c3f8_c] 32 (0, 0))], [(some c3_k, .cells #[.int .i64 c0.N, .int .i64 c0.S, .int .i64 c0.T, .slice c0f3_b c0f3_n c0f3_c, .slice c0f4_b c0f4_n c0f4_c, .slice c0f5_b c0f5_n c0f5_c, .slice c0f6_b c0f6_n c0f6_c, .slice c0f7_b c0f7_n c0f7_c, .slice c0f8_b c0f8_n c0f8_c] 32 (0, 0))]]) [[], []] [(some c3_k, .cells #[.int .i64 c3.N, .int .i64 c3.S, .int .i64 c3.T, .slice c3f3_b c3f3_n c3f3_c, .slice c3f4_b c3f4_n c3f4_c, .slice c3f5_b c3f5_n c3f5_c, .slice c3f6_b c3f6_n c3f6_c, .slice c3f7_b c3f7_n c3f7_c, .slice c3f8_b c3f8_n c3f8_c] 32 (0, 0))] [(some b7, .cells #[.slice p2f0_b p2f0_n p2f0_c, .slice p2f1_b p2f1_n p2f1_c, .slice p2f2_b p2f2_n p2f2_c] 29 (0, 0)), (some b5, .cells #[.slice was1f0_b was1f0_n was1f0_c, .slice was1f1_b was1f1_n was1f1_c, .slice was1f2_b was1f2_n was1f2_c] 29 (0, 0)), (some b3, .cells #[.int .i64 c0.N, .int .i64 c0.S, .int .i64 c0.T, .slice c0f3_b c0f3_n c0f3_c, .slice c0f4_b c0f4_n c0f4_c, .slice c0f5_b c0f5_n c0f5_c, .slice c0f6_b c0f6_n c0f6_c, .slice c0f7_b c0f7_n c0f7_c, .slice c0f8_b c0f8_n c0f8_c] 32 (0, 0)), (some c4_k, .cells #[.slice c4f0_b c4f0_n c4f0_c, .slice c4f1_b c4f1_n c4f1_c, .slice c4f2_b c4f2_n c4f2_c] 29 (0, 0))]
 · exact Z4c
 · exact rfl
 · kernel_rfl
 · kernel_rfl
 · kernel_rfl
 · exact rfl
 · exact rfl
 · exact rfl
 · exact rfl
 · exact (by repeat (first | exact Z09 _ | exact Z08 | apply Pick.none | refine Z02 (by repeat (first | exact Take.head _ _ | apply Z0z)) ?_))
 ·
  refine ⟨?_, ?_, ?_, trivial⟩
  · rintro vs es Es Hx -; refine Z0j (D := []) rfl ?_; refine Z0l rfl rfl rfl rfl Z3b mm2 rfl ?_; refine Z04 ?_; exact Z1j rfl ⟨rfl, rfl⟩ (Z09 _) rfl
  · rintro vs es Es Hx -; refine Z0j (D := []) rfl ?_; refine Z0l rfl rfl rfl rfl Z2t mm0 rfl ?_; refine Z04 ?_; exact Z1j rfl ⟨rfl, rfl⟩ (Z09 _) rfl
  · rintro vs es Es Hx hb ⟨⟨h_0, e_0⟩, -⟩ hHR; obtain rfl : hb = [(some c3_k, .cells #[.int .i64 c3.N, .int .i64 c3.S, .int .i64 c3.T, .slice c3f3_b c3f3_n c3f3_c, .slice c3f4_b c3f4_n c3f4_c, .slice c3f5_b c3f5_n c3f5_c, .slice c3f6_b c3f6_n c3f6_c, .slice c3f7_b c3f7_n c3f7_c, .slice c3f8_b c3f8_n c3f8_c] 32 (0, 0))] := hHR; refine Z0j (D := [(9, vs 0)]) rfl ?_; rw [h_0]; refine Z15 rfl rfl rfl rfl tk0 Zbv rfl rfl rfl ?_; refine Z04 ?_; exact Zhf (hb' := [(some c3_k, .cells #[.int .i64 c0.N, .int .i64 c0.S, .int .i64 c0.T, .slice c0f3_b c0f3_n c0f3_c, .slice c0f4_b c0f4_n c0f4_c, .slice c0f5_b c0f5_n c0f5_c, .slice c0f6_b c0f6_n c0f6_c, .slice c0f7_b c0f7_n c0f7_c, .slice c0f8_b c0f8_n c0f8_c] 32 (0, 0))]) rfl rfl rfl (by repeat (first | exact Z09 _ | exact Z08 | apply Pick.none | refine Z02 (by repeat (first | exact Take.head _ _ | apply Z0z)) ?_)) (by show [(9, vs 0)] = _; rw [h_0])
 · rintro vs es hb ⟨⟨h_0, e_0⟩, ⟨h_1, e_1⟩, e_2, -⟩ hHR; obtain rfl : hb = [(some c3_k, .cells #[.int .i64 c0.N, .int .i64 c0.S, .int .i64 c0.T, .slice c0f3_b c0f3_n c0f3_c, .slice c0f4_b c0f4_n c0f4_c, .slice c0f5_b c0f5_n c0f5_c, .slice c0f6_b c0f6_n c0f6_c, .slice c0f7_b c0f7_n c0f7_c, .slice c0f8_b c0f8_n c0f8_c] 32 (0, 0))] := hHR; refine Z0j (D := [(9, vs 0), (10, vs 1)]) rfl ?_; refine Z1y (H := [(some c3_k, .cells #[.int .i64 c0.N, .int .i64 c0.S, .int .i64 c0.T, .slice c0f3_b c0f3_n c0f3_c, .slice c0f4_b c0f4_n c0f4_c, .slice c0f5_b c0f5_n c0f5_c, .slice c0f6_b c0f6_n c0f6_c, .slice c0f7_b c0f7_n c0f7_c, .slice c0f8_b c0f8_n c0f8_c] 32 (0, 0)), (some b7, .cells #[.slice p2f0_b p2f0_n p2f0_c, .slice p2f1_b p2f1_n p2f1_c, .slice p2f2_b p2f2_n p2f2_c] 29 (0, 0)), (some b5, .cells #[.slice was1f0_b was1f0_n was1f0_c, .slice was1f1_b was1f1_n was1f1_c, .slice was1f2_b was1f2_n was1f2_c] 29 (0, 0)), (some b3, .cells #[.int .i64 c0.N, .int .i64 c0.S, .int .i64 c0.T, .slice c0f3_b c0f3_n c0f3_c, .slice c0f4_b c0f4_n c0f4_c, .slice c0f5_b c0f5_n c0f5_c, .slice c0f6_b c0f6_n c0f6_c, .slice c0f7_b c0f7_n c0f7_c, .slice c0f8_b c0f8_n c0f8_c] 32 (0, 0)), (some c4_k, .cells #[.slice c4f0_b c4f0_n c4f0_c, .slice c4f1_b c4f1_n c4f1_c, .slice c4f2_b c4f2_n c4f2_c] 29 (0, 0))]) (by show _ ++ (_ ++ (es 0 ++ (es 1 ++ (es 2 ++ ([]))))) = _; rw [e_0, e_1, e_2]; rfl) ?_; rw [h_0, h_1]; clear h_1 h_0 e_0 e_1 e_2; refine Z15 rfl rfl rfl rfl tk4 Z61 rfl rfl rfl ?_; refine Z04 ?_; refine Z01 ?_; refine Z0p Z0a ?_; refine Z0c ?_; refine Z03 (ll := [0]) rfl ?_; refine Z05 rfl rfl rfl rfl ?_; refine Z04 ?_; refine Z01 ?_; refine T.ret ?_; obtain ⟨rfl, rfl, rfl⟩ := ret3 H; exact Z0y rfl rfl rfl rfl (Res.tmp rfl) (Z02 tk1 (Z02 tk0 Z08)) ⟨rfl, rfl⟩
theorem Z95 {n0 : Net} {moves1 : List Int} {n0f3_b : Option Addr} {n0f3_n : Nat} {n0f3_c : Nat} {moves1_b : Option Addr} {moves1_n : Nat} {moves1_c : Nat} {each2_0_k : Nat} {each2_1_k : Nat} (w : World) (hin : Inv w (([(some each2_0_k, .cells #[.int .i64 0, .int .i64 0, .int .i64 0, .slice none 0 0, .slice none 0 0, .slice none 0 0, .slice none 0 0, .slice none 0 0, .slice none 0 0] 32 (0, 0)), (some each2_1_k, .cells #[.slice none 0 0, .slice none 0 0, .slice none 0 0] 29 (0, 0))] : Heap).filterMap Prod.fst) w [(some each2_0_k, .cells #[.int .i64 0, .int .i64 0, .int .i64 0, .slice none 0 0, .slice none 0 0, .slice none 0 0, .slice none 0 0, .slice none 0 0, .slice none 0 0] 32 (0, 0)), (some each2_1_k, .cells #[.slice none 0 0, .slice none 0 0, .slice none 0 0] 29 (0, 0))]) (h_n0f3 : RS w (([(some each2_0_k, .cells #[.int .i64 0, .int .i64 0, .int .i64 0, .slice none 0 0, .slice none 0 0, .slice none 0 0, .slice none 0 0, .slice none 0 0, .slice none 0 0] 32 (0, 0)), (some each2_1_k, .cells #[.slice none 0 0, .slice none 0 0, .slice none 0 0] 29 (0, 0))] : Heap).filterMap Prod.fst) Z93 3 n0f3_b n0f3_n n0f3_c n0.Arcs) (h_moves1 : RS w (([(some each2_0_k, .cells #[.int .i64 0, .int .i64 0, .int .i64 0, .slice none 0 0, .slice none 0 0, .slice none 0 0, .slice none 0 0, .slice none 0 0, .slice none 0 0] 32 (0, 0)), (some each2_1_k, .cells #[.slice none 0 0, .slice none 0 0, .slice none 0 0] 29 (0, 0))] : Heap).filterMap Prod.fst) (intC .u8) 1 moves1_b moves1_n moves1_c moves1) {r0 : Bool} {o0 : Csr} {o1 : Pre} (H : Z2o n0 moves1 = some (r0, o0, o1)) : Fnc Try.prog 34 #[.agg #[.int .i64 n0.N, .int .i64 n0.S, .int .i64 n0.T, .slice n0f3_b n0f3_n n0f3_c], .slice moves1_b moves1_n moves1_c, .func (.func 53) #[] #[.pointer (some ⟨each2_0_k, 0, none⟩), .pointer (some ⟨each2_1_k, 0, none⟩)]] w (([(some each2_0_k, .cells #[.int .i64 0, .int .i64 0, .int .i64 0, .slice none 0 0, .slice none 0 0, .slice none 0 0, .slice none 0 0, .slice none 0 0, .slice none 0 0] 32 (0, 0)), (some each2_1_k, .cells #[.slice none 0 0, .slice none 0 0, .slice none 0 0] 29 (0, 0))] : Heap).filterMap Prod.fst) (fun v N => ∃ (ob_0 : Option Nat) (n_0 : Nat) (c_0 : Nat) (j_0 : List Value) (ob_4 : Option Nat) (n_4 : Nat) (c_4 : Nat) (j_4 : List Value) (ob_8 : Option Nat) (n_8 : Nat) (c_8 : Nat) (j_8 : List Value) (ob_12 : Option Nat) (n_12 : Nat) (c_12 : Nat) (j_12 : List Value) (ob_16 : Option Nat) (n_16 : Nat) (c_16 : Nat) (j_16 : List Value) (ob_20 : Option Nat) (n_20 : Nat) (c_20 : Nat) (j_20 : List Value) (ob_24 : Option Nat) (n_24 : Nat) (c_24 : Nat) (j_24 : List Value) (ob_28 : Option Nat) (n_28 : Nat) (c_28 : Nat) (j_28 : List Value) (ob_32 : Option Nat) (n_32 : Nat) (c_32 : Nat) (j_32 : List Value), v = .bool r0 ∧ N = [(some each2_0_k, .cells #[.int .i64 o0.N, .int .i64 o0.S, .int .i64 o0.T, .slice (sb ob_0) n_0 c_0, .slice (sb ob_4) n_4 c_4, .slice (sb ob_8) n_8 c_8, .slice (sb ob_12) n_12 c_12, .slice (sb ob_16) n_16 c_16, .slice (sb ob_20) n_20 c_20] 32 (0, 0)), (ob_0, .cells (arr (intC .i64) o0.First j_0).toArray 3 (0, 0)), (ob_4, .cells (arr (intC .i64) o0.Head j_4).toArray 3 (0, 0)), (ob_8, .cells (arr (intC .i64) o0.Rev j_8).toArray 3 (0, 0)), (ob_12, .cells (arr (intC .i64) o0.Cap j_12).toArray 2 (0, 0)), (ob_16, .cells (arr (intC .i64) o0.Arc j_16).toArray 3 (0, 0)), (ob_20, .cells (arr boolC o0.Back j_20).toArray 4 (0, 0)), (some each2_1_k, .cells #[.slice (sb ob_24) n_24 c_24, .slice (sb ob_28) n_28 c_28, .slice (sb ob_32) n_32 c_32] 29 (0, 0)), (ob_24, .cells (arr (intC .i64) o1.Res j_24).toArray 2 (0, 0)), (ob_28, .cells (arr (intC .i64) o1.Ex j_28).toArray 2 (0, 0)), (ob_32, .cells (arr (intC .i64) o1.H j_32).toArray 3 (0, 0))] ∧ o0.First.length = n_0 ∧ n_0 ≤ c_0 ∧ j_0.length = (c_0 - n_0) * 1 ∧ (ob_0 = none → c_0 = 0) ∧ o0.Head.length = n_4 ∧ n_4 ≤ c_4 ∧ j_4.length = (c_4 - n_4) * 1 ∧ (ob_4 = none → c_4 = 0) ∧ o0.Rev.length = n_8 ∧ n_8 ≤ c_8 ∧ j_8.length = (c_8 - n_8) * 1 ∧ (ob_8 = none → c_8 = 0) ∧ o0.Cap.length = n_12 ∧ n_12 ≤ c_12 ∧ j_12.length = (c_12 - n_12) * 1 ∧ (ob_12 = none → c_12 = 0) ∧ o0.Arc.length = n_16 ∧ n_16 ≤ c_16 ∧ j_16.length = (c_16 - n_16) * 1 ∧ (ob_16 = none → c_16 = 0) ∧ o0.Back.length = n_20 ∧ n_20 ≤ c_20 ∧ j_20.length = (c_20 - n_20) * 1 ∧ (ob_20 = none → c_20 = 0) ∧ o1.Res.length = n_24 ∧ n_24 ≤ c_24 ∧ j_24.length = (c_24 - n_24) * 1 ∧ (ob_24 = none → c_24 = 0) ∧ o1.Ex.length = n_28 ∧ n_28 ≤ c_28 ∧ j_28.length = (c_28 - n_28) * 1 ∧ (ob_28 = none → c_28 = 0) ∧ o1.H.length = n_32 ∧ n_32 ≤ c_32 ∧ j_32.length = (c_32 - n_32) * 1 ∧ (ob_32 = none → c_32 = 0)) := by
 unfold Z2o at H; refine Z0u (vs := [.agg #[.int .i64 n0.N, .int .i64 n0.S, .int .i64 n0.T, .slice n0f3_b n0f3_n n0f3_c], .slice moves1_b moves1_n moves1_c, .func (.func 53) #[] #[.pointer (some ⟨each2_0_k, 0, none⟩), .pointer (some ⟨each2_1_k, 0, none⟩)]]) Try.func34 rfl rfl hin ?_; refine Z0c ?_; refine Z03 (ll := [0, 1]) rfl ?_; refine Z1c rfl rfl rfl rfl ?_; intro b3; refine Z05 rfl rfl rfl rfl ?_; refine Z04 ?_; refine Z01 ?_; refine Z0c ?_; obtain ⟨⟨r5, r6⟩, e7, H⟩ := Z0k H; refine Z03 (ll := [0, 1, 2, 3, 4, 5, 6, 7]) rfl ?_; refine Z0l rfl rfl rfl rfl Z4y mm0 rfl ?_; refine Z0m Zix rfl rfl rfl rfl (fun wc hwc => Zjt (n0 := n0) wc (h_n0f3.mono hwc) e7) ?_; rintro _ _ ⟨ob8, n9, c10, j11, ob12, n13, c14, j15, ob16, n17, c18, j19, ob20, n21, c22, j23, ob24, n25, c26, j27, ob28, n29, c30, j31, rfl, rfl, hn32, hc33, hj34, hz35, hn36, hc37, hj38, hz39, hn40, hc41, hj42, hz43, hn44, hc45, hj46, hz47, hn48, hc49, hj50, hz51, hn52, hc53, hj54, hz55⟩; refine Z06 rfl rfl rfl rfl ?_; refine TO.extract rfl rfl rfl rfl rfl ?_; refine TO.extract rfl rfl rfl rfl rfl ?_; refine Z1g rfl rfl rfl Ze1 ?_; intro b62; refine Z15 rfl rfl rfl rfl tk0 Zbv rfl rfl rfl ?_; refine Z05 rfl rfl rfl rfl ?_; refine Z04 ?_; refine Z01 ?_; refine Z0p (Z00 (t := 1) rfl (Z00 (t := 2) rfl (Z00 (t := 7) rfl (Z00 (t := 8) rfl Z0a)))) ?_; refine Z0c ?_; refine Z0c ?_; refine Z03 (ll := [0, 1]) rfl ?_; refine Z06 rfl rfl rfl rfl ?_; refine Z0q rfl rfl rfl rfl rfl rfl ?_; refine Z04 ?_; refine Z01 ?_; rcases Z0i H with ⟨g64, H⟩ | ⟨g64, H⟩
 · refine Z10 rfl g64 ?_; refine Z0c ?_; refine Z03 (ll := [0]) rfl ?_; refine Z05 rfl rfl rfl rfl ?_; refine Z04 ?_; refine Z01 ?_; refine T.ret ?_; refine Z0f ?_; obtain ⟨rfl, rfl, rfl⟩ := ret3 H; exact Z0y rfl rfl rfl rfl (Res.tmp rfl) (Z02 tk8 (Pick.none (Pick.none (Pick.none (Pick.none (Pick.none (Pick.none (Z02 tk8 (Pick.none (Pick.none (Pick.none Z08))))))))))) ⟨none, 0, 0, ([]), none, 0, 0, ([]), none, 0, 0, ([]), none, 0, 0, ([]), none, 0, 0, ([]), none, 0, 0, ([]), none, 0, 0, ([]), none, 0, 0, ([]), none, 0, 0, ([]), rfl, rfl, rfl, (Nat.le_refl _), (Z24 0 _), (fun _ => rfl), rfl, (Nat.le_refl _), (Z24 0 _), (fun _ => rfl), rfl, (Nat.le_refl _), (Z24 0 _), (fun _ => rfl), rfl, (Nat.le_refl _), (Z24 0 _), (fun _ => rfl), rfl, (Nat.le_refl _), (Z24 0 _), (fun _ => rfl), rfl, (Nat.le_refl _), (Z24 0 _), (fun _ => rfl), rfl, (Nat.le_refl _), (Z24 0 _), (fun _ => rfl), rfl, (Nat.le_refl _), (Z24 0 _), (fun _ => rfl), rfl, (Nat.le_refl _), (Z24 0 _), (fun _ => rfl)⟩
 ·
  refine Z11 rfl g64 ?_; refine T.skip ?_; refine Z01 ?_; refine Z0c ?_; obtain ⟨r65, e66, H⟩ := Z0k H; refine Z03 (ll := [0, 1, 2, 3]) rfl ?_; refine Z0l rfl rfl rfl rfl Z3b mm0 rfl ?_; refine Z0m Zj6 rfl rfl rfl rfl (fun wc hwc => Zht (c0 := r5) wc (hwc.rs (f := (intC .i64)) (s := 1) (xs := r5.First) (j := j11) (fun _ => rfl) mm1 hn32 hc33 hz35) (hwc.rs (f := (intC .i64)) (s := 1) (xs := r5.Head) (j := j15) (fun _ => rfl) mm2 hn36 hc37 hz39) (hwc.rs (f := (intC .i64)) (s := 1) (xs := r5.Rev) (j := j19) (fun _ => rfl) mm3 hn40 hc41 hz43) (hwc.rs (f := (intC .i64)) (s := 1) (xs := r5.Cap) (j := j23) (fun _ => rfl) mm4 hn44 hc45 hz47) (hwc.rs (f := (intC .i64)) (s := 1) (xs := r5.Arc) (j := j27) (fun _ => rfl) mm5 hn48 hc49 hz51) (hwc.rs (f := boolC) (s := 1) (xs := r5.Back) (j := j31) (fun _ => rfl) mm6 hn52 hc53 hz55) e66) ?_; rintro _ _ ⟨ob67, n68, c69, j70, ob71, n72, c73, j74, ob75, n76, c77, j78, rfl, rfl, hn79, hc80, hj81, hz82, hn83, hc84, hj85, hz86, hn87, hc88, hj89, hz90⟩; refine Z1g rfl rfl rfl Zbt ?_; intro b94; refine Z15 rfl rfl rfl rfl tk0 Z61 rfl rfl rfl ?_; refine Z04 ?_; refine Z01 ?_; refine Z0c ?_; refine Z0c ?_; obtain ⟨⟨r96, r97, r98⟩, e99, H⟩ := Z0k H; refine Z03 (ll := [0, 1, 2, 3, 4, 5]) rfl ?_; refine Z06 rfl rfl rfl rfl ?_; refine Z0l rfl rfl rfl rfl Z3b mm4 rfl ?_; refine Z0l rfl rfl rfl rfl Z2t mm0 rfl ?_; refine Z0l rfl rfl rfl rfl Z2t mm0 rfl ?_; refine Zcx Ze3 rfl rfl rfl rfl rfl (Z0g Zfc (Z0g Zfc (Gone.refl _))) rfl (fun wc hwc => Zb3 (c0 := r5) (was1 := r65) (p2 := r65) wc (hwc.self (Z02 Zfc (Z02 Zfc Z08)) rfl) (hwc.rsM (f := (intC .i64)) (s := 1) (xs := r5.First) (j := j11) (fun _ => rfl) (Z0g Zfc (Z0g Zfc (Gone.refl _))) rfl mm5 hn32 hc33 hz35) (hwc.rsM (f := (intC .i64)) (s := 1) (xs := r5.Head) (j := j15) (fun _ => rfl) (Z0g Zfc (Z0g Zfc (Gone.refl _))) rfl mm6 hn36 hc37 hz39) (hwc.rsM (f := (intC .i64)) (s := 1) (xs := r5.Rev) (j := j19) (fun _ => rfl) (Z0g Zfc (Z0g Zfc (Gone.refl _))) rfl mm7 hn40 hc41 hz43) (hwc.rsM (f := (intC .i64)) (s := 1) (xs := r5.Cap) (j := j23) (fun _ => rfl) (Z0g Zfc (Z0g Zfc (Gone.refl _))) rfl mm8 hn44 hc45 hz47) (hwc.rsM (f := (intC .i64)) (s := 1) (xs := r5.Arc) (j := j27) (fun _ => rfl) (Z0g Zfc (Z0g Zfc (Gone.refl _))) rfl mm9 hn48 hc49 hz51) (hwc.rsM (f := boolC) (s := 1) (xs := r5.Back) (j := j31) (fun _ => rfl) (Z0g Zfc (Z0g Zfc (Gone.refl _))) rfl Zrb hn52 hc53 hz55) (hwc.rsM (f := (intC .i64)) (s := 1) (xs := r65.Res) (j := j70) (fun _ => rfl) (Z0g Zfc (Z0g Zfc (Gone.refl _))) rfl mm1 hn79 hc80 hz82) (hwc.rsM (f := (intC .i64)) (s := 1) (xs := r65.Ex) (j := j74) (fun _ => rfl) (Z0g Zfc (Z0g Zfc (Gone.refl _))) rfl mm2 hn83 hc84 hz86) (hwc.rsM (f := (intC .i64)) (s := 1) (xs := r65.H) (j := j78) (fun _ => rfl) (Z0g Zfc (Z0g Zfc (Gone.refl _))) rfl mm3 hn87 hc88 hz90) (hwc.rsM (f := (intC .i64)) (s := 1) (xs := r65.Res) (j := j70) (fun _ => rfl) (Z0g Zfc (Z0g Zfc (Gone.refl _))) rfl mm1 hn79 hc80 hz82) (hwc.rsM (f := (intC .i64)) (s := 1) (xs := r65.Ex) (j := j74) (fun _ => rfl) (Z0g Zfc (Z0g Zfc (Gone.refl _))) rfl mm2 hn83 hc84 hz86) (hwc.rsM (f := (intC .i64)) (s := 1) (xs := r65.H) (j := j78) (fun _ => rfl) (Z0g Zfc (Z0g Zfc (Gone.refl _))) rfl mm3 hn87 hc88 hz90) e99) ?_; rintro _ _ ⟨rfl, rfl⟩; refine TO.not rfl rfl rfl rfl ?_; refine Z04 ?_; refine Z01 ?_; refine Z0p (Z00 (t := 1) rfl (Z00 (t := 2) rfl (Z00 (t := 7) rfl (Z00 (t := 9) rfl (Z00 (t := 31) rfl Z0a))))) ?_; rcases Z0i H with ⟨g100, H⟩ | ⟨g100, H⟩
  · refine Z1a rfl g100 ?_; refine Z0c ?_; refine Z03 (ll := [0]) rfl ?_; refine Z05 rfl rfl rfl rfl ?_; refine Z04 ?_; refine Z01 ?_; refine T.ret ?_; refine Z0f ?_; obtain ⟨rfl, rfl, rfl⟩ := ret3 H; exact Z0y rfl rfl rfl rfl (Res.tmp rfl) (Z02 tk0 (Z02 tk6 (Z02 tk6 (Z02 tk6 (Z02 tk6 (Z02 tk6 (Z02 tk6 (Z02 tk0 (Z02 tk1 (Z02 tk1 (Z02 tk1 Z08))))))))))) ⟨ob8, n9, c10, j11, ob12, n13, c14, j15, ob16, n17, c18, j19, ob20, n21, c22, j23, ob24, n25, c26, j27, ob28, n29, c30, j31, ob67, n68, c69, j70, ob71, n72, c73, j74, ob75, n76, c77, j78, rfl, rfl, hn32, hc33, hj34, hz35, hn36, hc37, hj38, hz39, hn40, hc41, hj42, hz43, hn44, hc45, hj46, hz47, hn48, hc49, hj50, hz51, hn52, hc53, hj54, hz55, hn79, hc80, hj81, hz82, hn83, hc84, hj85, hz86, hn87, hc88, hj89, hz90⟩
  ·
   refine Z1k rfl (Bool.eq_false_iff.2 g100) ?_; refine T.skip ?_; refine Z01 ?_; refine Z0c ?_; refine Z0c ?_; refine Z03 (ll := [0, 1, 2]) rfl ?_; refine Z06 rfl rfl rfl rfl ?_; refine Z1h (xs := moves1) h_moves1.len rfl rfl rfl rfl rfl Z9l ?_; refine Z06 rfl rfl rfl rfl ?_; refine Z04 ?_; refine Z01 ?_; refine Zqn (fun (N271 : Int) (S272 : Int) (T273 : Int) (Res274 : List Int) (n275 : Nat) (c276 : Nat) (ob277 : Option Nat) (j278 : List Value) (Ex284 : List Int) (n285 : Nat) (c286 : Nat) (ob287 : Option Nat) (j288 : List Value) (H294 : List Int) (n295 : Nat) (c296 : Nat) (ob297 : Option Nat) (j298 : List Value) => Z36 r5 N271 S272 T273 Res274 Ex284 H294 = some (r0, o0, o1) ∧ Res274.length = n275 ∧ n275 ≤ c276 ∧ j278.length = (c276 - n275) * 1 ∧ (ob277 = none → c276 = 0) ∧ Ex284.length = n285 ∧ n285 ≤ c286 ∧ j288.length = (c286 - n285) * 1 ∧ (ob287 = none → c286 = 0) ∧ H294.length = n295 ∧ n295 ≤ c296 ∧ j298.length = (c296 - n295) * 1 ∧ (ob297 = none → c296 = 0)) (fun (N271 : Int) (S272 : Int) (T273 : Int) (Res274 : List Int) (n275 : Nat) (c276 : Nat) (ob277 : Option Nat) (j278 : List Value) (Ex284 : List Int) (n285 : Nat) (c286 : Nat) (ob287 : Option Nat) (j288 : List Value) (H294 : List Int) (n295 : Nat) (c296 : Nat) (ob297 : Option Nat) (j298 : List Value) => []) (fun (N271 : Int) (S272 : Int) (T273 : Int) (Res274 : List Int) (n275 : Nat) (c276 : Nat) (ob277 : Option Nat) (j278 : List Value) (Ex284 : List Int) (n285 : Nat) (c286 : Nat) (ob287 : Option Nat) (j288 : List Value) (H294 : List Int) (n295 : Nat) (c296 : Nat) (ob297 : Option Nat) (j298 : List Value) => [(some each2_0_k, .cells #[.int .i64 N271, .int .i64 S272, .int .i64 T273, .slice (sb ob8) n9 c10, .slice (sb ob12) n13 c14, .slice (sb ob16) n17 c18, .slice (sb ob20) n21 c22, .slice (sb ob24) n25 c26, .slice (sb ob28) n29 c30] 32 (0, 0)), (ob8, .cells (arr (intC .i64) r5.First j11).toArray 3 (0, 0)), (ob12, .cells (arr (intC .i64) r5.Head j15).toArray 3 (0, 0)), (ob16, .cells (arr (intC .i64) r5.Rev j19).toArray 3 (0, 0)), (ob20, .cells (arr (intC .i64) r5.Cap j23).toArray 2 (0, 0)), (ob24, .cells (arr (intC .i64) r5.Arc j27).toArray 3 (0, 0)), (ob28, .cells (arr boolC r5.Back j31).toArray 4 (0, 0)), (some each2_1_k, .cells #[.slice (sb ob277) n275 c276, .slice (sb ob287) n285 c286, .slice (sb ob297) n295 c296] 29 (0, 0)), (ob277, .cells (arr (intC .i64) Res274 j278).toArray 2 (0, 0)), (ob287, .cells (arr (intC .i64) Ex284 j288).toArray 2 (0, 0)), (ob297, .cells (arr (intC .i64) H294 j298).toArray 3 (0, 0))]) ?_ ?_
   ·
    refine T.block ?_; obtain ⟨o_1, e_1, K_1⟩ := Z0k H; refine Zsz (fun (m_1 : Nat) (N101 : Int) (S102 : Int) (T103 : Int) (Res104 : List Int) (n105 : Nat) (c106 : Nat) (ob107 : Option Nat) (j108 : List Value) (Ex114 : List Int) (n115 : Nat) (c116 : Nat) (ob117 : Option Nat) (j118 : List Value) (H124 : List Int) (n125 : Nat) (c126 : Nat) (ob127 : Option Nat) (j128 : List Value) (x134 : Int) => Z29 (fun s => Z2f moves1 r5 s.1 s.2.1 s.2.2.1 s.2.2.2.1 s.2.2.2.2.1 s.2.2.2.2.2.1 s.2.2.2.2.2.2) m_1 (N101, S102, T103, Res104, Ex114, H124, x134) = some o_1 ∧ Res104.length = n105 ∧ n105 ≤ c106 ∧ j108.length = (c106 - n105) * 1 ∧ (ob107 = none → c106 = 0) ∧ Ex114.length = n115 ∧ n115 ≤ c116 ∧ j118.length = (c116 - n115) * 1 ∧ (ob117 = none → c116 = 0) ∧ H124.length = n125 ∧ n125 ≤ c126 ∧ j128.length = (c126 - n125) * 1 ∧ (ob127 = none → c126 = 0)) (fun (m_1 : Nat) (N101 : Int) (S102 : Int) (T103 : Int) (Res104 : List Int) (n105 : Nat) (c106 : Nat) (ob107 : Option Nat) (j108 : List Value) (Ex114 : List Int) (n115 : Nat) (c116 : Nat) (ob117 : Option Nat) (j118 : List Value) (H124 : List Int) (n125 : Nat) (c126 : Nat) (ob127 : Option Nat) (j128 : List Value) (x134 : Int) => [(2, .func (.func 53) #[] #[.pointer (some ⟨each2_0_k, 0, none⟩), .pointer (some ⟨each2_1_k, 0, none⟩)]), (7, .pointer (some ⟨b62, 0, none⟩)), (9, .pointer (some ⟨b94, 0, none⟩)), (32, .slice moves1_b moves1_n moves1_c), (33, .int .i64 (moves1.length : Int)), (34, .int .i64 x134)]) (fun (m_1 : Nat) (N101 : Int) (S102 : Int) (T103 : Int) (Res104 : List Int) (n105 : Nat) (c106 : Nat) (ob107 : Option Nat) (j108 : List Value) (Ex114 : List Int) (n115 : Nat) (c116 : Nat) (ob117 : Option Nat) (j118 : List Value) (H124 : List Int) (n125 : Nat) (c126 : Nat) (ob127 : Option Nat) (j128 : List Value) (x134 : Int) => [(some each2_0_k, .cells #[.int .i64 N101, .int .i64 S102, .int .i64 T103, .slice (sb ob8) n9 c10, .slice (sb ob12) n13 c14, .slice (sb ob16) n17 c18, .slice (sb ob20) n21 c22, .slice (sb ob24) n25 c26, .slice (sb ob28) n29 c30] 32 (0, 0)), (ob8, .cells (arr (intC .i64) r5.First j11).toArray 3 (0, 0)), (ob12, .cells (arr (intC .i64) r5.Head j15).toArray 3 (0, 0)), (ob16, .cells (arr (intC .i64) r5.Rev j19).toArray 3 (0, 0)), (ob20, .cells (arr (intC .i64) r5.Cap j23).toArray 2 (0, 0)), (ob24, .cells (arr (intC .i64) r5.Arc j27).toArray 3 (0, 0)), (ob28, .cells (arr boolC r5.Back j31).toArray 4 (0, 0)), (some each2_1_k, .cells #[.slice (sb ob107) n105 c106, .slice (sb ob117) n115 c116, .slice (sb ob127) n125 c126] 29 (0, 0)), (ob107, .cells (arr (intC .i64) Res104 j108).toArray 2 (0, 0)), (ob117, .cells (arr (intC .i64) Ex114 j118).toArray 2 (0, 0)), (ob127, .cells (arr (intC .i64) H124 j128).toArray 3 (0, 0)), (some b62, .cells #[.int .i64 r5.N, .int .i64 r5.S, .int .i64 r5.T, .slice (sb ob8) n9 c10, .slice (sb ob12) n13 c14, .slice (sb ob16) n17 c18, .slice (sb ob20) n21 c22, .slice (sb ob24) n25 c26, .slice (sb ob28) n29 c30] 32 (0, 0)), (some b94, .cells #[.slice (sb ob107) n105 c106, .slice (sb ob117) n115 c116, .slice (sb ob127) n125 c126] 29 (0, 0))]) (fun (m_1 : Nat) (N101 : Int) (S102 : Int) (T103 : Int) (Res104 : List Int) (n105 : Nat) (c106 : Nat) (ob107 : Option Nat) (j108 : List Value) (Ex114 : List Int) (n115 : Nat) (c116 : Nat) (ob117 : Option Nat) (j118 : List Value) (H124 : List Int) (n125 : Nat) (c126 : Nat) (ob127 : Option Nat) (j128 : List Value) (x134 : Int) => m_1) Z4m r97.N r97.S r97.T r65.Res n68 c69 ob67 j70 r65.Ex n72 c73 ob71 j74 r65.H n76 c77 ob75 j78 0 ⟨e_1, hn79, hc80, hj81, hz82, hn83, hc84, hj85, hz86, hn87, hc88, hj89, hz90⟩ (Z00 rfl (Z00 rfl (Z00 rfl (Z00 rfl (Z00 rfl (Z00 rfl Z0a)))))) (Z02 tk0 (Z02 tk6 (Z02 tk6 (Z02 tk6 (Z02 tk6 (Z02 tk6 (Z02 tk6 (Z02 tk0 (Z02 tk1 (Z02 tk1 (Z02 tk1 (Z02 tk1 (Z02 tk0 Z08))))))))))))) ?_; rintro m_1 N101 S102 T103 Res104 n105 c106 ob107 j108 Ex114 n115 c116 ob117 j118 H124 n125 c126 ob127 j128 x134 ⟨H, hn109, hc110, hj111, hz112, hn119, hc120, hj121, hz122, hn129, hc130, hj131, hz132⟩; obtain ⟨n_1, r_1, rfl, H, C_1⟩ := Z1d H; have H : Z2f moves1 r5 N101 S102 T103 Res104 Ex114 H124 x134 = some r_1 := H; unfold Z2f at H; refine Z0c ?_; refine Z03 (ll := [0]) rfl ?_; refine Z0q rfl rfl rfl rfl rfl rfl ?_; refine Z04 ?_; refine Z01 ?_; refine Z0c ?_; rcases Z0i H with ⟨g135, H⟩ | ⟨g135, H⟩
    ·
     refine Z10 rfl g135 ?_; refine T.skip ?_; refine Z01 ?_; refine Z0c ?_; refine T.block ?_; refine Z0c ?_; obtain ⟨g136, H⟩ := Z0e H; refine Z03 (ll := [0, 1, 2]) rfl ?_; refine Z21 h_moves1 g136 rfl rfl rfl rfl rfl Z9l Zck ?_; refine Z2a h_moves1 g136 rfl rfl rfl rfl Zjk ?_; refine Z05 rfl rfl rfl rfl ?_; refine Z04 ?_; refine Z01 ?_; refine Z0c ?_; obtain ⟨⟨r137, r138⟩, e139, H⟩ := Z0k H; refine Z03 (ll := [0, 1, 2, 3, 4, 5, 6, 7]) rfl ?_; refine Z0l rfl rfl rfl rfl Z3b mm11 rfl ?_; refine Z0l rfl rfl rfl rfl Z2t Zra rfl ?_; refine Z0m Zj5 rfl rfl rfl rfl (fun wc hwc => Zhs (c0 := r5) (p1 := (Pre.mk Res104 Ex114 H124)) wc (hwc.rs (f := (intC .i64)) (s := 1) (xs := r5.First) (j := j11) (fun _ => rfl) mm1 hn32 hc33 hz35) (hwc.rs (f := (intC .i64)) (s := 1) (xs := r5.Head) (j := j15) (fun _ => rfl) mm2 hn36 hc37 hz39) (hwc.rs (f := (intC .i64)) (s := 1) (xs := r5.Rev) (j := j19) (fun _ => rfl) mm3 hn40 hc41 hz43) (hwc.rs (f := (intC .i64)) (s := 1) (xs := r5.Cap) (j := j23) (fun _ => rfl) mm4 hn44 hc45 hz47) (hwc.rs (f := (intC .i64)) (s := 1) (xs := r5.Arc) (j := j27) (fun _ => rfl) mm5 hn48 hc49 hz51) (hwc.rs (f := boolC) (s := 1) (xs := r5.Back) (j := j31) (fun _ => rfl) mm6 hn52 hc53 hz55) (hwc.rs (f := (intC .i64)) (s := 1) (xs := Res104) (j := j108) (fun _ => rfl) mm8 hn109 hc110 hz112) (hwc.rs (f := (intC .i64)) (s := 1) (xs := Ex114) (j := j118) (fun _ => rfl) mm9 hn119 hc120 hz122) (hwc.rs (f := (intC .i64)) (s := 1) (xs := H124) (j := j128) (fun _ => rfl) Zrb hn129 hc130 hz132) e139) ?_; rintro _ _ ⟨ob140, n141, c142, j143, ob144, n145, c146, j147, rfl, rfl, hn148, hc149, hj150, hz151, hn152, hc153, hj154, hz155⟩; refine Z06 rfl rfl rfl rfl ?_; refine TO.extract rfl rfl rfl rfl rfl ?_; refine TO.extract rfl rfl rfl rfl rfl ?_; refine Z05 rfl rfl rfl rfl ?_; refine Z05 rfl rfl rfl rfl ?_; refine Z04 ?_; refine Z01 ?_; refine Z0p (Z00 (t := 2) rfl (Z00 (t := 7) rfl (Z00 (t := 9) rfl (Z00 (t := 32) rfl (Z00 (t := 33) rfl (Z00 (t := 34) rfl (Z00 (t := 11) rfl (Z00 (t := 12) rfl (Z00 (t := 13) rfl Z0a))))))))) ?_; refine Z0c ?_; obtain ⟨g158, H⟩ := Z0e H; refine Z03 (ll := [0, 1, 2]) rfl ?_; refine Z06 rfl rfl rfl rfl ?_; refine Zj9 rfl rfl rfl rfl Zjm Zjo (Z78 g158.1 g158.2) ?_; refine Z05 rfl rfl rfl rfl ?_; refine Z04 ?_; refine Z01 ?_; refine Z0c ?_; refine Z03 (ll := [0]) rfl ?_; refine Z1g rfl rfl rfl Zbt ?_; intro b159; refine Z04 ?_; refine Z01 ?_; refine Z0c ?_; refine Z03 (ll := [0]) rfl ?_; refine Z05 rfl rfl rfl rfl ?_; refine Z04 ?_; refine Z01 ?_; refine Z0c ?_; refine Zqo (fun (Res233 : List Int) (n234 : Nat) (c235 : Nat) (ob236 : Option Nat) (j237 : List Value) (Ex243 : List Int) (n244 : Nat) (c245 : Nat) (ob246 : Option Nat) (j247 : List Value) (H253 : List Int) (n254 : Nat) (c255 : Nat) (ob256 : Option Nat) (j257 : List Value) (f263 : Int) => Z2g r5 N101 S102 T103 Res104 Ex114 H124 x134 Res233 Ex243 H253 f263 = some r_1 ∧ Res233.length = n234 ∧ n234 ≤ c235 ∧ j237.length = (c235 - n234) * 1 ∧ (ob236 = none → c235 = 0) ∧ Ex243.length = n244 ∧ n244 ≤ c245 ∧ j247.length = (c245 - n244) * 1 ∧ (ob246 = none → c245 = 0) ∧ H253.length = n254 ∧ n254 ≤ c255 ∧ j257.length = (c255 - n254) * 1 ∧ (ob256 = none → c255 = 0)) (fun (Res233 : List Int) (n234 : Nat) (c235 : Nat) (ob236 : Option Nat) (j237 : List Value) (Ex243 : List Int) (n244 : Nat) (c245 : Nat) (ob246 : Option Nat) (j247 : List Value) (H253 : List Int) (n254 : Nat) (c255 : Nat) (ob256 : Option Nat) (j257 : List Value) (f263 : Int) => [(2, .func (.func 53) #[] #[.pointer (some ⟨each2_0_k, 0, none⟩), .pointer (some ⟨each2_1_k, 0, none⟩)]), (7, .pointer (some ⟨b62, 0, none⟩)), (9, .pointer (some ⟨b94, 0, none⟩)), (15, .pointer (some ⟨b159, 0, none⟩)), (16, .int .i64 f263), (32, .slice moves1_b moves1_n moves1_c), (33, .int .i64 (moves1.length : Int)), (34, .int .i64 x134)]) (fun (Res233 : List Int) (n234 : Nat) (c235 : Nat) (ob236 : Option Nat) (j237 : List Value) (Ex243 : List Int) (n244 : Nat) (c245 : Nat) (ob246 : Option Nat) (j247 : List Value) (H253 : List Int) (n254 : Nat) (c255 : Nat) (ob256 : Option Nat) (j257 : List Value) (f263 : Int) => [(some each2_0_k, .cells #[.int .i64 N101, .int .i64 S102, .int .i64 T103, .slice (sb ob8) n9 c10, .slice (sb ob12) n13 c14, .slice (sb ob16) n17 c18, .slice (sb ob20) n21 c22, .slice (sb ob24) n25 c26, .slice (sb ob28) n29 c30] 32 (0, 0)), (ob8, .cells (arr (intC .i64) r5.First j11).toArray 3 (0, 0)), (ob12, .cells (arr (intC .i64) r5.Head j15).toArray 3 (0, 0)), (ob16, .cells (arr (intC .i64) r5.Rev j19).toArray 3 (0, 0)), (ob20, .cells (arr (intC .i64) r5.Cap j23).toArray 2 (0, 0)), (ob24, .cells (arr (intC .i64) r5.Arc j27).toArray 3 (0, 0)), (ob28, .cells (arr boolC r5.Back j31).toArray 4 (0, 0)), (some each2_1_k, .cells #[.slice (sb ob107) n105 c106, .slice (sb ob117) n115 c116, .slice (sb ob127) n125 c126] 29 (0, 0)), (ob107, .cells (arr (intC .i64) Res104 j108).toArray 2 (0, 0)), (ob117, .cells (arr (intC .i64) Ex114 j118).toArray 2 (0, 0)), (ob127, .cells (arr (intC .i64) H124 j128).toArray 3 (0, 0)), (some b62, .cells #[.int .i64 r5.N, .int .i64 r5.S, .int .i64 r5.T, .slice (sb ob8) n9 c10, .slice (sb ob12) n13 c14, .slice (sb ob16) n17 c18, .slice (sb ob20) n21 c22, .slice (sb ob24) n25 c26, .slice (sb ob28) n29 c30] 32 (0, 0)), (some b94, .cells #[.slice (sb ob107) n105 c106, .slice (sb ob117) n115 c116, .slice (sb ob127) n125 c126] 29 (0, 0)), (some b159, .cells #[.slice (sb ob236) n234 c235, .slice (sb ob246) n244 c245, .slice (sb ob256) n254 c255] 29 (0, 0)), (ob236, .cells (arr (intC .i64) Res233 j237).toArray 2 (0, 0)), (ob246, .cells (arr (intC .i64) Ex243 j247).toArray 2 (0, 0)), (ob256, .cells (arr (intC .i64) H253 j257).toArray 3 (0, 0))]) ?_ ?_
     ·
      refine T.block ?_; refine Z0c ?_; refine Z1o (fun (x163 : Bool) => Z1v moves1 r5 N101 S102 T103 Res104 Ex114 H124 x134 r137 r138 x163 = some r_1) (fun (x163 : Bool) => [(2, .func (.func 53) #[] #[.pointer (some ⟨each2_0_k, 0, none⟩), .pointer (some ⟨each2_1_k, 0, none⟩)]), (7, .pointer (some ⟨b62, 0, none⟩)), (9, .pointer (some ⟨b94, 0, none⟩)), (12, .slice (sb ob140) n141 c142), (13, .slice (sb ob144) n145 c146), (14, .int .i64 (moves1.getD x134.toNat 0)), (15, .pointer (some ⟨b159, 0, none⟩)), (32, .slice moves1_b moves1_n moves1_c), (33, .int .i64 (moves1.length : Int)), (34, .int .i64 x134), (46, .bool x163)]) (fun (x163 : Bool) => [(some each2_0_k, .cells #[.int .i64 N101, .int .i64 S102, .int .i64 T103, .slice (sb ob8) n9 c10, .slice (sb ob12) n13 c14, .slice (sb ob16) n17 c18, .slice (sb ob20) n21 c22, .slice (sb ob24) n25 c26, .slice (sb ob28) n29 c30] 32 (0, 0)), (ob8, .cells (arr (intC .i64) r5.First j11).toArray 3 (0, 0)), (ob12, .cells (arr (intC .i64) r5.Head j15).toArray 3 (0, 0)), (ob16, .cells (arr (intC .i64) r5.Rev j19).toArray 3 (0, 0)), (ob20, .cells (arr (intC .i64) r5.Cap j23).toArray 2 (0, 0)), (ob24, .cells (arr (intC .i64) r5.Arc j27).toArray 3 (0, 0)), (ob28, .cells (arr boolC r5.Back j31).toArray 4 (0, 0)), (some each2_1_k, .cells #[.slice (sb ob107) n105 c106, .slice (sb ob117) n115 c116, .slice (sb ob127) n125 c126] 29 (0, 0)), (ob107, .cells (arr (intC .i64) Res104 j108).toArray 2 (0, 0)), (ob117, .cells (arr (intC .i64) Ex114 j118).toArray 2 (0, 0)), (ob127, .cells (arr (intC .i64) H124 j128).toArray 3 (0, 0)), (some b62, .cells #[.int .i64 r5.N, .int .i64 r5.S, .int .i64 r5.T, .slice (sb ob8) n9 c10, .slice (sb ob12) n13 c14, .slice (sb ob16) n17 c18, .slice (sb ob20) n21 c22, .slice (sb ob24) n25 c26, .slice (sb ob28) n29 c30] 32 (0, 0)), (some b94, .cells #[.slice (sb ob107) n105 c106, .slice (sb ob117) n115 c116, .slice (sb ob127) n125 c126] 29 (0, 0)), (ob140, .cells (arr (intC .i64) r137 j143).toArray 3 (0, 0)), (ob144, .cells (arr (intC .i64) r138 j147).toArray 3 (0, 0)), (some b159, .cells #[.slice none 0 0, .slice none 0 0, .slice none 0 0] 29 (0, 0))]) ?_ ?_
      ·
       rcases Z0i H with ⟨g161, H⟩ | ⟨g161, H⟩
       ·
        rcases Z0i H with ⟨g162, H⟩ | ⟨g162, H⟩
        · refine Z03 (ll := [0, 1, 2, 3, 4, 5, 6, 7, 8, 9, 10, 11, 12, 13]) rfl ?_; refine Z06 rfl rfl rfl rfl ?_; refine Z1h (xs := r137) hn148 rfl rfl rfl rfl rfl Z3a ?_; refine Z0q rfl rfl rfl rfl rfl rfl ?_; refine Z06 rfl rfl rfl rfl ?_; refine Z0r (t := 50) (b' := true) rfl (decide_eq_true g161) ?_; refine Z06 rfl rfl rfl rfl ?_; refine TO.rem rfl rfl rfl rfl rfl (by decide) ?_; refine Z0q rfl rfl rfl rfl rfl rfl ?_; refine Z06 rfl rfl rfl rfl ?_; refine Z0r (t := 54) (b' := true) rfl (decide_eq_true g162) ?_; refine Z0b rfl rfl rfl rfl ?_; refine Z0b rfl rfl rfl rfl ?_; refine Z0b rfl rfl rfl rfl ?_; refine Z0v rfl rfl rfl rfl rfl ?_; refine Z0v rfl rfl rfl rfl rfl ?_; refine Z05 rfl rfl rfl rfl ?_; refine Z04 ?_; exact Z1t true H (Z00 rfl (Z00 rfl (Z00 rfl (Z00 rfl (Z00 rfl (Z00 rfl (Z00 rfl (Z00 rfl (Z00 rfl (Z00 rfl (Z00 rfl Z0a))))))))))) (Z02 tk3 (Z02 tk3 (Z02 tk3 (Z02 tk3 (Z02 tk3 (Z02 tk3 (Z02 tk3 (Z02 tk3 (Z02 tk3 (Z02 tk3 (Z02 tk3 (Z02 tk3 (Z02 tk3 (Z02 tk1 (Z02 tk1 (Z02 tk0 Z08))))))))))))))))
        · refine Z03 (ll := [0, 1, 2, 3, 4, 5, 6, 7, 8, 9, 10, 11, 12, 13]) rfl ?_; refine Z06 rfl rfl rfl rfl ?_; refine Z1h (xs := r137) hn148 rfl rfl rfl rfl rfl Z3a ?_; refine Z0q rfl rfl rfl rfl rfl rfl ?_; refine Z06 rfl rfl rfl rfl ?_; refine Z0r (t := 50) (b' := true) rfl (decide_eq_true g161) ?_; refine Z06 rfl rfl rfl rfl ?_; refine TO.rem rfl rfl rfl rfl rfl (by decide) ?_; refine Z0q rfl rfl rfl rfl rfl rfl ?_; refine Z06 rfl rfl rfl rfl ?_; refine Z0r (t := 54) (b' := false) rfl (decide_eq_false g162) ?_; refine Z06 rfl rfl rfl rfl ?_; refine Z1h (xs := r138) hn152 rfl rfl rfl rfl rfl Z3a ?_; refine Z0q rfl rfl rfl rfl rfl rfl ?_; refine Z0x rfl rfl rfl rfl rfl ?_; refine Z0v rfl rfl rfl rfl rfl ?_; refine Z05 rfl rfl rfl rfl ?_; refine Z04 ?_; exact Z1t (decide ((r138.length : Int) = 0)) H (Z00 rfl (Z00 rfl (Z00 rfl (Z00 rfl (Z00 rfl (Z00 rfl (Z00 rfl (Z00 rfl (Z00 rfl (Z00 rfl (Z00 rfl Z0a))))))))))) (Z02 tk3 (Z02 tk3 (Z02 tk3 (Z02 tk3 (Z02 tk3 (Z02 tk3 (Z02 tk3 (Z02 tk3 (Z02 tk3 (Z02 tk3 (Z02 tk3 (Z02 tk3 (Z02 tk3 (Z02 tk1 (Z02 tk1 (Z02 tk0 Z08))))))))))))))))
       · refine Z03 (ll := [0, 1, 2, 3, 4, 5, 6, 7, 8, 9, 10, 11, 12, 13]) rfl ?_; refine Z06 rfl rfl rfl rfl ?_; refine Z1h (xs := r137) hn148 rfl rfl rfl rfl rfl Z3a ?_; refine Z0q rfl rfl rfl rfl rfl rfl ?_; refine Z06 rfl rfl rfl rfl ?_; refine Z0r (t := 50) (b' := false) rfl (decide_eq_false g161) ?_; refine Z0b rfl rfl rfl rfl ?_; refine Z0b rfl rfl rfl rfl ?_; refine Z0b rfl rfl rfl rfl ?_; refine Z0b rfl rfl rfl rfl ?_; refine Zej rfl rfl rfl rfl ?_; refine Zej rfl rfl rfl rfl ?_; refine Zej rfl rfl rfl rfl ?_; refine Z0b rfl rfl rfl rfl ?_; refine Z0x rfl rfl rfl rfl rfl ?_; refine Z05 rfl rfl rfl rfl ?_; refine Z04 ?_; exact Z1t false H (Z00 rfl (Z00 rfl (Z00 rfl (Z00 rfl (Z00 rfl (Z00 rfl (Z00 rfl (Z00 rfl (Z00 rfl (Z00 rfl (Z00 rfl Z0a))))))))))) (Z02 tk3 (Z02 tk3 (Z02 tk3 (Z02 tk3 (Z02 tk3 (Z02 tk3 (Z02 tk3 (Z02 tk3 (Z02 tk3 (Z02 tk3 (Z02 tk3 (Z02 tk3 (Z02 tk3 (Z02 tk1 (Z02 tk1 (Z02 tk0 Z08))))))))))))))))
      ·
       rintro x163 H; unfold Z1v at H; rcases Z0i H with ⟨g164, H⟩ | ⟨g164, H⟩
       ·
        refine Z1a rfl g164 ?_; obtain ⟨g165, H⟩ := Z0e H; obtain ⟨g166, H⟩ := Z0e H; obtain ⟨g167, H⟩ := Z0e H; obtain ⟨⟨r168, r169, r170⟩, e171, H⟩ := Z0k H; apply Zb0 [⟨[], false, [], Z4n _⟩, ⟨[], false, [], Z4n _⟩, ⟨[], false, [], Z4n _⟩, ⟨[], false, [], Z4n _⟩, ⟨[3], false, [], Z4n _⟩, ⟨[], false, [], Z4n _⟩, ⟨[5], false, [], Z4n _⟩, ⟨[4, 6], false, [], Z4n _⟩, ⟨[2, 7], false, [], Z4n _⟩, ⟨[2, 7, 8], false, [], Z4n _⟩, ⟨[0, 1, 9], false, [], fun _ v e => ∃ (ob172 : Option Nat) (n173 : Nat) (c174 : Nat) (j175 : List Value) (ob176 : Option Nat) (n177 : Nat) (c178 : Nat) (j179 : List Value) (ob180 : Option Nat) (n181 : Nat) (c182 : Nat) (j183 : List Value), v = .tuple #[.agg #[.slice (sb ob172) n173 c174, .slice (sb ob176) n177 c178, .slice (sb ob180) n181 c182], .int .i64 r169, .int .i64 r170] ∧ e = [(ob172, .cells (arr (intC .i64) r168.Res j175).toArray 2 (0, 0)), (ob176, .cells (arr (intC .i64) r168.Ex j179).toArray 2 (0, 0)), (ob180, .cells (arr (intC .i64) r168.H j183).toArray 3 (0, 0))] ∧ r168.Res.length = n173 ∧ n173 ≤ c174 ∧ j175.length = (c174 - n173) * 1 ∧ (ob172 = none → c174 = 0) ∧ r168.Ex.length = n177 ∧ n177 ≤ c178 ∧ j179.length = (c178 - n177) * 1 ∧ (ob176 = none → c178 = 0) ∧ r168.H.length = n181 ∧ n181 ≤ c182 ∧ j183.length = (c182 - n181) * 1 ∧ (ob180 = none → c182 = 0)⟩, ⟨[10], false, [], fun vl v e => v = (vl.getD 0 undef) ∧ e = []⟩, ⟨[10, 11], false, [], fun vl v e => v = (Zls (vl.getD 1 undef) 0) ∧ e = []⟩, ⟨[10, 11], false, [], Z4n _⟩, ⟨[10, 11], false, [], Z4n _⟩, ⟨[10, 11, 12], true, [], Zqp⟩] [61, 62, 63, 64, 65, 66, 67, 68, 69, 70, 71, 60, 72, 73, 74] 16 (HRv [fun vl => [(some b159, .cells #[.slice none 0 0, .slice none 0 0, .slice none 0 0] 29 (0, 0))], fun vl => [(some b159, .cells #[(Z94 (vl.getD 0 undef) 0), (Z94 (vl.getD 0 undef) 1), (Z94 (vl.getD 0 undef) 2)] 29 (0, 0))]]) [[], [12]] [(some b159, .cells #[.slice none 0 0, .slice none 0 0, .slice none 0 0] 29 (0, 0))] [(some each2_0_k, .cells #[.int .i64 N101, .int .i64 S102, .int .i64 T103, .slice (sb ob8) n9 c10, .slice (sb ob12) n13 c14, .slice (sb ob16) n17 c18, .slice (sb ob20) n21 c22, .slice (sb ob24) n25 c26, .slice (sb ob28) n29 c30] 32 (0, 0)), (ob8, .cells (arr (intC .i64) r5.First j11).toArray 3 (0, 0)), (ob12, .cells (arr (intC .i64) r5.Head j15).toArray 3 (0, 0)), (ob16, .cells (arr (intC .i64) r5.Rev j19).toArray 3 (0, 0)), (ob20, .cells (arr (intC .i64) r5.Cap j23).toArray 2 (0, 0)), (ob24, .cells (arr (intC .i64) r5.Arc j27).toArray 3 (0, 0)), (ob28, .cells (arr boolC r5.Back j31).toArray 4 (0, 0)), (some each2_1_k, .cells #[.slice (sb ob107) n105 c106, .slice (sb ob117) n115 c116, .slice (sb ob127) n125 c126] 29 (0, 0)), (ob107, .cells (arr (intC .i64) Res104 j108).toArray 2 (0, 0)), (ob117, .cells (arr (intC .i64) Ex114 j118).toArray 2 (0, 0)), (ob127, .cells (arr (intC .i64) H124 j128).toArray 3 (0, 0)), (some b62, .cells #[.int .i64 r5.N, .int .i64 r5.S, .int .i64 r5.T, .slice (sb ob8) n9 c10, .slice (sb ob12) n13 c14, .slice (sb ob16) n17 c18, .slice (sb ob20) n21 c22, .slice (sb ob24) n25 c26, .slice (sb ob28) n29 c30] 32 (0, 0)), (some b94, .cells #[.slice (sb ob107) n105 c106, .slice (sb ob117) n115 c116, .slice (sb ob127) n125 c126] 29 (0, 0)), (ob140, .cells (arr (intC .i64) r137 j143).toArray 3 (0, 0)), (ob144, .cells (arr (intC .i64) r138 j147).toArray 3 (0, 0))]
        · exact Z4c
        · exact rfl
        · kernel_rfl
        · kernel_rfl
        · kernel_rfl
        · exact rfl
        · exact rfl
        · exact rfl
        · exact rfl
        · exact (by repeat (first | exact Z09 _ | exact Z08 | apply Pick.none | refine Z02 (by repeat (first | exact Take.head _ _ | apply Z0z)) ?_))
        ·
         refine ⟨?_, ?_, ?_, ?_, ?_, ?_, ?_, ?_, ?_, ?_, ?_, ?_, ?_, ?_, ?_, ?_, trivial⟩
         · rintro vs es Es Hx -; refine Z0j (D := []) rfl ?_; refine Z0l rfl rfl rfl rfl Z3b mm11 rfl ?_; refine Z04 ?_; exact Z1j rfl ⟨rfl, rfl⟩ (Z09 _) rfl
         · rintro vs es Es Hx -; refine Z0j (D := []) rfl ?_; refine Z0l rfl rfl rfl rfl Z2t Zra rfl ?_; refine Z04 ?_; exact Z1j rfl ⟨rfl, rfl⟩ (Z09 _) rfl
         · rintro vs es Es Hx -; refine Z0j (D := []) rfl ?_; refine Z06 rfl rfl rfl rfl ?_; refine Z04 ?_; exact Z1j rfl ⟨rfl, rfl⟩ (Z09 _) rfl
         · rintro vs es Es Hx -; refine Z0j (D := []) rfl ?_; refine Z06 rfl rfl rfl rfl ?_; refine Z04 ?_; exact Z1j rfl ⟨rfl, rfl⟩ (Z09 _) rfl
         · rintro vs es Es Hx ⟨⟨h_3, e_3⟩, -⟩; refine Z0j (D := [(64, vs 3)]) rfl ?_; rw [h_3]; refine Zsp g165 rfl rfl rfl rfl rfl ?_; refine Z04 ?_; exact Z1j rfl ⟨rfl, rfl⟩ (Z09 _) (by show [(64, vs 3)] = _; rw [h_3])
         · rintro vs es Es Hx -; refine Z0j (D := []) rfl ?_; refine Z06 rfl rfl rfl rfl ?_; refine Z04 ?_; exact Z1j rfl ⟨rfl, rfl⟩ (Z09 _) rfl
         · rintro vs es Es Hx ⟨⟨h_5, e_5⟩, -⟩; refine Z0j (D := [(66, vs 5)]) rfl ?_; rw [h_5]; refine Z1h (xs := r137) hn148 rfl rfl rfl rfl rfl Z3a ?_; refine Z04 ?_; exact Z1j rfl ⟨rfl, rfl⟩ (Z09 _) (by show [(66, vs 5)] = _; rw [h_5])
         · rintro vs es Es Hx ⟨⟨h_4, e_4⟩, ⟨h_6, e_6⟩, -⟩; refine Z0j (D := [(65, vs 4), (67, vs 6)]) rfl ?_; rw [h_4, h_6]; refine TO.rem rfl rfl rfl rfl rfl g166 ?_; refine Z04 ?_; exact Z1j rfl ⟨rfl, rfl⟩ (Z09 _) (by show [(65, vs 4), (67, vs 6)] = _; rw [h_4, h_6])
         · rintro vs es Es Hx ⟨⟨h_2, e_2⟩, ⟨h_7, e_7⟩, -⟩; refine Z0j (D := [(63, vs 2), (68, vs 7)]) rfl ?_; rw [h_2, h_7]; refine Z69 hz151 hc149 hn148 g167 rfl rfl rfl rfl rfl Z3a Zet ?_; refine Z04 ?_; exact Z1j rfl ⟨rfl, rfl⟩ (Z09 _) (by show [(63, vs 2), (68, vs 7)] = _; rw [h_2, h_7])
         · rintro vs es Es Hx ⟨⟨h_2, e_2⟩, ⟨h_7, e_7⟩, ⟨h_8, e_8⟩, -⟩; refine Z0j (D := [(63, vs 2), (68, vs 7), (69, vs 8)]) rfl ?_; rw [h_2, h_7, h_8]; refine Zaz hz151 hc149 hn148 g167 rfl rfl rfl rfl Za9 mm13 ?_; refine Z04 ?_; exact Z1j rfl ⟨rfl, rfl⟩ (Z09 _) (by show [(63, vs 2), (68, vs 7), (69, vs 8)] = _; rw [h_2, h_7, h_8])
         · rintro vs es Es Hx ⟨⟨h_0, e_0⟩, ⟨h_1, e_1⟩, ⟨h_9, e_9⟩, -⟩; refine Z0j (D := [(61, vs 0), (62, vs 1), (70, vs 9)]) rfl ?_; rw [h_0, h_1, h_9]; refine Z0m Zj3 rfl rfl rfl rfl (fun wc hwc => Zg4 (c0 := r5) (p1 := (Pre.mk Res104 Ex114 H124)) (a2 := (r137.getD (((moves1.getD x134.toNat 0).tdiv 2).tmod (r137.length : Int)).toNat 0)) wc (hwc.rs (f := (intC .i64)) (s := 1) (xs := r5.First) (j := j11) (fun _ => rfl) mm1 hn32 hc33 hz35) (hwc.rs (f := (intC .i64)) (s := 1) (xs := r5.Head) (j := j15) (fun _ => rfl) mm2 hn36 hc37 hz39) (hwc.rs (f := (intC .i64)) (s := 1) (xs := r5.Rev) (j := j19) (fun _ => rfl) mm3 hn40 hc41 hz43) (hwc.rs (f := (intC .i64)) (s := 1) (xs := r5.Cap) (j := j23) (fun _ => rfl) mm4 hn44 hc45 hz47) (hwc.rs (f := (intC .i64)) (s := 1) (xs := r5.Arc) (j := j27) (fun _ => rfl) mm5 hn48 hc49 hz51) (hwc.rs (f := boolC) (s := 1) (xs := r5.Back) (j := j31) (fun _ => rfl) mm6 hn52 hc53 hz55) (hwc.rs (f := (intC .i64)) (s := 1) (xs := Res104) (j := j108) (fun _ => rfl) mm8 hn109 hc110 hz112) (hwc.rs (f := (intC .i64)) (s := 1) (xs := Ex114) (j := j118) (fun _ => rfl) mm9 hn119 hc120 hz122) (hwc.rs (f := (intC .i64)) (s := 1) (xs := H124) (j := j128) (fun _ => rfl) Zrb hn129 hc130 hz132) e171) ?_; rintro _ _ ⟨ob172, n173, c174, j175, ob176, n177, c178, j179, ob180, n181, c182, j183, rfl, rfl, hn184, hc185, hj186, hz187, hn188, hc189, hj190, hz191, hn192, hc193, hj194, hz195⟩; refine Z04 ?_; exact Z1j rfl ⟨ob172, n173, c174, j175, ob176, n177, c178, j179, ob180, n181, c182, j183, rfl, rfl, hn184, hc185, hj186, hz187, hn188, hc189, hj190, hz191, hn192, hc193, hj194, hz195⟩ (by repeat (first | exact Z09 _ | exact Z08 | apply Pick.none | refine Z02 (by repeat (first | exact Take.head _ _ | apply Z0z)) ?_)) (by show [(61, vs 0), (62, vs 1), (70, vs 9)] = _; rw [h_0, h_1, h_9])
         · rintro vs es Es Hx ⟨⟨ob172, n173, c174, j175, ob176, n177, c178, j179, ob180, n181, c182, j183, h_10, e_10, hn184, hc185, hj186, hz187, hn188, hc189, hj190, hz191, hn192, hc193, hj194, hz195⟩, -⟩; refine Z0j (D := [(71, vs 10)]) rfl ?_; rw [h_10]; refine Z1y (H := [(some each2_0_k, .cells #[.int .i64 N101, .int .i64 S102, .int .i64 T103, .slice (sb ob8) n9 c10, .slice (sb ob12) n13 c14, .slice (sb ob16) n17 c18, .slice (sb ob20) n21 c22, .slice (sb ob24) n25 c26, .slice (sb ob28) n29 c30] 32 (0, 0)), (ob8, .cells (arr (intC .i64) r5.First j11).toArray 3 (0, 0)), (ob12, .cells (arr (intC .i64) r5.Head j15).toArray 3 (0, 0)), (ob16, .cells (arr (intC .i64) r5.Rev j19).toArray 3 (0, 0)), (ob20, .cells (arr (intC .i64) r5.Cap j23).toArray 2 (0, 0)), (ob24, .cells (arr (intC .i64) r5.Arc j27).toArray 3 (0, 0)), (ob28, .cells (arr boolC r5.Back j31).toArray 4 (0, 0)), (some each2_1_k, .cells #[.slice (sb ob107) n105 c106, .slice (sb ob117) n115 c116, .slice (sb ob127) n125 c126] 29 (0, 0)), (ob107, .cells (arr (intC .i64) Res104 j108).toArray 2 (0, 0)), (ob117, .cells (arr (intC .i64) Ex114 j118).toArray 2 (0, 0)), (ob127, .cells (arr (intC .i64) H124 j128).toArray 3 (0, 0)), (some b62, .cells #[.int .i64 r5.N, .int .i64 r5.S, .int .i64 r5.T, .slice (sb ob8) n9 c10, .slice (sb ob12) n13 c14, .slice (sb ob16) n17 c18, .slice (sb ob20) n21 c22, .slice (sb ob24) n25 c26, .slice (sb ob28) n29 c30] 32 (0, 0)), (some b94, .cells #[.slice (sb ob107) n105 c106, .slice (sb ob117) n115 c116, .slice (sb ob127) n125 c126] 29 (0, 0)), (ob140, .cells (arr (intC .i64) r137 j143).toArray 3 (0, 0)), (ob144, .cells (arr (intC .i64) r138 j147).toArray 3 (0, 0))] ++ ([(ob172, .cells (arr (intC .i64) r168.Res j175).toArray 2 (0, 0)), (ob176, .cells (arr (intC .i64) r168.Ex j179).toArray 2 (0, 0)), (ob180, .cells (arr (intC .i64) r168.H j183).toArray 3 (0, 0))] ++ Hx)) (by show _ ++ ((es 10 ++ ([])) ++ _) = _; rw [e_10]; rfl) ?_; refine Z06 rfl rfl rfl rfl ?_; refine Z04 ?_; exact Z1j rfl ⟨by show _ = vs 10; rw [h_10] <;> rfl, rfl⟩ (by show Pick (_ ++ (_ ++ ((es 10 ++ ([])) ++ _))) _; rw [e_10]; exact (by repeat (first | exact Z09 _ | exact Z08 | apply Pick.none | refine Z02 (by repeat (first | exact Take.head _ _ | apply Z0z)) ?_))) (by show [(71, vs 10)] = _; rw [h_10])
         ·
          rintro vs es Es Hx ⟨⟨ob172, n173, c174, j175, ob176, n177, c178, j179, ob180, n181, c182, j183, h_10, e_10, hn184, hc185, hj186, hz187, hn188, hc189, hj190, hz191, hn192, hc193, hj194, hz195⟩, ⟨q_11, e_11⟩, -⟩; have h_11 : vs 11 = .tuple #[.agg #[.slice (sb ob172) n173 c174, .slice (sb ob176) n177 c178, .slice (sb ob180) n181 c182], .int .i64 r169, .int .i64 r170] := by refine Eq.trans q_11 ?_; show vs 10 = _; rw [h_10] <;> rfl
          refine Z0j (D := [(71, vs 10), (60, vs 11)]) rfl ?_; rw [h_10, h_11]; refine Z1y (H := [(some each2_0_k, .cells #[.int .i64 N101, .int .i64 S102, .int .i64 T103, .slice (sb ob8) n9 c10, .slice (sb ob12) n13 c14, .slice (sb ob16) n17 c18, .slice (sb ob20) n21 c22, .slice (sb ob24) n25 c26, .slice (sb ob28) n29 c30] 32 (0, 0)), (ob8, .cells (arr (intC .i64) r5.First j11).toArray 3 (0, 0)), (ob12, .cells (arr (intC .i64) r5.Head j15).toArray 3 (0, 0)), (ob16, .cells (arr (intC .i64) r5.Rev j19).toArray 3 (0, 0)), (ob20, .cells (arr (intC .i64) r5.Cap j23).toArray 2 (0, 0)), (ob24, .cells (arr (intC .i64) r5.Arc j27).toArray 3 (0, 0)), (ob28, .cells (arr boolC r5.Back j31).toArray 4 (0, 0)), (some each2_1_k, .cells #[.slice (sb ob107) n105 c106, .slice (sb ob117) n115 c116, .slice (sb ob127) n125 c126] 29 (0, 0)), (ob107, .cells (arr (intC .i64) Res104 j108).toArray 2 (0, 0)), (ob117, .cells (arr (intC .i64) Ex114 j118).toArray 2 (0, 0)), (ob127, .cells (arr (intC .i64) H124 j128).toArray 3 (0, 0)), (some b62, .cells #[.int .i64 r5.N, .int .i64 r5.S, .int .i64 r5.T, .slice (sb ob8) n9 c10, .slice (sb ob12) n13 c14, .slice (sb ob16) n17 c18, .slice (sb ob20) n21 c22, .slice (sb ob24) n25 c26, .slice (sb ob28) n29 c30] 32 (0, 0)), (some b94, .cells #[.slice (sb ob107) n105 c106, .slice (sb ob117) n115 c116, .slice (sb ob127) n125 c126] 29 (0, 0)), (ob140, .cells (arr (intC .i64) r137 j143).toArray 3 (0, 0)), (ob144, .cells (arr (intC .i64) r138 j147).toArray 3 (0, 0))] ++ ([(ob172, .cells (arr (intC .i64) r168.Res j175).toArray 2 (0, 0)), (ob176, .cells (arr (intC .i64) r168.Ex j179).toArray 2 (0, 0)), (ob180, .cells (arr (intC .i64) r168.H j183).toArray 3 (0, 0))] ++ Hx)) (by show _ ++ ((es 10 ++ (es 11 ++ ([]))) ++ _) = _; rw [e_10, e_11]; rfl) ?_; refine TO.extract rfl rfl rfl rfl rfl ?_; refine Z04 ?_; exact Z1j rfl ⟨by show _ = (Zls (vs 11) 0); rw [h_11] <;> rfl, rfl⟩ (by show Pick (_ ++ (_ ++ ((es 10 ++ (es 11 ++ ([]))) ++ _))) _; rw [e_10, e_11]; exact (by repeat (first | exact Z09 _ | exact Z08 | apply Pick.none | refine Z02 (by repeat (first | exact Take.head _ _ | apply Z0z)) ?_))) (by show [(71, vs 10), (60, vs 11)] = _; rw [h_10, h_11])
         ·
          rintro vs es Es Hx ⟨⟨ob172, n173, c174, j175, ob176, n177, c178, j179, ob180, n181, c182, j183, h_10, e_10, hn184, hc185, hj186, hz187, hn188, hc189, hj190, hz191, hn192, hc193, hj194, hz195⟩, ⟨q_11, e_11⟩, -⟩; have h_11 : vs 11 = .tuple #[.agg #[.slice (sb ob172) n173 c174, .slice (sb ob176) n177 c178, .slice (sb ob180) n181 c182], .int .i64 r169, .int .i64 r170] := by refine Eq.trans q_11 ?_; show vs 10 = _; rw [h_10] <;> rfl
          refine Z0j (D := [(71, vs 10), (60, vs 11)]) rfl ?_; rw [h_10, h_11]; refine Z1y (H := [(some each2_0_k, .cells #[.int .i64 N101, .int .i64 S102, .int .i64 T103, .slice (sb ob8) n9 c10, .slice (sb ob12) n13 c14, .slice (sb ob16) n17 c18, .slice (sb ob20) n21 c22, .slice (sb ob24) n25 c26, .slice (sb ob28) n29 c30] 32 (0, 0)), (ob8, .cells (arr (intC .i64) r5.First j11).toArray 3 (0, 0)), (ob12, .cells (arr (intC .i64) r5.Head j15).toArray 3 (0, 0)), (ob16, .cells (arr (intC .i64) r5.Rev j19).toArray 3 (0, 0)), (ob20, .cells (arr (intC .i64) r5.Cap j23).toArray 2 (0, 0)), (ob24, .cells (arr (intC .i64) r5.Arc j27).toArray 3 (0, 0)), (ob28, .cells (arr boolC r5.Back j31).toArray 4 (0, 0)), (some each2_1_k, .cells #[.slice (sb ob107) n105 c106, .slice (sb ob117) n115 c116, .slice (sb ob127) n125 c126] 29 (0, 0)), (ob107, .cells (arr (intC .i64) Res104 j108).toArray 2 (0, 0)), (ob117, .cells (arr (intC .i64) Ex114 j118).toArray 2 (0, 0)), (ob127, .cells (arr (intC .i64) H124 j128).toArray 3 (0, 0)), (some b62, .cells #[.int .i64 r5.N, .int .i64 r5.S, .int .i64 r5.T, .slice (sb ob8) n9 c10, .slice (sb ob12) n13 c14, .slice (sb ob16) n17 c18, .slice (sb ob20) n21 c22, .slice (sb ob24) n25 c26, .slice (sb ob28) n29 c30] 32 (0, 0)), (some b94, .cells #[.slice (sb ob107) n105 c106, .slice (sb ob117) n115 c116, .slice (sb ob127) n125 c126] 29 (0, 0)), (ob140, .cells (arr (intC .i64) r137 j143).toArray 3 (0, 0)), (ob144, .cells (arr (intC .i64) r138 j147).toArray 3 (0, 0))] ++ ([(ob172, .cells (arr (intC .i64) r168.Res j175).toArray 2 (0, 0)), (ob176, .cells (arr (intC .i64) r168.Ex j179).toArray 2 (0, 0)), (ob180, .cells (arr (intC .i64) r168.H j183).toArray 3 (0, 0))] ++ Hx)) (by show _ ++ ((es 10 ++ (es 11 ++ ([]))) ++ _) = _; rw [e_10, e_11]; rfl) ?_; refine TO.extract rfl rfl rfl rfl rfl ?_; refine Z04 ?_; exact Z1j rfl ⟨rfl, rfl⟩ (by show Pick (_ ++ (_ ++ ((es 10 ++ (es 11 ++ ([]))) ++ _))) _; rw [e_10, e_11]; exact (by repeat (first | exact Z09 _ | exact Z08 | apply Pick.none | refine Z02 (by repeat (first | exact Take.head _ _ | apply Z0z)) ?_))) (by show [(71, vs 10), (60, vs 11)] = _; rw [h_10, h_11])
         ·
          rintro vs es Es Hx ⟨⟨ob172, n173, c174, j175, ob176, n177, c178, j179, ob180, n181, c182, j183, h_10, e_10, hn184, hc185, hj186, hz187, hn188, hc189, hj190, hz191, hn192, hc193, hj194, hz195⟩, ⟨q_11, e_11⟩, -⟩; have h_11 : vs 11 = .tuple #[.agg #[.slice (sb ob172) n173 c174, .slice (sb ob176) n177 c178, .slice (sb ob180) n181 c182], .int .i64 r169, .int .i64 r170] := by refine Eq.trans q_11 ?_; show vs 10 = _; rw [h_10] <;> rfl
          refine Z0j (D := [(71, vs 10), (60, vs 11)]) rfl ?_; rw [h_10, h_11]; refine Z1y (H := [(some each2_0_k, .cells #[.int .i64 N101, .int .i64 S102, .int .i64 T103, .slice (sb ob8) n9 c10, .slice (sb ob12) n13 c14, .slice (sb ob16) n17 c18, .slice (sb ob20) n21 c22, .slice (sb ob24) n25 c26, .slice (sb ob28) n29 c30] 32 (0, 0)), (ob8, .cells (arr (intC .i64) r5.First j11).toArray 3 (0, 0)), (ob12, .cells (arr (intC .i64) r5.Head j15).toArray 3 (0, 0)), (ob16, .cells (arr (intC .i64) r5.Rev j19).toArray 3 (0, 0)), (ob20, .cells (arr (intC .i64) r5.Cap j23).toArray 2 (0, 0)), (ob24, .cells (arr (intC .i64) r5.Arc j27).toArray 3 (0, 0)), (ob28, .cells (arr boolC r5.Back j31).toArray 4 (0, 0)), (some each2_1_k, .cells #[.slice (sb ob107) n105 c106, .slice (sb ob117) n115 c116, .slice (sb ob127) n125 c126] 29 (0, 0)), (ob107, .cells (arr (intC .i64) Res104 j108).toArray 2 (0, 0)), (ob117, .cells (arr (intC .i64) Ex114 j118).toArray 2 (0, 0)), (ob127, .cells (arr (intC .i64) H124 j128).toArray 3 (0, 0)), (some b62, .cells #[.int .i64 r5.N, .int .i64 r5.S, .int .i64 r5.T, .slice (sb ob8) n9 c10, .slice (sb ob12) n13 c14, .slice (sb ob16) n17 c18, .slice (sb ob20) n21 c22, .slice (sb ob24) n25 c26, .slice (sb ob28) n29 c30] 32 (0, 0)), (some b94, .cells #[.slice (sb ob107) n105 c106, .slice (sb ob117) n115 c116, .slice (sb ob127) n125 c126] 29 (0, 0)), (ob140, .cells (arr (intC .i64) r137 j143).toArray 3 (0, 0)), (ob144, .cells (arr (intC .i64) r138 j147).toArray 3 (0, 0))] ++ ([(ob172, .cells (arr (intC .i64) r168.Res j175).toArray 2 (0, 0)), (ob176, .cells (arr (intC .i64) r168.Ex j179).toArray 2 (0, 0)), (ob180, .cells (arr (intC .i64) r168.H j183).toArray 3 (0, 0))] ++ Hx)) (by show _ ++ ((es 10 ++ (es 11 ++ ([]))) ++ _) = _; rw [e_10, e_11]; rfl) ?_; refine TO.extract rfl rfl rfl rfl rfl ?_; refine Z04 ?_; exact Z1j rfl ⟨rfl, rfl⟩ (by show Pick (_ ++ (_ ++ ((es 10 ++ (es 11 ++ ([]))) ++ _))) _; rw [e_10, e_11]; exact (by repeat (first | exact Z09 _ | exact Z08 | apply Pick.none | refine Z02 (by repeat (first | exact Take.head _ _ | apply Z0z)) ?_))) (by show [(71, vs 10), (60, vs 11)] = _; rw [h_10, h_11])
         ·
          rintro vs es Es Hx hb ⟨⟨ob172, n173, c174, j175, ob176, n177, c178, j179, ob180, n181, c182, j183, h_10, e_10, hn184, hc185, hj186, hz187, hn188, hc189, hj190, hz191, hn192, hc193, hj194, hz195⟩, ⟨q_11, e_11⟩, ⟨q_12, e_12⟩, -⟩ hHR; obtain rfl : hb = [(some b159, .cells #[.slice none 0 0, .slice none 0 0, .slice none 0 0] 29 (0, 0))] := hHR; have h_11 : vs 11 = .tuple #[.agg #[.slice (sb ob172) n173 c174, .slice (sb ob176) n177 c178, .slice (sb ob180) n181 c182], .int .i64 r169, .int .i64 r170] := by refine Eq.trans q_11 ?_; show vs 10 = _; rw [h_10] <;> rfl
          have h_12 : vs 12 = .agg #[.slice (sb ob172) n173 c174, .slice (sb ob176) n177 c178, .slice (sb ob180) n181 c182] := by refine Eq.trans q_12 ?_; show (Zls (vs 11) 0) = _; rw [h_11] <;> rfl
          refine Z0j (D := [(71, vs 10), (60, vs 11), (72, vs 12)]) rfl ?_; rw [h_10, h_11, h_12]; refine Z1y (H := [(some b159, .cells #[.slice none 0 0, .slice none 0 0, .slice none 0 0] 29 (0, 0))] ++ ([(some each2_0_k, .cells #[.int .i64 N101, .int .i64 S102, .int .i64 T103, .slice (sb ob8) n9 c10, .slice (sb ob12) n13 c14, .slice (sb ob16) n17 c18, .slice (sb ob20) n21 c22, .slice (sb ob24) n25 c26, .slice (sb ob28) n29 c30] 32 (0, 0)), (ob8, .cells (arr (intC .i64) r5.First j11).toArray 3 (0, 0)), (ob12, .cells (arr (intC .i64) r5.Head j15).toArray 3 (0, 0)), (ob16, .cells (arr (intC .i64) r5.Rev j19).toArray 3 (0, 0)), (ob20, .cells (arr (intC .i64) r5.Cap j23).toArray 2 (0, 0)), (ob24, .cells (arr (intC .i64) r5.Arc j27).toArray 3 (0, 0)), (ob28, .cells (arr boolC r5.Back j31).toArray 4 (0, 0)), (some each2_1_k, .cells #[.slice (sb ob107) n105 c106, .slice (sb ob117) n115 c116, .slice (sb ob127) n125 c126] 29 (0, 0)), (ob107, .cells (arr (intC .i64) Res104 j108).toArray 2 (0, 0)), (ob117, .cells (arr (intC .i64) Ex114 j118).toArray 2 (0, 0)), (ob127, .cells (arr (intC .i64) H124 j128).toArray 3 (0, 0)), (some b62, .cells #[.int .i64 r5.N, .int .i64 r5.S, .int .i64 r5.T, .slice (sb ob8) n9 c10, .slice (sb ob12) n13 c14, .slice (sb ob16) n17 c18, .slice (sb ob20) n21 c22, .slice (sb ob24) n25 c26, .slice (sb ob28) n29 c30] 32 (0, 0)), (some b94, .cells #[.slice (sb ob107) n105 c106, .slice (sb ob117) n115 c116, .slice (sb ob127) n125 c126] 29 (0, 0)), (ob140, .cells (arr (intC .i64) r137 j143).toArray 3 (0, 0)), (ob144, .cells (arr (intC .i64) r138 j147).toArray 3 (0, 0))] ++ ([(ob172, .cells (arr (intC .i64) r168.Res j175).toArray 2 (0, 0)), (ob176, .cells (arr (intC .i64) r168.Ex j179).toArray 2 (0, 0)), (ob180, .cells (arr (intC .i64) r168.H j183).toArray 3 (0, 0))] ++ Hx))) (by show _ ++ (_ ++ ((es 10 ++ (es 11 ++ (es 12 ++ ([])))) ++ _)) = _; rw [e_10, e_11, e_12]; rfl) ?_; refine Z15 rfl rfl rfl rfl tk0 Z61 rfl rfl rfl ?_; rw [show (.slice (sb ob172) n173 c174 : Value) = Z94 (vs 12) 0 from (by rw [h_12] <;> rfl)]; rw [show (.slice (sb ob176) n177 c178 : Value) = Z94 (vs 12) 1 from (by rw [h_12] <;> rfl)]; rw [show (.slice (sb ob180) n181 c182 : Value) = Z94 (vs 12) 2 from (by rw [h_12] <;> rfl)]; refine Z04 ?_; exact Zhf (hb' := [(some b159, .cells #[(Z94 (vs 12) 0), (Z94 (vs 12) 1), (Z94 (vs 12) 2)] 29 (0, 0))]) rfl rfl rfl (by show Pick (_ ++ (_ ++ ((es 10 ++ (es 11 ++ (es 12 ++ ([])))) ++ _))) _; rw [e_10, e_11, e_12]; exact (by repeat (first | exact Z09 _ | exact Z08 | apply Pick.none | refine Z02 (by repeat (first | exact Take.head _ _ | apply Z0z)) ?_))) (by show [(71, vs 10), (60, vs 11), (72, vs 12)] = _; rw [h_10, h_11, h_12] <;> rfl)
        ·
         rintro vs es hb ⟨⟨h_0, e_0⟩, ⟨h_1, e_1⟩, ⟨h_2, e_2⟩, ⟨h_3, e_3⟩, ⟨h_4, e_4⟩, ⟨h_5, e_5⟩, ⟨h_6, e_6⟩, ⟨h_7, e_7⟩, ⟨h_8, e_8⟩, ⟨h_9, e_9⟩, ⟨ob172, n173, c174, j175, ob176, n177, c178, j179, ob180, n181, c182, j183, h_10, e_10, hn184, hc185, hj186, hz187, hn188, hc189, hj190, hz191, hn192, hc193, hj194, hz195⟩, ⟨q_11, e_11⟩, ⟨q_12, e_12⟩, ⟨h_13, e_13⟩, ⟨h_14, e_14⟩, e_15, -⟩ hHR; obtain rfl : hb = [(some b159, .cells #[(Z94 (vs 12) 0), (Z94 (vs 12) 1), (Z94 (vs 12) 2)] 29 (0, 0))] := hHR; have h_11 : vs 11 = .tuple #[.agg #[.slice (sb ob172) n173 c174, .slice (sb ob176) n177 c178, .slice (sb ob180) n181 c182], .int .i64 r169, .int .i64 r170] := by refine Eq.trans q_11 ?_; show vs 10 = _; rw [h_10] <;> rfl
         have h_12 : vs 12 = .agg #[.slice (sb ob172) n173 c174, .slice (sb ob176) n177 c178, .slice (sb ob180) n181 c182] := by refine Eq.trans q_12 ?_; show (Zls (vs 11) 0) = _; rw [h_11] <;> rfl
         refine Z0j (D := [(61, vs 0), (62, vs 1), (63, vs 2), (64, vs 3), (65, vs 4), (66, vs 5), (67, vs 6), (68, vs 7), (69, vs 8), (70, vs 9), (71, vs 10), (60, vs 11), (72, vs 12), (73, vs 13), (74, vs 14)]) rfl ?_; refine Z1y (H := [(some b159, .cells #[(Z94 (vs 12) 0), (Z94 (vs 12) 1), (Z94 (vs 12) 2)] 29 (0, 0)), (some each2_0_k, .cells #[.int .i64 N101, .int .i64 S102, .int .i64 T103, .slice (sb ob8) n9 c10, .slice (sb ob12) n13 c14, .slice (sb ob16) n17 c18, .slice (sb ob20) n21 c22, .slice (sb ob24) n25 c26, .slice (sb ob28) n29 c30] 32 (0, 0)), (ob8, .cells (arr (intC .i64) r5.First j11).toArray 3 (0, 0)), (ob12, .cells (arr (intC .i64) r5.Head j15).toArray 3 (0, 0)), (ob16, .cells (arr (intC .i64) r5.Rev j19).toArray 3 (0, 0)), (ob20, .cells (arr (intC .i64) r5.Cap j23).toArray 2 (0, 0)), (ob24, .cells (arr (intC .i64) r5.Arc j27).toArray 3 (0, 0)), (ob28, .cells (arr boolC r5.Back j31).toArray 4 (0, 0)), (some each2_1_k, .cells #[.slice (sb ob107) n105 c106, .slice (sb ob117) n115 c116, .slice (sb ob127) n125 c126] 29 (0, 0)), (ob107, .cells (arr (intC .i64) Res104 j108).toArray 2 (0, 0)), (ob117, .cells (arr (intC .i64) Ex114 j118).toArray 2 (0, 0)), (ob127, .cells (arr (intC .i64) H124 j128).toArray 3 (0, 0)), (some b62, .cells #[.int .i64 r5.N, .int .i64 r5.S, .int .i64 r5.T, .slice (sb ob8) n9 c10, .slice (sb ob12) n13 c14, .slice (sb ob16) n17 c18, .slice (sb ob20) n21 c22, .slice (sb ob24) n25 c26, .slice (sb ob28) n29 c30] 32 (0, 0)), (some b94, .cells #[.slice (sb ob107) n105 c106, .slice (sb ob117) n115 c116, .slice (sb ob127) n125 c126] 29 (0, 0)), (ob140, .cells (arr (intC .i64) r137 j143).toArray 3 (0, 0)), (ob144, .cells (arr (intC .i64) r138 j147).toArray 3 (0, 0)), (ob172, .cells (arr (intC .i64) r168.Res j175).toArray 2 (0, 0)), (ob176, .cells (arr (intC .i64) r168.Ex j179).toArray 2 (0, 0)), (ob180, .cells (arr (intC .i64) r168.H j183).toArray 3 (0, 0))]) (by show _ ++ (_ ++ (es 0 ++ (es 1 ++ (es 2 ++ (es 3 ++ (es 4 ++ (es 5 ++ (es 6 ++ (es 7 ++ (es 8 ++ (es 9 ++ (es 10 ++ (es 11 ++ (es 12 ++ (es 13 ++ (es 14 ++ (es 15 ++ ([])))))))))))))))))) = _; rw [e_0, e_1, e_2, e_3, e_4, e_5, e_6, e_7, e_8, e_9, e_10, e_11, e_12, e_13, e_14, e_15]; rfl) ?_; rw [h_0, h_1, h_2, h_3, h_4, h_5, h_6, h_7, h_8, h_9, h_10, h_11, h_12, h_13, h_14]; refine Z1y (H := [(some b159, .cells #[.slice (sb ob172) n173 c174, .slice (sb ob176) n177 c178, .slice (sb ob180) n181 c182] 29 (0, 0)), (some each2_0_k, .cells #[.int .i64 N101, .int .i64 S102, .int .i64 T103, .slice (sb ob8) n9 c10, .slice (sb ob12) n13 c14, .slice (sb ob16) n17 c18, .slice (sb ob20) n21 c22, .slice (sb ob24) n25 c26, .slice (sb ob28) n29 c30] 32 (0, 0)), (ob8, .cells (arr (intC .i64) r5.First j11).toArray 3 (0, 0)), (ob12, .cells (arr (intC .i64) r5.Head j15).toArray 3 (0, 0)), (ob16, .cells (arr (intC .i64) r5.Rev j19).toArray 3 (0, 0)), (ob20, .cells (arr (intC .i64) r5.Cap j23).toArray 2 (0, 0)), (ob24, .cells (arr (intC .i64) r5.Arc j27).toArray 3 (0, 0)), (ob28, .cells (arr boolC r5.Back j31).toArray 4 (0, 0)), (some each2_1_k, .cells #[.slice (sb ob107) n105 c106, .slice (sb ob117) n115 c116, .slice (sb ob127) n125 c126] 29 (0, 0)), (ob107, .cells (arr (intC .i64) Res104 j108).toArray 2 (0, 0)), (ob117, .cells (arr (intC .i64) Ex114 j118).toArray 2 (0, 0)), (ob127, .cells (arr (intC .i64) H124 j128).toArray 3 (0, 0)), (some b62, .cells #[.int .i64 r5.N, .int .i64 r5.S, .int .i64 r5.T, .slice (sb ob8) n9 c10, .slice (sb ob12) n13 c14, .slice (sb ob16) n17 c18, .slice (sb ob20) n21 c22, .slice (sb ob24) n25 c26, .slice (sb ob28) n29 c30] 32 (0, 0)), (some b94, .cells #[.slice (sb ob107) n105 c106, .slice (sb ob117) n115 c116, .slice (sb ob127) n125 c126] 29 (0, 0)), (ob140, .cells (arr (intC .i64) r137 j143).toArray 3 (0, 0)), (ob144, .cells (arr (intC .i64) r138 j147).toArray 3 (0, 0)), (ob172, .cells (arr (intC .i64) r168.Res j175).toArray 2 (0, 0)), (ob176, .cells (arr (intC .i64) r168.Ex j179).toArray 2 (0, 0)), (ob180, .cells (arr (intC .i64) r168.H j183).toArray 3 (0, 0))]) rfl ?_; clear h_14 h_13 h_12 h_11 h_10 h_9 h_8 h_7 h_6 h_5 h_4 h_3 h_2 h_1 h_0 q_11 q_12 e_0 e_1 e_2 e_3 e_4 e_5 e_6 e_7 e_8 e_9 e_10 e_11 e_12 e_13 e_14 e_15; refine Z05 rfl rfl rfl rfl ?_; refine Z04 ?_; refine Z0h ?_; exact Zof r168.Res n173 c174 ob172 j175 r168.Ex n177 c178 ob176 j179 r168.H n181 c182 ob180 j183 r170 ⟨H, hn184, hc185, hj186, hz187, hn188, hc189, hj190, hz191, hn192, hc193, hj194, hz195⟩ (Z00 rfl (Z00 rfl (Z00 rfl (Z00 rfl (Z00 rfl (Z00 rfl (Z00 rfl (Z00 rfl Z0a)))))))) (Z02 tk1 (Z02 tk1 (Z02 tk1 (Z02 tk1 (Z02 tk1 (Z02 tk1 (Z02 tk1 (Z02 tk1 (Z02 tk1 (Z02 tk1 (Z02 tk1 (Z02 tk1 (Z02 tk1 (Z02 tk0 (Z02 tk2 (Z02 tk2 (Z02 tk2 Z08)))))))))))))))))
       ·
        refine Z1k rfl (Bool.eq_false_iff.2 g164) ?_; refine Z0c ?_; refine Z03 (ll := [0, 1, 2, 3]) rfl ?_; refine Z06 rfl rfl rfl rfl ?_; refine Z1h (xs := r138) hn152 rfl rfl rfl rfl rfl Z3a ?_; refine Z0q rfl rfl rfl rfl rfl rfl ?_; refine Z05 rfl rfl rfl rfl ?_; refine Z04 ?_; refine Z01 ?_; rcases Z0i H with ⟨g199, H⟩ | ⟨g199, H⟩
        ·
         refine Z10 rfl g199 ?_; obtain ⟨g200, H⟩ := Z0e H; obtain ⟨g201, H⟩ := Z0e H; obtain ⟨g202, H⟩ := Z0e H; obtain ⟨⟨r203, r204⟩, e205, H⟩ := Z0k H; apply Zb0 [⟨[], false, [], Z4n _⟩, ⟨[], false, [], Z4n _⟩, ⟨[], false, [], Z4n _⟩, ⟨[], false, [], Z4n _⟩, ⟨[3], false, [], Z4n _⟩, ⟨[], false, [], Z4n _⟩, ⟨[5], false, [], Z4n _⟩, ⟨[4, 6], false, [], Z4n _⟩, ⟨[2, 7], false, [], Z4n _⟩, ⟨[2, 7, 8], false, [], Z4n _⟩, ⟨[0, 1, 9], false, [], fun _ v e => ∃ (ob206 : Option Nat) (n207 : Nat) (c208 : Nat) (j209 : List Value) (ob210 : Option Nat) (n211 : Nat) (c212 : Nat) (j213 : List Value) (ob214 : Option Nat) (n215 : Nat) (c216 : Nat) (j217 : List Value), v = .tuple #[.agg #[.slice (sb ob206) n207 c208, .slice (sb ob210) n211 c212, .slice (sb ob214) n215 c216], .int .i64 r204] ∧ e = [(ob206, .cells (arr (intC .i64) r203.Res j209).toArray 2 (0, 0)), (ob210, .cells (arr (intC .i64) r203.Ex j213).toArray 2 (0, 0)), (ob214, .cells (arr (intC .i64) r203.H j217).toArray 3 (0, 0))] ∧ r203.Res.length = n207 ∧ n207 ≤ c208 ∧ j209.length = (c208 - n207) * 1 ∧ (ob206 = none → c208 = 0) ∧ r203.Ex.length = n211 ∧ n211 ≤ c212 ∧ j213.length = (c212 - n211) * 1 ∧ (ob210 = none → c212 = 0) ∧ r203.H.length = n215 ∧ n215 ≤ c216 ∧ j217.length = (c216 - n215) * 1 ∧ (ob214 = none → c216 = 0)⟩, ⟨[10], false, [], fun vl v e => v = (vl.getD 0 undef) ∧ e = []⟩, ⟨[10, 11], false, [], fun vl v e => v = (Zls (vl.getD 1 undef) 0) ∧ e = []⟩, ⟨[10, 11], false, [], Z4n _⟩, ⟨[10, 11, 12], true, [], Zqp⟩] [80, 81, 82, 83, 84, 85, 86, 87, 88, 89, 90, 79, 91, 92] 15 (HRv [fun vl => [(some b159, .cells #[.slice none 0 0, .slice none 0 0, .slice none 0 0] 29 (0, 0))], fun vl => [(some b159, .cells #[(Z94 (vl.getD 0 undef) 0), (Z94 (vl.getD 0 undef) 1), (Z94 (vl.getD 0 undef) 2)] 29 (0, 0))]]) [[], [12]] [(some b159, .cells #[.slice none 0 0, .slice none 0 0, .slice none 0 0] 29 (0, 0))] [(some each2_0_k, .cells #[.int .i64 N101, .int .i64 S102, .int .i64 T103, .slice (sb ob8) n9 c10, .slice (sb ob12) n13 c14, .slice (sb ob16) n17 c18, .slice (sb ob20) n21 c22, .slice (sb ob24) n25 c26, .slice (sb ob28) n29 c30] 32 (0, 0)), (ob8, .cells (arr (intC .i64) r5.First j11).toArray 3 (0, 0)), (ob12, .cells (arr (intC .i64) r5.Head j15).toArray 3 (0, 0)), (ob16, .cells (arr (intC .i64) r5.Rev j19).toArray 3 (0, 0)), (ob20, .cells (arr (intC .i64) r5.Cap j23).toArray 2 (0, 0)), (ob24, .cells (arr (intC .i64) r5.Arc j27).toArray 3 (0, 0)), (ob28, .cells (arr boolC r5.Back j31).toArray 4 (0, 0)), (some each2_1_k, .cells #[.slice (sb ob107) n105 c106, .slice (sb ob117) n115 c116, .slice (sb ob127) n125 c126] 29 (0, 0)), (ob107, .cells (arr (intC .i64) Res104 j108).toArray 2 (0, 0)), (ob117, .cells (arr (intC .i64) Ex114 j118).toArray 2 (0, 0)), (ob127, .cells (arr (intC .i64) H124 j128).toArray 3 (0, 0)), (some b62, .cells #[.int .i64 r5.N, .int .i64 r5.S, .int .i64 r5.T, .slice (sb ob8) n9 c10, .slice (sb ob12) n13 c14, .slice (sb ob16) n17 c18, .slice (sb ob20) n21 c22, .slice (sb ob24) n25 c26, .slice (sb ob28) n29 c30] 32 (0, 0)), (some b94, .cells #[.slice (sb ob107) n105 c106, .slice (sb ob117) n115 c116, .slice (sb ob127) n125 c126] 29 (0, 0)), (ob140, .cells (arr (intC .i64) r137 j143).toArray 3 (0, 0)), (ob144, .cells (arr (intC .i64) r138 j147).toArray 3 (0, 0))]
         · exact Z4c
         · exact rfl
         · kernel_rfl
         · kernel_rfl
         · kernel_rfl
         · exact rfl
         · exact rfl
         · exact rfl
         · exact rfl
         · exact (by repeat (first | exact Z09 _ | exact Z08 | apply Pick.none | refine Z02 (by repeat (first | exact Take.head _ _ | apply Z0z)) ?_))
         ·
          refine ⟨?_, ?_, ?_, ?_, ?_, ?_, ?_, ?_, ?_, ?_, ?_, ?_, ?_, ?_, ?_, trivial⟩
          · rintro vs es Es Hx -; refine Z0j (D := []) rfl ?_; refine Z0l rfl rfl rfl rfl Z3b mm11 rfl ?_; refine Z04 ?_; exact Z1j rfl ⟨rfl, rfl⟩ (Z09 _) rfl
          · rintro vs es Es Hx -; refine Z0j (D := []) rfl ?_; refine Z0l rfl rfl rfl rfl Z2t Zra rfl ?_; refine Z04 ?_; exact Z1j rfl ⟨rfl, rfl⟩ (Z09 _) rfl
          · rintro vs es Es Hx -; refine Z0j (D := []) rfl ?_; refine Z06 rfl rfl rfl rfl ?_; refine Z04 ?_; exact Z1j rfl ⟨rfl, rfl⟩ (Z09 _) rfl
          · rintro vs es Es Hx -; refine Z0j (D := []) rfl ?_; refine Z06 rfl rfl rfl rfl ?_; refine Z04 ?_; exact Z1j rfl ⟨rfl, rfl⟩ (Z09 _) rfl
          · rintro vs es Es Hx ⟨⟨h_3, e_3⟩, -⟩; refine Z0j (D := [(83, vs 3)]) rfl ?_; rw [h_3]; refine Zsp g200 rfl rfl rfl rfl rfl ?_; refine Z04 ?_; exact Z1j rfl ⟨rfl, rfl⟩ (Z09 _) (by show [(83, vs 3)] = _; rw [h_3])
          · rintro vs es Es Hx -; refine Z0j (D := []) rfl ?_; refine Z06 rfl rfl rfl rfl ?_; refine Z04 ?_; exact Z1j rfl ⟨rfl, rfl⟩ (Z09 _) rfl
          · rintro vs es Es Hx ⟨⟨h_5, e_5⟩, -⟩; refine Z0j (D := [(85, vs 5)]) rfl ?_; rw [h_5]; refine Z1h (xs := r138) hn152 rfl rfl rfl rfl rfl Z3a ?_; refine Z04 ?_; exact Z1j rfl ⟨rfl, rfl⟩ (Z09 _) (by show [(85, vs 5)] = _; rw [h_5])
          · rintro vs es Es Hx ⟨⟨h_4, e_4⟩, ⟨h_6, e_6⟩, -⟩; refine Z0j (D := [(84, vs 4), (86, vs 6)]) rfl ?_; rw [h_4, h_6]; refine TO.rem rfl rfl rfl rfl rfl g201 ?_; refine Z04 ?_; exact Z1j rfl ⟨rfl, rfl⟩ (Z09 _) (by show [(84, vs 4), (86, vs 6)] = _; rw [h_4, h_6])
          · rintro vs es Es Hx ⟨⟨h_2, e_2⟩, ⟨h_7, e_7⟩, -⟩; refine Z0j (D := [(82, vs 2), (87, vs 7)]) rfl ?_; rw [h_2, h_7]; refine Z69 hz155 hc153 hn152 g202 rfl rfl rfl rfl rfl Z3a Zet ?_; refine Z04 ?_; exact Z1j rfl ⟨rfl, rfl⟩ (Z09 _) (by show [(82, vs 2), (87, vs 7)] = _; rw [h_2, h_7])
          · rintro vs es Es Hx ⟨⟨h_2, e_2⟩, ⟨h_7, e_7⟩, ⟨h_8, e_8⟩, -⟩; refine Z0j (D := [(82, vs 2), (87, vs 7), (88, vs 8)]) rfl ?_; rw [h_2, h_7, h_8]; refine Zaz hz155 hc153 hn152 g202 rfl rfl rfl rfl Za9 mm14 ?_; refine Z04 ?_; exact Z1j rfl ⟨rfl, rfl⟩ (Z09 _) (by show [(82, vs 2), (87, vs 7), (88, vs 8)] = _; rw [h_2, h_7, h_8])
          · rintro vs es Es Hx ⟨⟨h_0, e_0⟩, ⟨h_1, e_1⟩, ⟨h_9, e_9⟩, -⟩; refine Z0j (D := [(80, vs 0), (81, vs 1), (89, vs 9)]) rfl ?_; rw [h_0, h_1, h_9]; refine Z0m Zj2 rfl rfl rfl rfl (fun wc hwc => Zjr (c0 := r5) (p1 := (Pre.mk Res104 Ex114 H124)) (u2 := (r138.getD (((moves1.getD x134.toNat 0).tdiv 2).tmod (r138.length : Int)).toNat 0)) wc (hwc.rs (f := (intC .i64)) (s := 1) (xs := r5.First) (j := j11) (fun _ => rfl) mm1 hn32 hc33 hz35) (hwc.rs (f := (intC .i64)) (s := 1) (xs := r5.Head) (j := j15) (fun _ => rfl) mm2 hn36 hc37 hz39) (hwc.rs (f := (intC .i64)) (s := 1) (xs := r5.Rev) (j := j19) (fun _ => rfl) mm3 hn40 hc41 hz43) (hwc.rs (f := (intC .i64)) (s := 1) (xs := r5.Cap) (j := j23) (fun _ => rfl) mm4 hn44 hc45 hz47) (hwc.rs (f := (intC .i64)) (s := 1) (xs := r5.Arc) (j := j27) (fun _ => rfl) mm5 hn48 hc49 hz51) (hwc.rs (f := boolC) (s := 1) (xs := r5.Back) (j := j31) (fun _ => rfl) mm6 hn52 hc53 hz55) (hwc.rs (f := (intC .i64)) (s := 1) (xs := Res104) (j := j108) (fun _ => rfl) mm8 hn109 hc110 hz112) (hwc.rs (f := (intC .i64)) (s := 1) (xs := Ex114) (j := j118) (fun _ => rfl) mm9 hn119 hc120 hz122) (hwc.rs (f := (intC .i64)) (s := 1) (xs := H124) (j := j128) (fun _ => rfl) Zrb hn129 hc130 hz132) e205) ?_; rintro _ _ ⟨ob206, n207, c208, j209, ob210, n211, c212, j213, ob214, n215, c216, j217, rfl, rfl, hn218, hc219, hj220, hz221, hn222, hc223, hj224, hz225, hn226, hc227, hj228, hz229⟩; refine Z04 ?_; exact Z1j rfl ⟨ob206, n207, c208, j209, ob210, n211, c212, j213, ob214, n215, c216, j217, rfl, rfl, hn218, hc219, hj220, hz221, hn222, hc223, hj224, hz225, hn226, hc227, hj228, hz229⟩ (by repeat (first | exact Z09 _ | exact Z08 | apply Pick.none | refine Z02 (by repeat (first | exact Take.head _ _ | apply Z0z)) ?_)) (by show [(80, vs 0), (81, vs 1), (89, vs 9)] = _; rw [h_0, h_1, h_9])
          · rintro vs es Es Hx ⟨⟨ob206, n207, c208, j209, ob210, n211, c212, j213, ob214, n215, c216, j217, h_10, e_10, hn218, hc219, hj220, hz221, hn222, hc223, hj224, hz225, hn226, hc227, hj228, hz229⟩, -⟩; refine Z0j (D := [(90, vs 10)]) rfl ?_; rw [h_10]; refine Z1y (H := [(some each2_0_k, .cells #[.int .i64 N101, .int .i64 S102, .int .i64 T103, .slice (sb ob8) n9 c10, .slice (sb ob12) n13 c14, .slice (sb ob16) n17 c18, .slice (sb ob20) n21 c22, .slice (sb ob24) n25 c26, .slice (sb ob28) n29 c30] 32 (0, 0)), (ob8, .cells (arr (intC .i64) r5.First j11).toArray 3 (0, 0)), (ob12, .cells (arr (intC .i64) r5.Head j15).toArray 3 (0, 0)), (ob16, .cells (arr (intC .i64) r5.Rev j19).toArray 3 (0, 0)), (ob20, .cells (arr (intC .i64) r5.Cap j23).toArray 2 (0, 0)), (ob24, .cells (arr (intC .i64) r5.Arc j27).toArray 3 (0, 0)), (ob28, .cells (arr boolC r5.Back j31).toArray 4 (0, 0)), (some each2_1_k, .cells #[.slice (sb ob107) n105 c106, .slice (sb ob117) n115 c116, .slice (sb ob127) n125 c126] 29 (0, 0)), (ob107, .cells (arr (intC .i64) Res104 j108).toArray 2 (0, 0)), (ob117, .cells (arr (intC .i64) Ex114 j118).toArray 2 (0, 0)), (ob127, .cells (arr (intC .i64) H124 j128).toArray 3 (0, 0)), (some b62, .cells #[.int .i64 r5.N, .int .i64 r5.S, .int .i64 r5.T, .slice (sb ob8) n9 c10, .slice (sb ob12) n13 c14, .slice (sb ob16) n17 c18, .slice (sb ob20) n21 c22, .slice (sb ob24) n25 c26, .slice (sb ob28) n29 c30] 32 (0, 0)), (some b94, .cells #[.slice (sb ob107) n105 c106, .slice (sb ob117) n115 c116, .slice (sb ob127) n125 c126] 29 (0, 0)), (ob140, .cells (arr (intC .i64) r137 j143).toArray 3 (0, 0)), (ob144, .cells (arr (intC .i64) r138 j147).toArray 3 (0, 0))] ++ ([(ob206, .cells (arr (intC .i64) r203.Res j209).toArray 2 (0, 0)), (ob210, .cells (arr (intC .i64) r203.Ex j213).toArray 2 (0, 0)), (ob214, .cells (arr (intC .i64) r203.H j217).toArray 3 (0, 0))] ++ Hx)) (by show _ ++ ((es 10 ++ ([])) ++ _) = _; rw [e_10]; rfl) ?_; refine Z06 rfl rfl rfl rfl ?_; refine Z04 ?_; exact Z1j rfl ⟨by show _ = vs 10; rw [h_10] <;> rfl, rfl⟩ (by show Pick (_ ++ (_ ++ ((es 10 ++ ([])) ++ _))) _; rw [e_10]; exact (by repeat (first | exact Z09 _ | exact Z08 | apply Pick.none | refine Z02 (by repeat (first | exact Take.head _ _ | apply Z0z)) ?_))) (by show [(90, vs 10)] = _; rw [h_10])
          ·
           rintro vs es Es Hx ⟨⟨ob206, n207, c208, j209, ob210, n211, c212, j213, ob214, n215, c216, j217, h_10, e_10, hn218, hc219, hj220, hz221, hn222, hc223, hj224, hz225, hn226, hc227, hj228, hz229⟩, ⟨q_11, e_11⟩, -⟩; have h_11 : vs 11 = .tuple #[.agg #[.slice (sb ob206) n207 c208, .slice (sb ob210) n211 c212, .slice (sb ob214) n215 c216], .int .i64 r204] := by refine Eq.trans q_11 ?_; show vs 10 = _; rw [h_10] <;> rfl
           refine Z0j (D := [(90, vs 10), (79, vs 11)]) rfl ?_; rw [h_10, h_11]; refine Z1y (H := [(some each2_0_k, .cells #[.int .i64 N101, .int .i64 S102, .int .i64 T103, .slice (sb ob8) n9 c10, .slice (sb ob12) n13 c14, .slice (sb ob16) n17 c18, .slice (sb ob20) n21 c22, .slice (sb ob24) n25 c26, .slice (sb ob28) n29 c30] 32 (0, 0)), (ob8, .cells (arr (intC .i64) r5.First j11).toArray 3 (0, 0)), (ob12, .cells (arr (intC .i64) r5.Head j15).toArray 3 (0, 0)), (ob16, .cells (arr (intC .i64) r5.Rev j19).toArray 3 (0, 0)), (ob20, .cells (arr (intC .i64) r5.Cap j23).toArray 2 (0, 0)), (ob24, .cells (arr (intC .i64) r5.Arc j27).toArray 3 (0, 0)), (ob28, .cells (arr boolC r5.Back j31).toArray 4 (0, 0)), (some each2_1_k, .cells #[.slice (sb ob107) n105 c106, .slice (sb ob117) n115 c116, .slice (sb ob127) n125 c126] 29 (0, 0)), (ob107, .cells (arr (intC .i64) Res104 j108).toArray 2 (0, 0)), (ob117, .cells (arr (intC .i64) Ex114 j118).toArray 2 (0, 0)), (ob127, .cells (arr (intC .i64) H124 j128).toArray 3 (0, 0)), (some b62, .cells #[.int .i64 r5.N, .int .i64 r5.S, .int .i64 r5.T, .slice (sb ob8) n9 c10, .slice (sb ob12) n13 c14, .slice (sb ob16) n17 c18, .slice (sb ob20) n21 c22, .slice (sb ob24) n25 c26, .slice (sb ob28) n29 c30] 32 (0, 0)), (some b94, .cells #[.slice (sb ob107) n105 c106, .slice (sb ob117) n115 c116, .slice (sb ob127) n125 c126] 29 (0, 0)), (ob140, .cells (arr (intC .i64) r137 j143).toArray 3 (0, 0)), (ob144, .cells (arr (intC .i64) r138 j147).toArray 3 (0, 0))] ++ ([(ob206, .cells (arr (intC .i64) r203.Res j209).toArray 2 (0, 0)), (ob210, .cells (arr (intC .i64) r203.Ex j213).toArray 2 (0, 0)), (ob214, .cells (arr (intC .i64) r203.H j217).toArray 3 (0, 0))] ++ Hx)) (by show _ ++ ((es 10 ++ (es 11 ++ ([]))) ++ _) = _; rw [e_10, e_11]; rfl) ?_; refine TO.extract rfl rfl rfl rfl rfl ?_; refine Z04 ?_; exact Z1j rfl ⟨by show _ = (Zls (vs 11) 0); rw [h_11] <;> rfl, rfl⟩ (by show Pick (_ ++ (_ ++ ((es 10 ++ (es 11 ++ ([]))) ++ _))) _; rw [e_10, e_11]; exact (by repeat (first | exact Z09 _ | exact Z08 | apply Pick.none | refine Z02 (by repeat (first | exact Take.head _ _ | apply Z0z)) ?_))) (by show [(90, vs 10), (79, vs 11)] = _; rw [h_10, h_11])
          ·
           rintro vs es Es Hx ⟨⟨ob206, n207, c208, j209, ob210, n211, c212, j213, ob214, n215, c216, j217, h_10, e_10, hn218, hc219, hj220, hz221, hn222, hc223, hj224, hz225, hn226, hc227, hj228, hz229⟩, ⟨q_11, e_11⟩, -⟩; have h_11 : vs 11 = .tuple #[.agg #[.slice (sb ob206) n207 c208, .slice (sb ob210) n211 c212, .slice (sb ob214) n215 c216], .int .i64 r204] := by refine Eq.trans q_11 ?_; show vs 10 = _; rw [h_10] <;> rfl
           refine Z0j (D := [(90, vs 10), (79, vs 11)]) rfl ?_; rw [h_10, h_11]; refine Z1y (H := [(some each2_0_k, .cells #[.int .i64 N101, .int .i64 S102, .int .i64 T103, .slice (sb ob8) n9 c10, .slice (sb ob12) n13 c14, .slice (sb ob16) n17 c18, .slice (sb ob20) n21 c22, .slice (sb ob24) n25 c26, .slice (sb ob28) n29 c30] 32 (0, 0)), (ob8, .cells (arr (intC .i64) r5.First j11).toArray 3 (0, 0)), (ob12, .cells (arr (intC .i64) r5.Head j15).toArray 3 (0, 0)), (ob16, .cells (arr (intC .i64) r5.Rev j19).toArray 3 (0, 0)), (ob20, .cells (arr (intC .i64) r5.Cap j23).toArray 2 (0, 0)), (ob24, .cells (arr (intC .i64) r5.Arc j27).toArray 3 (0, 0)), (ob28, .cells (arr boolC r5.Back j31).toArray 4 (0, 0)), (some each2_1_k, .cells #[.slice (sb ob107) n105 c106, .slice (sb ob117) n115 c116, .slice (sb ob127) n125 c126] 29 (0, 0)), (ob107, .cells (arr (intC .i64) Res104 j108).toArray 2 (0, 0)), (ob117, .cells (arr (intC .i64) Ex114 j118).toArray 2 (0, 0)), (ob127, .cells (arr (intC .i64) H124 j128).toArray 3 (0, 0)), (some b62, .cells #[.int .i64 r5.N, .int .i64 r5.S, .int .i64 r5.T, .slice (sb ob8) n9 c10, .slice (sb ob12) n13 c14, .slice (sb ob16) n17 c18, .slice (sb ob20) n21 c22, .slice (sb ob24) n25 c26, .slice (sb ob28) n29 c30] 32 (0, 0)), (some b94, .cells #[.slice (sb ob107) n105 c106, .slice (sb ob117) n115 c116, .slice (sb ob127) n125 c126] 29 (0, 0)), (ob140, .cells (arr (intC .i64) r137 j143).toArray 3 (0, 0)), (ob144, .cells (arr (intC .i64) r138 j147).toArray 3 (0, 0))] ++ ([(ob206, .cells (arr (intC .i64) r203.Res j209).toArray 2 (0, 0)), (ob210, .cells (arr (intC .i64) r203.Ex j213).toArray 2 (0, 0)), (ob214, .cells (arr (intC .i64) r203.H j217).toArray 3 (0, 0))] ++ Hx)) (by show _ ++ ((es 10 ++ (es 11 ++ ([]))) ++ _) = _; rw [e_10, e_11]; rfl) ?_; refine TO.extract rfl rfl rfl rfl rfl ?_; refine Z04 ?_; exact Z1j rfl ⟨rfl, rfl⟩ (by show Pick (_ ++ (_ ++ ((es 10 ++ (es 11 ++ ([]))) ++ _))) _; rw [e_10, e_11]; exact (by repeat (first | exact Z09 _ | exact Z08 | apply Pick.none | refine Z02 (by repeat (first | exact Take.head _ _ | apply Z0z)) ?_))) (by show [(90, vs 10), (79, vs 11)] = _; rw [h_10, h_11])
          ·
           rintro vs es Es Hx hb ⟨⟨ob206, n207, c208, j209, ob210, n211, c212, j213, ob214, n215, c216, j217, h_10, e_10, hn218, hc219, hj220, hz221, hn222, hc223, hj224, hz225, hn226, hc227, hj228, hz229⟩, ⟨q_11, e_11⟩, ⟨q_12, e_12⟩, -⟩ hHR; obtain rfl : hb = [(some b159, .cells #[.slice none 0 0, .slice none 0 0, .slice none 0 0] 29 (0, 0))] := hHR; have h_11 : vs 11 = .tuple #[.agg #[.slice (sb ob206) n207 c208, .slice (sb ob210) n211 c212, .slice (sb ob214) n215 c216], .int .i64 r204] := by refine Eq.trans q_11 ?_; show vs 10 = _; rw [h_10] <;> rfl
           have h_12 : vs 12 = .agg #[.slice (sb ob206) n207 c208, .slice (sb ob210) n211 c212, .slice (sb ob214) n215 c216] := by refine Eq.trans q_12 ?_; show (Zls (vs 11) 0) = _; rw [h_11] <;> rfl
           refine Z0j (D := [(90, vs 10), (79, vs 11), (91, vs 12)]) rfl ?_; rw [h_10, h_11, h_12]; refine Z1y (H := [(some b159, .cells #[.slice none 0 0, .slice none 0 0, .slice none 0 0] 29 (0, 0))] ++ ([(some each2_0_k, .cells #[.int .i64 N101, .int .i64 S102, .int .i64 T103, .slice (sb ob8) n9 c10, .slice (sb ob12) n13 c14, .slice (sb ob16) n17 c18, .slice (sb ob20) n21 c22, .slice (sb ob24) n25 c26, .slice (sb ob28) n29 c30] 32 (0, 0)), (ob8, .cells (arr (intC .i64) r5.First j11).toArray 3 (0, 0)), (ob12, .cells (arr (intC .i64) r5.Head j15).toArray 3 (0, 0)), (ob16, .cells (arr (intC .i64) r5.Rev j19).toArray 3 (0, 0)), (ob20, .cells (arr (intC .i64) r5.Cap j23).toArray 2 (0, 0)), (ob24, .cells (arr (intC .i64) r5.Arc j27).toArray 3 (0, 0)), (ob28, .cells (arr boolC r5.Back j31).toArray 4 (0, 0)), (some each2_1_k, .cells #[.slice (sb ob107) n105 c106, .slice (sb ob117) n115 c116, .slice (sb ob127) n125 c126] 29 (0, 0)), (ob107, .cells (arr (intC .i64) Res104 j108).toArray 2 (0, 0)), (ob117, .cells (arr (intC .i64) Ex114 j118).toArray 2 (0, 0)), (ob127, .cells (arr (intC .i64) H124 j128).toArray 3 (0, 0)), (some b62, .cells #[.int .i64 r5.N, .int .i64 r5.S, .int .i64 r5.T, .slice (sb ob8) n9 c10, .slice (sb ob12) n13 c14, .slice (sb ob16) n17 c18, .slice (sb ob20) n21 c22, .slice (sb ob24) n25 c26, .slice (sb ob28) n29 c30] 32 (0, 0)), (some b94, .cells #[.slice (sb ob107) n105 c106, .slice (sb ob117) n115 c116, .slice (sb ob127) n125 c126] 29 (0, 0)), (ob140, .cells (arr (intC .i64) r137 j143).toArray 3 (0, 0)), (ob144, .cells (arr (intC .i64) r138 j147).toArray 3 (0, 0))] ++ ([(ob206, .cells (arr (intC .i64) r203.Res j209).toArray 2 (0, 0)), (ob210, .cells (arr (intC .i64) r203.Ex j213).toArray 2 (0, 0)), (ob214, .cells (arr (intC .i64) r203.H j217).toArray 3 (0, 0))] ++ Hx))) (by show _ ++ (_ ++ ((es 10 ++ (es 11 ++ (es 12 ++ ([])))) ++ _)) = _; rw [e_10, e_11, e_12]; rfl) ?_; refine Z15 rfl rfl rfl rfl tk0 Z61 rfl rfl rfl ?_; rw [show (.slice (sb ob206) n207 c208 : Value) = Z94 (vs 12) 0 from (by rw [h_12] <;> rfl)]; rw [show (.slice (sb ob210) n211 c212 : Value) = Z94 (vs 12) 1 from (by rw [h_12] <;> rfl)]; rw [show (.slice (sb ob214) n215 c216 : Value) = Z94 (vs 12) 2 from (by rw [h_12] <;> rfl)]; refine Z04 ?_; exact Zhf (hb' := [(some b159, .cells #[(Z94 (vs 12) 0), (Z94 (vs 12) 1), (Z94 (vs 12) 2)] 29 (0, 0))]) rfl rfl rfl (by show Pick (_ ++ (_ ++ ((es 10 ++ (es 11 ++ (es 12 ++ ([])))) ++ _))) _; rw [e_10, e_11, e_12]; exact (by repeat (first | exact Z09 _ | exact Z08 | apply Pick.none | refine Z02 (by repeat (first | exact Take.head _ _ | apply Z0z)) ?_))) (by show [(90, vs 10), (79, vs 11), (91, vs 12)] = _; rw [h_10, h_11, h_12] <;> rfl)
         ·
          rintro vs es hb ⟨⟨h_0, e_0⟩, ⟨h_1, e_1⟩, ⟨h_2, e_2⟩, ⟨h_3, e_3⟩, ⟨h_4, e_4⟩, ⟨h_5, e_5⟩, ⟨h_6, e_6⟩, ⟨h_7, e_7⟩, ⟨h_8, e_8⟩, ⟨h_9, e_9⟩, ⟨ob206, n207, c208, j209, ob210, n211, c212, j213, ob214, n215, c216, j217, h_10, e_10, hn218, hc219, hj220, hz221, hn222, hc223, hj224, hz225, hn226, hc227, hj228, hz229⟩, ⟨q_11, e_11⟩, ⟨q_12, e_12⟩, ⟨h_13, e_13⟩, e_14, -⟩ hHR; obtain rfl : hb = [(some b159, .cells #[(Z94 (vs 12) 0), (Z94 (vs 12) 1), (Z94 (vs 12) 2)] 29 (0, 0))] := hHR; have h_11 : vs 11 = .tuple #[.agg #[.slice (sb ob206) n207 c208, .slice (sb ob210) n211 c212, .slice (sb ob214) n215 c216], .int .i64 r204] := by refine Eq.trans q_11 ?_; show vs 10 = _; rw [h_10] <;> rfl
          have h_12 : vs 12 = .agg #[.slice (sb ob206) n207 c208, .slice (sb ob210) n211 c212, .slice (sb ob214) n215 c216] := by refine Eq.trans q_12 ?_; show (Zls (vs 11) 0) = _; rw [h_11] <;> rfl
          refine Z0j (D := [(80, vs 0), (81, vs 1), (82, vs 2), (83, vs 3), (84, vs 4), (85, vs 5), (86, vs 6), (87, vs 7), (88, vs 8), (89, vs 9), (90, vs 10), (79, vs 11), (91, vs 12), (92, vs 13)]) rfl ?_; refine Z1y (H := [(some b159, .cells #[(Z94 (vs 12) 0), (Z94 (vs 12) 1), (Z94 (vs 12) 2)] 29 (0, 0)), (some each2_0_k, .cells #[.int .i64 N101, .int .i64 S102, .int .i64 T103, .slice (sb ob8) n9 c10, .slice (sb ob12) n13 c14, .slice (sb ob16) n17 c18, .slice (sb ob20) n21 c22, .slice (sb ob24) n25 c26, .slice (sb ob28) n29 c30] 32 (0, 0)), (ob8, .cells (arr (intC .i64) r5.First j11).toArray 3 (0, 0)), (ob12, .cells (arr (intC .i64) r5.Head j15).toArray 3 (0, 0)), (ob16, .cells (arr (intC .i64) r5.Rev j19).toArray 3 (0, 0)), (ob20, .cells (arr (intC .i64) r5.Cap j23).toArray 2 (0, 0)), (ob24, .cells (arr (intC .i64) r5.Arc j27).toArray 3 (0, 0)), (ob28, .cells (arr boolC r5.Back j31).toArray 4 (0, 0)), (some each2_1_k, .cells #[.slice (sb ob107) n105 c106, .slice (sb ob117) n115 c116, .slice (sb ob127) n125 c126] 29 (0, 0)), (ob107, .cells (arr (intC .i64) Res104 j108).toArray 2 (0, 0)), (ob117, .cells (arr (intC .i64) Ex114 j118).toArray 2 (0, 0)), (ob127, .cells (arr (intC .i64) H124 j128).toArray 3 (0, 0)), (some b62, .cells #[.int .i64 r5.N, .int .i64 r5.S, .int .i64 r5.T, .slice (sb ob8) n9 c10, .slice (sb ob12) n13 c14, .slice (sb ob16) n17 c18, .slice (sb ob20) n21 c22, .slice (sb ob24) n25 c26, .slice (sb ob28) n29 c30] 32 (0, 0)), (some b94, .cells #[.slice (sb ob107) n105 c106, .slice (sb ob117) n115 c116, .slice (sb ob127) n125 c126] 29 (0, 0)), (ob140, .cells (arr (intC .i64) r137 j143).toArray 3 (0, 0)), (ob144, .cells (arr (intC .i64) r138 j147).toArray 3 (0, 0)), (ob206, .cells (arr (intC .i64) r203.Res j209).toArray 2 (0, 0)), (ob210, .cells (arr (intC .i64) r203.Ex j213).toArray 2 (0, 0)), (ob214, .cells (arr (intC .i64) r203.H j217).toArray 3 (0, 0))]) (by show _ ++ (_ ++ (es 0 ++ (es 1 ++ (es 2 ++ (es 3 ++ (es 4 ++ (es 5 ++ (es 6 ++ (es 7 ++ (es 8 ++ (es 9 ++ (es 10 ++ (es 11 ++ (es 12 ++ (es 13 ++ (es 14 ++ ([]))))))))))))))))) = _; rw [e_0, e_1, e_2, e_3, e_4, e_5, e_6, e_7, e_8, e_9, e_10, e_11, e_12, e_13, e_14]; rfl) ?_; rw [h_0, h_1, h_2, h_3, h_4, h_5, h_6, h_7, h_8, h_9, h_10, h_11, h_12, h_13]; refine Z1y (H := [(some b159, .cells #[.slice (sb ob206) n207 c208, .slice (sb ob210) n211 c212, .slice (sb ob214) n215 c216] 29 (0, 0)), (some each2_0_k, .cells #[.int .i64 N101, .int .i64 S102, .int .i64 T103, .slice (sb ob8) n9 c10, .slice (sb ob12) n13 c14, .slice (sb ob16) n17 c18, .slice (sb ob20) n21 c22, .slice (sb ob24) n25 c26, .slice (sb ob28) n29 c30] 32 (0, 0)), (ob8, .cells (arr (intC .i64) r5.First j11).toArray 3 (0, 0)), (ob12, .cells (arr (intC .i64) r5.Head j15).toArray 3 (0, 0)), (ob16, .cells (arr (intC .i64) r5.Rev j19).toArray 3 (0, 0)), (ob20, .cells (arr (intC .i64) r5.Cap j23).toArray 2 (0, 0)), (ob24, .cells (arr (intC .i64) r5.Arc j27).toArray 3 (0, 0)), (ob28, .cells (arr boolC r5.Back j31).toArray 4 (0, 0)), (some each2_1_k, .cells #[.slice (sb ob107) n105 c106, .slice (sb ob117) n115 c116, .slice (sb ob127) n125 c126] 29 (0, 0)), (ob107, .cells (arr (intC .i64) Res104 j108).toArray 2 (0, 0)), (ob117, .cells (arr (intC .i64) Ex114 j118).toArray 2 (0, 0)), (ob127, .cells (arr (intC .i64) H124 j128).toArray 3 (0, 0)), (some b62, .cells #[.int .i64 r5.N, .int .i64 r5.S, .int .i64 r5.T, .slice (sb ob8) n9 c10, .slice (sb ob12) n13 c14, .slice (sb ob16) n17 c18, .slice (sb ob20) n21 c22, .slice (sb ob24) n25 c26, .slice (sb ob28) n29 c30] 32 (0, 0)), (some b94, .cells #[.slice (sb ob107) n105 c106, .slice (sb ob117) n115 c116, .slice (sb ob127) n125 c126] 29 (0, 0)), (ob140, .cells (arr (intC .i64) r137 j143).toArray 3 (0, 0)), (ob144, .cells (arr (intC .i64) r138 j147).toArray 3 (0, 0)), (ob206, .cells (arr (intC .i64) r203.Res j209).toArray 2 (0, 0)), (ob210, .cells (arr (intC .i64) r203.Ex j213).toArray 2 (0, 0)), (ob214, .cells (arr (intC .i64) r203.H j217).toArray 3 (0, 0))]) rfl ?_; clear h_13 h_12 h_11 h_10 h_9 h_8 h_7 h_6 h_5 h_4 h_3 h_2 h_1 h_0 q_11 q_12 e_0 e_1 e_2 e_3 e_4 e_5 e_6 e_7 e_8 e_9 e_10 e_11 e_12 e_13 e_14; refine Z05 rfl rfl rfl rfl ?_; refine Z04 ?_; refine Z0h ?_; exact Zof r203.Res n207 c208 ob206 j209 r203.Ex n211 c212 ob210 j213 r203.H n215 c216 ob214 j217 r204 ⟨H, hn218, hc219, hj220, hz221, hn222, hc223, hj224, hz225, hn226, hc227, hj228, hz229⟩ (Z00 rfl (Z00 rfl (Z00 rfl (Z00 rfl (Z00 rfl (Z00 rfl (Z00 rfl (Z00 rfl Z0a)))))))) (Z02 tk1 (Z02 tk1 (Z02 tk1 (Z02 tk1 (Z02 tk1 (Z02 tk1 (Z02 tk1 (Z02 tk1 (Z02 tk1 (Z02 tk1 (Z02 tk1 (Z02 tk1 (Z02 tk1 (Z02 tk0 (Z02 tk2 (Z02 tk2 (Z02 tk2 Z08)))))))))))))))))
        · refine Z11 rfl g199 ?_; refine Z0c ?_; refine Z03 (ll := [0]) rfl ?_; refine Z05 rfl rfl rfl rfl ?_; refine Z04 ?_; refine Z01 ?_; refine Z0p (Z00 (t := 6) rfl Z0a) ?_; refine T.ret ?_; refine Z0n ?_; refine Z0f ?_; refine Z0n ?_; refine Z0f ?_; have H := Z0w H C_1 ▸ K_1; refine Z0f ?_; refine Z0n ?_; refine Z0f ?_; obtain ⟨rfl, rfl, rfl⟩ := ret3 H; exact Z0y rfl rfl rfl rfl (Res.tmp rfl) (Z02 tk0 (Z02 tk0 (Z02 tk0 (Z02 tk0 (Z02 tk0 (Z02 tk0 (Z02 tk0 (Z02 tk0 (Z02 tk0 (Z02 tk0 (Z02 tk0 Z08))))))))))) ⟨ob8, n9, c10, j11, ob12, n13, c14, j15, ob16, n17, c18, j19, ob20, n21, c22, j23, ob24, n25, c26, j27, ob28, n29, c30, j31, ob107, n105, c106, j108, ob117, n115, c116, j118, ob127, n125, c126, j128, rfl, rfl, hn32, hc33, hj34, hz35, hn36, hc37, hj38, hz39, hn40, hc41, hj42, hz43, hn44, hc45, hj46, hz47, hn48, hc49, hj50, hz51, hn52, hc53, hj54, hz55, hn109, hc110, hj111, hz112, hn119, hc120, hj121, hz122, hn129, hc130, hj131, hz132⟩
     ·
      rintro Res233 n234 c235 ob236 j237 Ex243 n244 c245 ob246 j247 H253 n254 c255 ob256 j257 f263 ⟨H, hn238, hc239, hj240, hz241, hn248, hc249, hj250, hz251, hn258, hc259, hj260, hz261⟩; unfold Z2g at H; refine Z0c ?_; refine Z0c ?_; rcases Z0i H with ⟨g264, H⟩ | ⟨g264, H⟩
      · refine Z03 (ll := [0, 1, 2, 3, 4, 5, 6, 7, 8, 9]) rfl ?_; refine Z06 rfl rfl rfl rfl ?_; refine Z0q rfl rfl rfl rfl rfl rfl ?_; refine Z06 rfl rfl rfl rfl ?_; refine Z0r (t := 95) (b' := true) rfl (decide_eq_true g264) ?_; refine Z0b rfl rfl rfl rfl ?_; refine Z0b rfl rfl rfl rfl ?_; refine Z0b rfl rfl rfl rfl ?_; refine Z0b rfl rfl rfl rfl ?_; refine Z0b rfl rfl rfl rfl ?_; refine Z0b rfl rfl rfl rfl ?_; refine Z0v rfl rfl rfl rfl rfl ?_; refine Z04 ?_; refine Z01 ?_; refine Z1a rfl rfl ?_; refine Z0c ?_; refine Z03 (ll := [0]) rfl ?_; refine Z05 rfl rfl rfl rfl ?_; refine Z04 ?_; refine Z01 ?_; refine Z0p (Z00 (t := 6) rfl Z0a) ?_; refine T.ret ?_; refine Z0f ?_; refine Z0n ?_; refine Z0f ?_; have H := Z0w H C_1 ▸ K_1; refine Z0f ?_; refine Z0n ?_; refine Z0f ?_; obtain ⟨rfl, rfl, rfl⟩ := ret3 H; exact Z0y rfl rfl rfl rfl (Res.tmp rfl) (Z02 tk0 (Z02 tk0 (Z02 tk0 (Z02 tk0 (Z02 tk0 (Z02 tk0 (Z02 tk0 (Z02 tk0 (Z02 tk0 (Z02 tk0 (Z02 tk0 Z08))))))))))) ⟨ob8, n9, c10, j11, ob12, n13, c14, j15, ob16, n17, c18, j19, ob20, n21, c22, j23, ob24, n25, c26, j27, ob28, n29, c30, j31, ob107, n105, c106, j108, ob117, n115, c116, j118, ob127, n125, c126, j128, rfl, rfl, hn32, hc33, hj34, hz35, hn36, hc37, hj38, hz39, hn40, hc41, hj42, hz43, hn44, hc45, hj46, hz47, hn48, hc49, hj50, hz51, hn52, hc53, hj54, hz55, hn109, hc110, hj111, hz112, hn119, hc120, hj121, hz122, hn129, hc130, hj131, hz132⟩
      ·
       obtain ⟨⟨r265, r266, r267⟩, e268, H⟩ := Z0k H; refine Z03 (ll := [0, 1, 2, 3, 4, 5, 6, 7, 8, 9]) rfl ?_; refine Z06 rfl rfl rfl rfl ?_; refine Z0q rfl rfl rfl rfl rfl rfl ?_; refine Z06 rfl rfl rfl rfl ?_; refine Z0r (t := 95) (b' := false) rfl (decide_eq_false g264) ?_; refine Z06 rfl rfl rfl rfl ?_; refine Z0l rfl rfl rfl rfl Z3b mm11 rfl ?_; refine Z0l rfl rfl rfl rfl Z2t Zra rfl ?_; refine Z0l rfl rfl rfl rfl Z2t mm13 rfl ?_; refine Zcx Ze3 rfl rfl rfl rfl rfl (Z0g tk0 (Z0g tk6 (Gone.refl _))) rfl (fun wc hwc => Zcm (c0 := r5) (was1 := (Pre.mk Res104 Ex114 H124)) (p2 := (Pre.mk Res233 Ex243 H253)) (c3 := (Csr.mk N101 S102 T103 r5.First r5.Head r5.Rev r5.Cap r5.Arc r5.Back)) (c4 := (Pre.mk Res104 Ex114 H124)) wc (hwc.self (Z02 tk0 (Z02 tk6 Z08)) rfl) (hwc.rsM (f := (intC .i64)) (s := 1) (xs := r5.First) (j := j11) (fun _ => rfl) (Z0g tk0 (Z0g tk6 (Gone.refl _))) rfl mm0 hn32 hc33 hz35) (hwc.rsM (f := (intC .i64)) (s := 1) (xs := r5.Head) (j := j15) (fun _ => rfl) (Z0g tk0 (Z0g tk6 (Gone.refl _))) rfl mm1 hn36 hc37 hz39) (hwc.rsM (f := (intC .i64)) (s := 1) (xs := r5.Rev) (j := j19) (fun _ => rfl) (Z0g tk0 (Z0g tk6 (Gone.refl _))) rfl mm2 hn40 hc41 hz43) (hwc.rsM (f := (intC .i64)) (s := 1) (xs := r5.Cap) (j := j23) (fun _ => rfl) (Z0g tk0 (Z0g tk6 (Gone.refl _))) rfl mm3 hn44 hc45 hz47) (hwc.rsM (f := (intC .i64)) (s := 1) (xs := r5.Arc) (j := j27) (fun _ => rfl) (Z0g tk0 (Z0g tk6 (Gone.refl _))) rfl mm4 hn48 hc49 hz51) (hwc.rsM (f := boolC) (s := 1) (xs := r5.Back) (j := j31) (fun _ => rfl) (Z0g tk0 (Z0g tk6 (Gone.refl _))) rfl mm5 hn52 hc53 hz55) (hwc.rsM (f := (intC .i64)) (s := 1) (xs := Res104) (j := j108) (fun _ => rfl) (Z0g tk0 (Z0g tk6 (Gone.refl _))) rfl mm6 hn109 hc110 hz112) (hwc.rsM (f := (intC .i64)) (s := 1) (xs := Ex114) (j := j118) (fun _ => rfl) (Z0g tk0 (Z0g tk6 (Gone.refl _))) rfl mm7 hn119 hc120 hz122) (hwc.rsM (f := (intC .i64)) (s := 1) (xs := H124) (j := j128) (fun _ => rfl) (Z0g tk0 (Z0g tk6 (Gone.refl _))) rfl mm8 hn129 hc130 hz132) (hwc.rsM (f := (intC .i64)) (s := 1) (xs := Res233) (j := j237) (fun _ => rfl) (Z0g tk0 (Z0g tk6 (Gone.refl _))) rfl Zra hn238 hc239 hz241) (hwc.rsM (f := (intC .i64)) (s := 1) (xs := Ex243) (j := j247) (fun _ => rfl) (Z0g tk0 (Z0g tk6 (Gone.refl _))) rfl mm13 hn248 hc249 hz251) (hwc.rsM (f := (intC .i64)) (s := 1) (xs := H253) (j := j257) (fun _ => rfl) (Z0g tk0 (Z0g tk6 (Gone.refl _))) rfl mm14 hn258 hc259 hz261) (hwc.rsM (f := (intC .i64)) (s := 1) (xs := r5.First) (j := j11) (fun _ => rfl) (Z0g tk0 (Z0g tk6 (Gone.refl _))) rfl mm0 hn32 hc33 hz35) (hwc.rsM (f := (intC .i64)) (s := 1) (xs := r5.Head) (j := j15) (fun _ => rfl) (Z0g tk0 (Z0g tk6 (Gone.refl _))) rfl mm1 hn36 hc37 hz39) (hwc.rsM (f := (intC .i64)) (s := 1) (xs := r5.Rev) (j := j19) (fun _ => rfl) (Z0g tk0 (Z0g tk6 (Gone.refl _))) rfl mm2 hn40 hc41 hz43) (hwc.rsM (f := (intC .i64)) (s := 1) (xs := r5.Cap) (j := j23) (fun _ => rfl) (Z0g tk0 (Z0g tk6 (Gone.refl _))) rfl mm3 hn44 hc45 hz47) (hwc.rsM (f := (intC .i64)) (s := 1) (xs := r5.Arc) (j := j27) (fun _ => rfl) (Z0g tk0 (Z0g tk6 (Gone.refl _))) rfl mm4 hn48 hc49 hz51) (hwc.rsM (f := boolC) (s := 1) (xs := r5.Back) (j := j31) (fun _ => rfl) (Z0g tk0 (Z0g tk6 (Gone.refl _))) rfl mm5 hn52 hc53 hz55) (hwc.rsM (f := (intC .i64)) (s := 1) (xs := Res104) (j := j108) (fun _ => rfl) (Z0g tk0 (Z0g tk6 (Gone.refl _))) rfl mm6 hn109 hc110 hz112) (hwc.rsM (f := (intC .i64)) (s := 1) (xs := Ex114) (j := j118) (fun _ => rfl) (Z0g tk0 (Z0g tk6 (Gone.refl _))) rfl mm7 hn119 hc120 hz122) (hwc.rsM (f := (intC .i64)) (s := 1) (xs := H124) (j := j128) (fun _ => rfl) (Z0g tk0 (Z0g tk6 (Gone.refl _))) rfl mm8 hn129 hc130 hz132) e268) ?_; rintro _ _ ⟨rfl, rfl⟩; refine TO.not rfl rfl rfl rfl ?_; refine Z0x rfl rfl rfl rfl rfl ?_; refine Z04 ?_; refine Z01 ?_; rcases Z0i H with ⟨g269, H⟩ | ⟨g269, H⟩
       · refine Z1a rfl g269 ?_; refine Z0c ?_; refine Z03 (ll := [0]) rfl ?_; refine Z05 rfl rfl rfl rfl ?_; refine Z04 ?_; refine Z01 ?_; refine Z0p (Z00 (t := 6) rfl Z0a) ?_; refine T.ret ?_; refine Z0f ?_; refine Z0n ?_; refine Z0f ?_; have H := Z0w H C_1 ▸ K_1; refine Z0f ?_; refine Z0n ?_; refine Z0f ?_; obtain ⟨rfl, rfl, rfl⟩ := ret3 H; exact Z0y rfl rfl rfl rfl (Res.tmp rfl) (Z02 tk0 (Z02 tk1 (Z02 tk1 (Z02 tk1 (Z02 tk1 (Z02 tk1 (Z02 tk1 (Z02 tk0 (Z02 tk6 (Z02 tk6 (Z02 tk6 Z08))))))))))) ⟨ob8, n9, c10, j11, ob12, n13, c14, j15, ob16, n17, c18, j19, ob20, n21, c22, j23, ob24, n25, c26, j27, ob28, n29, c30, j31, ob236, n234, c235, j237, ob246, n244, c245, j247, ob256, n254, c255, j257, rfl, rfl, hn32, hc33, hj34, hz35, hn36, hc37, hj38, hz39, hn40, hc41, hj42, hz43, hn44, hc45, hj46, hz47, hn48, hc49, hj50, hz51, hn52, hc53, hj54, hz55, hn238, hc239, hj240, hz241, hn248, hc249, hj250, hz251, hn258, hc259, hj260, hz261⟩
       · refine Z1k rfl (Bool.eq_false_iff.2 g269) ?_; refine T.skip ?_; refine Z01 ?_; refine Z03 (ll := [0, 1]) rfl ?_; refine Z0l rfl rfl rfl rfl Z2t mm13 rfl ?_; refine Z15 rfl rfl rfl rfl Zfc Z61 rfl rfl rfl ?_; refine Z04 ?_; refine Z0h ?_; refine Z01 ?_; obtain ⟨g270, H⟩ := Z0e H; refine Z03 (ll := [0, 1]) rfl ?_; refine Z1b g270 rfl rfl rfl rfl rfl ?_; refine Z06 rfl rfl rfl rfl ?_; refine Z04 ?_; have H := Z19 H C_1; exact Zp5 n_1 r266.N r266.S r266.T Res233 n234 c235 ob236 j237 Ex243 n244 c245 ob246 j247 H253 n254 c255 ob256 j257 (x134 + 1) ⟨H, hn238, hc239, hj240, hz241, hn248, hc249, hj250, hz251, hn258, hc259, hj260, hz261⟩ (Nat.lt_succ_self _) (Z00 rfl (Z00 rfl (Z00 rfl (Z00 rfl (Z00 rfl (Z00 rfl Z0a)))))) (Z02 tk1 (Z02 tk2 (Z02 tk2 (Z02 tk2 (Z02 tk2 (Z02 tk2 (Z02 tk2 (Z02 tk1 (Z02 tk6 (Z02 tk6 (Z02 tk6 (Z02 tk4 (Z02 tk0 Z08)))))))))))))
    · refine Z11 rfl g135 ?_; refine T.exit ?_; refine Z0o ?_; have H := Z0w H C_1 ▸ K_1; refine Z0o ?_; refine Z12 ?_; exact X.metE18 N101 S102 T103 Res104 n105 c106 ob107 j108 Ex114 n115 c116 ob117 j118 H124 n125 c126 ob127 j128 ⟨H, hn109, hc110, hj111, hz112, hn119, hc120, hj121, hz122, hn129, hc130, hj131, hz132⟩ Z0a (Z02 tk0 (Z02 tk0 (Z02 tk0 (Z02 tk0 (Z02 tk0 (Z02 tk0 (Z02 tk0 (Z02 tk0 (Z02 tk0 (Z02 tk0 (Z02 tk0 Z08)))))))))))
   · rintro N271 S272 T273 Res274 n275 c276 ob277 j278 Ex284 n285 c286 ob287 j288 H294 n295 c296 ob297 j298 ⟨H, hn279, hc280, hj281, hz282, hn289, hc290, hj291, hz292, hn299, hc300, hj301, hz302⟩; unfold Z36 at H; refine Z0c ?_; refine Z03 (ll := [0]) rfl ?_; refine Z05 rfl rfl rfl rfl ?_; refine Z04 ?_; refine Z01 ?_; refine T.ret ?_; obtain ⟨rfl, rfl, rfl⟩ := ret3 H; exact Z0y rfl rfl rfl rfl (Res.tmp rfl) (Z02 tk0 (Z02 tk0 (Z02 tk0 (Z02 tk0 (Z02 tk0 (Z02 tk0 (Z02 tk0 (Z02 tk0 (Z02 tk0 (Z02 tk0 (Z02 tk0 Z08))))))))))) ⟨ob8, n9, c10, j11, ob12, n13, c14, j15, ob16, n17, c18, j19, ob20, n21, c22, j23, ob24, n25, c26, j27, ob28, n29, c30, j31, ob277, n275, c276, j278, ob287, n285, c286, j288, ob297, n295, c296, j298, rfl, rfl, hn32, hc33, hj34, hz35, hn36, hc37, hj38, hz39, hn40, hc41, hj42, hz43, hn44, hc45, hj46, hz47, hn48, hc49, hj50, hz51, hn52, hc53, hj54, hz55, hn279, hc280, hj281, hz282, hn289, hc290, hj291, hz292, hn299, hc300, hj301, hz302⟩
theorem w_acequialaw07_PreEnds {n0 : Net} {moves1 : List Int} {n0f3_b : Option Addr} {n0f3_n : Nat} {n0f3_c : Nat} {moves1_b : Option Addr} {moves1_n : Nat} {moves1_c : Nat} (w : World) (h_n0f3 : RS w [] Z93 3 n0f3_b n0f3_n n0f3_c n0.Arcs) (h_moves1 : RS w [] (intC .u8) 1 moves1_b moves1_n moves1_c moves1) {r0 : Bool} (H : Z55 n0 moves1 = some r0) : Fnc Try.prog 13 #[.agg #[.int .i64 n0.N, .int .i64 n0.S, .int .i64 n0.T, .slice n0f3_b n0f3_n n0f3_c], .slice moves1_b moves1_n moves1_c] w [] (fun v N => v = .bool r0 ∧ N = []) := by
 unfold Z55 at H; refine Z0u (vs := [.agg #[.int .i64 n0.N, .int .i64 n0.S, .int .i64 n0.T, .slice n0f3_b n0f3_n n0f3_c], .slice moves1_b moves1_n moves1_c]) Try.func13 rfl rfl (Inv.refl w) ?_; refine Z0c ?_; refine Z03 (ll := [0, 1]) rfl ?_; refine Z1c rfl rfl rfl rfl ?_; intro b1; refine Z05 rfl rfl rfl rfl ?_; refine Z04 ?_; refine Z01 ?_; refine Z0c ?_; obtain ⟨r3, e4, H⟩ := Z0k H; refine Z03 (ll := [0, 1, 2]) rfl ?_; refine Z0l rfl rfl rfl rfl Z4y mm0 rfl ?_; refine Z0m Zj7 rfl rfl rfl rfl (fun wc hwc => Zg5 (n0 := n0) (verts1 := 10) (arcs2 := 24) wc (h_n0f3.mono hwc) e4) ?_; rintro _ _ ⟨ob5, n6, c7, j8, rfl, rfl, hn9, hc10, hj11, hz12⟩; refine Z15 rfl rfl rfl rfl tk1 Zit rfl rfl rfl ?_; refine Z04 ?_; refine Z01 ?_; refine Z0c ?_; obtain ⟨g14, H⟩ := Z0e H; refine Z03 (ll := [0, 1]) rfl ?_; refine Zdj g14 rfl rfl rfl rfl rfl Z9l Zck Zjj Zjp rfl ?_; intro b15; refine Z05 rfl rfl rfl rfl ?_; refine Z04 ?_; refine Z01 ?_; refine Z0c ?_; refine Z03 (ll := [0, 1, 2]) rfl ?_; refine Z06 rfl rfl rfl rfl ?_; refine Z06 rfl rfl rfl rfl ?_; refine TO.copyO (f := (intC .u8)) (s := 1) (xs := (List.replicate ((4000 : Int).toNat) (0 : Int))) (ob := some b15) (j := ([])) (ys := moves1) (fun _ => rfl) (fun _ => rfl) List.length_replicate (Nat.le_refl _) Z4b rfl rfl rfl rfl rfl Z9l Zck tk0 (fun wc hwc => (h_moves1.mono hwc)) ?_; refine Z04 ?_; refine Z01 ?_; refine Z0p (Z00 (t := 2) rfl (Z00 (t := 5) rfl Z0a)) ?_; refine Z0c ?_; refine Z03 (ll := [0]) rfl ?_; refine Z1g rfl rfl rfl Ze1 ?_; intro b17; refine Z04 ?_; refine Z01 ?_; refine Z0c ?_; refine Z03 (ll := [0]) rfl ?_; refine Z1g rfl rfl rfl Zbt ?_; intro b19; refine Z04 ?_; refine Z01 ?_; refine Z0c ?_; refine Z0c ?_; obtain ⟨⟨r21, r22, r23⟩, e24, H⟩ := Z0k H; refine Z03 (ll := [0, 1, 2, 3, 4]) rfl ?_; refine Z0l rfl rfl rfl rfl Z4y mm3 rfl ?_; refine Z06 rfl rfl rfl rfl ?_; refine TO.makeFunc rfl rfl rfl rfl rfl ?_; refine Zja Zj1 rfl rfl rfl rfl (Z0g tk1 (Z0g tk0 (Gone.refl _))) rfl (fun wc hwc => Z95 (n0 := r3) (moves1 := (cpy (List.replicate ((4000 : Int).toNat) (0 : Int)) moves1)) wc (hwc.self (Z02 tk1 (Z02 tk0 Z08)) rfl) (hwc.rsM (f := Z93) (s := 3) (xs := r3.Arcs) (j := j8) (fun _ => rfl) (Z0g tk1 (Z0g tk0 (Gone.refl _))) rfl mm2 hn9 hc10 hz12) (hwc.rsM (f := (intC .u8)) (s := 1) (xs := (cpy (List.replicate ((4000 : Int).toNat) (0 : Int)) moves1)) (j := ([])) (fun _ => rfl) (Z0g tk1 (Z0g tk0 (Gone.refl _))) rfl mm0 (Zrj List.length_replicate) (Nat.le_refl _) Z4b) e24) ?_; rintro _ _ ⟨ob25, n26, c27, j28, ob29, n30, c31, j32, ob33, n34, c35, j36, ob37, n38, c39, j40, ob41, n42, c43, j44, ob45, n46, c47, j48, ob49, n50, c51, j52, ob53, n54, c55, j56, ob57, n58, c59, j60, rfl, rfl, hn61, hc62, hj63, hz64, hn65, hc66, hj67, hz68, hn69, hc70, hj71, hz72, hn73, hc74, hj75, hz76, hn77, hc78, hj79, hz80, hn81, hc82, hj83, hz84, hn85, hc86, hj87, hz88, hn89, hc90, hj91, hz92, hn93, hc94, hj95, hz96⟩; refine TO.not rfl rfl rfl rfl ?_; refine Z04 ?_; refine Z01 ?_; rcases Z0i H with ⟨g106, H⟩ | ⟨g106, H⟩
 · refine Z1a rfl g106 ?_; refine Z0c ?_; refine Z03 (ll := [0]) rfl ?_; refine Z05 rfl rfl rfl rfl ?_; refine Z04 ?_; refine Z01 ?_; refine Z0p (Z00 (t := 4) rfl Z0a) ?_; refine T.ret ?_; refine Z0f ?_; obtain rfl := ret1 H; exact Z0y rfl rfl rfl rfl (Res.tmp rfl) Z08 ⟨rfl, rfl⟩
 ·
  refine Z1k rfl (Bool.eq_false_iff.2 g106) ?_; refine T.skip ?_; refine Z01 ?_; refine Z0c ?_; refine Z0c ?_; refine Z03 (ll := [0, 1, 2, 3, 4, 5]) rfl ?_; refine Z07 rfl rfl rfl rfl Zcv ?_; refine Z0d rfl rfl rfl rfl Zbu mm7 rfl ?_; refine Z1h (xs := r23.Ex) hn89 rfl rfl rfl rfl rfl Ze2 ?_; refine Z07 rfl rfl rfl rfl Zgs ?_; refine Z0d rfl rfl rfl rfl Za9 Zra rfl ?_; refine Z0q rfl rfl rfl rfl rfl rfl ?_; refine Z04 ?_; refine Z01 ?_; refine Z0p (Z00 (t := 2) rfl (Z00 (t := 6) rfl (Z00 (t := 7) rfl (Z00 (t := 32) rfl Z0a)))) ?_; rcases Z0i H with ⟨g107, H⟩ | ⟨g107, H⟩
  · refine Z10 rfl g107 ?_; refine Z0c ?_; refine Z03 (ll := [0]) rfl ?_; refine Z05 rfl rfl rfl rfl ?_; refine Z04 ?_; refine Z01 ?_; refine T.ret ?_; refine Z0f ?_; obtain rfl := ret1 H; exact Z0y rfl rfl rfl rfl (Res.tmp rfl) Z08 ⟨rfl, rfl⟩
  ·
   refine Z11 rfl g107 ?_; refine T.skip ?_; refine Z01 ?_; refine Z0c ?_; refine Z0c ?_; obtain ⟨r108, e109, H⟩ := Z0k H; refine Z03 (ll := [0, 1, 2, 3, 4]) rfl ?_; refine Z0l rfl rfl rfl rfl Z3b mm0 rfl ?_; refine Z0l rfl rfl rfl rfl Z2t mm7 rfl ?_; refine Z0m Zj4 rfl rfl rfl rfl (fun wc hwc => Zgv (c0 := r22) (p1 := r23) wc (hwc.rs (f := (intC .i64)) (s := 1) (xs := r22.First) (j := j28) (fun _ => rfl) mm1 hn61 hc62 hz64) (hwc.rs (f := (intC .i64)) (s := 1) (xs := r22.Head) (j := j32) (fun _ => rfl) mm2 hn65 hc66 hz68) (hwc.rs (f := (intC .i64)) (s := 1) (xs := r22.Rev) (j := j36) (fun _ => rfl) mm3 hn69 hc70 hz72) (hwc.rs (f := (intC .i64)) (s := 1) (xs := r22.Cap) (j := j40) (fun _ => rfl) mm4 hn73 hc74 hz76) (hwc.rs (f := (intC .i64)) (s := 1) (xs := r22.Arc) (j := j44) (fun _ => rfl) mm5 hn77 hc78 hz80) (hwc.rs (f := boolC) (s := 1) (xs := r22.Back) (j := j48) (fun _ => rfl) mm6 hn81 hc82 hz84) (hwc.rs (f := (intC .i64)) (s := 1) (xs := r23.Res) (j := j52) (fun _ => rfl) mm8 hn85 hc86 hz88) (hwc.rs (f := (intC .i64)) (s := 1) (xs := r23.Ex) (j := j56) (fun _ => rfl) mm9 hn89 hc90 hz92) (hwc.rs (f := (intC .i64)) (s := 1) (xs := r23.H) (j := j60) (fun _ => rfl) Zrb hn93 hc94 hz96) e109) ?_; rintro _ _ ⟨ob110, n111, c112, j113, rfl, rfl, hn114, hc115, hj116, hz117⟩; refine Z1h (xs := r108) hn114 rfl rfl rfl rfl rfl Z3a ?_; refine Z0q rfl rfl rfl rfl rfl rfl ?_; refine Z04 ?_; refine Z01 ?_; rcases Z0i H with ⟨g119, H⟩ | ⟨g119, H⟩
   · refine Z10 rfl g119 ?_; refine Z0c ?_; obtain ⟨r120, e121, H⟩ := Z0k H; refine Z03 (ll := [0, 1]) rfl ?_; refine Z0m Ze4 rfl rfl rfl rfl (fun wc hwc => Zb2  wc  e121) ?_; rintro _ _ ⟨rfl, rfl⟩; refine Z05 rfl rfl rfl rfl ?_; refine Z04 ?_; refine Z01 ?_; refine Z0p (Z00 (t := 4) rfl Z0a) ?_; refine T.ret ?_; refine Z0f ?_; obtain rfl := ret1 H; exact Z0y rfl rfl rfl rfl (Res.tmp rfl) Z08 ⟨rfl, rfl⟩
   ·
    refine Z11 rfl g119 ?_; refine T.skip ?_; refine Z01 ?_; refine Z0c ?_; obtain ⟨⟨r122, r123⟩, e124, H⟩ := Z0k H; refine Z03 (ll := [0, 1, 2, 3, 4, 5, 6, 7, 8, 9, 10, 11]) rfl ?_; refine Z0l rfl rfl rfl rfl Z3b mm1 rfl ?_; refine Z07 rfl rfl rfl rfl Zgp ?_; refine Z0d rfl rfl rfl rfl Zbu mm8 rfl ?_; refine Z07 rfl rfl rfl rfl Zgq ?_; refine Z0d rfl rfl rfl rfl Zis mm13 rfl ?_; refine Z1h (xs := r3.Arcs) hn9 rfl rfl rfl rfl rfl Ziu ?_; refine Z0m Ziw rfl rfl rfl rfl (fun wc hwc => Zju (c0 := r22) (res1 := r23.Res) (arcs2 := (r3.Arcs.length : Int)) wc (hwc.rs (f := (intC .i64)) (s := 1) (xs := r22.First) (j := j28) (fun _ => rfl) mm2 hn61 hc62 hz64) (hwc.rs (f := (intC .i64)) (s := 1) (xs := r22.Head) (j := j32) (fun _ => rfl) mm3 hn65 hc66 hz68) (hwc.rs (f := (intC .i64)) (s := 1) (xs := r22.Rev) (j := j36) (fun _ => rfl) mm4 hn69 hc70 hz72) (hwc.rs (f := (intC .i64)) (s := 1) (xs := r22.Cap) (j := j40) (fun _ => rfl) mm5 hn73 hc74 hz76) (hwc.rs (f := (intC .i64)) (s := 1) (xs := r22.Arc) (j := j44) (fun _ => rfl) mm6 hn77 hc78 hz80) (hwc.rs (f := boolC) (s := 1) (xs := r22.Back) (j := j48) (fun _ => rfl) mm7 hn81 hc82 hz84) (hwc.rs (f := (intC .i64)) (s := 1) (xs := r23.Res) (j := j52) (fun _ => rfl) mm9 hn85 hc86 hz88) e124) ?_; rintro _ _ ⟨ob125, n126, c127, j128, rfl, rfl, hn129, hc130, hj131, hz132⟩; refine Z06 rfl rfl rfl rfl ?_; refine TO.extract rfl rfl rfl rfl rfl ?_; refine TO.extract rfl rfl rfl rfl rfl ?_; refine Z05 rfl rfl rfl rfl ?_; refine Z05 rfl rfl rfl rfl ?_; refine Z04 ?_; refine Z01 ?_; refine Z0p (Z00 (t := 2) rfl (Z00 (t := 7) rfl (Z00 (t := 8) rfl (Z00 (t := 9) rfl Z0a)))) ?_; refine Z0c ?_; obtain ⟨⟨r134, r135⟩, e136, H⟩ := Z0k H; refine Z03 (ll := [0, 1, 2, 3, 4, 5, 6, 7]) rfl ?_; refine Z0l rfl rfl rfl rfl Z4y mm14 rfl ?_; refine Z06 rfl rfl rfl rfl ?_; refine Z0m Zj0 rfl rfl rfl rfl (fun wc hwc => Zlp (n0 := r3) (f1 := r122) wc (hwc.rs (f := Z93) (s := 3) (xs := r3.Arcs) (j := j8) (fun _ => rfl) mm15 hn9 hc10 hz12) (hwc.rs (f := (intC .i64)) (s := 1) (xs := r122) (j := j128) (fun _ => rfl) mm0 hn129 hc130 hz132) e136) ?_; rintro _ _ ⟨rfl, rfl⟩; refine Z06 rfl rfl rfl rfl ?_; refine TO.extract rfl rfl rfl rfl rfl ?_; refine TO.extract rfl rfl rfl rfl rfl ?_; refine Z05 rfl rfl rfl rfl ?_; refine Z05 rfl rfl rfl rfl ?_; refine Z04 ?_; refine Z01 ?_; refine Z0c ?_; obtain ⟨⟨r137, r138⟩, e139, H⟩ := Z0k H; refine Z03 (ll := [0, 1, 2, 3, 4, 5, 6, 7]) rfl ?_; refine Z0l rfl rfl rfl rfl Z4y mm14 rfl ?_; refine Z06 rfl rfl rfl rfl ?_; refine Z0m Ziv rfl rfl rfl rfl (fun wc hwc => w_cut_To (n0 := r3) (f1 := r122) wc (hwc.rs (f := Z93) (s := 3) (xs := r3.Arcs) (j := j8) (fun _ => rfl) mm15 hn9 hc10 hz12) (hwc.rs (f := (intC .i64)) (s := 1) (xs := r122) (j := j128) (fun _ => rfl) mm0 hn129 hc130 hz132) e139) ?_; rintro _ _ ⟨ob140, n141, c142, j143, rfl, rfl, hn144, hc145, hj146, hz147⟩; refine Z06 rfl rfl rfl rfl ?_; refine TO.extract rfl rfl rfl rfl rfl ?_; refine TO.extract rfl rfl rfl rfl rfl ?_; refine Z05 rfl rfl rfl rfl ?_; refine Z05 rfl rfl rfl rfl ?_; refine Z04 ?_; refine Z01 ?_; refine Z0p (Z00 (t := 2) rfl (Z00 (t := 7) rfl (Z00 (t := 8) rfl (Z00 (t := 9) rfl (Z00 (t := 10) rfl (Z00 (t := 11) rfl (Z00 (t := 12) rfl (Z00 (t := 13) rfl Z0a)))))))) ?_; refine Z0c ?_; obtain ⟨⟨r149, r150⟩, e151, H⟩ := Z0k H; refine Z03 (ll := [0, 1, 2, 3, 4, 5, 6, 7]) rfl ?_; refine Z0l rfl rfl rfl rfl Z4y mm15 rfl ?_; refine Z06 rfl rfl rfl rfl ?_; refine Z0m Ziz rfl rfl rfl rfl (fun wc hwc => Zqv (n0 := r3) (s1 := r137) wc (hwc.rs (f := Z93) (s := 3) (xs := r3.Arcs) (j := j8) (fun _ => rfl) mm16 hn9 hc10 hz12) (hwc.rs (f := boolC) (s := 1) (xs := r137) (j := j143) (fun _ => rfl) mm0 hn144 hc145 hz147) e151) ?_; rintro _ _ ⟨rfl, rfl⟩; refine Z06 rfl rfl rfl rfl ?_; refine TO.extract rfl rfl rfl rfl rfl ?_; refine TO.extract rfl rfl rfl rfl rfl ?_; refine Z05 rfl rfl rfl rfl ?_; refine Z05 rfl rfl rfl rfl ?_; refine Z04 ?_; refine Z01 ?_; refine Z0c ?_; refine Z03 (ll := [0, 1, 2, 3, 4, 5, 6, 7, 8, 9, 10, 11, 12, 13, 14, 15, 16, 17, 18, 19, 20, 21, 22, 23, 24, 25, 26, 27, 28, 29, 30, 31, 32, 33, 34, 35, 36, 37, 38]) rfl ?_; refine Z06 rfl rfl rfl rfl ?_; refine Z0q rfl rfl rfl rfl rfl rfl ?_; refine Z06 rfl rfl rfl rfl ?_; refine TO.join [3, 4, 5] [6, 7, 8, 9, 10, 11, 12, 13, 14, 15, 16, 17, 18, 19, 20, 21, 22, 23, 24, 25, 26, 27, 28, 29, 30, 31, 32, 33, 34, 35, 36, 37, 38] rfl 72 (fun b153 => Z35 r3 r23 r122 r134 r137 r138 r149 r150 b153 = some r0) [(2, .pointer (some ⟨b1, 0, none⟩)), (7, .pointer (some ⟨b19, 0, none⟩)), (8, .slice (sb ob125) n126 c127), (10, .int .i64 r134), (12, .slice (sb ob140) n141 c142), (13, .int .i64 r138), (14, .int .i64 r149), (15, .int .i64 r150)] ?_ ?_
    ·
     rcases Z0i H with ⟨g152, H⟩ | ⟨g152, H⟩
     · refine Z0r (t := 69) (b' := true) rfl (decide_eq_true g152) ?_; refine Z06 rfl rfl rfl rfl ?_; refine Z0q rfl rfl rfl rfl rfl rfl ?_; refine Z0v rfl rfl rfl rfl rfl ?_; refine Z04 ?_; exact Zlo (b := (decide (r135 = 0))) H (Z00 rfl (Z00 rfl (Z00 rfl (Z00 rfl (Z00 rfl (Z00 rfl (Z00 rfl (Z00 rfl (Z00 rfl Z0a)))))))))
     · refine Z0r (t := 69) (b' := false) rfl (decide_eq_false g152) ?_; refine Z0b rfl rfl rfl rfl ?_; refine Z0b rfl rfl rfl rfl ?_; refine Z0x rfl rfl rfl rfl rfl ?_; refine Z04 ?_; exact Zlo (b := false) H (Z00 rfl (Z00 rfl (Z00 rfl (Z00 rfl (Z00 rfl (Z00 rfl (Z00 rfl (Z00 rfl (Z00 rfl Z0a)))))))))
    ·
     rintro b153 H; unfold Z35 at H; refine Z06 rfl rfl rfl rfl ?_; refine TO.join [7, 8, 9] [10, 11, 12, 13, 14, 15, 16, 17, 18, 19, 20, 21, 22, 23, 24, 25, 26, 27, 28, 29, 30, 31, 32, 33, 34, 35, 36, 37, 38] rfl 76 (fun b155 => Z34 r3 r23 r122 r134 r137 r149 r150 b155 = some r0) [(2, .pointer (some ⟨b1, 0, none⟩)), (7, .pointer (some ⟨b19, 0, none⟩)), (8, .slice (sb ob125) n126 c127), (10, .int .i64 r134), (12, .slice (sb ob140) n141 c142), (14, .int .i64 r149), (15, .int .i64 r150)] ?_ ?_
     ·
      rcases Z0i H with ⟨g154, H⟩ | ⟨g154, H⟩
      · refine Z0r (t := 73) (b' := true) rfl g154 ?_; refine Z06 rfl rfl rfl rfl ?_; refine Z0q rfl rfl rfl rfl rfl rfl ?_; refine Z0v rfl rfl rfl rfl rfl ?_; refine Z04 ?_; exact Zlo (b := (decide (r138 = 0))) H (Z00 rfl (Z00 rfl (Z00 rfl (Z00 rfl (Z00 rfl (Z00 rfl (Z00 rfl (Z00 rfl Z0a))))))))
      · refine Z0r (t := 73) (b' := false) rfl (Bool.eq_false_iff.2 g154) ?_; refine Z0b rfl rfl rfl rfl ?_; refine Z0b rfl rfl rfl rfl ?_; refine Z0x rfl rfl rfl rfl rfl ?_; refine Z04 ?_; exact Zlo (b := false) H (Z00 rfl (Z00 rfl (Z00 rfl (Z00 rfl (Z00 rfl (Z00 rfl (Z00 rfl (Z00 rfl Z0a))))))))
     ·
      rintro b155 H; unfold Z34 at H; refine Z06 rfl rfl rfl rfl ?_; refine TO.join [11, 12, 13] [14, 15, 16, 17, 18, 19, 20, 21, 22, 23, 24, 25, 26, 27, 28, 29, 30, 31, 32, 33, 34, 35, 36, 37, 38] rfl 80 (fun b157 => Z33 r3 r23 r122 r134 r137 r149 b157 = some r0) [(2, .pointer (some ⟨b1, 0, none⟩)), (7, .pointer (some ⟨b19, 0, none⟩)), (8, .slice (sb ob125) n126 c127), (10, .int .i64 r134), (12, .slice (sb ob140) n141 c142), (14, .int .i64 r149)] ?_ ?_
      ·
       rcases Z0i H with ⟨g156, H⟩ | ⟨g156, H⟩
       · refine Z0r (t := 77) (b' := true) rfl g156 ?_; refine Z06 rfl rfl rfl rfl ?_; refine Z0q rfl rfl rfl rfl rfl rfl ?_; refine Z0v rfl rfl rfl rfl rfl ?_; refine Z04 ?_; exact Zlo (b := (decide (r150 = 0))) H (Z00 rfl (Z00 rfl (Z00 rfl (Z00 rfl (Z00 rfl (Z00 rfl (Z00 rfl Z0a)))))))
       · refine Z0r (t := 77) (b' := false) rfl (Bool.eq_false_iff.2 g156) ?_; refine Z0b rfl rfl rfl rfl ?_; refine Z0b rfl rfl rfl rfl ?_; refine Z0x rfl rfl rfl rfl rfl ?_; refine Z04 ?_; exact Zlo (b := false) H (Z00 rfl (Z00 rfl (Z00 rfl (Z00 rfl (Z00 rfl (Z00 rfl (Z00 rfl Z0a)))))))
      ·
       rintro b157 H; unfold Z33 at H; refine Z06 rfl rfl rfl rfl ?_; refine TO.join [15, 16, 17, 18] [19, 20, 21, 22, 23, 24, 25, 26, 27, 28, 29, 30, 31, 32, 33, 34, 35, 36, 37, 38] rfl 85 (fun b159 => Z32 r3 r23 r122 r134 r137 b159 = some r0) [(2, .pointer (some ⟨b1, 0, none⟩)), (7, .pointer (some ⟨b19, 0, none⟩)), (8, .slice (sb ob125) n126 c127), (10, .int .i64 r134), (12, .slice (sb ob140) n141 c142)] ?_ ?_
       ·
        rcases Z0i H with ⟨g158, H⟩ | ⟨g158, H⟩
        · refine Z0r (t := 81) (b' := true) rfl g158 ?_; refine Z06 rfl rfl rfl rfl ?_; refine Z06 rfl rfl rfl rfl ?_; refine Z0q rfl rfl rfl rfl rfl rfl ?_; refine Z0v rfl rfl rfl rfl rfl ?_; refine Z04 ?_; exact Zlo (b := (decide (r134 = r149))) H (Z00 rfl (Z00 rfl (Z00 rfl (Z00 rfl (Z00 rfl (Z00 rfl Z0a))))))
        · refine Z0r (t := 81) (b' := false) rfl (Bool.eq_false_iff.2 g158) ?_; refine Z0b rfl rfl rfl rfl ?_; refine Z0b rfl rfl rfl rfl ?_; refine Z0b rfl rfl rfl rfl ?_; refine Z0x rfl rfl rfl rfl rfl ?_; refine Z04 ?_; exact Zlo (b := false) H (Z00 rfl (Z00 rfl (Z00 rfl (Z00 rfl (Z00 rfl (Z00 rfl Z0a))))))
       ·
        rintro b159 H; unfold Z32 at H; refine Z06 rfl rfl rfl rfl ?_; refine TO.join [20, 21, 22, 23, 24, 25, 26, 27, 28] [29, 30, 31, 32, 33, 34, 35, 36, 37, 38] rfl 95 (fun b162 => Z31 r3 r122 r137 b162 = some r0) [(2, .pointer (some ⟨b1, 0, none⟩)), (8, .slice (sb ob125) n126 c127), (12, .slice (sb ob140) n141 c142)] ?_ ?_
        ·
         rcases Z0i H with ⟨g160, H⟩ | ⟨g160, H⟩
         · obtain ⟨g161, H⟩ := Z0e H; refine Z0r (t := 86) (b' := true) rfl g160 ?_; refine Z06 rfl rfl rfl rfl ?_; refine Z07 rfl rfl rfl rfl Zcv ?_; refine Z0d rfl rfl rfl rfl Zbu Zrb rfl ?_; refine Z07 rfl rfl rfl rfl Zgr ?_; refine Z0d rfl rfl rfl rfl Za9 mm15 rfl ?_; refine Z69 hz92 hc90 hn89 g161 rfl rfl rfl rfl rfl Ze2 Zjn ?_; refine Zaz hz92 hc90 hn89 g161 rfl rfl rfl rfl Zjl Zra ?_; refine Z0q rfl rfl rfl rfl rfl rfl ?_; refine Z0v rfl rfl rfl rfl rfl ?_; refine Z04 ?_; exact Zlo (b := (decide (r134 = (r23.Ex.getD r3.T.toNat 0)))) H (Z00 rfl (Z00 rfl (Z00 rfl (Z00 rfl Z0a))))
         · refine Z0r (t := 86) (b' := false) rfl (Bool.eq_false_iff.2 g160) ?_; refine Z0b rfl rfl rfl rfl ?_; refine Z0b rfl rfl rfl rfl ?_; refine Z0b rfl rfl rfl rfl ?_; refine Z0b rfl rfl rfl rfl ?_; refine Z0b rfl rfl rfl rfl ?_; refine Z0b rfl rfl rfl rfl ?_; refine Z0b rfl rfl rfl rfl ?_; refine Z0b rfl rfl rfl rfl ?_; refine Z0x rfl rfl rfl rfl rfl ?_; refine Z04 ?_; exact Zlo (b := false) H (Z00 rfl (Z00 rfl (Z00 rfl (Z00 rfl Z0a))))
        ·
         rintro b162 H; unfold Z31 at H; refine Z06 rfl rfl rfl rfl ?_; refine TO.join [30, 31, 32, 33, 34] [35, 36, 37, 38] rfl 101 (fun b166 => Z30 b166 = some r0) [] ?_ ?_
         ·
          rcases Z0i H with ⟨g163, H⟩ | ⟨g163, H⟩
          · obtain ⟨r164, e165, H⟩ := Z0k H; refine Z0r (t := 96) (b' := true) rfl g163 ?_; refine Z0l rfl rfl rfl rfl Z4y mm15 rfl ?_; refine Z06 rfl rfl rfl rfl ?_; refine Z06 rfl rfl rfl rfl ?_; refine Z0m Ziy rfl rfl rfl rfl (fun wc hwc => Zn6 (n0 := r3) (f1 := r122) (s2 := r137) wc (hwc.rs (f := Z93) (s := 3) (xs := r3.Arcs) (j := j8) (fun _ => rfl) mm16 hn9 hc10 hz12) (hwc.rs (f := (intC .i64)) (s := 1) (xs := r122) (j := j128) (fun _ => rfl) mm1 hn129 hc130 hz132) (hwc.rs (f := boolC) (s := 1) (xs := r137) (j := j143) (fun _ => rfl) mm0 hn144 hc145 hz147) e165) ?_; rintro _ _ ⟨rfl, rfl⟩; refine Z0v rfl rfl rfl rfl rfl ?_; refine Z04 ?_; exact Zlo (b := r164) H (Z00 rfl Z0a)
          · refine Z0r (t := 96) (b' := false) rfl (Bool.eq_false_iff.2 g163) ?_; refine Z0b rfl rfl rfl rfl ?_; refine Z0b rfl rfl rfl rfl ?_; refine Z0b rfl rfl rfl rfl ?_; refine Z0b rfl rfl rfl rfl ?_; refine Z0x rfl rfl rfl rfl rfl ?_; refine Z04 ?_; exact Zlo (b := false) H (Z00 rfl Z0a)
         ·
          rintro b166 H; unfold Z30 at H; refine Z06 rfl rfl rfl rfl ?_; refine TO.join [36, 37] [38] rfl 104 (fun b170 => Z2z b170 = some r0) [] ?_ ?_
          ·
           rcases Z0i H with ⟨g167, H⟩ | ⟨g167, H⟩
           · obtain ⟨r168, e169, H⟩ := Z0k H; refine Z0r (t := 102) (b' := true) rfl g167 ?_; refine Z0m Ze4 rfl rfl rfl rfl (fun wc hwc => Zb2  wc  e169) ?_; rintro _ _ ⟨rfl, rfl⟩; refine Z0v rfl rfl rfl rfl rfl ?_; refine Z04 ?_; exact Zlo (b := r168) H (Z00 rfl Z0a)
           · refine Z0r (t := 102) (b' := false) rfl (Bool.eq_false_iff.2 g167) ?_; refine Z0b rfl rfl rfl rfl ?_; refine Z0x rfl rfl rfl rfl rfl ?_; refine Z04 ?_; exact Zlo (b := false) H (Z00 rfl Z0a)
          · rintro b170 H; unfold Z2z at H; refine Z05 rfl rfl rfl rfl ?_; refine Z04 ?_; refine Z01 ?_; refine T.ret ?_; obtain rfl := ret1 H; exact Z0y rfl rfl rfl rfl (Res.tmp rfl) Z08 ⟨rfl, rfl⟩
end Go.Proofs.Ytjeenmabclghoaa.Ax
namespace Go.Acq
open Go
def hit (a : Arc) (v : Nat) : Nat := if a.fr = a.to then 0 else if a.fr = v ∨ a.to = v then 1 else 0
def cnt (al : List Arc) (v : Nat) : Nat → Nat
  | 0 => 0
  | k + 1 => cnt al v k + hit (al.getD k default) v
def Z18 (al : List Arc) : Nat → Nat
  | 0 => 0
  | v + 1 => Z18 al v + cnt al v al.length
def vtx (a : Arc) (s : Bool) : Int := if s then a.to else a.fr
def pos (al : List Arc) (i : Nat) (s : Bool) : Nat := Z18 al (vtx (al.getD i default) s).toNat + cnt al (vtx (al.getD i default) s).toNat i
def Z7c (n : Nat) (al : List Arc) : Prop := ∀ i, i < al.length → ∀ s, 0 ≤ vtx (al.getD i default) s ∧ vtx (al.getD i default) s < n
theorem Zi4 {α : Type} (xs : List α) (i j : Nat) (v d : α) : (xs.set i v).getD j d = if i = j ∧ i < xs.length then v else xs.getD j d := by
 rw [List.getD_eq_getElem?_getD, List.getD_eq_getElem?_getD, List.getElem?_set]
 split
 ·
  rename_i h; subst h
  split
  · rename_i h2; simp [h2]
  · rename_i h2; simp [h2]
 · rename_i h; simp [h]
theorem Zay {α : Type} {xs : List α} {i j : Nat} {v d : α} (h : i ≠ j) : (xs.set i v).getD j d = xs.getD j d := by
 rw [Zi4, if_neg (fun e => h e.1)]
theorem Znd {α : Type} {xs : List α} {i : Nat} {v d : α} (h : i < xs.length) : (xs.set i v).getD i d = v := by
 rw [Zi4, if_pos ⟨rfl, h⟩]
theorem Z37 {α : Type} (n j : Nat) (v : α) : (List.replicate n v).getD j v = v := by
 rw [List.getD_eq_getElem?_getD, List.getElem?_replicate]; split <;> simp
theorem hit_le (a : Arc) (v : Nat) : hit a v ≤ 1 := by unfold hit; split; omega; split <;> omega
theorem cnt_mono {al : List Arc} {v i j : Nat} (h : i ≤ j) : cnt al v i ≤ cnt al v j := by
 induction h with
 | refl => exact Nat.le_refl _
 | step _ ih => exact Nat.le_trans ih (Nat.le_add_right _ _)
theorem Zo9 (al : List Arc) (v k : Nat) : cnt al v k ≤ k := by
 induction k with
 | zero => exact Nat.le_refl _
 | succ k ih => have := hit_le (al.getD k default) v; simp only [cnt]; omega
theorem Z48 {al : List Arc} {u v : Nat} (h : u ≤ v) : Z18 al u ≤ Z18 al v := by
 induction h with
 | refl => exact Nat.le_refl _
 | step _ ih => exact Nat.le_trans ih (Nat.le_add_right _ _)
theorem Zrn (al : List Arc) (v : Nat) : Z18 al v ≤ v * al.length := by
 induction v with
 | zero => exact Nat.zero_le _
 | succ v ih => have := Zo9 al v al.length; simp only [Z18, Nat.succ_mul]; omega
theorem hit_vtx {a : Arc} {s : Bool} (h : a.fr ≠ a.to) (h0 : 0 ≤ vtx a s) : hit a (vtx a s).toNat = 1 := by
 unfold hit; rw [if_neg h, if_pos]
 cases s
 · left; simp only [vtx] at h0 ⊢; simp only [Bool.false_eq_true, if_false] at h0 ⊢; omega
 · right; simp only [vtx] at h0 ⊢; simp only [if_true] at h0 ⊢; omega
theorem Zfs {al : List Arc} {i j : Nat} {s : Bool} (hij : i < j) (h : (al.getD i default).fr ≠ (al.getD i default).to) (h0 : 0 ≤ vtx (al.getD i default) s) :
    cnt al (vtx (al.getD i default) s).toNat i < cnt al (vtx (al.getD i default) s).toNat j := by
  have h1 := cnt_mono (al := al) (v := (vtx (al.getD i default) s).toNat) (i := i + 1) (j := j) hij
  have h2 := hit_vtx h h0
  simp only [cnt] at h1
  omega
theorem Zdh {al : List Arc} {n i : Nat} {s : Bool} (hi : i < al.length) (h : (al.getD i default).fr ≠ (al.getD i default).to) (he : Z7c n al) : pos al i s < Z18 al n := by
 have h1 := Zfs (s := s) hi h (he i hi s).1
 have h2 := Z48 (al := al) (u := (vtx (al.getD i default) s).toNat + 1) (v := n) (by have := he i hi s; omega)
 simp only [Z18] at h2
 unfold pos; omega
theorem Zd2 {al : List Arc} {n i j : Nat} {s t : Bool} (he : Z7c n al) (hi : i < al.length) (hj : j < al.length) (h : (al.getD i default).fr ≠ (al.getD i default).to) (g : (al.getD j default).fr ≠ (al.getD j default).to)
    (e : pos al i s = pos al j t) : i = j ∧ s = t := by
  have hi1 := Zfs (s := s) hi h (he i hi s).1
  have hj1 := Zfs (s := t) hj g (he j hj t).1
  have hv : (vtx (al.getD i default) s).toNat = (vtx (al.getD j default) t).toNat := by
    rcases Nat.lt_trichotomy (vtx (al.getD i default) s).toNat (vtx (al.getD j default) t).toNat with h1 | h1 | h1
    · have := Z48 (al := al) (u := (vtx (al.getD i default) s).toNat + 1) h1
      simp only [Z18] at this
      unfold pos at e; omega
    · exact h1
    · have := Z48 (al := al) (u := (vtx (al.getD j default) t).toNat + 1) h1
      simp only [Z18] at this
      unfold pos at e; omega
  have hij : i = j := by
    rcases Nat.lt_trichotomy i j with h1 | h1 | h1
    · have h2 := Zfs (s := s) h1 h (he i hi s).1
      unfold pos at e; rw [hv] at e h2; omega
    · exact h1
    · have h2 := Zfs (s := t) h1 g (he j hj t).1
      unfold pos at e; rw [hv] at e; omega
  refine ⟨hij, ?_⟩
  subst hij
  have h1 := (he i hi s).1
  have h2 := (he i hi t).1
  cases s <;> cases t <;> first | rfl | (simp only [vtx, Bool.false_eq_true, if_false, if_true] at hv h1 h2; omega)
theorem Zoa {al : List Arc} {v r : Nat} : ∀ {k : Nat}, r < cnt al v k → ∃ i, i < k ∧ cnt al v i = r ∧ hit (al.getD i default) v = 1
 | 0, h => by simp [cnt] at h
 | k + 1, h => by
  by_cases h1 : r < cnt al v k
  · obtain ⟨i, h2, h3⟩ := Zoa h1; exact ⟨i, by omega, h3⟩
  ·
   have := hit_le (al.getD k default) v
   simp only [cnt] at h
   exact ⟨k, by omega, by omega, by omega⟩
theorem Zi8 {al : List Arc} {p : Nat} : ∀ {n : Nat}, p < Z18 al n → ∃ v, v < n ∧ Z18 al v ≤ p ∧ p < Z18 al (v + 1)
 | 0, h => by simp [Z18] at h
 | n + 1, h => by
  by_cases h1 : p < Z18 al n
  · obtain ⟨v, h2, h3⟩ := Zi8 h1; exact ⟨v, by omega, h3⟩
  · exact ⟨n, by omega, by omega, h⟩
theorem pos_surj {al : List Arc} {n p : Nat} (h : p < Z18 al n) : ∃ i s, i < al.length ∧ (al.getD i default).fr ≠ (al.getD i default).to ∧ pos al i s = p ∧ 0 ≤ vtx (al.getD i default) s ∧ vtx (al.getD i default) s < n ∧
    Z18 al (vtx (al.getD i default) s).toNat ≤ p ∧ p < Z18 al ((vtx (al.getD i default) s).toNat + 1) := by
  obtain ⟨v, hv, h1, h2⟩ := Zi8 h
  simp only [Z18] at h2
  obtain ⟨i, hi, h3, h4⟩ := Zoa (al := al) (v := v) (r := p - Z18 al v) (k := al.length) (by omega)
  unfold hit at h4
  split at h4
  · omega
  · rename_i hne
    split at h4
    · rename_i ho
      rcases ho with ho | ho
      · refine ⟨i, false, hi, hne, ?_, ?_, ?_, ?_, ?_⟩ <;> simp only [pos, vtx, Bool.false_eq_true, if_false, ho, Int.toNat_natCast, Z18] <;> omega
      · refine ⟨i, true, hi, hne, ?_, ?_, ?_, ?_, ?_⟩ <;> simp only [pos, vtx, if_true, ho, Int.toNat_natCast, Z18] <;> omega
    · omega
def CsrAt (al : List Arc) (hs rs cs aa : List Int) (bs : List Bool) (k : Nat) : Prop :=
  ∀ i, i < k → (al.getD i default).fr ≠ (al.getD i default).to → ∀ s,
    hs.getD (pos al i s) 0 = vtx (al.getD i default) (!s) ∧ rs.getD (pos al i s) 0 = pos al i (!s) ∧ cs.getD (pos al i s) 0 = (if s then 0 else (al.getD i default).cap) ∧
    aa.getD (pos al i s) 0 = i ∧ bs.getD (pos al i s) false = s
structure CsrOK (al : List Arc) (n : Nat) (fs hs rs cs aa : List Int) (bs : List Bool) : Prop where
  lf : fs.length = n + 1
  lh : hs.length = Z18 al n
  lr : rs.length = Z18 al n
  lc : cs.length = Z18 al n
  la : aa.length = Z18 al n
  lb : bs.length = Z18 al n
  hf : ∀ v, v ≤ n → fs.getD v 0 = Z18 al v
  hat : CsrAt al hs rs cs aa bs al.length
theorem CsrAt.skip {al : List Arc} {hs rs cs aa : List Int} {bs : List Bool} {k : Nat} (h : CsrAt al hs rs cs aa bs k) (e : (al.getD k default).fr = (al.getD k default).to) : CsrAt al hs rs cs aa bs (k + 1) := by
 intro i hi hne s
 rcases Nat.lt_succ_iff_lt_or_eq.1 hi with h1 | h1
 · exact h i h1 hne s
 · subst h1; exact absurd e hne
theorem set2 {α : Type} {xs : List α} {p q j : Nat} {u v d : α} (hp : p < xs.length) (hq : q < xs.length) (hpq : p ≠ q) :
    ((xs.set p u).set q v).getD j d = if j = p then u else if j = q then v else xs.getD j d := by
  rw [Zi4, Zi4]
  by_cases h1 : j = p
  · subst h1; rw [if_pos rfl, if_neg (fun e => hpq e.1.symm), if_pos ⟨rfl, hp⟩]
  · rw [if_neg h1]
    by_cases h2 : j = q
    · subst h2; rw [if_pos rfl, if_pos ⟨rfl, by simpa using hq⟩]
    · rw [if_neg h2, if_neg (fun e => h2 e.1.symm), if_neg (fun e => h1 e.1.symm)]
theorem CsrAt.put {al : List Arc} {n : Nat} {hs rs cs aa : List Int} {bs : List Bool} {k : Nat} (h : CsrAt al hs rs cs aa bs k) (he : Z7c n al) (hk : k < al.length) (hne : (al.getD k default).fr ≠ (al.getD k default).to)
    (lh : hs.length = Z18 al n) (lr : rs.length = Z18 al n) (lc : cs.length = Z18 al n) (la : aa.length = Z18 al n) (lb : bs.length = Z18 al n) :
    CsrAt al ((hs.set (pos al k false) (al.getD k default).to).set (pos al k true) (al.getD k default).fr) ((rs.set (pos al k false) (pos al k true)).set (pos al k true) (pos al k false))
      ((cs.set (pos al k false) (al.getD k default).cap).set (pos al k true) 0) ((aa.set (pos al k false) k).set (pos al k true) k) ((bs.set (pos al k false) false).set (pos al k true) true) (k + 1) := by
  have hp : pos al k false < Z18 al n := Zdh hk hne he
  have hq : pos al k true < Z18 al n := Zdh hk hne he
  have hpq : pos al k false ≠ pos al k true := fun e => by have := (Zd2 he hk hk hne hne e).2; cases this
  intro i hi hni s
  have hil : i < al.length := by omega
  rw [set2 (by omega) (by omega) hpq, set2 (by omega) (by omega) hpq, set2 (by omega) (by omega) hpq, set2 (by omega) (by omega) hpq, set2 (by omega) (by omega) hpq]
  by_cases hik : i = k
  · subst hik
    cases s
    · simp [vtx]
    · simp [vtx, hpq.symm]
  · have h1 : pos al i s ≠ pos al k false := fun e => hik (Zd2 he hil hk hni hne e).1
    have h2 : pos al i s ≠ pos al k true := fun e => hik (Zd2 he hil hk hni hne e).1
    simp only [if_neg h1, if_neg h2]
    exact h i (by omega) hni s
def Counted (al : List Arc) (m k : Nat) (fs : List Int) : Prop := fs.length = m + 1 ∧ fs.getD 0 0 = 0 ∧ ∀ v : Int, 0 ≤ v → v < m → fs.getD (v + 1).toNat 0 = cnt al v.toNat k
def Summed (al : List Arc) (m k : Nat) (fs : List Int) : Prop := fs.length = m + 1 ∧ (∀ u, u ≤ k → fs.getD u 0 = Z18 al u) ∧ ∀ u, k ≤ u → u < m → fs.getD (u + 1) 0 = cnt al u al.length
theorem Z65 {al : List Arc} {v : Nat} (hv : v ≤ 4096) (hl : al.length ≤ 16384) : Z18 al v ≤ 67108864 :=
 Nat.le_trans (Zrn al v) (Nat.mul_le_mul hv hl)
theorem Counted.start (al : List Arc) (m : Nat) {p : Nat} (h : p = m + 1) : Counted al m 0 (List.replicate p 0) :=
 ⟨by simp [h], Z37 _ _ _, fun v _ _ => by rw [Z37]; rfl⟩
theorem Counted.skip {al : List Arc} {m k : Nat} {fs : List Int} (h : Counted al m k fs) (e : (al.getD k default).fr = (al.getD k default).to) : Counted al m (k + 1) fs :=
 ⟨h.1, h.2.1, fun v h0 h1 => by rw [h.2.2 v h0 h1]; simp only [cnt, hit, if_pos e, Nat.add_zero]⟩
theorem Counted.put {al : List Arc} {m k : Nat} {fs : List Int} (h : Counted al m k fs) (he : Z7c m al) (hk : k < al.length) (hne : (al.getD k default).fr ≠ (al.getD k default).to) :
    Counted al m (k + 1) ((fs.set ((al.getD k default).fr + 1).toNat (fs.getD ((al.getD k default).fr + 1).toNat 0 + 1)).set ((al.getD k default).to + 1).toNat
      ((fs.set ((al.getD k default).fr + 1).toNat (fs.getD ((al.getD k default).fr + 1).toNat 0 + 1)).getD ((al.getD k default).to + 1).toNat 0 + 1)) := by
  have e0 := he k hk false
  have e1 := he k hk true
  simp only [vtx, Bool.false_eq_true, if_false, if_true] at e0 e1
  obtain ⟨hl, hz, hv⟩ := h
  refine ⟨by simpa using hl, ?_, ?_⟩
  · rw [Zay (by omega), Zay (by omega)]; exact hz
  · intro v h0 h1
    have hvv := hv v h0 h1
    rw [Zay (i := ((al.getD k default).fr + 1).toNat) (j := ((al.getD k default).to + 1).toNat) (by omega), set2 (by omega) (by omega) (by omega)]
    simp only [cnt, hit, if_neg hne]
    by_cases a1 : v = (al.getD k default).fr
    · rw [if_pos (by omega), if_pos (by omega), ← a1, hvv]; omega
    · rw [if_neg (by omega)]
      by_cases a2 : v = (al.getD k default).to
      · rw [if_pos (by omega), if_pos (by omega), ← a2, hvv]; omega
      · rw [if_neg (by omega), if_neg (by omega), hvv]; omega
theorem Counted.summed {al : List Arc} {m : Nat} {fs : List Int} (h : Counted al m al.length fs) : Summed al m 0 fs :=
 ⟨h.1, fun u hu => by rw [Nat.le_zero.1 hu]; exact h.2.1, fun u _ hu => by have := h.2.2 u (by omega) (by omega); rw [show ((u : Int) + 1).toNat = u + 1 by omega] at this; simpa using this⟩
theorem Summed.put {al : List Arc} {m k : Nat} {fs : List Int} (h : Summed al m k fs) (hk : k < m) {i : Nat} (hi : i = k + 1) : Summed al m (k + 1) (fs.set i (fs.getD i 0 + fs.getD k 0)) := by
 subst hi
 obtain ⟨hl, h1, h2⟩ := h
 refine ⟨by simpa using hl, fun u hu => ?_, fun u h3 h4 => ?_⟩
 ·
  by_cases e : u = k + 1
  · subst e; rw [Znd (by omega), h1 k (Nat.le_refl _), h2 k (Nat.le_refl _) hk]; simp [Z18]; omega
  · rw [Zay (by omega)]; exact h1 u (by omega)
 · rw [Zay (by omega)]; exact h2 u (by omega) h4
theorem Z2y {N S T : Int} {al : List Arc} (h : Zal N S T al = 0) : (2 ≤ N ∧ N ≤ 4096) ∧ (al.length : Int) ≤ 16384 ∧ (Z56 N S = true ∧ Z56 N T = true ∧ S ≠ T) ∧ al.all (Zga N) = true ∧ al.all Zrl = true ∧ (Zln 4611686018427387904 al).isSome = true := by
 unfold Zal at h
 split at h
 · omega
 ·
  rename_i h1
  split at h
  · omega
  ·
   rename_i h2
   split at h
   · omega
   ·
    rename_i h3
    split at h
    · omega
    ·
     rename_i h4
     split at h
     · omega
     ·
      rename_i h5
      split at h
      · omega
      ·
       rename_i h6
       refine ⟨Classical.not_not.1 h1, Classical.not_not.1 h2, Classical.not_not.1 h3, by simpa using h4, by simpa using h5, ?_⟩
       cases e : Zln 4611686018427387904 al <;> simp_all
theorem Zfr {m : Nat} {al : List Arc} (h : al.all (Zga (m : Int)) = true) : Z7c m al := by
 intro i hi s
 have h1 := List.all_eq_true.1 h _ (Z9h hi default)
 simp only [Zga, Z56, Bool.and_eq_true, decide_eq_true_eq] at h1
 cases s
 · simp only [vtx, Bool.false_eq_true, if_false]; exact h1.1
 · simp only [vtx, if_true]; exact h1.2
def MakeAt (al : List Arc) (m k : Nat) (nx hs rs cs aa : List Int) (bs : List Bool) : Prop :=
  (nx.length = m + 1 ∧ hs.length = Z18 al m ∧ rs.length = Z18 al m ∧ cs.length = Z18 al m ∧ aa.length = Z18 al m ∧ bs.length = Z18 al m) ∧
  CsrAt al hs rs cs aa bs k ∧ ∀ v : Int, 0 ≤ v → v < m → nx.getD v.toNat 0 = Z18 al v.toNat + cnt al v.toNat k
theorem MakeAt.start {al : List Arc} {m : Nat} {fs : List Int} (hl : fs.length = m + 1) (hf : ∀ u, u ≤ m → fs.getD u 0 = Z18 al u) :
    MakeAt al m 0 fs (List.replicate (Z18 al m) 0) (List.replicate (Z18 al m) 0) (List.replicate (Z18 al m) 0) (List.replicate (Z18 al m) 0) (List.replicate (Z18 al m) false) := by
  refine ⟨⟨hl, by simp, by simp, by simp, by simp, by simp⟩, fun i hi => by omega, fun v h0 h1 => ?_⟩
  rw [hf _ (by omega)]; simp [cnt]
theorem MakeAt.skip {al : List Arc} {m k : Nat} {nx hs rs cs aa : List Int} {bs : List Bool} (h : MakeAt al m k nx hs rs cs aa bs) (e : (al.getD k default).fr = (al.getD k default).to) : MakeAt al m (k + 1) nx hs rs cs aa bs :=
 ⟨h.1, h.2.1.skip e, fun v h0 h1 => by rw [h.2.2 v h0 h1]; simp only [cnt, hit, if_pos e, Nat.add_zero]⟩
theorem MakeAt.at {al : List Arc} {m k : Nat} {nx hs rs cs aa : List Int} {bs : List Bool} (h : MakeAt al m k nx hs rs cs aa bs) (he : Z7c m al) (hk : k < al.length) (s : Bool) : nx.getD (vtx (al.getD k default) s).toNat 0 = (pos al k s : Nat) := by
 rw [h.2.2 _ (he k hk s).1 (he k hk s).2]; simp only [pos]; omega
theorem MakeAt.put {al : List Arc} {m k : Nat} {nx hs rs cs aa : List Int} {bs : List Bool} (h : MakeAt al m k nx hs rs cs aa bs) (he : Z7c m al) (hk : k < al.length) (hne : (al.getD k default).fr ≠ (al.getD k default).to) :
    MakeAt al m (k + 1) ((nx.set (al.getD k default).fr.toNat ((pos al k false : Nat) + 1)).set (al.getD k default).to.toNat ((pos al k true : Nat) + 1))
      ((hs.set (pos al k false) (al.getD k default).to).set (pos al k true) (al.getD k default).fr) ((rs.set (pos al k false) (pos al k true)).set (pos al k true) (pos al k false))
      ((cs.set (pos al k false) (al.getD k default).cap).set (pos al k true) 0) ((aa.set (pos al k false) k).set (pos al k true) k) ((bs.set (pos al k false) false).set (pos al k true) true) := by
  have g0 := h.at he hk false
  have g1 := h.at he hk true
  obtain ⟨⟨l0, l1, l2, l3, l4, l5⟩, hA, hv⟩ := h
  have e0 := he k hk false
  have e1 := he k hk true
  simp only [vtx, Bool.false_eq_true, if_false, if_true] at e0 e1 g0 g1
  refine ⟨⟨by simpa using l0, by simpa using l1, by simpa using l2, by simpa using l3, by simpa using l4, by simpa using l5⟩, hA.put he hk hne l1 l2 l3 l4 l5, fun v h0 h1 => ?_⟩
  have hvv := hv v h0 h1
  rw [set2 (by omega) (by omega) (by omega)]
  simp only [cnt, hit, if_neg hne]
  by_cases a1 : v = (al.getD k default).fr
  · rw [if_pos (by omega), if_pos (by omega), ← g0, ← a1, hvv]; omega
  · rw [if_neg (by omega)]
    by_cases a2 : v = (al.getD k default).to
    · rw [if_pos (by omega), if_pos (by omega), ← g1, ← a2, hvv]; omega
    · rw [if_neg (by omega), if_neg (by omega), hvv]; omega
theorem MakeAt.done {al : List Arc} {m : Nat} {fs nx hs rs cs aa : List Int} {bs : List Bool} (h : MakeAt al m al.length nx hs rs cs aa bs) (hl : fs.length = m + 1) (hf : ∀ u, u ≤ m → fs.getD u 0 = Z18 al u) : CsrOK al m fs hs rs cs aa bs :=
 ⟨hl, h.1.2.1, h.1.2.2.1, h.1.2.2.2.1, h.1.2.2.2.2.1, h.1.2.2.2.2.2, hf, h.2.1⟩
end Go.Acq
namespace Go.Acq
open Go
theorem next_ne {S m : Int} (h0 : 0 ≤ S) (h1 : S < m) (h2 : 2 ≤ m) : 0 ≤ (S + 1).tmod m ∧ (S + 1).tmod m < m ∧ (S + 1).tmod m ≠ S := by
 rw [Int.tmod_eq_emod_of_nonneg (by omega)]
 refine ⟨Int.emod_nonneg _ (by omega), Int.emod_lt_of_pos _ (by omega), ?_⟩
 by_cases h : S + 1 < m
 · rw [Int.emod_eq_of_lt (by omega) h]; omega
 · rw [show S + 1 = m by omega, Int.emod_self]; omega
theorem Zjv {x n : Int} (h : 0 ≤ x) (hn : 0 < n) : 0 ≤ x.tmod n ∧ x.tmod n < n := by
 rw [Int.tmod_eq_emod_of_nonneg h]
 exact ⟨Int.emod_nonneg _ (by omega), Int.emod_lt_of_pos _ hn⟩
def SomeAt (m : Nat) (ol : List Arc) : Prop := ∀ a, a ∈ ol → Zga m a = true ∧ 0 ≤ a.cap ∧ a.cap < 1125899906842624
theorem SomeAt.put {m : Nat} {ol : List Arc} {a : Arc} (h : SomeAt m ol) (h1 : 0 ≤ a.fr ∧ a.fr < m) (h2 : 0 ≤ a.to ∧ a.to < m) (h3 : 0 ≤ a.cap ∧ a.cap < 1125899906842624) : SomeAt m (ol ++ [a]) := by
 intro b hb
 rcases List.mem_append.1 hb with hb | hb
 · exact h b hb
 ·
  simp only [List.mem_singleton] at hb
  subst hb
  exact ⟨by simp [Zga, Z56, h1, h2], h3⟩
theorem Zr0 {m : Nat} {ol : List Arc} {left : Int} (h : SomeAt m ol) (hl : (ol.length : Int) * 1125899906842624 ≤ left) : (Zln left ol).isSome = true := by
 induction ol generalizing left with
 | nil => simp [Zln]
 | cons a ol ih =>
  have ha := (h a (.head _)).2
  simp only [List.length_cons] at hl
  have h2 : (0 : Int) ≤ (ol.length : Int) * 1125899906842624 := by omega
  simp only [Zln]
  rw [if_neg (by omega)]
  exact ih (fun b hb => h b (.tail _ hb)) (by omega)
theorem Zoq {m : Nat} {S T : Int} {ol : List Arc} (hm : 2 ≤ m) (hm2 : m ≤ 4096) (hS : 0 ≤ S ∧ S < m) (hT : 0 ≤ T ∧ T < m) (hST : T ≠ S) (h : SomeAt m ol) (hl : ol.length ≤ 4096) : Zal m S T ol = 0 := by
 have h1 : ol.all (Zga m) = true := List.all_eq_true.2 fun a ha => (h a ha).1
 have h2 : ol.all Zrl = true := List.all_eq_true.2 fun a ha => by simp [Zrl, (h a ha).2.1]
 have h3 : (Zln 4611686018427387904 ol).isSome = true := Zr0 h (by omega)
 unfold Zal
 rw [if_neg (by omega), if_neg (by omega), if_neg (by simp [Z56, hS, hT, Ne.symm hST]), if_neg (by simp [h1]), if_neg (by simp [h2]), if_neg (by
  cases e : Zln 4611686018427387904 ol with
  | none => rw [e] at h3; cases h3
  | some x => simp)]
def WithinAt (al : List Arc) (n k : Nat) (fl : List Int) : Prop := fl.length = n ∧
  (∀ i, i < k → 0 ≤ fl.getD i 0 ∧ fl.getD i 0 ≤ (al.getD i default).cap ∧ ((al.getD i default).fr = (al.getD i default).to → fl.getD i 0 = 0)) ∧ ∀ i, k ≤ i → fl.getD i 0 = 0
theorem WithinAt.start (al : List Arc) (n : Nat) : WithinAt al n 0 (List.replicate n 0) := ⟨by simp, fun i h => by omega, fun i _ => Z37 _ _ _⟩
theorem WithinAt.skip {al : List Arc} {n k : Nat} {fl : List Int} (h : WithinAt al n k fl) (hc : 0 ≤ (al.getD k default).cap) : WithinAt al n (k + 1) fl := by
 refine ⟨h.1, fun i hi => ?_, fun i hi => h.2.2 i (by omega)⟩
 rcases Nat.lt_succ_iff_lt_or_eq.1 hi with h1 | h1
 · exact h.2.1 i h1
 · subst h1; have := h.2.2 i (Nat.le_refl _); rw [this]; exact ⟨Int.le_refl _, hc, fun _ => rfl⟩
theorem WithinAt.put {al : List Arc} {n k : Nat} {fl : List Int} {v : Int} (h : WithinAt al n k fl) (hk : k < n) (h0 : 0 ≤ v) (h1 : v ≤ (al.getD k default).cap) (hne : (al.getD k default).fr ≠ (al.getD k default).to) : WithinAt al n (k + 1) (fl.set k v) := by
 refine ⟨by simpa using h.1, fun i hi => ?_, fun i hi => by rw [Zay (by omega)]; exact h.2.2 i (by omega)⟩
 by_cases e : i = k
 · subst e; rw [Znd (by rw [h.1]; exact hk)]; exact ⟨h0, h1, fun e => absurd e hne⟩
 · rw [Zay (by omega)]; exact h.2.1 i (by omega)
def Zn9 (aa cs : List Int) (bs : List Bool) (fl : List Int) (j : Nat) : Prop := aa.getD j 0 < fl.length ∧ (bs.getD j false = true ∨ (0 ≤ fl.getD (aa.getD j 0).toNat 0 ∧ fl.getD (aa.getD j 0).toNat 0 ≤ cs.getD j 0))
def resV (aa cs : List Int) (bs : List Bool) (fl : List Int) (j : Nat) : Int := if bs.getD j false = true then fl.getD (aa.getD j 0).toNat 0 else cs.getD j 0 - fl.getD (aa.getD j 0).toNat 0
def ResAt (aa cs : List Int) (bs : List Bool) (fl : List Int) (L k : Nat) (rl : List Int) : Prop := rl.length = L ∧ ∀ j, j < k → Zn9 aa cs bs fl j ∧ rl.getD j 0 = resV aa cs bs fl j
theorem ResAt.put {aa cs : List Int} {bs : List Bool} {fl : List Int} {L k : Nat} {rl : List Int} {v : Int} (h : ResAt aa cs bs fl L k rl) (hk : k < L) (h1 : Zn9 aa cs bs fl k) (h2 : v = resV aa cs bs fl k) : ResAt aa cs bs fl L (k + 1) (rl.set k v) := by
 refine ⟨by simpa using h.1, fun j hj => ?_⟩
 by_cases e : j = k
 · subst e; rw [Znd (by rw [h.1]; exact hk)]; exact ⟨h1, h2⟩
 · rw [Zay (by omega)]; exact h.2 j (by omega)
end Go.Acq
namespace Go.Acq
open Go
theorem CsrOK.place {al : List Arc} {m : Nat} {fs hs rs cs aa : List Int} {bs : List Bool} (h : CsrOK al m fs hs rs cs aa bs) {j : Nat} (hj : j < Z18 al m) :
    ∃ i s, i < al.length ∧ (al.getD i default).fr ≠ (al.getD i default).to ∧ pos al i s = j ∧ hs.getD j 0 = vtx (al.getD i default) (!s) ∧ rs.getD j 0 = pos al i (!s) ∧ cs.getD j 0 = (if s then 0 else (al.getD i default).cap) ∧ aa.getD j 0 = i ∧ bs.getD j false = s := by
  obtain ⟨i, s, hi, hne, hp, _⟩ := pos_surj hj
  have := h.hat i hi hne s
  rw [hp] at this
  exact ⟨i, s, hi, hne, hp, this⟩
theorem CsrOK.aa0 {al : List Arc} {m : Nat} {fs hs rs cs aa : List Int} {bs : List Bool} (h : CsrOK al m fs hs rs cs aa bs) : ∀ j, j < Z18 al m → 0 ≤ aa.getD j 0 := by
 intro j hj
 obtain ⟨i, s, _, _, _, _, _, _, h4, _⟩ := h.place hj
 omega
end Go.Acq
namespace Go.Acq
open Go
theorem Zhd {α : Type} {m : Option α} {v : α} (h : Ok m (fun a => a = v)) : m = some v := by obtain ⟨a, h1, h2⟩ := h; rw [h1, h2]
theorem Zav {α : Type} {m : Option α} {v : α} {Q : α → Prop} (h : m = some v) (q : Q v) : Ok m Q := ⟨v, h, q⟩
abbrev lenok (n : Nat) : Prop := n ≤ 9223372036854775807
theorem Zhy {x n : Int} (h1 : n ≤ 4611686018427387904) : Z2n x n = some (Zi9 x n) := by
 unfold Z2n Zi9
 by_cases h : n < 1
 · rw [if_pos h, if_pos h]
 ·
  have a1 := Int.tmod_lt_of_pos x (show 0 < n by omega)
  have a2 := Zi3 x (show 0 < n by omega)
  rw [if_neg h, if_neg h, Z81 (by omega), Z81 (by constructor <;> omega), Z81 (by omega)]
theorem Zhh (n : Net) (v : Int) : Z64 n v = some (Z56 n.N v) := by
 unfold Z64 Z56
 by_cases h : 0 ≤ v <;> simp [h]
theorem s_rules4 (n : Net) (a : Arc) : Z9a n a = some (Zga n.N a) := by
 unfold Z9a Zga
 rw [Zhh, Zhh]
 simp only [Option.bind_some]
 cases Z56 n.N a.fr <;> simp
theorem s_of4 (n : Net) (h : lenok n.Arcs.length) : Z5f n = some (n.Arcs.all (Zga n.N)) := by
 refine Zhd ?_
 unfold Z5f Z23 Z2c
 refine Ok.bind.2 (Ok.bind.2 (Ok.bind.2 (Zlm (fun x => 0 ≤ x ∧ x ≤ n.Arcs.length ∧ ∀ i, i < x.toNat → Zga n.N (n.Arcs.getD i default) = true) (fun x => (n.Arcs.length - x).toNat) ⟨by omega, by omega, fun i hi => by omega⟩ (by unfold Z4m; omega) ?_)))
 rintro x ⟨h0, h1, h2⟩
 unfold Z1q Z5o
 refine Ok.ite.2 ⟨fun hx => ?_, fun hx => ?_⟩
 ·
  refine Ok.gd.2 ⟨(by omega), Ok.bind.2 (Ok.bind.2 (Zav (s_rules4 _ _) (Ok.some.2 (Ok.ite.2 ⟨fun hb => ?_, fun hb => ?_⟩))))⟩
  ·
   refine Ok.some.2 (Ok.some.2 (Ok.some.2 (Ok.some.2 ?_)))
   simp only [h0, decide_true, Bool.not_true]
   refine Eq.symm (Bool.eq_false_iff.2 fun hall => ?_)
   have := List.all_eq_true.1 hall _ (Z9h (show x.toNat < n.Arcs.length by omega) default)
   rw [this] at hb; cases hb
  ·
   refine Ok.gd.2 ⟨(by omega), Ok.some.2 ⟨⟨by omega, by omega, fun i hi => ?_⟩, by omega⟩⟩
   rcases Nat.lt_or_ge i x.toNat with h3 | h3
   · exact h2 i h3
   · rw [show i = x.toNat by omega]; simpa using hb
 ·
  refine Ok.some.2 (Ok.some.2 (Ok.some.2 (Ok.some.2 ?_)))
  refine Eq.symm (List.all_eq_true.2 fun a ha => ?_)
  obtain ⟨i, hi, rfl⟩ := List.getElem_of_mem ha
  have := h2 i (by omega)
  rwa [List.getD_eq_getElem?_getD, List.getElem?_eq_getElem hi] at this
theorem s_of5 (n : Net) (h : lenok n.Arcs.length) : Z5e n = some (n.Arcs.all Zrl) := by
 refine Zhd ?_
 unfold Z5e Z22 Z2b
 refine Ok.bind.2 (Ok.bind.2 (Ok.bind.2 (Zlm (fun x => 0 ≤ x ∧ x ≤ n.Arcs.length ∧ ∀ i, i < x.toNat → Zrl (n.Arcs.getD i default) = true) (fun x => (n.Arcs.length - x).toNat) ⟨by omega, by omega, fun i hi => by omega⟩ (by unfold Z4m; omega) ?_)))
 rintro x ⟨h0, h1, h2⟩
 unfold Z1p Z5n Zb5
 refine Ok.ite.2 ⟨fun hx => ?_, fun hx => ?_⟩
 ·
  refine Ok.gd.2 ⟨(by omega), Ok.bind.2 (Ok.bind.2 (Ok.some.2 (Ok.some.2 (Ok.ite.2 ⟨fun hb => ?_, fun hb => ?_⟩))))⟩
  ·
   refine Ok.some.2 (Ok.some.2 (Ok.some.2 (Ok.some.2 ?_)))
   simp only [h0, decide_true, Bool.not_true]
   refine Eq.symm (Bool.eq_false_iff.2 fun hall => ?_)
   have := List.all_eq_true.1 hall _ (Z9h (show x.toNat < n.Arcs.length by omega) default)
   simp only [Zrl] at this
   rw [this] at hb; cases hb
  ·
   refine Ok.gd.2 ⟨(by omega), Ok.some.2 ⟨⟨by omega, by omega, fun i hi => ?_⟩, by omega⟩⟩
   rcases Nat.lt_or_ge i x.toNat with h3 | h3
   · exact h2 i h3
   · rw [show i = x.toNat by omega]; simpa [Zrl] using hb
 ·
  refine Ok.some.2 (Ok.some.2 (Ok.some.2 (Ok.some.2 ?_)))
  refine Eq.symm (List.all_eq_true.2 fun a ha => ?_)
  obtain ⟨i, hi, rfl⟩ := List.getElem_of_mem ha
  have := h2 i (by omega)
  rwa [List.getD_eq_getElem?_getD, List.getElem?_eq_getElem hi] at this
theorem s_Sum (n : Net) (h : lenok n.Arcs.length) : Zdn n = some (match Zln 4611686018427387904 n.Arcs with | some l => (4611686018427387904 - l, true) | none => (0, false)) := by
 refine Zhd ?_
 unfold Zdn
 refine Ok.bind.2 (Zlm (fun s => 0 ≤ s.2 ∧ s.2 ≤ n.Arcs.length ∧ 0 ≤ s.1 ∧ s.1 ≤ 4611686018427387904 ∧ Zln 4611686018427387904 n.Arcs = Zln s.1 (n.Arcs.drop s.2.toNat)) (fun s => (n.Arcs.length - s.2).toNat) ⟨by simp, by simp, by simp, by simp, by simp⟩ (by unfold Z4m; simp; omega) ?_)
 rintro ⟨left, x⟩ ⟨h0, h1, h2, h3, h4⟩
 simp only at h0 h1 h2 h3 h4 ⊢
 unfold Zad Zae
 refine Ok.ite.2 ⟨fun hx => ?_, fun hx => ?_⟩
 ·
  rw [Zlt (by omega)] at h4
  refine Ok.gd.2 ⟨(by omega), Ok.ite.2 ⟨fun hb => ?_, fun hb => ?_⟩⟩
  ·
   rw [if_pos rfl]
   refine Ok.some.2 (Ok.some.2 ?_)
   rw [h4, if_pos (.inl hb)]
  ·
   by_cases hc : left < (n.Arcs.getD x.toNat default).cap
   ·
    rw [if_pos (decide_eq_true hc)]
    refine Ok.some.2 (Ok.some.2 ?_)
    rw [h4, if_pos (.inr hc)]
   ·
    rw [if_neg (by simpa using hc)]
    refine Ok.gd.2 ⟨(by omega), Ok.gd.2 ⟨(by omega), Ok.some.2 ⟨⟨by simp only; omega, by simp only; omega, by simp only; omega, by simp only; omega, ?_⟩, by simp only; omega⟩⟩⟩
    rw [h4, if_neg (by omega)]
    simp only
    rw [show (x + 1).toNat = x.toNat + 1 by omega]
 ·
  unfold Zc3
  refine Ok.some.2 (Ok.gd.2 ⟨(by omega), Ok.some.2 ?_⟩)
  rw [h4, List.drop_eq_nil_of_le (by omega)]
  rfl
theorem Zn8 (n : Net) (h : lenok n.Arcs.length) : Z8g n = some (Zal n.N n.S n.T n.Arcs) := by
 unfold Z8g Zd8 Z86 Z85 Zb8 Zb7 Zb6 Zb4 Za4
 rw [Zhh, Zhh, s_of4 n h, s_of5 n h, s_Sum n h]
 unfold Zal
 simp only [Option.bind_some]
 by_cases h1 : 2 ≤ n.N ∧ n.N ≤ 4096
 ·
  rw [if_pos h1.1, if_neg (not_not_intro h1)]
  simp only [Option.bind_some, decide_eq_true h1.2, Bool.not_true, Bool.false_eq_true, if_false]
  by_cases h2 : (n.Arcs.length : Int) ≤ 16384
  ·
   rw [if_neg (by simp [h2]), if_neg (not_not_intro h2)]
   by_cases h3 : Z56 n.N n.S = true ∧ Z56 n.N n.T = true ∧ n.S ≠ n.T
   ·
    rw [if_pos h3.1, if_pos h3.2.1, if_neg (not_not_intro h3)]
    simp only [Option.bind_some, decide_eq_true h3.2.2, Bool.not_true, Bool.false_eq_true, if_false]
    cases h4 : n.Arcs.all (Zga n.N)
    · simp
    ·
     cases h5 : n.Arcs.all Zrl
     · simp
     · cases h6 : Zln 4611686018427387904 n.Arcs <;> simp
   ·
    rw [if_pos h3]
    by_cases a1 : Z56 n.N n.S = true
    ·
     by_cases a2 : Z56 n.N n.T = true
     ·
      have a3 : ¬ n.S ≠ n.T := fun e => h3 ⟨a1, a2, e⟩
      simp [a1, a2, a3]
     · simp [a1, a2]
    · simp [a1]
  · rw [if_pos (by simp [h2]), if_pos h2]
 ·
  rw [if_pos h1]
  by_cases a1 : 2 ≤ n.N
  ·
   have a2 : ¬ n.N ≤ 4096 := fun e => h1 ⟨a1, e⟩
   simp [a1, a2]
  · simp [a1]
end Go.Acq
namespace Go.Acq
open Go
set_option linter.unusedSimpArgs false
structure NetIn (n : Net) : Prop where
  nN : i64ok n.N
  nS : i64ok n.S
  nT : i64ok n.T
  arcs : ∀ a, a ∈ n.Arcs → i64ok a.fr ∧ i64ok a.to ∧ i64ok a.cap
  len : n.Arcs.length ≤ 9223372036854775807
structure Made (n : Net) (v a : Int) : Prop where
  check : Zal n.N n.S n.T n.Arcs = 0
  rows : SomeAt n.N.toNat n.Arcs
  verts : n.N ≤ v
  arcs : (n.Arcs.length : Int) ≤ a
  ends : 2 ≤ n.N ∧ 0 ≤ n.S ∧ n.S < n.N ∧ 0 ≤ n.T ∧ n.T < n.N ∧ n.S ≠ n.T
theorem Made.nat {n : Net} {v a : Int} (h : Made n v a) : ∃ m : Nat, n.N = m ∧ SomeAt m n.Arcs := ⟨n.N.toNat, by have := h.ends.1; omega, h.rows⟩
theorem Made.caps {n : Net} {m : Nat} (h : SomeAt m n.Arcs) : ∀ i, i < n.Arcs.length → 0 ≤ (n.Arcs.getD i default).cap ∧ (n.Arcs.getD i default).cap < 1125899906842624 := fun _ hi => (h _ (Z9h hi default)).2
theorem s_Some {n : Net} {v a : Int} (h : NetIn n) (hv0 : 2 ≤ v) (hv1 : v ≤ 4096) (ha0 : 0 ≤ a) (ha1 : a ≤ 4096) : Ok (Z5u n v a) (fun r => Made r v a) := by
 have hN := Zbr (x := n.N) (n := v - 1) (by omega)
 unfold Z5u
 refine Ok.gd.2 ⟨(by omega), Ok.bind.2 (Zav (Zhy (by omega)) (Ok.gd.2 ⟨(by omega), ?_⟩))⟩
 obtain ⟨m, hm⟩ : ∃ m : Nat, 2 + Zi9 n.N (v - 1) = m := ⟨(2 + Zi9 n.N (v - 1)).toNat, by omega⟩
 rw [hm]
 have hS := Zbr (x := n.S) (n := (m : Int)) (by omega)
 have hT := Zbr (x := n.T) (n := (m : Int)) (by omega)
 refine Ok.bind.2 (Zav (Zhy (by omega)) (Ok.bind.2 (Zav (Zhy (by omega)) ?_)))
 have key : ∀ t : Int, 0 ≤ t → t < m → t ≠ Zi9 n.S m → Ok (Z3w n a (Zi9 n.N (v - 1)) (Zi9 n.S m) t) (fun r => Made r v a) := by
  intro t t0 t1 t2
  unfold Z3w
  refine Ok.gd.2 ⟨(by omega), Ok.bind.2 ?_⟩
  obtain ⟨q, hq⟩ : ∃ q : Nat, min (n.Arcs.length : Int) a = q := ⟨(min (n.Arcs.length : Int) a).toNat, by omega⟩
  obtain ⟨al, hal⟩ : ∃ l, l = n.Arcs.take (q : Int).toNat := ⟨_, rfl⟩
  have hlen : al.length = q := by rw [hal, List.length_take]; omega
  have hcap : ∀ b, b ∈ al → i64ok b.cap := fun b hb => (h.arcs b (List.mem_of_mem_take (by rw [← hal]; exact hb))).2.2
  refine Zcz (fun s => ∃ k : Nat, s.2 = k ∧ k ≤ q ∧ s.1.length = k ∧ SomeAt m s.1) (fun s => (q - s.2).toNat) ⟨0, rfl, by omega, rfl, fun b hb => by cases hb⟩ (by unfold Z4m; simp only; omega) ?_
  rintro ⟨ol, x⟩ ⟨k, h1, h2, h3, h4⟩ P next exit
  simp only at h1 h2 h3 h4 next ⊢
  subst h1
  unfold Z4o
  rw [hq, ← hal]
  simp only [Int.toNat_natCast]
  refine Ok.ite.2 ⟨fun hx => ?_, fun hx => ?_⟩
  ·
   have hkl : k < al.length := by omega
   have hc := hcap _ (Z9h hkl default)
   have hj : ∀ c : Int, 0 ≤ c → Ok (Z3v n a (Zi9 n.N (v - 1)) ol k c) P := by
    intro c hc0
    unfold Z3v
    rw [hq, ← hal, hm]
    refine Ok.bind.2 (Zav (Zhy (by omega)) (Ok.bind.2 (Zav (Zhy (by omega)) (Ok.gd.2 ⟨?_, Ok.gd.2 ⟨(by omega), Ok.some.2 (next _ ⟨k + 1, by simp, by omega, by simp [h3], ?_⟩ (by simp only; omega))⟩⟩))))
    · rw [List.length_append, h3]; simp only [List.length_cons, List.length_nil]; constructor <;> omega
    · exact h4.put (Zbr (by omega)) (Zbr (by omega)) (Zjv hc0 (by omega))
   refine Ok.gd.2 ⟨(by omega), Ok.ite.2 ⟨fun hn => ?_, fun hn => ?_⟩⟩
   · exact Ok.gd.2 ⟨by constructor <;> omega, Ok.gd.2 ⟨by constructor <;> omega, hj (-((al.getD k default).cap + 1)) (by omega)⟩⟩
   · exact hj (al.getD k default).cap (by omega)
  ·
   refine Ok.some.2 (exit _ ?_)
   unfold Z5p
   refine Ok.some.2 ?_
   rw [hm]
   exact ⟨Zoq (by omega) (by omega) hS ⟨t0, t1⟩ t2 h4 (show ol.length ≤ 4096 by omega), by simpa using h4, by simp only; omega, by show (ol.length : Int) ≤ a; omega, ⟨by simp only; omega, hS.1, hS.2, t0, t1, fun e => t2 e.symm⟩⟩
 refine Ok.ite.2 ⟨fun he => ?_, fun he => ?_⟩
 ·
  refine Ok.gd.2 ⟨(by omega), Ok.gd.2 ⟨by omega, ?_⟩⟩
  obtain ⟨n1, n2, n3⟩ := next_ne hS.1 hS.2 (by omega)
  exact key _ n1 n2 n3
 · exact key _ hT.1 hT.2 (fun e => he e.symm)
theorem Zr3 {n : Net} {m : Nat} (hN : n.N = m) (hm : m ≤ 4096) (hl : n.Arcs.length ≤ 16384) (he : Z7c m n.Arcs) :
    Ok (Z9b n) (fun fs => fs.length = m + 1 ∧ ∀ u, u ≤ m → fs.getD u 0 = Z18 n.Arcs u) := by
  unfold Z9b
  simp only [hN]
  refine Ok.gd.2 ⟨(by omega), Ok.gd.2 ⟨(by omega), Ok.bind.2 (Zcz (fun s => ∃ k : Nat, s.2 = k ∧ k ≤ n.Arcs.length ∧ Counted n.Arcs m k s.1) (fun s => (n.Arcs.length - s.2).toNat) ⟨0, rfl, by omega, Counted.start n.Arcs m (by omega)⟩ (by unfold Z4m; simp only; omega) ?_)⟩⟩
  rintro ⟨fs, x⟩ ⟨k, h1, h2, h3⟩ P next exit
  simp only at h1 h2 h3 next ⊢
  subst h1
  unfold Z6p
  simp only [Int.toNat_natCast]
  refine Ok.ite.2 ⟨fun hx => ?_, fun hx => ?_⟩
  · have hkl : k < n.Arcs.length := by omega
    have hfl := h3.1
    have e0 := he k hkl false
    have e1 := he k hkl true
    simp only [vtx, Bool.false_eq_true, if_false, if_true] at e0 e1
    have c0 := h3.2.2 _ e0.1 e0.2
    have c1 := h3.2.2 _ e1.1 e1.2
    have d0 := Zo9 n.Arcs (n.Arcs.getD k default).fr.toNat k
    have d1 := Zo9 n.Arcs (n.Arcs.getD k default).to.toNat k
    refine Ok.gd.2 ⟨(by omega), Ok.ite.2 ⟨fun hne => ?_, fun hne => ?_⟩⟩
    · have c2 : (fs.set ((n.Arcs.getD k default).fr + 1).toNat (fs.getD ((n.Arcs.getD k default).fr + 1).toNat 0 + 1)).getD ((n.Arcs.getD k default).to + 1).toNat 0 = cnt n.Arcs (n.Arcs.getD k default).to.toNat k := by rw [Zay (by omega)]; exact c1
      refine Ok.gd.2 ⟨(by omega), Ok.gd.2 ⟨(by omega), Ok.gd.2 ⟨(by omega), Ok.gd.2 ⟨(by omega), Ok.gd.2 ⟨(by omega), Ok.gd.2 ⟨(by simp only [List.length_set, List.length_replicate]; omega), Ok.gd.2 ⟨(by omega), Ok.gd.2 ⟨(by simp only [List.length_set, List.length_replicate]; omega), Ok.gd.2 ⟨(by omega), Ok.some.2 (next _ ⟨k + 1, by simp, by omega, ?_⟩ (by simp only; omega))⟩⟩⟩⟩⟩⟩⟩⟩⟩
      exact h3.put he hkl hne
    · refine Ok.gd.2 ⟨(by omega), Ok.some.2 (next _ ⟨k + 1, by simp, by omega, h3.skip (Classical.not_not.1 hne)⟩ (by simp only; omega))⟩
  · refine Ok.some.2 (exit _ ?_)
    have hk : k = n.Arcs.length := by omega
    subst hk
    unfold Z8a
    refine Ok.bind.2 (Zcz (fun s => ∃ v : Nat, s.2 = v ∧ v ≤ m ∧ Summed n.Arcs m v s.1) (fun s => (m - s.2).toNat) ⟨0, rfl, by omega, h3.summed⟩ (by unfold Z4m; simp only; omega) ?_)
    rintro ⟨gs, y⟩ ⟨v, g1, g2, g3⟩ P2 next2 exit2
    simp only at g1 g2 g3 next2 ⊢
    subst g1
    unfold Z6o
    simp only [hN, Int.toNat_natCast]
    have hgl := g3.1
    have b0 := g3.2.1 v (Nat.le_refl _)
    refine Ok.ite.2 ⟨fun hv => ?_, fun hv => ?_⟩
    · have b1 := g3.2.2 v (Nat.le_refl _) (by omega)
      have b2 := Z65 (al := n.Arcs) (v := v) (by omega) hl
      have b3 := Zo9 n.Arcs v n.Arcs.length
      have b5 : ((v : Int) + 1).toNat = v + 1 := by omega
      simp only [b5]
      refine Ok.gd.2 ⟨(by omega), Ok.gd.2 ⟨(by omega), Ok.gd.2 ⟨(by omega), Ok.gd.2 ⟨(by omega), Ok.gd.2 ⟨(by omega), Ok.gd.2 ⟨(by omega), Ok.some.2 (next2 _ ⟨v + 1, by simp, by omega, ?_⟩ (by simp only; omega))⟩⟩⟩⟩⟩⟩
      exact g3.put (by omega) rfl
    · refine Ok.some.2 (exit2 _ ?_)
      unfold Z89
      have : v = m := by omega
      subst this
      exact Ok.some.2 ⟨hgl, g3.2.1⟩
structure CsrIs (n : Net) (m : Nat) (c : Csr) : Prop where
  hN : c.N = m
  hS : c.S = n.S
  hT : c.T = n.T
  ok : CsrOK n.Arcs m c.First c.Head c.Rev c.Cap c.Arc c.Back
theorem s_Make {n : Net} {m : Nat} (hN : n.N = m) (hc : Zal n.N n.S n.T n.Arcs = 0) (hl : lenok n.Arcs.length) :
    Ok (Z9x n) (fun r => CsrIs n m r.1 ∧ r.2 = 0) := by
  have hz := Z2y hc
  have hm : m ≤ 4096 := by omega
  have he : Z7c m n.Arcs := Zfr (by rw [← hN]; exact hz.2.2.2.1)
  unfold Z9x
  refine Ok.bind.2 (Zav (Zn8 n hl) (Ok.ite.2 ⟨fun h => absurd hc h, fun _ => Ok.bind.2 (Ok.mono (Zr3 hN hm (by omega) he) ?_)⟩))
  rintro fs ⟨hfl, hfs⟩
  simp only [hN, Int.toNat_natCast, hfs m (Nat.le_refl _)]
  have hbs := Z65 (al := n.Arcs) (v := m) hm (by omega)
  unfold Z3o
  refine Ok.gd.2 ⟨(by omega), Ok.gd.2 ⟨(by omega), Ok.gd.2 ⟨(by omega), Ok.gd.2 ⟨(by omega), Ok.gd.2 ⟨(by omega), Ok.gd.2 ⟨(by omega), Ok.bind.2 (Ok.gd.2 ⟨(by omega), Ok.some.2 (Ok.bind.2 ?_)⟩)⟩⟩⟩⟩⟩⟩
  refine Zcz (fun s => ∃ k : Nat, s.2.2.2.2.2.2 = k ∧ k ≤ n.Arcs.length ∧ MakeAt n.Arcs m k s.2.2.2.2.2.1 s.1 s.2.1 s.2.2.1 s.2.2.2.1 s.2.2.2.2.1) (fun s => (n.Arcs.length - s.2.2.2.2.2.2).toNat) ⟨0, rfl, by omega, MakeAt.start hfl hfs⟩ (by unfold Z4m; simp only; omega) ?_
  rintro ⟨hs, rs, cs, aa, bs, nx, x⟩ ⟨k, h1, h2, h3⟩ P next exit
  simp only at h1 h2 h3 next ⊢
  subst h1
  unfold Z9d
  simp only [Int.toNat_natCast]
  refine Ok.ite.2 ⟨fun hx => ?_, fun hx => ?_⟩
  · have hkl : k < n.Arcs.length := by omega
    refine Ok.gd.2 ⟨(by omega), Ok.ite.2 ⟨fun heq => ?_, fun hne => ?_⟩⟩
    · exact Ok.gd.2 ⟨(by omega), Ok.some.2 (next _ ⟨k + 1, by simp, by omega, h3.skip heq⟩ (by simp only; omega))⟩
    · have e0 := he k hkl false
      have e1 := he k hkl true
      have n0 := h3.at he hkl false
      have n1 := h3.at he hkl true
      have p0 : pos n.Arcs k false < Z18 n.Arcs m := Zdh hkl hne he
      have p1 : pos n.Arcs k true < Z18 n.Arcs m := Zdh hkl hne he
      simp only [vtx, Bool.false_eq_true, if_false, if_true] at e0 e1 n0 n1
      have hh := h3
      obtain ⟨⟨l0, l1, l2, l3, l4, l5⟩, _, _⟩ := h3
      unfold Zai
      simp only [n0, Int.toNat_natCast]
      have n2 : (nx.set (n.Arcs.getD k default).fr.toNat ((pos n.Arcs k false : Int) + 1)).getD (n.Arcs.getD k default).to.toNat 0 = (pos n.Arcs k true : Nat) := by rw [Zay (by omega)]; exact n1
      refine Ok.bind.2 (Ok.gd.2 ⟨(by omega), Ok.gd.2 ⟨(by omega), Ok.gd.2 ⟨(by omega), Ok.gd.2 ⟨(by omega), Ok.gd.2 ⟨(by omega), Ok.gd.2 ⟨(by omega), Ok.gd.2 ⟨(by omega), Ok.gd.2 ⟨(by omega), Ok.some.2 (Ok.bind.2 ?_)⟩⟩⟩⟩⟩⟩⟩⟩)
      simp only [n2, Int.toNat_natCast]
      refine Ok.gd.2 ⟨(by simp only [List.length_set, List.length_replicate]; omega), Ok.gd.2 ⟨(by simp only [List.length_set, List.length_replicate]; omega), Ok.gd.2 ⟨(by omega), Ok.gd.2 ⟨(by simp only [List.length_set, List.length_replicate]; omega), Ok.gd.2 ⟨(by simp only [List.length_set, List.length_replicate]; omega), Ok.gd.2 ⟨(by simp only [List.length_set, List.length_replicate]; omega), Ok.gd.2 ⟨(by simp only [List.length_set, List.length_replicate]; omega), Ok.gd.2 ⟨(by simp only [List.length_set, List.length_replicate]; omega), Ok.some.2 (Ok.gd.2 ⟨(by omega), Ok.gd.2 ⟨(by simp only [List.length_set, List.length_replicate]; omega), Ok.gd.2 ⟨(by omega), Ok.some.2 (next _ ⟨k + 1, by simp, by omega, ?_⟩ (by simp only; omega))⟩⟩⟩)⟩⟩⟩⟩⟩⟩⟩⟩
      exact hh.put he hkl hne
  · refine Ok.some.2 (exit _ ?_)
    unfold Zb9
    have hk : k = n.Arcs.length := by omega
    subst hk
    exact Ok.some.2 ⟨⟨hN, rfl, rfl, h3.done hfl hfs⟩, rfl⟩
theorem s_Res {c : Csr} {f : List Int} {L : Nat} (hh : c.Head.length = L) (hc : c.Cap.length = L) (ha : c.Arc.length = L) (hb : c.Back.length = L) (hL : L ≤ 67108864)
    (h0 : ∀ j, j < L → 0 ≤ c.Arc.getD j 0) (h1 : ∀ j, j < L → 0 ≤ c.Cap.getD j 0 ∧ c.Cap.getD j 0 ≤ 9223372036854775807) :
    Ok (Zdp c f) (fun r => ((∀ j, j < L → Zn9 c.Arc c.Cap c.Back f j) ∧ r.2 = 0 ∧ ResAt c.Arc c.Cap c.Back f L L r.1) ∨ ((∃ j, j < L ∧ ¬Zn9 c.Arc c.Cap c.Back f j) ∧ r = ([], 20))) := by
  unfold Zdp Zaj
  simp only [hh]
  refine Ok.bind.2 (Ok.some.2 (Ok.gd.2 ⟨(by omega), Ok.bind.2 (Zcz (fun s => ∃ k : Nat, s.2 = k ∧ k ≤ L ∧ ResAt c.Arc c.Cap c.Back f L k s.1) (fun s => (L - s.2).toNat) ⟨0, rfl, by omega, by simp, fun j hj => by omega⟩ (by unfold Z4m; simp only; omega) ?_)⟩))
  rintro ⟨rl, x⟩ ⟨k, g1, g2, g3⟩ P next exit
  simp only at g1 g2 g3 next ⊢
  subst g1
  unfold Zah
  simp only [Int.toNat_natCast, List.length_replicate]
  have hrl := g3.1
  refine Ok.ite.2 ⟨fun hx => ?_, fun hx => ?_⟩
  · have hkl : k < L := by omega
    have a0 := h0 k hkl
    have c1 := h1 k hkl
    have bad : ¬Zn9 c.Arc c.Cap c.Back f k → P (.inr (.inl ([], 20))) := fun hr => exit _ (Ok.some.2 (.inr ⟨⟨k, hkl, hr⟩, rfl⟩))
    have step : ∀ v : Int, Zn9 c.Arc c.Cap c.Back f k → v = resV c.Arc c.Cap c.Back f k → Ok (gd (i64ok ((k : Int) + 1)) (some (.inl (rl.set k v, (k : Int) + 1)))) P := fun v hr hv =>
      Ok.gd.2 ⟨(by omega), Ok.some.2 (next _ ⟨k + 1, by simp, by omega, g3.put hkl hr hv⟩ (by simp only; omega))⟩
    refine Ok.gd.2 ⟨(by omega), Ok.ite.2 ⟨fun hk => ?_, fun hk => ?_⟩⟩
    · exact Ok.some.2 (bad fun hr => by have := hr.1; omega)
    · refine Ok.gd.2 ⟨(by omega), Ok.ite.2 ⟨fun hbk => ?_, fun hbk => ?_⟩⟩
      · exact Ok.gd.2 ⟨(by omega), Ok.gd.2 ⟨(by omega), step _ ⟨by omega, .inl hbk⟩ (by unfold resV; rw [if_pos hbk])⟩⟩
      · refine Ok.gd.2 ⟨(by omega), Ok.ite.2 ⟨fun hn => ?_, fun hn => ?_⟩⟩
        · unfold Z8s
          rw [if_pos rfl]
          exact Ok.some.2 (bad fun hr => by rcases hr.2 with h | h; exact hbk h; omega)
        · refine Ok.gd.2 ⟨(by omega), Ok.gd.2 ⟨(by omega), ?_⟩⟩
          unfold Z8s
          simp only [Int.toNat_natCast]
          refine Ok.ite.2 ⟨fun hd => ?_, fun hd => ?_⟩
          · have hd := of_decide_eq_true hd
            exact Ok.some.2 (bad fun hr => by rcases hr.2 with h | h; exact hbk h; omega)
          · have hd : ¬ c.Cap.getD k 0 < f.getD (c.Arc.getD k 0).toNat 0 := fun h => hd (decide_eq_true h)
            exact Ok.gd.2 ⟨(by omega), Ok.gd.2 ⟨(by omega), Ok.gd.2 ⟨(by omega), Ok.gd.2 ⟨(by omega), step _ ⟨by omega, .inr ⟨by omega, by omega⟩⟩ (by unfold resV; rw [if_neg hbk])⟩⟩⟩⟩
  · refine Ok.some.2 (exit _ ?_)
    unfold Zc5
    have : k = L := by omega
    subst this
    exact Ok.some.2 (.inl ⟨fun j hj => (g3.2 j hj).1, rfl, g3⟩)
def Zer (rs cs : List Int) (res : List Int) (j : Nat) : Prop :=
  0 ≤ res.getD j 0 ∧ res.getD j 0 ≤ max (cs.getD j 0) (cs.getD (rs.getD j 0).toNat 0) ∧ res.getD (rs.getD j 0).toNat 0 = max (cs.getD j 0) (cs.getD (rs.getD j 0).toNat 0) - res.getD j 0
def FlowK (al : List Arc) (a : Nat) (res : List Int) (k : Nat) (fl : List Int) : Prop :=
  fl.length = a ∧ ∀ i, fl.getD i 0 = if i < al.length ∧ (al.getD i default).fr ≠ (al.getD i default).to ∧ pos al i true < k then res.getD (pos al i true) 0 else 0
theorem s_over {l : List Int} {a : Int} (hl : lenok l.length) : Ok (Z28 l a) (fun r => r = decide (∃ j, j < l.length ∧ a ≤ l.getD j 0)) := by
 unfold Z28 Z3d
 refine Ok.bind.2 (Ok.bind.2 (Zcz (fun x => ∃ k : Nat, x = k ∧ k ≤ l.length ∧ ∀ j, j < k → ¬ a ≤ l.getD j 0) (fun x => (l.length - x).toNat) ⟨0, rfl, by omega, fun j hj => by omega⟩ (by unfold Z4m; omega) ?_))
 rintro x ⟨k, rfl, g2, g3⟩ P next exit
 unfold Z27 Zc6
 simp only [Int.toNat_natCast]
 refine Ok.ite.2 ⟨fun hx => ?_, fun hx => ?_⟩
 ·
  refine Ok.gd.2 ⟨(by omega), Ok.bind.2 (Ok.some.2 (Ok.ite.2 ⟨fun hd => ?_, fun hd => ?_⟩))⟩
  ·
   have hd := of_decide_eq_true hd
   refine Ok.some.2 (exit _ (Ok.some.2 (Ok.some.2 ?_)))
   rw [decide_eq_true (show (0 : Int) ≤ k by omega)]
   exact (decide_eq_true ⟨k, by omega, hd⟩).symm
  ·
   refine Ok.gd.2 ⟨(by omega), Ok.some.2 (next _ ⟨k + 1, by simp, by omega, fun j hj => ?_⟩ (by omega))⟩
   rcases Nat.lt_or_ge j k with h | h
   · exact g3 j h
   · rw [show j = k by omega]; exact fun h => hd (decide_eq_true h)
 ·
  refine Ok.some.2 (exit _ (Ok.some.2 (Ok.some.2 ?_)))
  refine (decide_eq_false ?_).symm
  rintro ⟨j, hj, hja⟩
  exact g3 j (by omega) hja
end Go.Acq
namespace Go.Acq
open Go
set_option linter.unusedSimpArgs false
def FirstAt (l : List Int) (x : Int) (r : Nat) : Prop := r ≤ l.length ∧ (∀ k, k < r → l.getD k 0 < x) ∧ (r < l.length → x ≤ l.getD r 0)
theorem Zlv {l : List Int} {x : Int} (hl : l.length ≤ 4611686018427387904) (hm : ∀ i j, i ≤ j → j < l.length → l.getD i 0 ≤ l.getD j 0) : Ok (Z5s l x) (fun r => ∃ n : Nat, r = n ∧ FirstAt l x n) := by
 unfold Z5s Z42
 refine Ok.bind.2 (Ok.bind.2 (Zcz (fun s => ∃ i j : Nat, s = ((i : Int), (j : Int)) ∧ i ≤ j ∧ j ≤ l.length ∧ (∀ k, k < i → l.getD k 0 < x) ∧ (j < l.length → x ≤ l.getD j 0)) (fun s => (s.2 - s.1).toNat) ⟨0, l.length, rfl, by omega, by omega, fun k h => by omega, fun h => by omega⟩ (by unfold Z4m; omega) ?_))
 rintro s ⟨i, j, rfl, h1, h2, h3, h4⟩ P next exit
 unfold Z2m Z6a
 have next : ∀ i' j' : Nat, i' ≤ j' → j' ≤ l.length → (∀ k, k < i' → l.getD k 0 < x) → (j' < l.length → x ≤ l.getD j' 0) → j' - i' < j - i → P (.inl ((i' : Int), (j' : Int))) := fun i' j' a b c d e => next _ ⟨i', j', rfl, a, b, c, d⟩ (by simp only; omega)
 simp only
 refine Ok.ite.2 ⟨fun hx => ?_, fun hx => Ok.some.2 (exit _ ?_)⟩
 ·
  have hd : Int.fdiv ((i : Int) + j) (2 ^ 1) = ((i + j) / 2 : Nat) := by rw [Int.fdiv_eq_ediv_of_nonneg _ (by omega)]; omega
  simp only [hd, Int.toNat_natCast]
  refine Ok.gd.2 ⟨(by omega), Ok.gd.2 ⟨(by omega), Ok.gd.2 ⟨(by omega), Ok.bind.2 (Ok.gd.2 ⟨(by omega), Ok.some.2 (Ok.ite.2 ⟨fun hb => ?_, fun hb => ?_⟩)⟩)⟩⟩⟩
  ·
   have hb : l.getD ((i + j) / 2) 0 < x := by
    have : ¬ x ≤ l.getD ((i + j) / 2) 0 := by simpa using hb
    omega
   refine Ok.gd.2 ⟨(by omega), Ok.some.2 ?_⟩
   have := next ((i + j) / 2 + 1) j (by omega) h2 (fun k hk => by have := hm k ((i + j) / 2) (by omega) (by omega); omega) h4 (by omega)
   rwa [show (((i + j) / 2 + 1 : Nat) : Int) = (((i + j) / 2 : Nat) : Int) + 1 by omega] at this
  ·
   have hb : x ≤ l.getD ((i + j) / 2) 0 := by
    have : ¬ ¬ x ≤ l.getD ((i + j) / 2) 0 := by simpa using hb
    omega
   exact Ok.some.2 (next i ((i + j) / 2) (by omega) (by omega) h3 (fun _ => hb) (by omega))
 ·
  unfold Z3c
  have : i = j := by omega
  subst this
  exact Ok.some.2 (Ok.some.2 ⟨i, rfl, h2, h3, h4⟩)
theorem s_Len (c : Csr) : Zaj c = some (c.Head.length : Int) := rfl
theorem s_Tail {n : Net} {m : Nat} {c : Csr} (hc : CsrIs n m c) (he : Z7c m n.Arcs) (hm : m ≤ 4096) (hl : n.Arcs.length ≤ 16384) {i : Nat} {s : Bool} (hi : i < n.Arcs.length) (hne : (n.Arcs.getD i default).fr ≠ (n.Arcs.getD i default).to) :
    Zbe c (pos n.Arcs i s : Nat) = some (vtx (n.Arcs.getD i default) s, true) := by
  refine Zhd ?_
  have hp := Zdh (s := s) hi hne he
  have hbs := Z65 (al := n.Arcs) (v := m) (by omega) (by omega)
  have lf := hc.ok.lf
  have lh := hc.ok.lh
  unfold Zbe
  refine Ok.ite.2 ⟨fun h => by omega, fun _ => Ok.bind.2 (Zav (s_Len c) ?_)⟩
  unfold Z9c
  refine Ok.ite.2 ⟨fun h => by have := of_decide_eq_true h; omega, fun _ => Ok.gd.2 ⟨(by omega), ?_⟩⟩
  refine Ok.bind.2 (Ok.mono (Zlv (by omega) fun a b hab hb => ?_) ?_)
  · rw [hc.ok.hf a (by omega), hc.ok.hf b (by omega)]
    have := Z48 (al := n.Arcs) hab
    omega
  rintro r ⟨k, rfl, g1, g2, g3⟩
  have hv := he i hi s
  obtain ⟨v, hv'⟩ : ∃ v : Nat, vtx (n.Arcs.getD i default) s = v := ⟨(vtx (n.Arcs.getD i default) s).toNat, by omega⟩
  have hcl := Zfs (s := s) hi hne hv.1
  have hpos : pos n.Arcs i s = Z18 n.Arcs v + cnt n.Arcs v i := by unfold pos; rw [hv', Int.toNat_natCast]
  rw [hv'] at hv hcl ⊢
  rw [Int.toNat_natCast] at hcl
  have hb1 : Z18 n.Arcs (v + 1) = Z18 n.Arcs v + cnt n.Arcs v n.Arcs.length := rfl
  have e : k = v + 1 := by
    rcases Nat.lt_trichotomy k (v + 1) with h | h | h
    · have h3 := g3 (by omega)
      rw [hc.ok.hf k (by omega)] at h3
      have := Z48 (al := n.Arcs) (show k ≤ v by omega)
      omega
    · exact h
    · have h3 := g2 (v + 1) h
      rw [hc.ok.hf (v + 1) (by omega)] at h3
      omega
  subst e
  refine Ok.gd.2 ⟨(by omega), Ok.some.2 ?_⟩
  simp
end Go.Acq
namespace Go.Acq
open Go
set_option linter.unusedSimpArgs false
def ex (al : List Arc) (f : List Int) (v : Int) : Nat → Int
  | 0 => 0
  | k + 1 => ex al f v k - (if (al.getD k default).fr = v then f.getD k 0 else 0) + (if (al.getD k default).to = v then f.getD k 0 else 0)
def tot (f : List Int) : Nat → Int
  | 0 => 0
  | k + 1 => tot f k + f.getD k 0
def part (al : List Arc) (f : List Int) (j : Int) : Nat → Int
  | 0 => 0
  | k + 1 => part al f j k - (if (al.getD k default).fr < j then f.getD k 0 else 0) + (if (al.getD k default).to < j then f.getD k 0 else 0)
theorem ex_le {al : List Arc} {f : List Int} (v : Int) {n : Nat} (h : ∀ i, i < n → 0 ≤ f.getD i 0) : ∀ k, k ≤ n → -tot f k ≤ ex al f v k ∧ ex al f v k ≤ tot f k
 | 0, _ => by simp [ex, tot]
 | k + 1, hk => by
  have ih := ex_le (al := al) v h k (by omega)
  have := h k hk
  simp only [ex, tot]
  split <;> split <;> omega
theorem Zl3 {f : List Int} {n : Nat} (h : ∀ i, i < n → 0 ≤ f.getD i 0) : ∀ j k, j ≤ k → k ≤ n → tot f j ≤ tot f k
  | j, 0, hj, _ => by have : j = 0 := by omega
                      subst this; exact Int.le_refl _
  | j, k + 1, hj, hk => by
    rcases Nat.lt_or_ge j (k + 1) with h1 | h1
    · have := Zl3 h j k (by omega) (by omega)
      have := h k hk
      simp only [tot]; omega
    · rw [show j = k + 1 by omega]; exact Int.le_refl _
theorem sumL_tot {f : List Int} : ∀ (al : List Arc) (left : Int) (k : Nat), (Zln left (al.drop k)).isSome = true → 0 ≤ left → k ≤ al.length → (∀ i, i < al.length → 0 ≤ f.getD i 0 ∧ f.getD i 0 ≤ (al.getD i default).cap) → tot f al.length - tot f k ≤ left := by
 intro al left k
 induction hn : al.length - k generalizing left k with
 | zero =>
  intro _ h0 hk _
  rw [show k = al.length by omega]; omega
 | succ n ih =>
  intro hs h0 hk hf
  have hkl : k < al.length := by omega
  rw [Zlt hkl] at hs
  by_cases hc : (al.getD k default).cap < 0 ∨ left < (al.getD k default).cap
  · rw [if_pos hc] at hs; cases hs
  ·
   rw [if_neg hc] at hs
   have := ih (left - (al.getD k default).cap) (k + 1) (by omega) hs (by omega) (by omega) hf
   have hfk := hf k hkl
   simp only [tot] at this
   omega
def FwithinP (n : Net) (f : List Int) : Prop := Zal n.N n.S n.T n.Arcs = 0 ∧ f.length = n.Arcs.length ∧ ∀ i, i < n.Arcs.length → 0 ≤ f.getD i 0 ∧ f.getD i 0 ≤ (n.Arcs.getD i default).cap
theorem FwithinP.tot {n : Net} {f : List Int} (h : FwithinP n f) : ∀ k, k ≤ n.Arcs.length → 0 ≤ tot f k ∧ tot f k ≤ 4611686018427387904 := by
 intro k hk
 have hz := Z2y h.1
 have h1 := sumL_tot (f := f) n.Arcs 4611686018427387904 0 (by simpa using hz.2.2.2.2.2) (by omega) (by omega) h.2.2
 have h2 := Zl3 (fun i hi => (h.2.2 i hi).1) k n.Arcs.length hk (Nat.le_refl _)
 have h3 := Zl3 (fun i hi => (h.2.2 i hi).1) 0 k (by omega) hk
 simp only [Acq.tot] at h1 h3
 omega
theorem Zhw {n : Net} {f : List Int} (hl : lenok n.Arcs.length) : Ok (Z6c n f) (fun b => b = true ↔ FwithinP n f) := by
 unfold Z6c
 refine Ok.bind.2 (Zav (Zn8 n hl) (Ok.ite.2 ⟨fun h => Ok.some.2 ⟨fun h2 => (by cases h2), fun h2 => absurd h2.1 h⟩, fun h1 => Ok.ite.2 ⟨fun h => Ok.some.2 ⟨fun h2 => (by cases h2), fun h2 => absurd h2.2.1 (by omega)⟩, fun h2 => Ok.bind.2 ?_⟩⟩))
 have hz := Z2y (Classical.not_not.1 h1)
 refine Zcz (fun x => ∃ k : Nat, x = k ∧ k ≤ n.Arcs.length ∧ ∀ i, i < k → 0 ≤ f.getD i 0 ∧ f.getD i 0 ≤ (n.Arcs.getD i default).cap) (fun x => (n.Arcs.length - x).toNat) ⟨0, rfl, by omega, fun i hi => by omega⟩ (by unfold Z4m; omega) ?_
 rintro x ⟨k, rfl, hk, h3⟩ P next exit
 unfold Z6m
 simp only [Int.toNat_natCast]
 refine Ok.ite.2 ⟨fun hx => ?_, fun hx => ?_⟩
 ·
  refine Ok.gd.2 ⟨(by omega), Ok.gd.2 ⟨(by omega), Ok.ite.2 ⟨fun h => Ok.some.2 (exit _ (Ok.some.2 ⟨fun h2 => (by cases h2), fun h2 => by have := h2.2.2 k (by omega); omega⟩)), fun h4 => Ok.gd.2 ⟨(by omega), Ok.ite.2 ⟨fun h => Ok.some.2 (exit _ (Ok.some.2 ⟨fun h2 => (by cases h2), fun h2 => by have := h2.2.2 k (by omega); omega⟩)), fun h5 => Ok.gd.2 ⟨(by omega), Ok.some.2 (next _ ⟨k + 1, by simp, by omega, fun i hi => ?_⟩ (by omega))⟩⟩⟩⟩⟩⟩
  rcases Nat.lt_or_ge i k with h | h
  · exact h3 i h
  · rw [show i = k by omega]; omega
 ·
  refine Ok.some.2 (exit _ ?_)
  unfold Z87
  exact Ok.some.2 ⟨fun _ => ⟨Classical.not_not.1 h1, by omega, fun i hi => h3 i (by omega)⟩, fun _ => rfl⟩
theorem Zo2 {n : Net} {f : List Int} (hl : lenok n.Arcs.length) : Ok (Z7o n f) (fun r => (FwithinP n f ∧ r.2 = 0 ∧ r.1.length = n.N.toNat ∧ ∀ v : Nat, v < n.N.toNat → r.1.getD v 0 = ex n.Arcs f v n.Arcs.length) ∨ (¬ FwithinP n f ∧ r = ([], 20))) := by
 unfold Z7o
 refine Ok.bind.2 (Ok.mono (Zhw hl) fun b hb => Ok.ite.2 ⟨fun h => Ok.some.2 (.inr ⟨fun h2 => (by rw [hb.2 h2] at h; cases h), rfl⟩), fun h => ?_⟩)
 have hw : FwithinP n f := hb.1 (by cases b; exact absurd rfl h; rfl)
 have hz := Z2y hw.1
 obtain ⟨m, hm⟩ : ∃ m : Nat, n.N = m := ⟨n.N.toNat, by omega⟩
 have he : Z7c m n.Arcs := Zfr (by rw [← hm]; exact hz.2.2.2.1)
 have hfl := hw.2.1
 refine Ok.gd.2 ⟨(by omega), Ok.bind.2 ?_⟩
 rw [hm]
 simp only [Int.toNat_natCast]
 refine Zcz (fun s => ∃ k : Nat, s.2 = k ∧ k ≤ n.Arcs.length ∧ s.1.length = m ∧ ∀ v : Nat, v < m → s.1.getD v 0 = ex n.Arcs f v k) (fun s => (n.Arcs.length - s.2).toNat) ⟨0, rfl, by omega, List.length_replicate, fun v _ => by rw [Z37]; rfl⟩ (by unfold Z4m; simp only; omega) ?_
 rintro ⟨xs, x⟩ ⟨k, h1, hk, h3, h4⟩ P next exit
 simp only at h1 h3 h4 next ⊢
 subst h1
 unfold Z6n
 simp only [Int.toNat_natCast]
 refine Ok.ite.2 ⟨fun hx => ?_, fun hx => ?_⟩
 ·
  have hkl : k < n.Arcs.length := by omega
  have e0 := he k hkl false
  have e1 := he k hkl true
  simp only [vtx, Bool.false_eq_true, if_false, if_true] at e0 e1
  obtain ⟨p, hp⟩ : ∃ p : Nat, (n.Arcs.getD k default).fr = p := ⟨(n.Arcs.getD k default).fr.toNat, by omega⟩
  obtain ⟨q, hq⟩ : ∃ q : Nat, (n.Arcs.getD k default).to = q := ⟨(n.Arcs.getD k default).to.toNat, by omega⟩
  have hfk := hw.2.2 k hkl
  have b0 := ex_le (al := n.Arcs) (f := f) (p : Int) (fun i hi => (hw.2.2 i hi).1) k hk
  have b1 := ex_le (al := n.Arcs) (f := f) (q : Int) (fun i hi => (hw.2.2 i hi).1) k hk
  have t0 := hw.tot k hk
  have t1 := hw.tot (k + 1) hkl
  simp only [tot] at t1
  rw [hp] at e0
  rw [hq] at e1
  have v0 := h4 p (by omega)
  have v1 := h4 q (by omega)
  simp only [hp, hq, Int.toNat_natCast, v0, Zi4, List.length_set, h3]
  refine Ok.gd.2 ⟨(by omega), Ok.gd.2 ⟨(by omega), Ok.gd.2 ⟨(by omega), Ok.gd.2 ⟨(by omega), Ok.gd.2 ⟨(by omega), Ok.gd.2 ⟨(by omega), Ok.gd.2 ⟨(by omega), Ok.gd.2 ⟨by split <;> constructor <;> omega, Ok.gd.2 ⟨(by omega), Ok.gd.2 ⟨(by omega), Ok.some.2 (next _ ⟨k + 1, by simp, by omega, by simp [h3], fun v hv => ?_⟩ (by simp only; omega))⟩⟩⟩⟩⟩⟩⟩⟩⟩⟩
  simp only [Zi4, List.length_set, h3, ex, hp, hq]
  rw [h4 v hv]
  by_cases c1 : p = v
  ·
   subst c1
   by_cases c2 : q = p
   ·
    subst c2
    simp only [true_and, if_true]
    rw [if_pos (by omega)]; simp [show q < m by omega]
   · rw [if_neg (fun h => c2 h.1), if_pos ⟨rfl, by omega⟩, if_pos rfl, if_neg (by omega)]; omega
  ·
   by_cases c2 : q = v
   ·
    subst c2
    rw [if_pos ⟨rfl, by omega⟩, if_neg (fun h => c1 h.1), if_neg (by omega), if_pos rfl, v1]; omega
   · rw [if_neg (fun h => c2 h.1), if_neg (fun h => c1 h.1), if_neg (by omega), if_neg (by omega)]; omega
 ·
  refine Ok.some.2 (exit _ ?_)
  unfold Z88
  rw [show k = n.Arcs.length by omega] at h4
  exact Ok.some.2 (.inl ⟨hw, rfl, h3, h4⟩)
theorem Zor {s : List Int} {v : Int} (hl : lenok s.length) : Z4e s v = some (s.contains v) := by
 refine Zhd ?_
 unfold Z4e Z6z
 refine Ok.bind.2 (Ok.bind.2 (Zcz (fun x => ∃ k : Nat, x = k ∧ k ≤ s.length ∧ ∀ j, j < k → s.getD j 0 ≠ v) (fun x => (s.length - x).toNat) ⟨0, rfl, by omega, fun j hj => by omega⟩ (by unfold Z4m; omega) ?_))
 rintro x ⟨k, rfl, g2, g3⟩ P next exit
 unfold Z4d
 simp only [Int.toNat_natCast]
 refine Ok.ite.2 ⟨fun hx => ?_, fun hx => ?_⟩
 ·
  refine Ok.gd.2 ⟨(by omega), Ok.ite.2 ⟨fun h => Ok.some.2 (exit _ (Ok.some.2 (Ok.some.2 ?_))), fun h => Ok.gd.2 ⟨(by omega), Ok.some.2 (next _ ⟨k + 1, by simp, by omega, fun j hj => ?_⟩ (by omega))⟩⟩⟩
  ·
   rw [show s.contains v = true from List.contains_iff_mem.2 (by rw [h]; exact Z9h (by omega) 0)]
   exact decide_eq_true (by omega)
  ·
   rcases Nat.lt_or_ge j k with h1 | h1
   · exact g3 j h1
   · rw [show j = k by omega]; exact fun e => h e.symm
 ·
  refine Ok.some.2 (exit _ ?_)
  unfold Z5a
  refine Ok.some.2 (Ok.some.2 ?_)
  have : s.contains v = false := by
   rw [Bool.eq_false_iff]
   intro hc
   obtain ⟨j, hj, e⟩ := List.mem_iff_getElem.1 (List.contains_iff_mem.1 hc)
   have := g3 j (by omega)
   rw [List.getD_eq_getElem?_getD, List.getElem?_eq_getElem hj] at this
   exact this e
  rw [this]
  exact decide_eq_false (by omega)
theorem Z9z {b : Bool} (h : ¬(!b) = true) : b = true := by cases b; exact absurd rfl h; rfl
theorem Zov {l : List Int} {x : Int} (h : ¬(!l.contains x) = true) : x ∈ l := List.contains_iff_mem.1 (Z9z h)
def AllP (n : Net) (f : List Int) (so : Int → Prop) (but : List Int) : Prop := FwithinP n f ∧ ∀ v : Nat, v < n.N.toNat → so (ex n.Arcs f v n.Arcs.length) ∨ (v : Int) ∈ but
theorem s_Right {n : Net} {f : List Int} (hl : lenok n.Arcs.length) : Ok (Zag n f) (fun b => b = true ↔ AllP n f (fun x => x = 0) [n.S, n.T]) := by
 unfold Zag Z72
 refine Ok.bind.2 (Ok.mono (Q := fun b => b = true ↔ AllP n f (fun x => x = 0) [n.S, n.T]) ?_ fun b hb => Ok.some.2 hb)
 refine Ok.bind.2 (Ok.mono (Zo2 hl) ?_)
 rintro ⟨l, e⟩ hle
 refine Ok.bind.2 (Zcz (fun x => ∃ k : Nat, x = k ∧ k ≤ l.length ∧ ∀ v, v < k → l.getD v 0 = 0 ∨ (v : Int) ∈ [n.S, n.T]) (fun x => (l.length - x).toNat) ⟨0, rfl, by omega, fun j hj => by omega⟩ ?_ ?_)
 ·
  rcases hle with ⟨hw, -, h2, -⟩ | ⟨-, h2⟩
  · have := Z2y hw.1; simp only at h2; unfold Z4m; omega
  · injection h2 with h2 h3; subst h2; unfold Z4m; simp
 rintro x ⟨k, rfl, g2, g3⟩ P next exit
 unfold Z4f Za5
 simp only [Int.toNat_natCast]
 have hlen : l.length ≤ 4096 := by
  rcases hle with ⟨hw, -, h2, -⟩ | ⟨-, h2⟩
  · have := Z2y hw.1; simp only at h2; omega
  · injection h2 with h2 h3; subst h2; simp
 refine Ok.ite.2 ⟨fun hx => ?_, fun hx => ?_⟩
 ·
  refine Ok.gd.2 ⟨(by omega), Ok.bind.2 (Ok.some.2 (Ok.ite.2 ⟨fun h => Ok.bind.2 (Zav (Zor (by simp)) (Ok.ite.2 ⟨fun h2 => Ok.some.2 (exit _ (Ok.some.2 ⟨fun h3 => (by cases h3), fun h3 => ?_⟩)), fun h2 => Ok.gd.2 ⟨(by omega), Ok.some.2 (next _ ⟨k + 1, by simp, by omega, fun j hj => ?_⟩ (by omega))⟩⟩)), fun h => Ok.gd.2 ⟨(by omega), Ok.some.2 (next _ ⟨k + 1, by simp, by omega, fun j hj => ?_⟩ (by omega))⟩⟩))⟩
  ·
   exfalso
   rcases hle with ⟨hw, -, h5, h6⟩ | ⟨h5, -⟩
   ·
    simp only at h5 h6
    rcases h3.2 k (by omega) with h7 | h7
    · rw [← h6 k (by omega)] at h7; rw [decide_eq_true h7] at h; cases h
    · rw [List.contains_iff_mem.2 h7] at h2; cases h2
   · exact h5 h3.1
  ·
   rcases Nat.lt_or_ge j k with h1 | h1
   · exact g3 j h1
   · rw [show j = k by omega]; right; exact Zov h2
  ·
   rcases Nat.lt_or_ge j k with h1 | h1
   · exact g3 j h1
   · rw [show j = k by omega]; left; exact of_decide_eq_true (Z9z h)
 ·
  refine Ok.some.2 (exit _ ?_)
  unfold Z5g
  refine Ok.some.2 ?_
  rcases hle with ⟨hw, h4, h5, h6⟩ | ⟨h5, h6⟩
  ·
   simp only at h4 h5 h6
   refine ⟨fun _ => ⟨hw, fun v hv => ?_⟩, fun _ => decide_eq_true h4⟩
   rw [← h6 v hv]; exact g3 v (by omega)
  ·
   injection h6 with h6 h7
   simp only [h7]
   exact ⟨fun h => (by cases h), fun h => absurd h.1 h5⟩
theorem s_Value {n : Net} {f : List Int} (hl : lenok n.Arcs.length) : Ok (Zaf n f) (fun r => (AllP n f (fun x => x = 0) [n.S, n.T] ∧ r = (ex n.Arcs f n.T n.Arcs.length, 0)) ∨ (¬ AllP n f (fun x => x = 0) [n.S, n.T] ∧ r = (0, 20))) := by
 unfold Zaf
 refine Ok.bind.2 (Ok.mono (s_Right hl) fun b hb => Ok.ite.2 ⟨fun h => Ok.some.2 (.inr ⟨fun h2 => (by rw [hb.2 h2] at h; cases h), rfl⟩), fun h => ?_⟩)
 have hw := hb.1 (by cases b; exact absurd rfl h; rfl)
 refine Ok.bind.2 (Ok.mono (Zo2 hl) ?_)
 rintro ⟨l, e⟩ (⟨-, h2, h3, h4⟩ | ⟨h2, -⟩)
 ·
  simp only at h2 h3 h4 ⊢
  have hz := Z2y hw.1.1
  have hT := of_decide_eq_true hz.2.2.1.2.1
  refine Ok.gd.2 ⟨(by omega), Ok.some.2 (.inl ⟨hw, ?_⟩)⟩
  rw [h4 n.T.toNat (by omega), h2, Int.toNat_of_nonneg hT.1]
 · exact absurd hw.1 h2
end Go.Acq
namespace Go.Acq
open Go
set_option linter.unusedSimpArgs false
theorem Zfo {α : Type} {xs ys : List α} {d : α} {i : Nat} (h : i < xs.length) : (xs ++ ys).getD i d = xs.getD i d := by
 rw [List.getD_eq_getElem?_getD, List.getElem?_append_left h, List.getD_eq_getElem?_getD]
theorem Zm6 {α : Type} {xs ys : List α} {d : α} {i : Nat} (h : xs.length ≤ i) : (xs ++ ys).getD i d = ys.getD (i - xs.length) d := by
 rw [List.getD_eq_getElem?_getD, List.getElem?_append_right h, List.getD_eq_getElem?_getD]
theorem Zr7 {al : List Arc} {i v : Nat} {s : Bool} (hi : i < al.length) (hne : (al.getD i default).fr ≠ (al.getD i default).to) (h0 : 0 ≤ vtx (al.getD i default) s) (h1 : Z18 al v ≤ pos al i s) (h2 : pos al i s < Z18 al (v + 1)) : vtx (al.getD i default) s = v ∧ pos al i s = Z18 al v + cnt al v i := by
 obtain ⟨u, hu⟩ : ∃ u : Nat, vtx (al.getD i default) s = u := ⟨(vtx (al.getD i default) s).toNat, by omega⟩
 have hcl := Zfs (s := s) hi hne h0
 have hpos : pos al i s = Z18 al u + cnt al u i := by unfold pos; rw [hu, Int.toNat_natCast]
 rw [hu, Int.toNat_natCast] at hcl
 have hb1 : Z18 al (u + 1) = Z18 al u + cnt al u al.length := rfl
 have : u = v := by
  rcases Nat.lt_trichotomy u v with h | h | h
  · have := Z48 (al := al) (show u + 1 ≤ v by omega); omega
  · exact h
  · have := Z48 (al := al) (show v + 1 ≤ u by omega); omega
 subst this
 exact ⟨hu, hpos⟩
end Go.Acq
namespace Go.Acq
open Go
set_option linter.unusedSimpArgs false
def inS (c : List Bool) (v : Int) : Bool := c.getD v.toNat false
def CutR (n : Net) (c : List Bool) : Prop := Zal n.N n.S n.T n.Arcs = 0 ∧ (c.length : Int) = n.N ∧ inS c n.S = true ∧ inS c n.T = false
theorem Zjw {n : Net} {c : List Bool} (hl : lenok n.Arcs.length) : Ok (Z9w n c) (fun b => b = true ↔ CutR n c) := by
 unfold Z9w
 refine Ok.bind.2 (Zav (Zn8 n hl) (Ok.ite.2 ⟨fun h0 => Ok.ite.2 ⟨fun h1 => ?_, fun h1 => Ok.some.2 ⟨fun h => (by cases h), fun h => absurd h.2.1 h1⟩⟩, fun h0 => Ok.some.2 ⟨fun h => (by cases h), fun h => absurd h.1 h0⟩⟩))
 have hz := Z2y h0
 simp only [Z56, decide_eq_true_eq] at hz
 refine Ok.gd.2 ⟨(by omega), Ok.ite.2 ⟨fun h2 => Ok.gd.2 ⟨(by omega), Ok.some.2 ⟨fun h3 => ⟨h0, h1, h2, by simpa [inS] using h3⟩, fun h3 => by have := h3.2.2.2; simpa [inS] using this⟩⟩, fun h2 => Ok.some.2 ⟨fun h => (by cases h), fun h => absurd h.2.2.1 h2⟩⟩⟩
theorem s_has {c : List Bool} {v : Int} (h0 : 0 ≤ v) (h : v < c.length) : Zcp c v = some (inS c v) := by
 unfold Zcp
 rw [if_pos h, Z81 ⟨h0, h⟩]; rfl
theorem Zo1 {S X : Type} {y : S → Int × Bool → Option (S ⊕ X)} {n : Net} {c : List Bool} {m : Nat} {s0 : S} (I : Nat → S → Prop) (J : X → Prop) (he : Z7c m n.Arcs) (hc : c.length = m) (hl : lenok n.Arcs.length) (h0 : I 0 s0)
    (hstep : ∀ k s, k < n.Arcs.length → I k s → (inS c (n.Arcs.getD k default).fr ≠ inS c (n.Arcs.getD k default).to → Ok (y s ((k : Int), inS c (n.Arcs.getD k default).fr)) (fun r => match r with | .inl s' => I (k + 1) s' | .inr x => J x)) ∧
      (inS c (n.Arcs.getD k default).fr = inS c (n.Arcs.getD k default).to → I (k + 1) s)) :
    Ok (Z6s y n c (.inl s0)) (fun t => match t with | .inl s => I n.Arcs.length s | .inr x => J x) := by
  unfold Z6s
  refine Ok.bind.2 (Zcz (fun s => ∃ (k : Nat) (st : S), s = ((k : Int), Sum.inl st) ∧ k ≤ n.Arcs.length ∧ I k st) (fun s => (n.Arcs.length - s.1).toNat) ⟨0, s0, rfl, by omega, h0⟩ (by unfold Z4m; simp only; omega) ?_)
  rintro s ⟨k, st, rfl, hk, hI⟩ P next exit
  unfold Z5t
  simp only [Int.toNat_natCast]
  refine Ok.ite.2 ⟨fun hx => ?_, fun hx => Ok.some.2 (exit _ (Ok.some.2 ?_))⟩
  · have hkl : k < n.Arcs.length := by omega
    have e0 := he k hkl false
    have e1 := he k hkl true
    simp only [vtx, Bool.false_eq_true, if_false, if_true] at e0 e1
    obtain ⟨g1, g2⟩ := hstep k st hkl hI
    refine Ok.gd.2 ⟨(by omega), Ok.bind.2 (Zav (s_has e0.1 (by omega)) (Ok.bind.2 (Zav (s_has e1.1 (by omega)) (Ok.ite.2 ⟨fun h => ?_, fun h => ?_⟩))))⟩
    · have hne : inS c (n.Arcs.getD k default).fr ≠ inS c (n.Arcs.getD k default).to := fun e => by rw [e] at h; simp at h
      refine Ok.bind.2 ?_
      show Ok (y st _) _
      refine Ok.mono (g1 hne) ?_
      rintro (s' | x) hr
      · exact Ok.ite.2 ⟨fun h => by simp at h, fun _ => Ok.gd.2 ⟨(by omega), Ok.some.2 (next _ ⟨k + 1, s', by simp, by omega, hr⟩ (by simp only; omega))⟩⟩
      · exact Ok.ite.2 ⟨fun _ => Ok.some.2 (exit _ (Ok.some.2 hr)), fun h => by simp at h⟩
    · have heq : inS c (n.Arcs.getD k default).fr = inS c (n.Arcs.getD k default).to := by simpa using h
      exact Ok.gd.2 ⟨(by omega), Ok.some.2 (next _ ⟨k + 1, st, by simp, by omega, g2 heq⟩ (by simp only; omega))⟩
  · obtain rfl : k = n.Arcs.length := by omega
    exact hI
def Zp1 (al : List Arc) (c : List Bool) : Nat → Int
  | 0 => 0
  | k + 1 => Zp1 al c k + (if inS c (al.getD k default).fr = true ∧ inS c (al.getD k default).to = false then (al.getD k default).cap else 0)
def acK (al : List Arc) (f : List Int) (c : List Bool) : Nat → Int
  | 0 => 0
  | k + 1 => acK al f c k + (if inS c (al.getD k default).fr = true ∧ inS c (al.getD k default).to = false then f.getD k 0 else 0) - (if inS c (al.getD k default).fr = false ∧ inS c (al.getD k default).to = true then f.getD k 0 else 0)
def totC (al : List Arc) : Nat → Int
  | 0 => 0
  | k + 1 => totC al k + (al.getD k default).cap
theorem Zrk {al : List Arc} {c : List Bool} (h : ∀ i, i < al.length → 0 ≤ (al.getD i default).cap) : ∀ k, k ≤ al.length → 0 ≤ Zp1 al c k ∧ Zp1 al c k ≤ totC al k
 | 0, _ => by simp [Zp1, totC]
 | k + 1, hk => by
  have ih := Zrk (c := c) h k (by omega)
  have := h k (by omega)
  simp only [Zp1, totC]
  split <;> omega
theorem Znz (al : List Arc) : ∀ k, k ≤ al.length → totC al k = tot (al.map (·.cap)) k
 | 0, _ => rfl
 | k + 1, hk => by
  simp only [totC, tot, Znz al k (by omega)]
  rw [List.getD_eq_getElem?_getD, List.getD_eq_getElem?_getD, List.getElem?_map, List.getElem?_eq_getElem (show k < al.length by omega)]; rfl
theorem Zrg {al : List Arc} {i : Nat} (hi : i < al.length) : (al.map (·.cap)).getD i 0 = (al.getD i default).cap := by
 rw [List.getD_eq_getElem?_getD, List.getD_eq_getElem?_getD, List.getElem?_map, List.getElem?_eq_getElem hi]; rfl
theorem Zni {n : Net} (h : Zal n.N n.S n.T n.Arcs = 0) (hc : ∀ i, i < n.Arcs.length → 0 ≤ (n.Arcs.getD i default).cap) : FwithinP n (n.Arcs.map (·.cap)) :=
 ⟨h, by simp, fun i hi => by rw [Zrg hi]; exact ⟨hc i hi, Int.le_refl _⟩⟩
theorem Zec {n : Net} (h : Zal n.N n.S n.T n.Arcs = 0) : ∀ i, i < n.Arcs.length → 0 ≤ (n.Arcs.getD i default).cap := fun i hi => by
 have := List.all_eq_true.1 (Z2y h).2.2.2.2.1 _ (Z9h hi default)
 simpa [Zrl] using this
theorem Zhv {n : Net} (h : Zal n.N n.S n.T n.Arcs = 0) : ∀ k, k ≤ n.Arcs.length → 0 ≤ totC n.Arcs k ∧ totC n.Arcs k ≤ 4611686018427387904 := fun k hk => by
 rw [Znz _ k hk]
 have := (Zni h (Zec h)).tot k (by simpa using hk)
 exact this
theorem Zhk {n : Net} (h : Zal n.N n.S n.T n.Arcs = 0) : ∃ m : Nat, n.N = m ∧ Z7c m n.Arcs := by
 have hz := Z2y h
 obtain ⟨m, hm⟩ : ∃ m : Nat, n.N = m := ⟨n.N.toNat, by omega⟩
 exact ⟨m, hm, Zfr (by rw [← hm]; exact hz.2.2.2.1)⟩
theorem s_Cap {n : Net} {c : List Bool} (hl : lenok n.Arcs.length) : Ok (Zdo n c) (fun r => (CutR n c ∧ r = (Zp1 n.Arcs c n.Arcs.length, 0)) ∨ (¬CutR n c ∧ r = (0, 2))) := by
 unfold Zdo
 refine Ok.bind.2 (Ok.mono (Zjw hl) fun b hb => Ok.ite.2 ⟨fun h => Ok.some.2 (.inr ⟨fun h2 => (by rw [hb.2 h2] at h; cases h), rfl⟩), fun h => ?_⟩)
 have hR := hb.1 (Z9z h)
 obtain ⟨m, hm, he⟩ := Zhk hR.1
 refine Ok.bind.2 (Ok.some.2 (Ok.bind.2 (Ok.mono (Zo1 (m := m) (fun k s => s = Zp1 n.Arcs c k) (fun _ => True) he (by have := hR.2.1; omega) hl rfl ?_) ?_)))
 ·
  rintro k s hk rfl
  refine ⟨fun hne => ?_, fun heq => ?_⟩
  ·
   unfold Z8r
   have b1 := Zrk (c := c) (Zec hR.1) (k + 1) hk
   have b2 := Zhv hR.1 (k + 1) hk
   simp only [Int.toNat_natCast]
   refine Ok.ite.2 ⟨fun h => ?_, fun h => Ok.some.2 ?_⟩
   ·
    have h' : inS c (n.Arcs.getD k default).to = false := by cases hq : inS c (n.Arcs.getD k default).to; rfl; rw [h, hq] at hne; exact absurd rfl hne
    simp only [Zp1] at b1 ⊢
    rw [if_pos ⟨h, h'⟩] at b1 ⊢
    exact Ok.gd.2 ⟨(by omega), Ok.gd.2 ⟨(by omega), Ok.some.2 rfl⟩⟩
   ·
    simp only [Zp1]
    rw [if_neg (fun h2 => h h2.1), Int.add_zero]
  ·
   simp only [Zp1]
   rw [if_neg (fun h2 => (by rw [heq, h2.2] at h2; cases h2.1)), Int.add_zero]
 ·
  rintro (s | x) hs
  · exact Ok.some.2 (.inl ⟨hR, by rw [hs]⟩)
  · exact nomatch x
def Zdg (al : List Arc) (f : List Int) (c : List Bool) (i : Nat) : Prop :=
  (inS c (al.getD i default).fr = true → inS c (al.getD i default).to = false → (al.getD i default).cap ≤ f.getD i 0) ∧ (inS c (al.getD i default).fr = false → inS c (al.getD i default).to = true → f.getD i 0 ≤ 0)
theorem s_Tight {n : Net} {f : List Int} {c : List Bool} (hl : lenok n.Arcs.length) : Ok (Zbq n f c) (fun b => b = true ↔ CutR n c ∧ FwithinP n f ∧ ∀ i, i < n.Arcs.length → Zdg n.Arcs f c i) := by
 unfold Zbq
 refine Ok.bind.2 (Ok.mono (Zjw hl) fun b hb => Ok.ite.2 ⟨fun h => Ok.some.2 ⟨fun h2 => (by cases h2), fun h2 => (by rw [hb.2 h2.1] at h; cases h)⟩, fun h => ?_⟩)
 have hR := hb.1 (Z9z h)
 refine Ok.bind.2 (Ok.mono (Zhw hl) fun b hb => Ok.ite.2 ⟨fun h => Ok.some.2 ⟨fun h2 => (by cases h2), fun h2 => (by rw [hb.2 h2.2.1] at h; cases h)⟩, fun h => ?_⟩)
 have hw := hb.1 (Z9z h)
 have hfl := hw.2.1
 obtain ⟨m, hm, he⟩ := Zhk hR.1
 refine Ok.bind.2 (Ok.some.2 (Ok.bind.2 (Ok.mono (Zo1 (m := m) (fun k _ => ∀ i, i < k → Zdg n.Arcs f c i) (fun _ => ¬∀ i, i < n.Arcs.length → Zdg n.Arcs f c i) he (by have := hR.2.1; omega) hl (fun i hi => by omega) ?_) ?_)))
 ·
  rintro k ⟨⟩ hk hI
  have more : Zdg n.Arcs f c k → ∀ i, i < k + 1 → Zdg n.Arcs f c i := fun ht i hi => by
   rcases Nat.lt_or_ge i k with h | h
   · exact hI i h
   · rw [show i = k by omega]; exact ht
  refine ⟨fun hne => ?_, fun heq => more ⟨fun h1 h2 => (by rw [heq, h2] at h1; cases h1), fun h1 h2 => (by rw [heq, h2] at h1; cases h1)⟩⟩
  unfold Z6t
  simp only [Int.toNat_natCast]
  refine Ok.ite.2 ⟨fun h => ?_, fun h => ?_⟩
  ·
   have h' : inS c (n.Arcs.getD k default).to = false := by cases hq : inS c (n.Arcs.getD k default).to; rfl; rw [h, hq] at hne; exact absurd rfl hne
   refine Ok.gd.2 ⟨(by omega), Ok.gd.2 ⟨(by omega), Ok.ite.2 ⟨fun h1 => Ok.some.2 fun hall => ?_, fun h1 => Ok.ite.2 ⟨fun h2 => (by rw [h] at h2; cases h2), fun _ => Ok.some.2 (more ⟨fun _ _ => by omega, fun h2 => (by rw [h] at h2; cases h2)⟩)⟩⟩⟩⟩
   have := (hall k hk).1 h h'; omega
  ·
   have h2 : inS c (n.Arcs.getD k default).fr = false := by simpa using h
   have h' : inS c (n.Arcs.getD k default).to = true := by cases hq : inS c (n.Arcs.getD k default).to; rw [h2, hq] at hne; exact absurd rfl hne; rfl
   refine Ok.ite.2 ⟨fun _ => Ok.gd.2 ⟨(by omega), Ok.ite.2 ⟨fun h1 => Ok.some.2 fun hall => ?_, fun h1 => Ok.some.2 (more ⟨fun h3 => (by rw [h2] at h3; cases h3), fun _ _ => by omega⟩)⟩⟩, fun h3 => (by rw [h2] at h3; exact absurd rfl h3)⟩
   have := (hall k hk).2 h2 h'; omega
 ·
  rintro (s | x) hs
  · exact Ok.some.2 ⟨fun _ => ⟨hR, hw, hs⟩, fun _ => rfl⟩
  · exact Ok.some.2 ⟨fun h => (by cases h), fun h => absurd h.2.2 hs⟩
end Go.Acq
namespace Go.Acq
open Go
set_option linter.unusedSimpArgs false
inductive Reach (G : Nat → Nat → Prop) (s : Nat) : Nat → Prop
  | refl : Reach G s s
  | step {u v : Nat} : Reach G s u → G u v → Reach G s v
theorem Reach.trans {G : Nat → Nat → Prop} {a b c : Nat} (h : Reach G a b) (g : Reach G b c) : Reach G a c := by
 induction g with
 | refl => exact h
 | step _ h2 ih => exact .step ih h2
theorem Reach.flip {G : Nat → Nat → Prop} {a b : Nat} (h : Reach G a b) : Reach (fun u v => G v u) b a := by
 induction h with
 | refl => exact .refl
 | step _ h2 ih => exact Reach.trans (.step .refl h2) ih
theorem Reach.mono {G K : Nat → Nat → Prop} {a b : Nat} (h : Reach G a b) (hk : ∀ u v, G u v → K u v) : Reach K a b := by
 induction h with
 | refl => exact .refl
 | step _ h2 ih => exact .step ih (hk _ _ h2)
def tc (l : List Bool) : Nat → Nat
  | 0 => 0
  | k + 1 => tc l k + if l.getD k false = true then 1 else 0
theorem tc_le (l : List Bool) : ∀ k, tc l k ≤ k
 | 0 => Nat.le_refl _
 | k + 1 => by have := tc_le l k; simp only [tc]; split <;> omega
theorem Zqy {l : List Bool} {i : Nat} (hi : i < l.length) (hf : l.getD i false = false) : ∀ k : Nat, tc (l.set i true) k = tc l k + (if i < k then 1 else 0)
 | 0 => by simp [tc]
 | k + 1 => by
  have ih := Zqy hi hf k
  simp only [tc, ih, Zi4]
  by_cases c : i = k
  ·
   subst c
   rw [if_neg (show ¬ i < i by omega), if_pos (show i = i ∧ i < l.length from ⟨rfl, hi⟩), hf, if_pos rfl, if_pos (show i < i + 1 by omega)]; rfl
  ·
   rw [if_neg (show ¬(i = k ∧ i < l.length) from fun h => c h.1)]
   by_cases c2 : i < k
   · rw [if_pos c2, if_pos (show i < k + 1 by omega)]; omega
   · rw [if_neg c2, if_neg (show ¬ i < k + 1 by omega)]; omega
theorem Zqz (n : Nat) : ∀ k, tc (List.replicate n false) k = 0
 | 0 => rfl
 | k + 1 => by simp only [tc, Zqz n k, Z37]; rfl
def g_s2 (c0 : Csr) (my : Int → Option Bool) (i25 : Int) (xs29 : List Bool) (row31 : List Int) (a41 : Int) : Option ((List Bool × List Int × Int) ⊕ (List Bool × List Int)) :=
  gd (inb i25 row31.length) <|
  gd (i64ok ((row31.getD i25.toNat 0) + 1)) <|
  gd (inb ((row31.getD i25.toNat 0) + 1) c0.First.length) <|
  if a41 < (c0.First.getD ((row31.getD i25.toNat 0) + 1).toNat 0) then
  (Option.bind (my a41) fun r46 =>
  if r46 = true then
  (gd (inb a41 c0.Head.length) <|
  Option.bind (Zbo (c0.Head.getD a41.toNat 0) xs29 row31) fun (r50, r51) =>
  gd (i64ok (a41 + 1)) <|
  some (.inl (r50, r51, (a41 + 1))))
  else
  gd (i64ok (a41 + 1)) <|
  some (.inl (xs29, row31, (a41 + 1))))
  else
  some (.inr (xs29, row31))
def g_s1 (c0 : Csr) (my : Int → Option Bool) (xs13 : List Bool) (row15 : List Int) (i25 : Int) : Option ((List Bool × List Int × Int) ⊕ (List Bool)) :=
  if i25 < (row15.length : Int) then
  (gd (inb i25 row15.length) <|
  gd (inb (row15.getD i25.toNat 0) c0.First.length) <|
  Option.bind (Z29 (fun s => g_s2 c0 my i25 s.1 s.2.1 s.2.2) Z4m (xs13, row15, (c0.First.getD (row15.getD i25.toNat 0).toNat 0))) fun (p2_0_0, p2_0_1) => gd (i64ok (i25 + 1)) <| some (.inl (p2_0_0, p2_0_1, (i25 + 1))))
  else
  some (.inr xs13)
def g_met (c0 : Csr) (from1 : Int) (my : Int → Option Bool) : Option (List Bool) :=
  gd (mkok c0.N) <|
  gd (inb from1 (List.replicate c0.N.toNat (false : Bool)).length) <|
  Option.bind (Z29 (fun s => g_s1 c0 my s.1 s.2.1 s.2.2) Z4m (((List.replicate c0.N.toNat (false : Bool)).set from1.toNat true), [from1], 0)) fun p1_0_0 => some p1_0_0
theorem g_To (c : Csr) (s : Int) (r : List Int) (d : Csr) : Za6 c s r d = g_met c s (fun a => Zcq a r d) := rfl
structure MetI (G : Nat → Nat → Prop) (s m : Nat) (xs : List Bool) (row : List Int) : Prop where
  len : xs.length = m
  nat : ∀ q, q < row.length → ∃ v : Nat, row.getD q 0 = v ∧ v < m ∧ xs.getD v false = true ∧ Reach G s v
  has : ∀ v, v < m → xs.getD v false = true → ∃ q, q < row.length ∧ row.getD q 0 = (v : Int)
  cnt : row.length = tc xs m
theorem MetI.le {G : Nat → Nat → Prop} {s m : Nat} {xs : List Bool} {row : List Int} (h : MetI G s m xs row) : row.length ≤ m := by rw [h.cnt]; exact tc_le _ _
theorem MetI.put {G : Nat → Nat → Prop} {s m v : Nat} {xs : List Bool} {row : List Int} (h : MetI G s m xs row) (hv : v < m) (hf : xs.getD v false = false) (hr : Reach G s v) : MetI G s m (xs.set v true) (row ++ [(v : Int)]) := by
 have hl := h.len
 refine ⟨by simp [hl], fun q hq => ?_, fun u hu hx => ?_, ?_⟩
 ·
  rw [List.length_append, List.length_singleton] at hq
  rcases Nat.lt_or_ge q row.length with h1 | h1
  ·
   obtain ⟨u, h2, h3, h4, h5⟩ := h.nat q h1
   refine ⟨u, by rw [Zfo h1]; exact h2, h3, ?_, h5⟩
   rw [Zi4]; split
   · rfl
   · exact h4
  ·
   refine ⟨v, ?_, hv, by rw [Zi4, if_pos ⟨rfl, by omega⟩], hr⟩
   rw [Zm6 h1, show q - row.length = 0 by omega]; rfl
 ·
  rw [Zi4] at hx
  by_cases c : v = u
  ·
   refine ⟨row.length, by simp, ?_⟩
   rw [Zm6 (Nat.le_refl _), Nat.sub_self, ← c]; rfl
  ·
   rw [if_neg (fun h => c h.1)] at hx
   obtain ⟨q, h1, h2⟩ := h.has u hu hx
   exact ⟨q, by rw [List.length_append]; omega, by rw [Zfo h1]; exact h2⟩
 · rw [List.length_append, List.length_singleton, Zqy (by omega) hf, if_pos hv, h.cnt]
theorem s_met {n : Net} {m s : Nat} {c : Csr} {my : Int → Option Bool} {mb : Nat → Bool} (hc : CsrIs n m c) (he : Z7c m n.Arcs) (hm : m ≤ 4096) (hl : n.Arcs.length ≤ 16384) (hs : s < m) (hmy : ∀ j : Nat, j < Z18 n.Arcs m → my j = some (mb j)) :
    Ok (g_met c s my) (fun r => r.length = m ∧ ∀ v, v < m → (r.getD v false = true ↔ Reach (fun u w => ∃ j, Z18 n.Arcs u ≤ j ∧ j < Z18 n.Arcs (u + 1) ∧ mb j = true ∧ c.Head.getD j 0 = w) s v)) := by
  obtain ⟨G, hG⟩ : ∃ G : Nat → Nat → Prop, (fun (u w : Nat) => ∃ j, Z18 n.Arcs u ≤ j ∧ j < Z18 n.Arcs (u + 1) ∧ mb j = true ∧ c.Head.getD j 0 = (w : Int)) = G := ⟨_, rfl⟩
  rw [hG]
  have hbs := Z65 (al := n.Arcs) (v := m) hm hl
  have lf := hc.ok.lf
  have lh := hc.ok.lh
  have hf := hc.ok.hf
  unfold g_met
  rw [hc.hN]
  simp only [Int.toNat_natCast]
  refine Ok.gd.2 ⟨(by omega), Ok.gd.2 ⟨by rw [List.length_replicate]; constructor <;> omega, Ok.bind.2 ?_⟩⟩
  refine Zcz (fun st => ∃ k : Nat, st.2.2 = k ∧ k ≤ st.2.1.length ∧ MetI G s m st.1 st.2.1 ∧ st.1.getD s false = true ∧ ∀ q, q < k → ∀ w, w < m → G (st.2.1.getD q 0).toNat w → st.1.getD w false = true) (fun st => (m - st.2.2).toNat)
    ⟨0, rfl, by omega, ⟨by simp, fun q hq => ?_, fun v hv hx => ?_, ?_⟩, by rw [Zi4, if_pos ⟨rfl, by simpa using hs⟩], fun q hq => by omega⟩ (by unfold Z4m; simp only; omega) ?_
  · have : q = 0 := by simp at hq; exact hq
    subst this
    exact ⟨s, rfl, hs, by rw [Zi4, if_pos ⟨rfl, by simpa using hs⟩], .refl⟩
  · rw [Zi4] at hx
    by_cases c1 : s = v
    · exact ⟨0, by simp, by rw [← c1]; rfl⟩
    · rw [if_neg (fun h => c1 h.1), Z37] at hx; cases hx
  · rw [Zqy (by simpa using hs) (Z37 _ _ _), Zqz, if_pos hs]; rfl
  rintro ⟨xs, row, x⟩ ⟨k, h1, hk, hI, hS, hP⟩ P next exit
  simp only at h1 hk hI hS hP next ⊢
  subst h1
  unfold g_s1
  have hle := hI.le
  simp only [Int.toNat_natCast]
  refine Ok.ite.2 ⟨fun hx => ?_, fun hx => Ok.some.2 (exit _ (Ok.some.2 ?_))⟩
  · obtain ⟨u, hu, hum, -, hur⟩ := hI.nat k (by omega)
    simp only [hu, Int.toNat_natCast, hf u (by omega)]
    refine Ok.gd.2 ⟨(by omega), Ok.gd.2 ⟨(by omega), Ok.bind.2 ?_⟩⟩
    have hmo := Z48 (al := n.Arcs) (show u ≤ u + 1 by omega)
    have hmo2 := Z48 (al := n.Arcs) (show u + 1 ≤ m by omega)
    refine Zcz (fun st => ∃ j : Nat, st.2.2 = j ∧ Z18 n.Arcs u ≤ j ∧ j ≤ Z18 n.Arcs (u + 1) ∧ MetI G s m st.1 st.2.1 ∧ st.1.getD s false = true ∧ k < st.2.1.length ∧ st.2.1.getD k 0 = u ∧ (∀ q, q < k → ∀ w, w < m → G (st.2.1.getD q 0).toNat w → st.1.getD w false = true) ∧
      ∀ i, Z18 n.Arcs u ≤ i → i < j → mb i = true → ∀ w : Nat, c.Head.getD i 0 = (w : Int) → st.1.getD w false = true) (fun st => (Z18 n.Arcs (u + 1) - st.2.2).toNat) ⟨_, rfl, Nat.le_refl _, hmo, hI, hS, by simp only; omega, hu, hP, fun i h1 h2 => by omega⟩ (by unfold Z4m; simp only; omega) ?_
    rintro ⟨ys, rw', y⟩ ⟨j, h1, hj0, hj1, hI2, hS2, hkl, hku, hP2, hA⟩ P2 next2 exit2
    simp only at h1 hI2 hS2 hkl hku hP2 hA next2 ⊢
    subst h1
    unfold g_s2
    have eu : ((u : Int) + 1).toNat = u + 1 := by omega
    have hle2 := hI2.le
    have hyl := hI2.len
    simp only [Int.toNat_natCast, hku, eu, hf (u + 1) (by omega)]
    refine Ok.gd.2 ⟨(by omega), Ok.gd.2 ⟨(by omega), Ok.gd.2 ⟨(by omega), Ok.ite.2 ⟨fun hy => ?_, fun hy => Ok.some.2 (exit2 _ ?_)⟩⟩⟩⟩
    · refine Ok.bind.2 (Zav (hmy j (by omega)) (Ok.ite.2 ⟨fun hb => ?_, fun hb => ?_⟩))
      · obtain ⟨i, t, hi, hne, hp, q1, -, -, -, -⟩ := hc.ok.place (j := j) (by omega)
        have hv := he i hi (!t)
        obtain ⟨v, hvv⟩ : ∃ v : Nat, vtx (n.Arcs.getD i default) (!t) = v := ⟨(vtx (n.Arcs.getD i default) (!t)).toNat, by omega⟩
        rw [hvv] at q1 hv
        have hGu : G u v := by rw [← hG]; exact ⟨j, hj0, by omega, hb, q1⟩
        simp only [q1]
        refine Ok.gd.2 ⟨(by omega), Ok.bind.2 ?_⟩
        unfold Zbo
        simp only [Int.toNat_natCast]
        refine Ok.gd.2 ⟨(by omega), Ok.ite.2 ⟨fun hn => ?_, fun hn => Ok.some.2 (Ok.gd.2 ⟨(by omega), Ok.some.2 (next2 _ ⟨j + 1, by simp, by omega, by omega, hI2, hS2, hkl, hku, hP2, fun i' h1 h2 h3 w hw => ?_⟩ (by simp only; omega))⟩)⟩⟩
        · have hn' : ys.getD v false = false := by simpa using hn
          have hI3 := hI2.put (by omega) hn' (.step hur hGu)
          have up : ∀ w, ys.getD w false = true → (ys.set v true).getD w false = true := fun w hw => by
            rw [Zi4]; split
            · rfl
            · exact hw
          refine Ok.gd.2 ⟨(by omega), Ok.gd.2 ⟨?_, Ok.some.2 (Ok.gd.2 ⟨(by omega), Ok.some.2 (next2 _ ⟨j + 1, by simp, by omega, by omega, hI3, up _ hS2, by rw [List.length_append]; omega, by rw [Zfo hkl]; exact hku, fun q hq w hw hg => ?_, fun i' h1 h2 h3 w hw => ?_⟩ (by simp only; omega))⟩)⟩⟩
          · rw [List.length_append, List.length_singleton]; constructor <;> omega
          · simp only at hg ⊢
            rw [Zfo (by omega)] at hg
            exact up w (hP2 q hq w hw hg)
          · simp only
            rcases Nat.lt_or_ge i' j with h4 | h4
            · exact up w (hA i' h1 h4 h3 w hw)
            · rw [show i' = j by omega, q1] at hw
              have : v = w := by omega
              subst this
              rw [Zi4, if_pos ⟨rfl, by omega⟩]
        · simp only
          rcases Nat.lt_or_ge i' j with h4 | h4
          · exact hA i' h1 h4 h3 w hw
          · rw [show i' = j by omega, q1] at hw
            have : v = w := by omega
            subst this
            simpa using hn
      · refine Ok.gd.2 ⟨(by omega), Ok.some.2 (next2 _ ⟨j + 1, by simp, by omega, by omega, hI2, hS2, hkl, hku, hP2, fun i' h1 h2 h3 w hw => ?_⟩ (by simp only; omega))⟩
        rcases Nat.lt_or_ge i' j with h4 | h4
        · exact hA i' h1 h4 h3 w hw
        · rw [show i' = j by omega] at h3; exact absurd h3 hb
    · obtain rfl : j = Z18 n.Arcs (u + 1) := by omega
      refine Ok.gd.2 ⟨(by omega), Ok.some.2 (next _ ⟨k + 1, by simp, by simp only; omega, hI2, hS2, fun q hq w hw hg => ?_⟩ (by simp only; omega))⟩
      simp only at hg ⊢
      rcases Nat.lt_or_ge q k with h4 | h4
      · exact hP2 q h4 w hw hg
      · rw [show q = k by omega, hku, Int.toNat_natCast, ← hG] at hg
        obtain ⟨i, h5, h6, h7, h8⟩ := hg
        exact hA i h5 h6 h7 w h8
  · obtain rfl : k = row.length := by omega
    refine ⟨hI.len, fun v hv => ⟨fun hx => ?_, fun hr => ?_⟩⟩
    · obtain ⟨q, hq, hqv⟩ := hI.has v hv hx
      obtain ⟨u, h1, h2, h3, h4⟩ := hI.nat q hq
      have : u = v := by omega
      subst this; exact h4
    · clear hv
      have : v < m ∧ xs.getD v false = true := by
        induction hr with
        | refl => exact ⟨hs, hS⟩
        | step _ hg ih =>
          obtain ⟨h1, h2⟩ := ih
          rename_i u w _
          have hw : w < m := by
            rw [← hG] at hg
            obtain ⟨i, h5, h6, h7, h8⟩ := hg
            have := Z48 (al := n.Arcs) (show u + 1 ≤ m by omega)
            obtain ⟨i', t, hi, hne, hp, q1, -, -, -, -⟩ := hc.ok.place (j := i) (by omega)
            have hv := he i' hi (!t)
            omega
          obtain ⟨q, hq, hqv⟩ := hI.has u h1 h2
          refine ⟨hw, hP q hq w hw ?_⟩
          rw [hqv, Int.toNat_natCast]; exact hg
      exact this.2
def Zjb (n : Net) (f : List Int) (u v : Nat) : Prop := ∃ i, i < n.Arcs.length ∧ (n.Arcs.getD i default).fr ≠ (n.Arcs.getD i default).to ∧
  (((n.Arcs.getD i default).fr = u ∧ (n.Arcs.getD i default).to = v ∧ f.getD i 0 < (n.Arcs.getD i default).cap) ∨ ((n.Arcs.getD i default).to = u ∧ (n.Arcs.getD i default).fr = v ∧ 0 < f.getD i 0))
theorem s_left {n : Net} {f : List Int} (hl : lenok n.Arcs.length) : Ok (Zco n f) (fun r => (FwithinP n f ∧ r.2.2 = 0 ∧ CsrIs n n.N.toNat r.1 ∧ ResAt r.1.Arc r.1.Cap r.1.Back f (Z18 n.Arcs n.N.toNat) (Z18 n.Arcs n.N.toNat) r.2.1) ∨ (¬FwithinP n f ∧ r.2.2 = 20)) := by
 unfold Zco
 refine Ok.bind.2 (Ok.mono (Zhw hl) fun b hb => Ok.ite.2 ⟨fun h => Ok.some.2 (.inr ⟨fun h2 => (by rw [hb.2 h2] at h; cases h), rfl⟩), fun h => ?_⟩)
 have hw := hb.1 (Z9z h)
 have hz := Z2y hw.1
 obtain ⟨m, hm, he⟩ := Zhk hw.1
 refine Ok.bind.2 (Ok.mono (s_Make hm hw.1 hl) ?_)
 rintro ⟨c, e⟩ ⟨hc, rfl⟩
 have hc : CsrIs n m c := hc
 simp only
 rw [if_neg (by simp)]
 have hbs := Z65 (al := n.Arcs) (v := m) (by omega) (by omega)
 have hcaps := Zec hw.1
 have hcapt : ∀ i, i < n.Arcs.length → (n.Arcs.getD i default).cap ≤ 4611686018427387904 := fun i hi => by
  have h1 := Zhv hw.1 (i + 1) hi
  have h2 := Zhv hw.1 i (by omega)
  simp only [totC] at h1
  omega
 refine Ok.bind.2 (Ok.mono (s_Res (L := Z18 n.Arcs m) hc.ok.lh hc.ok.lc hc.ok.la hc.ok.lb hbs hc.ok.aa0 fun j hj => ?_) ?_)
 ·
  obtain ⟨i, s, hi, hne, hp, q1, q2, q3, q4, q5⟩ := hc.ok.place hj
  have := hcaps i hi
  have := hcapt i hi
  rw [q3]; split <;> omega
 ·
  rintro ⟨r, e⟩ (⟨-, h1, h2⟩ | ⟨⟨j, hj, hbad⟩, -⟩)
  ·
   refine Ok.some.2 (.inl ⟨hw, h1, ?_, ?_⟩)
   · rw [hm, Int.toNat_natCast]; exact hc
   · rw [hm, Int.toNat_natCast]; exact h2
  ·
   exfalso
   obtain ⟨i, s, hi, hne, hp, q1, q2, q3, q4, q5⟩ := hc.ok.place hj
   refine hbad ?_
   unfold Zn9
   rw [q3, q4, q5]
   have := hw.2.1
   refine ⟨by omega, ?_⟩
   cases s
   · right; simp only [Int.toNat_natCast, Bool.false_eq_true, if_false]; exact hw.2.2 i hi
   · exact .inl rfl
theorem Zlx {n : Net} {m : Nat} {c : Csr} {f r : List Int} (hc : CsrIs n m c) (he : Z7c m n.Arcs) (hr : ResAt c.Arc c.Cap c.Back f (Z18 n.Arcs m) (Z18 n.Arcs m) r) {i : Nat} {s : Bool} (hi : i < n.Arcs.length) (hne : (n.Arcs.getD i default).fr ≠ (n.Arcs.getD i default).to) :
    r.getD (pos n.Arcs i s) 0 = if s then f.getD i 0 else (n.Arcs.getD i default).cap - f.getD i 0 := by
  obtain ⟨z1, z2, z3, z4, z5⟩ := hc.ok.hat i hi hne s
  rw [(hr.2 _ (Zdh hi hne he)).2]
  unfold resV
  rw [z3, z4, z5]
  cases s <;> simp
theorem Zr9 {n : Net} {m : Nat} {c : Csr} {f r : List Int} (hc : CsrIs n m c) (he : Z7c m n.Arcs) (hr : ResAt c.Arc c.Cap c.Back f (Z18 n.Arcs m) (Z18 n.Arcs m) r) {u v : Nat} (hu : u < m) (t : Bool) :
    (∃ j, Z18 n.Arcs u ≤ j ∧ j < Z18 n.Arcs (u + 1) ∧ (decide (0 < r.getD (if t then (c.Rev.getD j 0).toNat else j) 0)) = true ∧ c.Head.getD j 0 = (v : Int)) ↔ (if t then Zjb n f v u else Zjb n f u v) := by
  have hmo := Z48 (al := n.Arcs) (show u + 1 ≤ m by omega)
  constructor
  · rintro ⟨j, h1, h2, h3, h4⟩
    obtain ⟨i, s, hi, hne, hp, q1, q2, q3, q4, q5⟩ := hc.ok.place (j := j) (by omega)
    have hv := he i hi s
    obtain ⟨p1, p2⟩ := Zr7 (v := u) hi hne hv.1 (by omega) (by omega)
    have h3 := of_decide_eq_true h3
    rw [q1] at h4
    have ha : (if t then (c.Rev.getD j 0).toNat else j) = pos n.Arcs i (if t then !s else s) := by
      cases t
      · exact hp.symm
      · show (c.Rev.getD j 0).toNat = _
        rw [q2, Int.toNat_natCast]; rfl
    rw [ha, Zlx hc he hr hi hne] at h3
    cases t <;> cases s <;> simp only [Bool.not_true, Bool.not_false, if_true, if_false, Bool.false_eq_true, vtx] at h3 h4 p1 ⊢
    · exact ⟨i, hi, hne, .inl ⟨p1, h4, by omega⟩⟩
    · exact ⟨i, hi, hne, .inr ⟨p1, h4, h3⟩⟩
    · exact ⟨i, hi, hne, .inr ⟨h4, p1, h3⟩⟩
    · exact ⟨i, hi, hne, .inl ⟨h4, p1, by omega⟩⟩
  · intro h
    have key : ∀ (i : Nat) (s : Bool), i < n.Arcs.length → (n.Arcs.getD i default).fr ≠ (n.Arcs.getD i default).to → vtx (n.Arcs.getD i default) s = (u : Int) → vtx (n.Arcs.getD i default) (!s) = (v : Int) → 0 < r.getD (pos n.Arcs i (if t then !s else s)) 0 →
        ∃ j, Z18 n.Arcs u ≤ j ∧ j < Z18 n.Arcs (u + 1) ∧ (decide (0 < r.getD (if t then (c.Rev.getD j 0).toNat else j) 0)) = true ∧ c.Head.getD j 0 = (v : Int) := by
      intro i s hi hne hu' hv' h0
      have hcl := Zfs (s := s) hi hne (by omega)
      have hpos : pos n.Arcs i s = Z18 n.Arcs u + cnt n.Arcs u i := by unfold pos; rw [hu', Int.toNat_natCast]
      rw [hu', Int.toNat_natCast] at hcl
      have hb1 : Z18 n.Arcs (u + 1) = Z18 n.Arcs u + cnt n.Arcs u n.Arcs.length := rfl
      obtain ⟨z1, z2, z3, z4, z5⟩ := hc.ok.hat i hi hne s
      refine ⟨pos n.Arcs i s, by omega, by omega, decide_eq_true ?_, by rw [z1]; exact hv'⟩
      rw [z2]
      cases t
      · simpa using h0
      · simpa using h0
    cases t
    · simp only [Bool.false_eq_true, if_false] at h key ⊢
      obtain ⟨i, hi, hne, ⟨a1, a2, a3⟩ | ⟨a1, a2, a3⟩⟩ := h
      · refine key i false hi hne (by simpa [vtx] using a1) (by simpa [vtx] using a2) ?_
        rw [Zlx hc he hr hi hne]; simp only [Bool.false_eq_true, if_false]; omega
      · refine key i true hi hne (by simpa [vtx] using a1) (by simpa [vtx] using a2) ?_
        rw [Zlx hc he hr hi hne]; simpa using a3
    · simp only [if_true] at h key ⊢
      obtain ⟨i, hi, hne, ⟨a1, a2, a3⟩ | ⟨a1, a2, a3⟩⟩ := h
      · refine key i true hi hne (by simpa [vtx] using a2) (by simpa [vtx] using a1) ?_
        rw [Zlx hc he hr hi hne]; simp only [Bool.not_true, Bool.false_eq_true, if_false]; omega
      · refine key i false hi hne (by simpa [vtx] using a2) (by simpa [vtx] using a1) ?_
        rw [Zlx hc he hr hi hne]; simpa using a3
theorem Zna {n : Net} {m : Nat} {f : List Int} (he : Z7c m n.Arcs) {G : Nat → Nat → Prop} {s : Nat} (hs : s < m) (h : ∀ u v, u < m → (G u v ↔ Zjb n f v u)) {v : Nat} : Reach G s v ↔ Reach (Zjb n f) v s := by
 have lt : ∀ {u w}, Zjb n f u w → u < m ∧ w < m := by
  rintro u w ⟨i, hi, _, h1⟩
  have h0 := he i hi false
  have h2 := he i hi true
  simp only [vtx, Bool.false_eq_true, if_false, if_true] at h0 h2
  omega
 constructor
 ·
  intro hr
  have : v < m ∧ Reach (fun a b => Zjb n f b a) s v := by
   induction hr with
   | refl => exact ⟨hs, .refl⟩
   | step _ hg ih => have ho := (h _ _ ih.1).1 hg; exact ⟨(lt ho).1, .step ih.2 ho⟩
  exact this.2.flip
 ·
  intro hr
  exact hr.flip.mono fun u w ho => (h u w (lt ho).2).2 ho
theorem s_To {n : Net} {f : List Int} (hl : lenok n.Arcs.length) : Ok (Zfm n f) (fun r => (FwithinP n f ∧ r.2 = 0 ∧ r.1.length = n.N.toNat ∧ ∀ v, v < n.N.toNat → (r.1.getD v false = true ↔ ¬Reach (Zjb n f) v n.T.toNat)) ∨ (¬FwithinP n f ∧ r = ([], 20))) := by
 unfold Zfm
 refine Ok.bind.2 (Ok.mono (s_left hl) ?_)
 rintro ⟨c, r, e⟩ (⟨hw, h1, hc, hr⟩ | ⟨hw, h1⟩)
 rotate_left
 ·
  simp only at h1
  subst h1
  exact Ok.ite.2 ⟨fun _ => Ok.some.2 (.inr ⟨hw, rfl⟩), fun h => absurd (by omega) h⟩
 simp only at h1 hc hr
 subst h1
 simp only
 rw [if_neg (by simp)]
 have hz := Z2y hw.1
 simp only [Z56, decide_eq_true_eq] at hz
 obtain ⟨m, hm, he⟩ := Zhk hw.1
 obtain ⟨t, ht⟩ : ∃ t : Nat, n.T = t := ⟨n.T.toNat, by omega⟩
 rw [hm, Int.toNat_natCast] at hc hr
 have hbs := Z65 (al := n.Arcs) (v := m) (by omega) (by omega)
 have hrl := hr.1
 have hlr := hc.ok.lr
 rw [g_To, ht]
 refine Ok.bind.2 (Ok.mono (s_met (mb := fun j => decide (0 < r.getD (c.Rev.getD j 0).toNat 0)) hc he (by omega) (by omega) (show t < m by omega) fun j hj => ?_) fun x hx => Ok.bind.2 ?_)
 ·
  unfold Zcq
  obtain ⟨i, s, hi, hne, hp, q1, q2, q3, q4, q5⟩ := hc.ok.place hj
  have hq : pos n.Arcs i (!s) < Z18 n.Arcs m := Zdh hi hne he
  simp only [Int.toNat_natCast, q2]
  rw [Z81 (by constructor <;> omega), Z81 (by constructor <;> omega)]
 have hxl := hx.1
 refine Zcz (fun s => ∃ k : Nat, s.2 = k ∧ k ≤ m ∧ s.1.length = m ∧ ∀ v, v < m → s.1.getD v false = if v < k then !x.getD v false else x.getD v false) (fun s => (m - s.2).toNat) ⟨0, rfl, by omega, hxl, fun v hv => by rw [if_neg (by omega)]⟩ (by unfold Z4m; simp only; omega) ?_
 rintro ⟨ys, y⟩ ⟨k, h1, hk, hyl, hy⟩ P next exit
 simp only at h1 hyl hy next ⊢
 subst h1
 unfold Zbp
 simp only [Int.toNat_natCast]
 refine Ok.ite.2 ⟨fun h => Ok.gd.2 ⟨(by omega), Ok.gd.2 ⟨(by omega), Ok.gd.2 ⟨(by omega), Ok.some.2 (next _ ⟨k + 1, by simp, by omega, by simp [hyl], fun v hv => ?_⟩ (by simp only; omega))⟩⟩⟩, fun h => Ok.some.2 (exit _ ?_)⟩
 ·
  simp only [Zi4]
  by_cases c1 : k = v
  ·
   subst c1
   rw [if_pos ⟨rfl, by omega⟩, if_pos (by omega), hy k hv, if_neg (by omega)]
  ·
   rw [if_neg (fun h => c1 h.1), hy v hv]
   by_cases c2 : v < k
   · rw [if_pos c2, if_pos (by omega)]
   · rw [if_neg c2, if_neg (by omega)]
 ·
  obtain rfl : k = m := by omega
  unfold Zd9
  refine Ok.some.2 (.inl ⟨hw, rfl, by simp only [hm, Int.toNat_natCast]; exact hyl, fun v hv => ?_⟩)
  rw [hm, Int.toNat_natCast] at hv
  simp only
  rw [hy v hv, if_pos hv, Int.toNat_natCast]
  have h2 := (hx.2 v hv).trans (Zna he (by omega) fun u w hu => by simpa using Zr9 (v := w) hc he hr hu true)
  rw [← h2]
  cases x.getD v false <;> simp
end Go.Acq
namespace Go.Acq
open Go
set_option linter.unusedSimpArgs false
def Zhc (al : List Arc) (f : List Int) (c : List Bool) (j : Int) : Nat → Int
  | 0 => 0
  | k + 1 => Zhc al f c j k - (if (al.getD k default).fr < j ∧ inS c (al.getD k default).fr = false then f.getD k 0 else 0) + (if (al.getD k default).to < j ∧ inS c (al.getD k default).to = false then f.getD k 0 else 0)
theorem Zg7 {al : List Arc} {f : List Int} {c : List Bool} (j : Int) : ∀ k, Zhc al f c (j + 1) k = Zhc al f c j k + (if inS c j = false then ex al f j k else 0)
 | 0 => by simp [Zhc, ex]
 | k + 1 => by
  have ih := Zg7 (al := al) (f := f) (c := c) j k
  simp only [Zhc, ex, ih]
  have e1 : ∀ x : Int, (if x < j + 1 ∧ inS c x = false then f.getD k 0 else 0) = (if x < j ∧ inS c x = false then f.getD k 0 else 0) + (if x = j ∧ inS c j = false then f.getD k 0 else 0) := fun x => by
   by_cases h1 : x < j
   ·
    by_cases h3 : inS c x = false
    · rw [if_pos ⟨by omega, h3⟩, if_pos ⟨h1, h3⟩, if_neg (fun h => by omega)]; omega
    · rw [if_neg (fun h => h3 h.2), if_neg (fun h => h3 h.2), if_neg (fun h => by omega)]; omega
   ·
    by_cases h2 : x = j
    ·
     subst h2
     by_cases h3 : inS c x = false
     · rw [if_pos ⟨by omega, h3⟩, if_neg (fun h => h1 h.1), if_pos ⟨rfl, h3⟩]; omega
     · rw [if_neg (fun h => h3 h.2), if_neg (fun h => h3 h.2), if_neg (fun h => h3 h.2)]; omega
    · rw [if_neg (fun h => by omega), if_neg (fun h => by omega), if_neg (fun h => h2 h.1)]; omega
  rw [e1, e1]
  by_cases h : inS c j = false
  ·
   simp only [h, and_true, if_true]
   omega
  ·
   simp only [h, Bool.not_eq_false, and_false, if_false, ite_false, reduceCtorEq]
   omega
theorem Zg8 {al : List Arc} {f : List Int} {c : List Bool} {m : Nat} (he : Z7c m al) : ∀ k, k ≤ al.length → Zhc al f c 0 k = 0
 | 0, _ => rfl
 | k + 1, hk => by
  have h0 := he k hk false
  have h1 := he k hk true
  simp only [vtx, Bool.false_eq_true, if_false, if_true] at h0 h1
  simp only [Zhc, Zg8 he k (by omega)]
  rw [if_neg (fun h => by omega), if_neg (fun h => by omega)]; rfl
theorem Zi2 {al : List Arc} {f : List Int} {c : List Bool} {m : Nat} (he : Z7c m al) : ∀ k, k ≤ al.length → Zhc al f c m k = acK al f c k
 | 0, _ => rfl
 | k + 1, hk => by
  have h0 := he k hk false
  have h1 := he k hk true
  simp only [vtx, Bool.false_eq_true, if_false, if_true] at h0 h1
  simp only [Zhc, acK, Zi2 he k (by omega)]
  obtain ⟨A, hA⟩ : ∃ A, al.getD k default = A := ⟨_, rfl⟩
  obtain ⟨F, hF⟩ : ∃ F, f.getD k 0 = F := ⟨_, rfl⟩
  rw [hA] at h0 h1 ⊢
  rw [hF]
  cases a : inS c A.fr <;> cases b : inS c A.to <;> simp [h0.2, h1.2] <;> omega
theorem Zro {al : List Arc} {f : List Int} {c : List Bool} (h : ∀ i, i < al.length → 0 ≤ f.getD i 0 ∧ f.getD i 0 ≤ (al.getD i default).cap) : ∀ k, k ≤ al.length → acK al f c k ≤ Zp1 al c k ∧ (acK al f c k = Zp1 al c k ↔ ∀ i, i < k → Zdg al f c i)
 | 0, _ => ⟨Int.le_refl _, fun _ i hi => by omega, fun _ => rfl⟩
 | k + 1, hk => by
  obtain ⟨g1, g2⟩ := Zro (c := c) h k (by omega)
  have hf := h k (by omega)
  have key : (∀ i, i < k + 1 → Zdg al f c i) ↔ (∀ i, i < k → Zdg al f c i) ∧ Zdg al f c k :=
   ⟨fun hh => ⟨fun i hi => hh i (by omega), hh k (by omega)⟩, fun hh i hi => by
    rcases Nat.lt_or_ge i k with h1 | h1
    · exact hh.1 i h1
    · rw [show i = k by omega]; exact hh.2⟩
  rw [key, ← g2]
  simp only [acK, Zp1, Zdg]
  obtain ⟨A, hA⟩ : ∃ A, al.getD k default = A := ⟨_, rfl⟩
  obtain ⟨F, hF⟩ : ∃ F, f.getD k 0 = F := ⟨_, rfl⟩
  rw [hA, hF] at hf
  rw [hA, hF]
  cases a : inS c A.fr <;> cases b : inS c A.to <;> simp <;> omega
theorem Zng {n : Net} {f : List Int} {c : List Bool} {m : Nat} (hm : n.N = m) (he : Z7c m n.Arcs) (hA : AllP n f (fun x => x = 0) [n.S, n.T]) (hc : CutR n c) : acK n.Arcs f c n.Arcs.length = ex n.Arcs f n.T n.Arcs.length := by
 have hz := Z2y hc.1
 simp only [Z56, decide_eq_true_eq] at hz
 have hj : ∀ j : Nat, j ≤ m → Zhc n.Arcs f c j n.Arcs.length = if n.T < j then ex n.Arcs f n.T n.Arcs.length else 0 := by
  intro j
  induction j with
  | zero => intro _; rw [show ((0 : Nat) : Int) = 0 from rfl, Zg8 he _ (Nat.le_refl _), if_neg (by omega)]
  | succ j ih =>
   intro hj
   rw [Int.natCast_succ, Zg7, ih (by omega)]
   by_cases c1 : n.T = j
   · rw [← c1, if_neg (by omega), if_pos hc.2.2.2, if_pos (by omega)]; omega
   ·
    have hz : (if inS c j = false then ex n.Arcs f j n.Arcs.length else 0) = 0 := by
     by_cases c2 : inS c j = false
     ·
      rw [if_pos c2]
      rcases hA.2 j (by omega) with h7 | h7
      · exact h7
      ·
       simp only [List.mem_cons, List.not_mem_nil, or_false] at h7
       rcases h7 with h7 | h7
       · rw [h7, hc.2.2.1] at c2; cases c2
       · exact absurd h7.symm c1
     · rw [if_neg c2]
    rw [hz]
    by_cases c3 : n.T < j
    · rw [if_pos c3, if_pos (by omega)]; omega
    · rw [if_neg c3, if_neg (by omega)]; rfl
 have := hj m (Nat.le_refl _)
 rw [Zi2 he _ (Nat.le_refl _), if_pos (by omega)] at this
 exact this
end Go.Acq
namespace Go.Acq
open Go
set_option linter.unusedSimpArgs false
def hd (c : Csr) (j : Nat) : Nat := (c.Head.getD j 0).toNat
def rv (c : Csr) (j : Nat) : Nat := (c.Rev.getD j 0).toNat
def fs (c : Csr) (v : Nat) : Nat := (c.First.getD v 0).toNat
def tl (c : Csr) (j : Nat) : Nat := hd c (rv c j)
def bk (c : Csr) (j : Nat) : Bool := c.Back.getD j false
def cp (c : Csr) (j : Nat) : Int := max (c.Cap.getD j 0) (c.Cap.getD (rv c j) 0)
structure Row (n : Net) (m L : Nat) (c : Csr) : Prop where
  is : CsrIs n m c
  chk : Zal n.N n.S n.T n.Arcs = 0
  hm : n.N = m
  hL : Z18 n.Arcs m = L
section row
variable {n : Net} {m L : Nat} {c : Csr}
theorem Row.he (r : Row n m L c) : Z7c m n.Arcs := Zfr (by rw [← r.hm]; exact (Z2y r.chk).2.2.2.1)
theorem Row.bd (r : Row n m L c) : 2 ≤ m ∧ m ≤ 4096 ∧ n.Arcs.length ≤ 16384 ∧ L ≤ 67108864 := by
 have hz := Z2y r.chk
 have := r.hm
 have hb := Z65 (al := n.Arcs) (v := m) (by omega) (by omega)
 have := r.hL
 omega
theorem Row.ends (r : Row n m L c) : (∃ S : Nat, n.S = S ∧ c.S = S ∧ S < m) ∧ (∃ T : Nat, n.T = T ∧ c.T = T ∧ T < m) ∧ n.S ≠ n.T ∧ c.N = m := by
 have hz := Z2y r.chk
 simp only [Z56, decide_eq_true_eq] at hz
 have h1 := r.hm
 have h2 := r.is.hS
 have h3 := r.is.hT
 exact ⟨⟨n.S.toNat, by omega, by omega, by omega⟩, ⟨n.T.toNat, by omega, by omega, by omega⟩, hz.2.2.1.2.2, r.is.hN⟩
theorem Row.caps (r : Row n m L c) : ∀ i, i < n.Arcs.length → 0 ≤ (n.Arcs.getD i default).cap ∧ (n.Arcs.getD i default).cap ≤ 4611686018427387904 := fun i hi => by
 have h0 := Zec r.chk i hi
 have h1 := Zhv r.chk (i + 1) hi
 have h2 := Zhv r.chk i (by omega)
 simp only [totC] at h1
 omega
theorem Row.lens (r : Row n m L c) : c.First.length = m + 1 ∧ c.Head.length = L ∧ c.Rev.length = L ∧ c.Cap.length = L ∧ c.Arc.length = L ∧ c.Back.length = L := by
 have h := r.is.ok
 rw [← r.hL]
 exact ⟨h.lf, h.lh, h.lr, h.lc, h.la, h.lb⟩
theorem Row.at (r : Row n m L c) {j : Nat} (hj : j < L) : ∃ i s, i < n.Arcs.length ∧ (n.Arcs.getD i default).fr ≠ (n.Arcs.getD i default).to ∧ pos n.Arcs i s = j ∧ c.Head.getD j 0 = (hd c j : Nat) ∧ (hd c j : Int) = vtx (n.Arcs.getD i default) (!s) ∧ (tl c j : Int) = vtx (n.Arcs.getD i default) s ∧
    c.Rev.getD j 0 = (rv c j : Nat) ∧ rv c j = pos n.Arcs i (!s) ∧ c.Cap.getD j 0 = (if s then 0 else (n.Arcs.getD i default).cap) ∧ c.Arc.getD j 0 = i ∧ bk c j = s := by
  obtain ⟨i, s, hi, hne, hp, q1, q2, q3, q4, q5⟩ := r.is.ok.place (by rw [r.hL]; exact hj)
  have hv := r.he i hi (!s)
  have hv2 := r.he i hi s
  have hr : rv c j = pos n.Arcs i (!s) := by unfold rv; rw [q2, Int.toNat_natCast]
  refine ⟨i, s, hi, hne, hp, by unfold hd; omega, by unfold hd; omega, ?_, by unfold rv; omega, hr, q3, q4, q5⟩
  unfold tl hd
  rw [hr, (r.is.ok.hat i hi hne (!s)).1, Bool.not_not]; omega
theorem Row.head (r : Row n m L c) {j : Nat} (hj : j < L) : c.Head.getD j 0 = (hd c j : Nat) ∧ hd c j < m := by
 obtain ⟨i, s, hi, hne, hp, q1, q2, q3, q4, q5, q6, q7, q8⟩ := r.at hj
 have hv := r.he i hi (!s)
 exact ⟨q1, by omega⟩
theorem Row.rev (r : Row n m L c) {j : Nat} (hj : j < L) : c.Rev.getD j 0 = (rv c j : Nat) ∧ rv c j < L ∧ rv c (rv c j) = j ∧ rv c j ≠ j := by
 obtain ⟨i, s, hi, hne, hp, q1, q2, q3, q4, q5, q6, q7, q8⟩ := r.at hj
 have hq : pos n.Arcs i (!s) < L := by rw [← r.hL]; exact Zdh hi hne r.he
 refine ⟨q4, by rw [q5]; exact hq, ?_, fun e => ?_⟩
 ·
  have := (r.is.ok.hat i hi hne (!s)).2.1
  rw [q5]; unfold rv; rw [this, Int.toNat_natCast, Bool.not_not, hp]
 ·
  have := (Zd2 r.he hi hi hne hne (q5.symm.trans (e.trans hp.symm))).2
  cases s <;> cases this
theorem Row.tlh (r : Row n m L c) {j : Nat} (hj : j < L) : tl c j < m ∧ tl c (rv c j) = hd c j ∧ hd c (rv c j) = tl c j ∧ tl c j ≠ hd c j := by
 obtain ⟨i, s, hi, hne, hp, q1, q2, q3, q4, q5, q6, q7, q8⟩ := r.at hj
 have hv := r.he i hi s
 refine ⟨by omega, ?_, rfl, fun e => ?_⟩
 · unfold tl; rw [(r.rev hj).2.2.1]
 ·
  apply hne
  have : vtx (n.Arcs.getD i default) s = vtx (n.Arcs.getD i default) (!s) := by omega
  cases s <;> simpa [vtx, eq_comm] using this
theorem Row.back (r : Row n m L c) {j : Nat} (hj : j < L) : bk c (rv c j) = !bk c j := by
 obtain ⟨i, s, hi, hne, hp, q1, q2, q3, q4, q5, q6, q7, q8⟩ := r.at hj
 unfold bk at q8 ⊢
 rw [q5, (r.is.ok.hat i hi hne (!s)).2.2.2.2, q8]
theorem Row.first (r : Row n m L c) : (∀ v, v ≤ m → c.First.getD v 0 = (fs c v : Nat) ∧ fs c v = Z18 n.Arcs v) ∧ fs c 0 = 0 ∧ fs c m = L ∧ ∀ v, v < m → fs c v ≤ fs c (v + 1) ∧ fs c (v + 1) ≤ L := by
 have h : ∀ v, v ≤ m → c.First.getD v 0 = (fs c v : Nat) ∧ fs c v = Z18 n.Arcs v := fun v hv => by
  have := r.is.ok.hf v hv
  unfold fs; rw [this, Int.toNat_natCast]; exact ⟨rfl, rfl⟩
 refine ⟨h, by rw [(h 0 (by omega)).2]; rfl, by rw [(h m (Nat.le_refl _)).2]; exact r.hL, fun v hv => ?_⟩
 rw [(h v (by omega)).2, (h (v + 1) (by omega)).2, ← r.hL]
 exact ⟨Z48 (by omega), Z48 (by omega)⟩
theorem Row.range (r : Row n m L c) {j u : Nat} (hj : j < L) (hu : u < m) : (fs c u ≤ j ∧ j < fs c (u + 1)) ↔ tl c j = u := by
 obtain ⟨i, s, hi, hne, hp, q1, q2, q3, q4, q5, q6, q7, q8⟩ := r.at hj
 have hv := r.he i hi s
 have f1 := (r.first.1 u (by omega)).2
 have f2 := (r.first.1 (u + 1) (by omega)).2
 constructor
 ·
  rintro ⟨h1, h2⟩
  have := (Zr7 (v := u) hi hne hv.1 (by omega) (by omega)).1
  omega
 ·
  intro h
  have hcl := Zfs (s := s) hi hne hv.1
  have hpos : pos n.Arcs i s = Z18 n.Arcs (vtx (n.Arcs.getD i default) s).toNat + cnt n.Arcs (vtx (n.Arcs.getD i default) s).toNat i := rfl
  have e : (vtx (n.Arcs.getD i default) s).toNat = u := by omega
  rw [e] at hcl hpos
  have hb1 : Z18 n.Arcs (u + 1) = Z18 n.Arcs u + cnt n.Arcs u n.Arcs.length := rfl
  omega
theorem Row.cap (r : Row n m L c) {j : Nat} (hj : j < L) : 0 ≤ c.Cap.getD j 0 ∧ c.Cap.getD j 0 + c.Cap.getD (rv c j) 0 = cp c j ∧ cp c (rv c j) = cp c j ∧ 0 ≤ cp c j ∧ cp c j ≤ 4611686018427387904 ∧ (bk c j = true → c.Cap.getD j 0 = 0) := by
 obtain ⟨i, s, hi, hne, hp, q1, q2, q3, q4, q5, q6, q7, q8⟩ := r.at hj
 have hc := r.caps i hi
 have h2 : c.Cap.getD (rv c j) 0 = if (!s) then 0 else (n.Arcs.getD i default).cap := by rw [q5]; exact (r.is.ok.hat i hi hne (!s)).2.2.1
 have h3 := (r.rev hj).2.2.1
 unfold cp
 rw [h3, q6, h2, q8]
 cases s
 · simp only [Bool.not_false, if_true, Bool.false_eq_true, if_false, false_implies, and_true]; omega
 · simp only [Bool.not_true, if_true, Bool.false_eq_true, if_false, true_implies, and_true]; omega
theorem Row.cpPos (r : Row n m L c) {i : Nat} (hi : i < n.Arcs.length) (hne : (n.Arcs.getD i default).fr ≠ (n.Arcs.getD i default).to) (s : Bool) : cp c (pos n.Arcs i s) = (n.Arcs.getD i default).cap ∧ rv c (pos n.Arcs i s) = pos n.Arcs i (!s) ∧ pos n.Arcs i s < L := by
 have z := r.is.ok.hat i hi hne s
 have z2 := r.is.ok.hat i hi hne (!s)
 have hc := r.caps i hi
 have hr : rv c (pos n.Arcs i s) = pos n.Arcs i (!s) := by unfold rv; rw [z.2.1, Int.toNat_natCast]
 refine ⟨?_, hr, by rw [← r.hL]; exact Zdh hi hne r.he⟩
 unfold cp
 rw [hr, z.2.2.1, z2.2.2.1]
 cases s <;> simp only [Bool.not_true, Bool.not_false, if_true, Bool.false_eq_true, if_false] <;> omega
theorem Row.tailM (r : Row n m L c) {j : Nat} (hj : j < L) : Zbe c (j : Nat) = some (((tl c j : Nat) : Int), true) := by
 obtain ⟨i, s, hi, hne, hp, q1, q2, q3, q4, q5, q6, q7, q8⟩ := r.at hj
 have b := r.bd
 have := s_Tail r.is r.he (by omega) (by omega) (s := s) hi hne
 rw [hp] at this
 rw [this, q3]
theorem Zo0 {S X : Type} {y : S → Int → Option (S ⊕ X)} {s0 : S} {u : Nat} (r : Row n m L c) (hu : u < m) (I : Nat → S → Prop) (J : X → Prop) (h0 : I (fs c u) s0)
    (hstep : ∀ j s, fs c u ≤ j → j < fs c (u + 1) → I j s → Ok (y s (j : Nat)) (fun t => match t with | .inl s' => I (j + 1) s' | .inr x => J x)) :
    Ok (Z4u y c (u : Nat) (.inl s0)) (fun t => match t with | .inl s => I (fs c (u + 1)) s | .inr x => J x) := by
  have lf := r.lens.1
  have b := r.bd
  have f1 := (r.first.1 u (by omega)).1
  have f2 := (r.first.1 (u + 1) (by omega)).1
  have f3 := r.first.2.2.2 u hu
  have e1 : ((u : Int) + 1).toNat = u + 1 := by omega
  unfold Z4u
  simp only [Int.toNat_natCast, f1]
  refine Ok.gd.2 ⟨(by omega), Ok.bind.2 (Zcz (fun s => ∃ (k : Nat) (st : S), s = ((k : Int), Sum.inl st) ∧ fs c u ≤ k ∧ k ≤ fs c (u + 1) ∧ I k st) (fun s => (fs c (u + 1) - s.1).toNat) ⟨fs c u, s0, rfl, Nat.le_refl _, f3.1, h0⟩ (by unfold Z4m; simp only; omega) ?_)⟩
  rintro s ⟨k, st, rfl, hk0, hk, hI⟩ P next exit
  unfold Z79
  simp only [Int.toNat_natCast, e1, f2]
  refine Ok.gd.2 ⟨(by omega), Ok.gd.2 ⟨(by omega), Ok.ite.2 ⟨fun hx => ?_, fun hx => Ok.some.2 (exit _ (Ok.some.2 ?_))⟩⟩⟩
  · refine Ok.bind.2 ?_
    show Ok (y st _) _
    refine Ok.mono (hstep k st hk0 (by omega) hI) ?_
    rintro (s' | x) hr
    · exact Ok.ite.2 ⟨fun h => by simp at h, fun _ => Ok.gd.2 ⟨(by omega), Ok.some.2 (next _ ⟨k + 1, s', by simp, by omega, by omega, hr⟩ (by simp only; omega))⟩⟩
    · exact Ok.ite.2 ⟨fun _ => Ok.some.2 (exit _ (Ok.some.2 hr)), fun h => by simp at h⟩
  · obtain rfl : k = fs c (u + 1) := by omega
    exact hI
def flN (al : List Arc) (R : List Int) : List Int := (List.range al.length).map fun i => if (al.getD i default).fr = (al.getD i default).to then 0 else R.getD (pos al i true) 0
theorem Zrh (al : List Arc) (R : List Int) : (flN al R).length = al.length := by simp [flN]
theorem Zdb {al : List Arc} {R : List Int} {i : Nat} (h : i < al.length) : (flN al R).getD i 0 = if (al.getD i default).fr = (al.getD i default).to then 0 else R.getD (pos al i true) 0 := by
 unfold flN
 rw [List.getD_eq_getElem?_getD, List.getElem?_map, List.getElem?_range h]; rfl
structure ResOK (n : Net) (m L : Nat) (c : Csr) (R X : List Int) : Prop where
  lr : R.length = L
  lx : X.length = m
  res : ∀ j, j < L → 0 ≤ R.getD j 0 ∧ R.getD j 0 + R.getD (rv c j) 0 = cp c j
  ex : ∀ v : Nat, v < m → X.getD v 0 = ex n.Arcs (flN n.Arcs R) v n.Arcs.length
theorem Zot {R : List Int} (r : Row n m L c) (h : ∀ j, j < L → 0 ≤ R.getD j 0 ∧ R.getD j 0 + R.getD (rv c j) 0 = cp c j) : FwithinP n (flN n.Arcs R) := by
 refine ⟨r.chk, Zrh _ _, fun i hi => ?_⟩
 rw [Zdb hi]
 have hc := r.caps i hi
 by_cases e : (n.Arcs.getD i default).fr = (n.Arcs.getD i default).to
 · rw [if_pos e]; omega
 ·
  rw [if_neg e]
  obtain ⟨a1, a2, a3⟩ := r.cpPos hi e true
  have h1 := h _ a3
  have h2 := h _ (r.rev a3).2.1
  omega
theorem ResOK.within {R X : List Int} (h : ResOK n m L c R X) (r : Row n m L c) : FwithinP n (flN n.Arcs R) := Zot r h.res
theorem Zqt {f : List Int} (hw : FwithinP n f) (v : Int) : -4611686018427387904 ≤ ex n.Arcs f v n.Arcs.length ∧ ex n.Arcs f v n.Arcs.length ≤ 4611686018427387904 := by
 have := ex_le (al := n.Arcs) v (fun i hi => (hw.2.2 i hi).1) n.Arcs.length (Nat.le_refl _)
 have := hw.tot n.Arcs.length (Nat.le_refl _)
 omega
theorem ResOK.bnd {R X : List Int} (h : ResOK n m L c R X) (r : Row n m L c) {v : Nat} (hv : v < m) : -4611686018427387904 ≤ X.getD v 0 ∧ X.getD v 0 ≤ 4611686018427387904 := by
 rw [h.ex v hv]; exact Zqt (h.within r) v
theorem ResOK.rle {R X : List Int} (h : ResOK n m L c R X) (r : Row n m L c) {j : Nat} (hj : j < L) : 0 ≤ R.getD j 0 ∧ R.getD j 0 ≤ cp c j ∧ R.getD j 0 ≤ 4611686018427387904 := by
 have h1 := h.res j hj
 have h2 := h.res _ (r.rev hj).2.1
 have h3 := r.cap hj
 omega
def mvR (c : Csr) (R : List Int) (j : Nat) (d : Int) : List Int := (R.set j (R.getD j 0 - d)).set (rv c j) (R.getD (rv c j) 0 + d)
def mvX (c : Csr) (X : List Int) (j : Nat) (d : Int) : List Int := (X.set (tl c j) (X.getD (tl c j) 0 - d)).set (hd c j) (X.getD (hd c j) 0 + d)
theorem Ze9 {R : List Int} {j k : Nat} {d : Int} (r : Row n m L c) (hl : R.length = L) (hj : j < L) : (mvR c R j d).getD k 0 = if k = rv c j then R.getD (rv c j) 0 + d else if k = j then R.getD j 0 - d else R.getD k 0 := by
 have := r.rev hj
 unfold mvR
 rw [Zi4, Zi4, List.length_set]
 by_cases c1 : k = rv c j
 · rw [if_pos ⟨c1.symm, by omega⟩, if_pos c1]
 ·
  rw [if_neg fun h => c1 h.1.symm, if_neg c1]
  by_cases c2 : k = j
  · rw [if_pos ⟨c2.symm, by omega⟩, if_pos c2]
  · rw [if_neg fun h => c2 h.1.symm, if_neg c2]
theorem Zhj {X : List Int} {j k : Nat} {d : Int} (r : Row n m L c) (hl : X.length = m) (hj : j < L) : (mvX c X j d).getD k 0 = X.getD k 0 - (if tl c j = k then d else 0) + (if hd c j = k then d else 0) := by
 have h1 := r.tlh hj
 have h2 := r.head hj
 unfold mvX
 rw [Zi4, Zi4, List.length_set]
 by_cases c1 : hd c j = k
 ·
  subst c1
  rw [if_pos ⟨rfl, by omega⟩, if_neg h1.2.2.2, if_pos rfl]; omega
 ·
  rw [if_neg fun h => c1 h.1]
  by_cases c2 : tl c j = k
  ·
   subst c2
   rw [if_pos ⟨rfl, by omega⟩, if_pos rfl, if_neg c1]; omega
  · rw [if_neg fun h => c2 h.1, if_neg c2, if_neg c1]; omega
theorem ex_bump {al : List Arc} {f g : List Int} {i : Nat} {δ : Int} {K : Nat} (v : Int) (hi : i < K) (h : ∀ k, k < K → g.getD k 0 = f.getD k 0 + if k = i then δ else 0) :
    ex al g v K = ex al f v K + ((if (al.getD i default).to = v then δ else 0) - (if (al.getD i default).fr = v then δ else 0)) := by
  have key : ∀ k, k ≤ K → ex al g v k = ex al f v k + if i < k then ((if (al.getD i default).to = v then δ else 0) - (if (al.getD i default).fr = v then δ else 0)) else 0 := by
    intro k
    induction k with
    | zero => intro _; rw [if_neg (by omega)]; rfl
    | succ k ih =>
      intro hk
      simp only [ex]
      rw [ih (by omega), h k (by omega)]
      by_cases e : k = i
      · subst e
        rw [if_neg (show ¬ k < k by omega), if_pos rfl, if_pos (show k < k + 1 by omega)]
        split <;> split <;> omega
      · rw [if_neg e]
        by_cases e2 : i < k
        · rw [if_pos e2, if_pos (show i < k + 1 by omega)]; simp only [Int.add_zero]; omega
        · rw [if_neg e2, if_neg (show ¬ i < k + 1 by omega)]; simp only [Int.add_zero]
  rw [key K (Nat.le_refl _), if_pos hi]
theorem ResOK.move {R X : List Int} {j : Nat} {d : Int} (h : ResOK n m L c R X) (r : Row n m L c) (hj : j < L) (d0 : 0 ≤ d) (d1 : d ≤ R.getD j 0) : ResOK n m L c (mvR c R j d) (mvX c X j d) := by
 have hr := r.rev hj
 have hlr := h.lr
 have hlx := h.lx
 refine ⟨by simp [mvR, hlr], by simp [mvX, hlx], fun k hk => ?_, fun v hv => ?_⟩
 ·
  have hk2 := r.rev hk
  have a := h.res k hk
  have a2 := h.res _ hr.2.1
  have a3 := h.res j hj
  have a4 := r.cap hj
  rw [Ze9 r hlr hj, Ze9 r hlr hj]
  by_cases c1 : k = rv c j
  ·
   subst c1
   rw [if_pos rfl, hr.2.2.1, if_neg fun e => hr.2.2.2 e.symm, if_pos rfl, a4.2.2.1]; omega
  ·
   by_cases c2 : k = j
   ·
    subst c2
    rw [if_neg c1, if_pos rfl, if_pos rfl]; omega
   ·
    have c3 : rv c k ≠ rv c j := fun e => c2 (by rw [← hk2.2.2.1, e, hr.2.2.1])
    have c4 : rv c k ≠ j := fun e => c1 (by rw [← e, hk2.2.2.1])
    rw [if_neg c1, if_neg c2, if_neg c3, if_neg c4]; exact a
 ·
  obtain ⟨i, s, hi, hne, hp, q1, q2, q3, q4, q5, q6, q7, q8⟩ := r.at hj
  rw [Zhj r hlx hj, h.ex v hv, ex_bump (f := flN n.Arcs R) (g := flN n.Arcs (mvR c R j d)) (i := i) (δ := if s then -d else d) (v : Int) hi fun k hk => ?_]
  ·
   have t1 : (tl c j = v) ↔ vtx (n.Arcs.getD i default) s = (v : Int) := by rw [← q3]; omega
   have t2 : (hd c j = v) ↔ vtx (n.Arcs.getD i default) (!s) = (v : Int) := by rw [← q2]; omega
   simp only [t1, t2]
   cases s <;> simp only [vtx, Bool.not_false, Bool.not_true, if_true, if_false, Bool.false_eq_true] <;> split <;> split <;> omega
  ·
   rw [Zdb hk, Zdb hk]
   by_cases e : (n.Arcs.getD k default).fr = (n.Arcs.getD k default).to
   ·
    have : k ≠ i := fun e2 => by subst e2; exact hne e
    rw [if_pos e, if_pos e, if_neg this]; rfl
   ·
    rw [if_neg e, if_neg e, Ze9 r hlr hj]
    by_cases e2 : k = i
    ·
     subst e2
     cases s
     ·
      have b1 : pos n.Arcs k true = rv c j := by rw [q5]; rfl
      rw [if_pos b1, if_pos rfl, b1]; rfl
     ·
      have b1 : pos n.Arcs k true ≠ rv c j := fun e3 => by rw [q5] at e3; have := (Zd2 r.he hk hk e e e3).2; cases this
      rw [if_neg b1, if_pos hp, if_pos rfl, hp]; rfl
    ·
     have b1 : pos n.Arcs k true ≠ rv c j := fun e3 => by rw [q5] at e3; exact e2 (Zd2 r.he hk hi e hne e3).1
     have b2 : pos n.Arcs k true ≠ j := fun e3 => by rw [← hp] at e3; exact e2 (Zd2 r.he hk hi e hne e3).1
     rw [if_neg b1, if_neg b2, if_neg e2, Int.add_zero]
theorem s_move {p : Pre} {j : Nat} {d : Int} (r : Row n m L c) (h : ResOK n m L c p.Res p.Ex) (hj : j < L) (d0 : 0 ≤ d) (d1 : d ≤ p.Res.getD j 0) : Zbd c p (j : Nat) d = some ⟨mvR c p.Res j d, mvX c p.Ex j d, p.H⟩ := by
 refine Zhd ?_
 obtain ⟨-, lh, lr, -, -, -⟩ := r.lens
 have h1 := r.head hj
 have h2 := r.rev hj
 have h3 := r.tlh hj
 have h4 := r.head h2.2.1
 have hlr := h.lr
 have hlx := h.lx
 have hm := h.move r hj d0 d1
 have b1 := h.bnd r h3.1
 have b2 := hm.bnd r h1.2
 have b3 := h.rle r hj
 have b4 := hm.rle r h2.2.1
 have b5 := h.rle r h2.2.1
 rw [Zhj r hlx hj, if_neg h3.2.2.2, if_pos rfl] at b2
 rw [Ze9 r hlr hj, if_pos rfl] at b4
 have e1 : (p.Res.set j (p.Res.getD j 0 - d)).getD (rv c j) 0 = p.Res.getD (rv c j) 0 := Zay fun e => h2.2.2.2 e.symm
 have e2 : (p.Ex.set (tl c j) (p.Ex.getD (tl c j) 0 - d)).getD (hd c j) 0 = p.Ex.getD (hd c j) 0 := Zay h3.2.2.2
 have e3 : c.Head.getD (rv c j) 0 = (tl c j : Nat) := h4.1
 unfold Zbd
 simp only [Int.toNat_natCast, h1.1, h2.1, e3, e1, e2, List.length_set, hlr, hlx, lh, lr]
 have i1 : inb (j : Int) L := by constructor <;> omega
 have i2 : inb ((rv c j : Nat) : Int) L := by constructor <;> omega
 have i3 : inb ((tl c j : Nat) : Int) m := by constructor <;> omega
 have i4 : inb ((hd c j : Nat) : Int) m := by constructor <;> omega
 have o1 : i64ok (p.Res.getD j 0 - d) := by constructor <;> omega
 have o2 : i64ok (p.Res.getD (rv c j) 0 + d) := by constructor <;> omega
 have o3 : i64ok (p.Ex.getD (tl c j) 0 - d) := by constructor <;> omega
 have o4 : i64ok (p.Ex.getD (hd c j) 0 + d) := by constructor <;> omega
 refine Ok.gd.2 ⟨i1, Ok.gd.2 ⟨i2, Ok.gd.2 ⟨i1, Ok.gd.2 ⟨o1, Ok.gd.2 ⟨i1, Ok.gd.2 ⟨i1, Ok.gd.2 ⟨i2, Ok.gd.2 ⟨o2, Ok.gd.2 ⟨i2, Ok.gd.2 ⟨i3, Ok.gd.2 ⟨o3, Ok.gd.2 ⟨i3, Ok.gd.2 ⟨i1, Ok.gd.2 ⟨i4, Ok.gd.2 ⟨o4, Ok.gd.2 ⟨i4, Ok.some.2 rfl⟩⟩⟩⟩⟩⟩⟩⟩⟩⟩⟩⟩⟩⟩⟩⟩
theorem Zhx {xs : List Int} (h : xs.length ≤ 1000000000) : Z2x xs = some xs := by
 refine Zhd ?_
 unfold Z2x
 exact Ok.gd.2 ⟨by constructor <;> omega, Ok.some.2 rfl⟩
theorem s_CloneI {xs : List Int} (h : xs.length ≤ 1000000000) : Z3o xs = some xs := by
 refine Zhd ?_
 unfold Z3o
 exact Ok.gd.2 ⟨by constructor <;> omega, Ok.some.2 rfl⟩
end row
end Go.Acq
