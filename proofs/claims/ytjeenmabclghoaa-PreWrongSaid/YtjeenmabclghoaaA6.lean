/- Texts of this claim, one behind the other. -/
import Derived.Test.YtjeenmabclghoaaA2
import Derived.Test.YtjeenmabclghoaaA5
import Derived.Test.YtjeenmabclghoaaA1
namespace Go.Proofs.Ytjeenmabclghoaa.Ax
open Go Go.Acq Go.RowKit Go.Proofs
set_option linter.unusedVariables false
set_option linter.unusedSimpArgs false
set_option maxHeartbeats 8000000
set_option maxRecDepth 20000
theorem Z9h : Zdc Try.prog 24 4 = true := by kernel_rfl
theorem Z0y : Zdc Try.prog 29 3 = true := by kernel_rfl
theorem Z1e : Zdc Try.prog 32 9 = true := by kernel_rfl
theorem Zg6 : Z82 Try.prog 2 = some 8 := by kernel_rfl
theorem Zf4 : Z0k Try.prog 16 = true := by kernel_rfl
theorem Zf3 : Z0k Try.prog 17 = true := by kernel_rfl
theorem Z5t : Z0k Try.prog 19 = true := by kernel_rfl
theorem Zf2 : Z0k Try.prog 22 = true := by kernel_rfl
theorem Zf1 : Z0k Try.prog 23 = true := by kernel_rfl
theorem Zbv : Z0k Try.prog 28 = true := by kernel_rfl
theorem Z9g : Z0k Try.prog 30 = true := by kernel_rfl
theorem Zbu : Z0k Try.prog 33 = true := by kernel_rfl
theorem Zf0 : Z0k Try.prog 34 = true := by kernel_rfl
theorem Zbt : Z0k Try.prog 40 = true := by kernel_rfl
theorem Zez : Z0k Try.prog 51 = true := by kernel_rfl
theorem Z62 : Z1l Try.prog 29 0 = some 0 := by kernel_rfl
theorem Z88 : Z1l Try.prog 29 1 = some 1 := by kernel_rfl
theorem Z87 : Z1l Try.prog 29 2 = some 2 := by kernel_rfl
theorem Z86 : Z1l Try.prog 32 0 = some 0 := by kernel_rfl
theorem Zaw : Z1l Try.prog 32 1 = some 1 := by kernel_rfl
theorem Zdt : Z1l Try.prog 32 2 = some 2 := by kernel_rfl
theorem Zae : intT Try.prog 3 = some .i64 := by kernel_rfl
theorem Z6z : Z26 Try.prog 25 = some 5 := by kernel_rfl
theorem Z2u : Z26 Try.prog 26 = some 2 := by kernel_rfl
theorem Z1i : Z26 Try.prog 27 = some 3 := by kernel_rfl
theorem Z3f : Z24 Try.prog 2 = some 1 := by kernel_rfl
theorem Zey : Z24 Try.prog 24 = some 4 := by kernel_rfl
theorem Zex : Z24 Try.prog 26 = some 1 := by kernel_rfl
theorem Z2h : Z24 Try.prog 29 = some 3 := by kernel_rfl
theorem Z2r : Z24 Try.prog 3 = some 1 := by kernel_rfl
theorem Z9f : Z24 Try.prog 32 = some 9 := by kernel_rfl
theorem Zca : Z24 Try.prog 5 = some 1 := by kernel_rfl
theorem Zad : (Try.prog.underlying 5).isSome = true := by kernel_rfl
theorem Zc9 : Z3g Try.prog 2 = true := by kernel_rfl
theorem Z4i : Z3g Try.prog 26 = true := by kernel_rfl
theorem Z9e : Z3g Try.prog 27 = true := by kernel_rfl
theorem Z2q : Z3g Try.prog 3 = true := by kernel_rfl
theorem Zg5 : Z3g Try.prog 5 = true := by kernel_rfl
theorem Zc8 : Z59 Try.prog 2 = some (.int .i64 0) := by kernel_rfl
theorem Z3n : Z59 Try.prog 29 = some (.agg #[.slice none 0 0, .slice none 0 0, .slice none 0 0]) := by kernel_rfl
theorem Zbs : Z59 Try.prog 32 = some (.agg #[.int .i64 0, .int .i64 0, .int .i64 0, .slice none 0 0, .slice none 0 0, .slice none 0 0, .slice none 0 0, .slice none 0 0, .slice none 0 0]) := by kernel_rfl
theorem Zew : ElemT Try.prog 26 2 1 8 (.int .i64 0) := ⟨Z2u, Z3f, Zg6, Zc8, rfl⟩
theorem Z9c {c0 : Csr} {was1 : Pre} {q2 : Pre} {c0f3_b : Option Addr} {c0f3_n : Nat} {c0f3_c : Nat} {c0f4_b : Option Addr} {c0f4_n : Nat} {c0f4_c : Nat} {c0f5_b : Option Addr} {c0f5_n : Nat} {c0f5_c : Nat} {c0f6_b : Option Addr} {c0f6_n : Nat} {c0f6_c : Nat} {c0f7_b : Option Addr} {c0f7_n : Nat} {c0f7_c : Nat} {c0f8_b : Option Addr} {c0f8_n : Nat} {c0f8_c : Nat} {was1f0_b : Option Addr} {was1f0_n : Nat} {was1f0_c : Nat} {was1f1_b : Option Addr} {was1f1_n : Nat} {was1f1_c : Nat} {was1f2_b : Option Addr} {was1f2_n : Nat} {was1f2_c : Nat} {q2f0_b : Option Addr} {q2f0_n : Nat} {q2f0_c : Nat} {q2f1_b : Option Addr} {q2f1_n : Nat} {q2f1_c : Nat} {q2f2_b : Option Addr} {q2f2_n : Nat} {q2f2_c : Nat} {c3_k : Nat} {c4_k : Nat} (w : World) (hin : Inv w (([(some c3_k, .cells #[.int .i64 0, .int .i64 0, .int .i64 0, .slice none 0 0, .slice none 0 0, .slice none 0 0, .slice none 0 0, .slice none 0 0, .slice none 0 0] 32 (0, 0)), (some c4_k, .cells #[.slice none 0 0, .slice none 0 0, .slice none 0 0] 29 (0, 0))] : Heap).filterMap Prod.fst) w [(some c3_k, .cells #[.int .i64 0, .int .i64 0, .int .i64 0, .slice none 0 0, .slice none 0 0, .slice none 0 0, .slice none 0 0, .slice none 0 0, .slice none 0 0] 32 (0, 0)), (some c4_k, .cells #[.slice none 0 0, .slice none 0 0, .slice none 0 0] 29 (0, 0))]) (h_c0f3 : RS w (([(some c3_k, .cells #[.int .i64 0, .int .i64 0, .int .i64 0, .slice none 0 0, .slice none 0 0, .slice none 0 0, .slice none 0 0, .slice none 0 0, .slice none 0 0] 32 (0, 0)), (some c4_k, .cells #[.slice none 0 0, .slice none 0 0, .slice none 0 0] 29 (0, 0))] : Heap).filterMap Prod.fst) (intC .i64) 1 c0f3_b c0f3_n c0f3_c c0.First) (h_c0f4 : RS w (([(some c3_k, .cells #[.int .i64 0, .int .i64 0, .int .i64 0, .slice none 0 0, .slice none 0 0, .slice none 0 0, .slice none 0 0, .slice none 0 0, .slice none 0 0] 32 (0, 0)), (some c4_k, .cells #[.slice none 0 0, .slice none 0 0, .slice none 0 0] 29 (0, 0))] : Heap).filterMap Prod.fst) (intC .i64) 1 c0f4_b c0f4_n c0f4_c c0.Head) (h_c0f5 : RS w (([(some c3_k, .cells #[.int .i64 0, .int .i64 0, .int .i64 0, .slice none 0 0, .slice none 0 0, .slice none 0 0, .slice none 0 0, .slice none 0 0, .slice none 0 0] 32 (0, 0)), (some c4_k, .cells #[.slice none 0 0, .slice none 0 0, .slice none 0 0] 29 (0, 0))] : Heap).filterMap Prod.fst) (intC .i64) 1 c0f5_b c0f5_n c0f5_c c0.Rev) (h_c0f6 : RS w (([(some c3_k, .cells #[.int .i64 0, .int .i64 0, .int .i64 0, .slice none 0 0, .slice none 0 0, .slice none 0 0, .slice none 0 0, .slice none 0 0, .slice none 0 0] 32 (0, 0)), (some c4_k, .cells #[.slice none 0 0, .slice none 0 0, .slice none 0 0] 29 (0, 0))] : Heap).filterMap Prod.fst) (intC .i64) 1 c0f6_b c0f6_n c0f6_c c0.Cap) (h_c0f7 : RS w (([(some c3_k, .cells #[.int .i64 0, .int .i64 0, .int .i64 0, .slice none 0 0, .slice none 0 0, .slice none 0 0, .slice none 0 0, .slice none 0 0, .slice none 0 0] 32 (0, 0)), (some c4_k, .cells #[.slice none 0 0, .slice none 0 0, .slice none 0 0] 29 (0, 0))] : Heap).filterMap Prod.fst) (intC .i64) 1 c0f7_b c0f7_n c0f7_c c0.Arc) (h_c0f8 : RS w (([(some c3_k, .cells #[.int .i64 0, .int .i64 0, .int .i64 0, .slice none 0 0, .slice none 0 0, .slice none 0 0, .slice none 0 0, .slice none 0 0, .slice none 0 0] 32 (0, 0)), (some c4_k, .cells #[.slice none 0 0, .slice none 0 0, .slice none 0 0] 29 (0, 0))] : Heap).filterMap Prod.fst) boolC 1 c0f8_b c0f8_n c0f8_c c0.Back) (h_was1f0 : RS w (([(some c3_k, .cells #[.int .i64 0, .int .i64 0, .int .i64 0, .slice none 0 0, .slice none 0 0, .slice none 0 0, .slice none 0 0, .slice none 0 0, .slice none 0 0] 32 (0, 0)), (some c4_k, .cells #[.slice none 0 0, .slice none 0 0, .slice none 0 0] 29 (0, 0))] : Heap).filterMap Prod.fst) (intC .i64) 1 was1f0_b was1f0_n was1f0_c was1.Res) (h_was1f1 : RS w (([(some c3_k, .cells #[.int .i64 0, .int .i64 0, .int .i64 0, .slice none 0 0, .slice none 0 0, .slice none 0 0, .slice none 0 0, .slice none 0 0, .slice none 0 0] 32 (0, 0)), (some c4_k, .cells #[.slice none 0 0, .slice none 0 0, .slice none 0 0] 29 (0, 0))] : Heap).filterMap Prod.fst) (intC .i64) 1 was1f1_b was1f1_n was1f1_c was1.Ex) (h_was1f2 : RS w (([(some c3_k, .cells #[.int .i64 0, .int .i64 0, .int .i64 0, .slice none 0 0, .slice none 0 0, .slice none 0 0, .slice none 0 0, .slice none 0 0, .slice none 0 0] 32 (0, 0)), (some c4_k, .cells #[.slice none 0 0, .slice none 0 0, .slice none 0 0] 29 (0, 0))] : Heap).filterMap Prod.fst) (intC .i64) 1 was1f2_b was1f2_n was1f2_c was1.H) (h_q2f0 : RS w (([(some c3_k, .cells #[.int .i64 0, .int .i64 0, .int .i64 0, .slice none 0 0, .slice none 0 0, .slice none 0 0, .slice none 0 0, .slice none 0 0, .slice none 0 0] 32 (0, 0)), (some c4_k, .cells #[.slice none 0 0, .slice none 0 0, .slice none 0 0] 29 (0, 0))] : Heap).filterMap Prod.fst) (intC .i64) 1 q2f0_b q2f0_n q2f0_c q2.Res) (h_q2f1 : RS w (([(some c3_k, .cells #[.int .i64 0, .int .i64 0, .int .i64 0, .slice none 0 0, .slice none 0 0, .slice none 0 0, .slice none 0 0, .slice none 0 0, .slice none 0 0] 32 (0, 0)), (some c4_k, .cells #[.slice none 0 0, .slice none 0 0, .slice none 0 0] 29 (0, 0))] : Heap).filterMap Prod.fst) (intC .i64) 1 q2f1_b q2f1_n q2f1_c q2.Ex) (h_q2f2 : RS w (([(some c3_k, .cells #[.int .i64 0, .int .i64 0, .int .i64 0, .slice none 0 0, .slice none 0 0, .slice none 0 0, .slice none 0 0, .slice none 0 0, .slice none 0 0] 32 (0, 0)), (some c4_k, .cells #[.slice none 0 0, .slice none 0 0, .slice none 0 0] 29 (0, 0))] : Heap).filterMap Prod.fst) (intC .i64) 1 q2f2_b q2f2_n q2f2_c q2.H) {r0 : Bool} {o0 : Csr} {o1 : Pre} (H : Z3m c0 was1 q2 = some (r0, o0, o1)) : Fnc Try.prog 40 #[.agg #[.int .i64 c0.N, .int .i64 c0.S, .int .i64 c0.T, .slice c0f3_b c0f3_n c0f3_c, .slice c0f4_b c0f4_n c0f4_c, .slice c0f5_b c0f5_n c0f5_c, .slice c0f6_b c0f6_n c0f6_c, .slice c0f7_b c0f7_n c0f7_c, .slice c0f8_b c0f8_n c0f8_c], .agg #[.slice was1f0_b was1f0_n was1f0_c, .slice was1f1_b was1f1_n was1f1_c, .slice was1f2_b was1f2_n was1f2_c], .agg #[.slice q2f0_b q2f0_n q2f0_c, .slice q2f1_b q2f1_n q2f1_c, .slice q2f2_b q2f2_n q2f2_c], .pointer (some ⟨c3_k, 0, none⟩), .pointer (some ⟨c4_k, 0, none⟩)] w (([(some c3_k, .cells #[.int .i64 0, .int .i64 0, .int .i64 0, .slice none 0 0, .slice none 0 0, .slice none 0 0, .slice none 0 0, .slice none 0 0, .slice none 0 0] 32 (0, 0)), (some c4_k, .cells #[.slice none 0 0, .slice none 0 0, .slice none 0 0] 29 (0, 0))] : Heap).filterMap Prod.fst) (fun v N => v = .bool r0 ∧ N = [(some c3_k, .cells #[.int .i64 o0.N, .int .i64 o0.S, .int .i64 o0.T, .slice c0f3_b c0f3_n c0f3_c, .slice c0f4_b c0f4_n c0f4_c, .slice c0f5_b c0f5_n c0f5_c, .slice c0f6_b c0f6_n c0f6_c, .slice c0f7_b c0f7_n c0f7_c, .slice c0f8_b c0f8_n c0f8_c] 32 (0, 0)), (some c4_k, .cells #[.slice q2f0_b q2f0_n q2f0_c, .slice q2f1_b q2f1_n q2f1_c, .slice q2f2_b q2f2_n q2f2_c] 29 (0, 0))]) := by
 unfold Z3m at H; refine Z0m (vs := [.agg #[.int .i64 c0.N, .int .i64 c0.S, .int .i64 c0.T, .slice c0f3_b c0f3_n c0f3_c, .slice c0f4_b c0f4_n c0f4_c, .slice c0f5_b c0f5_n c0f5_c, .slice c0f6_b c0f6_n c0f6_c, .slice c0f7_b c0f7_n c0f7_c, .slice c0f8_b c0f8_n c0f8_c], .agg #[.slice was1f0_b was1f0_n was1f0_c, .slice was1f1_b was1f1_n was1f1_c, .slice was1f2_b was1f2_n was1f2_c], .agg #[.slice q2f0_b q2f0_n q2f0_c, .slice q2f1_b q2f1_n q2f1_c, .slice q2f2_b q2f2_n q2f2_c], .pointer (some ⟨c3_k, 0, none⟩), .pointer (some ⟨c4_k, 0, none⟩)]) Try.func40 rfl rfl hin ?_; refine T.seq ?_; refine Z01 (ll := [0, 1, 2, 3]) rfl ?_; refine Z18 rfl rfl rfl rfl ?_; intro b3; refine Z18 rfl rfl rfl rfl ?_; intro b5; refine Z18 rfl rfl rfl rfl ?_; intro b7; refine TO.assign rfl rfl rfl rfl ?_; refine TO.done ?_; refine Z00 ?_; refine T.seq ?_; apply Z9i [⟨[], false, [], Z3o _⟩, ⟨[], false, [], Z3o _⟩, ⟨[0], true, [], Zmn⟩] [9, 10] 3 (HRk [[(some c3_k, .cells #[.int .i64 0, .int .i64 0, .int .i64 0, .slice none 0 0, .slice none 0 0, .slice none 0 0, .slice none 0 0, .slice none 0 0, .slice none 0 0] 32 (0, 0))], [(some c3_k, .cells #[.int .i64 c0.N, .int .i64 c0.S, .int .i64 c0.T, .slice c0f3_b c0f3_n c0f3_c, .slice c0f4_b c0f4_n c0f4_c, .slice c0f5_b c0f5_n c0f5_c, .slice c0f6_b c0f6_n c0f6_c, .slice c0f7_b c0f7_n c0f7_c, .slice c0f8_b c0f8_n c0f8_c] 32 (0, 0))]]) [[], []] [(some c3_k, .cells #[.int .i64 0, .int .i64 0, .int .i64 0, .slice none 0 0, .slice none 0 0, .slice none 0 0, .slice none 0 0, .slice none 0 0, .slice none 0 0] 32 (0, 0))] [(some b7, .cells #[.slice q2f0_b q2f0_n q2f0_c, .slice q2f1_b q2f1_n q2f1_c, .slice q2f2_b q2f2_n q2f2_c] 29 (0, 0)), (some b5, .cells #[.slice was1f0_b was1f0_n was1f0_c, .slice was1f1_b was1f1_n was1f1_c, .slice was1f2_b was1f2_n was1f2_c] 29 (0, 0)), (some b3, .cells #[.int .i64 c0.N, .int .i64 c0.S, .int .i64 c0.T, .slice c0f3_b c0f3_n c0f3_c, .slice c0f4_b c0f4_n c0f4_c, .slice c0f5_b c0f5_n c0f5_c, .slice c0f6_b c0f6_n c0f6_c, .slice c0f7_b c0f7_n c0f7_c, .slice c0f8_b c0f8_n c0f8_c] 32 (0, 0)), (some c4_k, .cells #[.slice none 0 0, .slice none 0 0, .slice none 0 0] 29 (0, 0))]
 · exact Z5f
 · exact rfl
 · kernel_rfl
 · kernel_rfl
 · kernel_rfl
 · exact rfl
 · exact rfl
 · exact rfl
 · exact rfl
 · exact (by repeat (first | exact Pick.refl _ | exact Pick.nil | apply Pick.none | refine Pick.cons (by repeat (first | exact Take.head _ _ | apply Z0l)) ?_))
 ·
  refine ⟨?_, ?_, ?_, trivial⟩
  · rintro vs es Es Hx -; refine Z0a (D := []) rfl ?_; refine Z0c rfl rfl rfl rfl Z1e mm2 rfl ?_; refine TO.done ?_; exact Z14 rfl ⟨rfl, rfl⟩ (Pick.refl _) rfl
  · rintro vs es Es Hx -; refine Z0a (D := []) rfl ?_; refine Z0c rfl rfl rfl rfl Z0y mm0 rfl ?_; refine TO.done ?_; exact Z14 rfl ⟨rfl, rfl⟩ (Pick.refl _) rfl
  · rintro vs es Es Hx hb ⟨⟨h_0, e_0⟩, -⟩ hHR; obtain rfl : hb = [(some c3_k, .cells #[.int .i64 0, .int .i64 0, .int .i64 0, .slice none 0 0, .slice none 0 0, .slice none 0 0, .slice none 0 0, .slice none 0 0, .slice none 0 0] 32 (0, 0))] := hHR; refine Z0a (D := [(9, vs 0)]) rfl ?_; rw [h_0]; refine Z0s rfl rfl rfl rfl tk0 Z9f rfl rfl rfl ?_; refine TO.done ?_; exact Zev (hb' := [(some c3_k, .cells #[.int .i64 c0.N, .int .i64 c0.S, .int .i64 c0.T, .slice c0f3_b c0f3_n c0f3_c, .slice c0f4_b c0f4_n c0f4_c, .slice c0f5_b c0f5_n c0f5_c, .slice c0f6_b c0f6_n c0f6_c, .slice c0f7_b c0f7_n c0f7_c, .slice c0f8_b c0f8_n c0f8_c] 32 (0, 0))]) rfl rfl rfl (by repeat (first | exact Pick.refl _ | exact Pick.nil | apply Pick.none | refine Pick.cons (by repeat (first | exact Take.head _ _ | apply Z0l)) ?_)) (by show [(9, vs 0)] = _; rw [h_0])
 · rintro vs es hb ⟨⟨h_0, e_0⟩, ⟨h_1, e_1⟩, e_2, -⟩ hHR; obtain rfl : hb = [(some c3_k, .cells #[.int .i64 c0.N, .int .i64 c0.S, .int .i64 c0.T, .slice c0f3_b c0f3_n c0f3_c, .slice c0f4_b c0f4_n c0f4_c, .slice c0f5_b c0f5_n c0f5_c, .slice c0f6_b c0f6_n c0f6_c, .slice c0f7_b c0f7_n c0f7_c, .slice c0f8_b c0f8_n c0f8_c] 32 (0, 0))] := hHR; refine Z0a (D := [(9, vs 0), (10, vs 1)]) rfl ?_; refine Z1o (H := [(some c3_k, .cells #[.int .i64 c0.N, .int .i64 c0.S, .int .i64 c0.T, .slice c0f3_b c0f3_n c0f3_c, .slice c0f4_b c0f4_n c0f4_c, .slice c0f5_b c0f5_n c0f5_c, .slice c0f6_b c0f6_n c0f6_c, .slice c0f7_b c0f7_n c0f7_c, .slice c0f8_b c0f8_n c0f8_c] 32 (0, 0)), (some b7, .cells #[.slice q2f0_b q2f0_n q2f0_c, .slice q2f1_b q2f1_n q2f1_c, .slice q2f2_b q2f2_n q2f2_c] 29 (0, 0)), (some b5, .cells #[.slice was1f0_b was1f0_n was1f0_c, .slice was1f1_b was1f1_n was1f1_c, .slice was1f2_b was1f2_n was1f2_c] 29 (0, 0)), (some b3, .cells #[.int .i64 c0.N, .int .i64 c0.S, .int .i64 c0.T, .slice c0f3_b c0f3_n c0f3_c, .slice c0f4_b c0f4_n c0f4_c, .slice c0f5_b c0f5_n c0f5_c, .slice c0f6_b c0f6_n c0f6_c, .slice c0f7_b c0f7_n c0f7_c, .slice c0f8_b c0f8_n c0f8_c] 32 (0, 0)), (some c4_k, .cells #[.slice none 0 0, .slice none 0 0, .slice none 0 0] 29 (0, 0))]) (by show _ ++ (_ ++ (es 0 ++ (es 1 ++ (es 2 ++ ([]))))) = _; rw [e_0, e_1, e_2]; rfl) ?_; rw [h_0, h_1]; clear h_1 h_0 e_0 e_1 e_2; refine Z0s rfl rfl rfl rfl tk4 Z2h rfl rfl rfl ?_; refine TO.done ?_; refine Z00 ?_; refine Z0f AllF.nil ?_; refine T.seq ?_; refine Z01 (ll := [0]) rfl ?_; refine TO.assign rfl rfl rfl rfl ?_; refine TO.done ?_; refine Z00 ?_; refine T.ret ?_; obtain ⟨rfl, rfl, rfl⟩ := ret3 H; exact Z0o rfl rfl rfl rfl (Res.tmp rfl) (Pick.cons tk1 (Pick.cons tk0 Pick.nil)) ⟨rfl, rfl⟩
theorem Zaz {c0 : Csr} {was1 : Pre} {q2 : Pre} {c3 : Csr} {c4 : Pre} {c0f3_b : Option Addr} {c0f3_n : Nat} {c0f3_c : Nat} {c0f4_b : Option Addr} {c0f4_n : Nat} {c0f4_c : Nat} {c0f5_b : Option Addr} {c0f5_n : Nat} {c0f5_c : Nat} {c0f6_b : Option Addr} {c0f6_n : Nat} {c0f6_c : Nat} {c0f7_b : Option Addr} {c0f7_n : Nat} {c0f7_c : Nat} {c0f8_b : Option Addr} {c0f8_n : Nat} {c0f8_c : Nat} {was1f0_b : Option Addr} {was1f0_n : Nat} {was1f0_c : Nat} {was1f1_b : Option Addr} {was1f1_n : Nat} {was1f1_c : Nat} {was1f2_b : Option Addr} {was1f2_n : Nat} {was1f2_c : Nat} {q2f0_b : Option Addr} {q2f0_n : Nat} {q2f0_c : Nat} {q2f1_b : Option Addr} {q2f1_n : Nat} {q2f1_c : Nat} {q2f2_b : Option Addr} {q2f2_n : Nat} {q2f2_c : Nat} {c3_k : Nat} {c3f3_b : Option Addr} {c3f3_n : Nat} {c3f3_c : Nat} {c3f4_b : Option Addr} {c3f4_n : Nat} {c3f4_c : Nat} {c3f5_b : Option Addr} {c3f5_n : Nat} {c3f5_c : Nat} {c3f6_b : Option Addr} {c3f6_n : Nat} {c3f6_c : Nat} {c3f7_b : Option Addr} {c3f7_n : Nat} {c3f7_c : Nat} {c3f8_b : Option Addr} {c3f8_n : Nat} {c3f8_c : Nat} {c4_k : Nat} {c4f0_b : Option Addr} {c4f0_n : Nat} {c4f0_c : Nat} {c4f1_b : Option Addr} {c4f1_n : Nat} {c4f1_c : Nat} {c4f2_b : Option Addr} {c4f2_n : Nat} {c4f2_c : Nat} (w : World) (hin : Inv w (([(some c3_k, .cells #[.int .i64 c3.N, .int .i64 c3.S, .int .i64 c3.T, .slice c3f3_b c3f3_n c3f3_c, .slice c3f4_b c3f4_n c3f4_c, .slice c3f5_b c3f5_n c3f5_c, .slice c3f6_b c3f6_n c3f6_c, .slice c3f7_b c3f7_n c3f7_c, .slice c3f8_b c3f8_n c3f8_c] 32 (0, 0)), (some c4_k, .cells #[.slice c4f0_b c4f0_n c4f0_c, .slice c4f1_b c4f1_n c4f1_c, .slice c4f2_b c4f2_n c4f2_c] 29 (0, 0))] : Heap).filterMap Prod.fst) w [(some c3_k, .cells #[.int .i64 c3.N, .int .i64 c3.S, .int .i64 c3.T, .slice c3f3_b c3f3_n c3f3_c, .slice c3f4_b c3f4_n c3f4_c, .slice c3f5_b c3f5_n c3f5_c, .slice c3f6_b c3f6_n c3f6_c, .slice c3f7_b c3f7_n c3f7_c, .slice c3f8_b c3f8_n c3f8_c] 32 (0, 0)), (some c4_k, .cells #[.slice c4f0_b c4f0_n c4f0_c, .slice c4f1_b c4f1_n c4f1_c, .slice c4f2_b c4f2_n c4f2_c] 29 (0, 0))]) (h_c0f3 : RS w (([(some c3_k, .cells #[.int .i64 c3.N, .int .i64 c3.S, .int .i64 c3.T, .slice c3f3_b c3f3_n c3f3_c, .slice c3f4_b c3f4_n c3f4_c, .slice c3f5_b c3f5_n c3f5_c, .slice c3f6_b c3f6_n c3f6_c, .slice c3f7_b c3f7_n c3f7_c, .slice c3f8_b c3f8_n c3f8_c] 32 (0, 0)), (some c4_k, .cells #[.slice c4f0_b c4f0_n c4f0_c, .slice c4f1_b c4f1_n c4f1_c, .slice c4f2_b c4f2_n c4f2_c] 29 (0, 0))] : Heap).filterMap Prod.fst) (intC .i64) 1 c0f3_b c0f3_n c0f3_c c0.First) (h_c0f4 : RS w (([(some c3_k, .cells #[.int .i64 c3.N, .int .i64 c3.S, .int .i64 c3.T, .slice c3f3_b c3f3_n c3f3_c, .slice c3f4_b c3f4_n c3f4_c, .slice c3f5_b c3f5_n c3f5_c, .slice c3f6_b c3f6_n c3f6_c, .slice c3f7_b c3f7_n c3f7_c, .slice c3f8_b c3f8_n c3f8_c] 32 (0, 0)), (some c4_k, .cells #[.slice c4f0_b c4f0_n c4f0_c, .slice c4f1_b c4f1_n c4f1_c, .slice c4f2_b c4f2_n c4f2_c] 29 (0, 0))] : Heap).filterMap Prod.fst) (intC .i64) 1 c0f4_b c0f4_n c0f4_c c0.Head) (h_c0f5 : RS w (([(some c3_k, .cells #[.int .i64 c3.N, .int .i64 c3.S, .int .i64 c3.T, .slice c3f3_b c3f3_n c3f3_c, .slice c3f4_b c3f4_n c3f4_c, .slice c3f5_b c3f5_n c3f5_c, .slice c3f6_b c3f6_n c3f6_c, .slice c3f7_b c3f7_n c3f7_c, .slice c3f8_b c3f8_n c3f8_c] 32 (0, 0)), (some c4_k, .cells #[.slice c4f0_b c4f0_n c4f0_c, .slice c4f1_b c4f1_n c4f1_c, .slice c4f2_b c4f2_n c4f2_c] 29 (0, 0))] : Heap).filterMap Prod.fst) (intC .i64) 1 c0f5_b c0f5_n c0f5_c c0.Rev) (h_c0f6 : RS w (([(some c3_k, .cells #[.int .i64 c3.N, .int .i64 c3.S, .int .i64 c3.T, .slice c3f3_b c3f3_n c3f3_c, .slice c3f4_b c3f4_n c3f4_c, .slice c3f5_b c3f5_n c3f5_c, .slice c3f6_b c3f6_n c3f6_c, .slice c3f7_b c3f7_n c3f7_c, .slice c3f8_b c3f8_n c3f8_c] 32 (0, 0)), (some c4_k, .cells #[.slice c4f0_b c4f0_n c4f0_c, .slice c4f1_b c4f1_n c4f1_c, .slice c4f2_b c4f2_n c4f2_c] 29 (0, 0))] : Heap).filterMap Prod.fst) (intC .i64) 1 c0f6_b c0f6_n c0f6_c c0.Cap) (h_c0f7 : RS w (([(some c3_k, .cells #[.int .i64 c3.N, .int .i64 c3.S, .int .i64 c3.T, .slice c3f3_b c3f3_n c3f3_c, .slice c3f4_b c3f4_n c3f4_c, .slice c3f5_b c3f5_n c3f5_c, .slice c3f6_b c3f6_n c3f6_c, .slice c3f7_b c3f7_n c3f7_c, .slice c3f8_b c3f8_n c3f8_c] 32 (0, 0)), (some c4_k, .cells #[.slice c4f0_b c4f0_n c4f0_c, .slice c4f1_b c4f1_n c4f1_c, .slice c4f2_b c4f2_n c4f2_c] 29 (0, 0))] : Heap).filterMap Prod.fst) (intC .i64) 1 c0f7_b c0f7_n c0f7_c c0.Arc) (h_c0f8 : RS w (([(some c3_k, .cells #[.int .i64 c3.N, .int .i64 c3.S, .int .i64 c3.T, .slice c3f3_b c3f3_n c3f3_c, .slice c3f4_b c3f4_n c3f4_c, .slice c3f5_b c3f5_n c3f5_c, .slice c3f6_b c3f6_n c3f6_c, .slice c3f7_b c3f7_n c3f7_c, .slice c3f8_b c3f8_n c3f8_c] 32 (0, 0)), (some c4_k, .cells #[.slice c4f0_b c4f0_n c4f0_c, .slice c4f1_b c4f1_n c4f1_c, .slice c4f2_b c4f2_n c4f2_c] 29 (0, 0))] : Heap).filterMap Prod.fst) boolC 1 c0f8_b c0f8_n c0f8_c c0.Back) (h_was1f0 : RS w (([(some c3_k, .cells #[.int .i64 c3.N, .int .i64 c3.S, .int .i64 c3.T, .slice c3f3_b c3f3_n c3f3_c, .slice c3f4_b c3f4_n c3f4_c, .slice c3f5_b c3f5_n c3f5_c, .slice c3f6_b c3f6_n c3f6_c, .slice c3f7_b c3f7_n c3f7_c, .slice c3f8_b c3f8_n c3f8_c] 32 (0, 0)), (some c4_k, .cells #[.slice c4f0_b c4f0_n c4f0_c, .slice c4f1_b c4f1_n c4f1_c, .slice c4f2_b c4f2_n c4f2_c] 29 (0, 0))] : Heap).filterMap Prod.fst) (intC .i64) 1 was1f0_b was1f0_n was1f0_c was1.Res) (h_was1f1 : RS w (([(some c3_k, .cells #[.int .i64 c3.N, .int .i64 c3.S, .int .i64 c3.T, .slice c3f3_b c3f3_n c3f3_c, .slice c3f4_b c3f4_n c3f4_c, .slice c3f5_b c3f5_n c3f5_c, .slice c3f6_b c3f6_n c3f6_c, .slice c3f7_b c3f7_n c3f7_c, .slice c3f8_b c3f8_n c3f8_c] 32 (0, 0)), (some c4_k, .cells #[.slice c4f0_b c4f0_n c4f0_c, .slice c4f1_b c4f1_n c4f1_c, .slice c4f2_b c4f2_n c4f2_c] 29 (0, 0))] : Heap).filterMap Prod.fst) (intC .i64) 1 was1f1_b was1f1_n was1f1_c was1.Ex) (h_was1f2 : RS w (([(some c3_k, .cells #[.int .i64 c3.N, .int .i64 c3.S, .int .i64 c3.T, .slice c3f3_b c3f3_n c3f3_c, .slice c3f4_b c3f4_n c3f4_c, .slice c3f5_b c3f5_n c3f5_c, .slice c3f6_b c3f6_n c3f6_c, .slice c3f7_b c3f7_n c3f7_c, .slice c3f8_b c3f8_n c3f8_c] 32 (0, 0)), (some c4_k, .cells #[.slice c4f0_b c4f0_n c4f0_c, .slice c4f1_b c4f1_n c4f1_c, .slice c4f2_b c4f2_n c4f2_c] 29 (0, 0))] : Heap).filterMap Prod.fst) (intC .i64) 1 was1f2_b was1f2_n was1f2_c was1.H) (h_q2f0 : RS w (([(some c3_k, .cells #[.int .i64 c3.N, .int .i64 c3.S, .int .i64 c3.T, .slice c3f3_b c3f3_n c3f3_c, .slice c3f4_b c3f4_n c3f4_c, .slice c3f5_b c3f5_n c3f5_c, .slice c3f6_b c3f6_n c3f6_c, .slice c3f7_b c3f7_n c3f7_c, .slice c3f8_b c3f8_n c3f8_c] 32 (0, 0)), (some c4_k, .cells #[.slice c4f0_b c4f0_n c4f0_c, .slice c4f1_b c4f1_n c4f1_c, .slice c4f2_b c4f2_n c4f2_c] 29 (0, 0))] : Heap).filterMap Prod.fst) (intC .i64) 1 q2f0_b q2f0_n q2f0_c q2.Res) (h_q2f1 : RS w (([(some c3_k, .cells #[.int .i64 c3.N, .int .i64 c3.S, .int .i64 c3.T, .slice c3f3_b c3f3_n c3f3_c, .slice c3f4_b c3f4_n c3f4_c, .slice c3f5_b c3f5_n c3f5_c, .slice c3f6_b c3f6_n c3f6_c, .slice c3f7_b c3f7_n c3f7_c, .slice c3f8_b c3f8_n c3f8_c] 32 (0, 0)), (some c4_k, .cells #[.slice c4f0_b c4f0_n c4f0_c, .slice c4f1_b c4f1_n c4f1_c, .slice c4f2_b c4f2_n c4f2_c] 29 (0, 0))] : Heap).filterMap Prod.fst) (intC .i64) 1 q2f1_b q2f1_n q2f1_c q2.Ex) (h_q2f2 : RS w (([(some c3_k, .cells #[.int .i64 c3.N, .int .i64 c3.S, .int .i64 c3.T, .slice c3f3_b c3f3_n c3f3_c, .slice c3f4_b c3f4_n c3f4_c, .slice c3f5_b c3f5_n c3f5_c, .slice c3f6_b c3f6_n c3f6_c, .slice c3f7_b c3f7_n c3f7_c, .slice c3f8_b c3f8_n c3f8_c] 32 (0, 0)), (some c4_k, .cells #[.slice c4f0_b c4f0_n c4f0_c, .slice c4f1_b c4f1_n c4f1_c, .slice c4f2_b c4f2_n c4f2_c] 29 (0, 0))] : Heap).filterMap Prod.fst) (intC .i64) 1 q2f2_b q2f2_n q2f2_c q2.H) (h_c3f3 : RS w (([(some c3_k, .cells #[.int .i64 c3.N, .int .i64 c3.S, .int .i64 c3.T, .slice c3f3_b c3f3_n c3f3_c, .slice c3f4_b c3f4_n c3f4_c, .slice c3f5_b c3f5_n c3f5_c, .slice c3f6_b c3f6_n c3f6_c, .slice c3f7_b c3f7_n c3f7_c, .slice c3f8_b c3f8_n c3f8_c] 32 (0, 0)), (some c4_k, .cells #[.slice c4f0_b c4f0_n c4f0_c, .slice c4f1_b c4f1_n c4f1_c, .slice c4f2_b c4f2_n c4f2_c] 29 (0, 0))] : Heap).filterMap Prod.fst) (intC .i64) 1 c3f3_b c3f3_n c3f3_c c3.First) (h_c3f4 : RS w (([(some c3_k, .cells #[.int .i64 c3.N, .int .i64 c3.S, .int .i64 c3.T, .slice c3f3_b c3f3_n c3f3_c, .slice c3f4_b c3f4_n c3f4_c, .slice c3f5_b c3f5_n c3f5_c, .slice c3f6_b c3f6_n c3f6_c, .slice c3f7_b c3f7_n c3f7_c, .slice c3f8_b c3f8_n c3f8_c] 32 (0, 0)), (some c4_k, .cells #[.slice c4f0_b c4f0_n c4f0_c, .slice c4f1_b c4f1_n c4f1_c, .slice c4f2_b c4f2_n c4f2_c] 29 (0, 0))] : Heap).filterMap Prod.fst) (intC .i64) 1 c3f4_b c3f4_n c3f4_c c3.Head) (h_c3f5 : RS w (([(some c3_k, .cells #[.int .i64 c3.N, .int .i64 c3.S, .int .i64 c3.T, .slice c3f3_b c3f3_n c3f3_c, .slice c3f4_b c3f4_n c3f4_c, .slice c3f5_b c3f5_n c3f5_c, .slice c3f6_b c3f6_n c3f6_c, .slice c3f7_b c3f7_n c3f7_c, .slice c3f8_b c3f8_n c3f8_c] 32 (0, 0)), (some c4_k, .cells #[.slice c4f0_b c4f0_n c4f0_c, .slice c4f1_b c4f1_n c4f1_c, .slice c4f2_b c4f2_n c4f2_c] 29 (0, 0))] : Heap).filterMap Prod.fst) (intC .i64) 1 c3f5_b c3f5_n c3f5_c c3.Rev) (h_c3f6 : RS w (([(some c3_k, .cells #[.int .i64 c3.N, .int .i64 c3.S, .int .i64 c3.T, .slice c3f3_b c3f3_n c3f3_c, .slice c3f4_b c3f4_n c3f4_c, .slice c3f5_b c3f5_n c3f5_c, .slice c3f6_b c3f6_n c3f6_c, .slice c3f7_b c3f7_n c3f7_c, .slice c3f8_b c3f8_n c3f8_c] 32 (0, 0)), (some c4_k, .cells #[.slice c4f0_b c4f0_n c4f0_c, .slice c4f1_b c4f1_n c4f1_c, .slice c4f2_b c4f2_n c4f2_c] 29 (0, 0))] : Heap).filterMap Prod.fst) (intC .i64) 1 c3f6_b c3f6_n c3f6_c c3.Cap) (h_c3f7 : RS w (([(some c3_k, .cells #[.int .i64 c3.N, .int .i64 c3.S, .int .i64 c3.T, .slice c3f3_b c3f3_n c3f3_c, .slice c3f4_b c3f4_n c3f4_c, .slice c3f5_b c3f5_n c3f5_c, .slice c3f6_b c3f6_n c3f6_c, .slice c3f7_b c3f7_n c3f7_c, .slice c3f8_b c3f8_n c3f8_c] 32 (0, 0)), (some c4_k, .cells #[.slice c4f0_b c4f0_n c4f0_c, .slice c4f1_b c4f1_n c4f1_c, .slice c4f2_b c4f2_n c4f2_c] 29 (0, 0))] : Heap).filterMap Prod.fst) (intC .i64) 1 c3f7_b c3f7_n c3f7_c c3.Arc) (h_c3f8 : RS w (([(some c3_k, .cells #[.int .i64 c3.N, .int .i64 c3.S, .int .i64 c3.T, .slice c3f3_b c3f3_n c3f3_c, .slice c3f4_b c3f4_n c3f4_c, .slice c3f5_b c3f5_n c3f5_c, .slice c3f6_b c3f6_n c3f6_c, .slice c3f7_b c3f7_n c3f7_c, .slice c3f8_b c3f8_n c3f8_c] 32 (0, 0)), (some c4_k, .cells #[.slice c4f0_b c4f0_n c4f0_c, .slice c4f1_b c4f1_n c4f1_c, .slice c4f2_b c4f2_n c4f2_c] 29 (0, 0))] : Heap).filterMap Prod.fst) boolC 1 c3f8_b c3f8_n c3f8_c c3.Back) (h_c4f0 : RS w (([(some c3_k, .cells #[.int .i64 c3.N, .int .i64 c3.S, .int .i64 c3.T, .slice c3f3_b c3f3_n c3f3_c, .slice c3f4_b c3f4_n c3f4_c, .slice c3f5_b c3f5_n c3f5_c, .slice c3f6_b c3f6_n c3f6_c, .slice c3f7_b c3f7_n c3f7_c, .slice c3f8_b c3f8_n c3f8_c] 32 (0, 0)), (some c4_k, .cells #[.slice c4f0_b c4f0_n c4f0_c, .slice c4f1_b c4f1_n c4f1_c, .slice c4f2_b c4f2_n c4f2_c] 29 (0, 0))] : Heap).filterMap Prod.fst) (intC .i64) 1 c4f0_b c4f0_n c4f0_c c4.Res) (h_c4f1 : RS w (([(some c3_k, .cells #[.int .i64 c3.N, .int .i64 c3.S, .int .i64 c3.T, .slice c3f3_b c3f3_n c3f3_c, .slice c3f4_b c3f4_n c3f4_c, .slice c3f5_b c3f5_n c3f5_c, .slice c3f6_b c3f6_n c3f6_c, .slice c3f7_b c3f7_n c3f7_c, .slice c3f8_b c3f8_n c3f8_c] 32 (0, 0)), (some c4_k, .cells #[.slice c4f0_b c4f0_n c4f0_c, .slice c4f1_b c4f1_n c4f1_c, .slice c4f2_b c4f2_n c4f2_c] 29 (0, 0))] : Heap).filterMap Prod.fst) (intC .i64) 1 c4f1_b c4f1_n c4f1_c c4.Ex) (h_c4f2 : RS w (([(some c3_k, .cells #[.int .i64 c3.N, .int .i64 c3.S, .int .i64 c3.T, .slice c3f3_b c3f3_n c3f3_c, .slice c3f4_b c3f4_n c3f4_c, .slice c3f5_b c3f5_n c3f5_c, .slice c3f6_b c3f6_n c3f6_c, .slice c3f7_b c3f7_n c3f7_c, .slice c3f8_b c3f8_n c3f8_c] 32 (0, 0)), (some c4_k, .cells #[.slice c4f0_b c4f0_n c4f0_c, .slice c4f1_b c4f1_n c4f1_c, .slice c4f2_b c4f2_n c4f2_c] 29 (0, 0))] : Heap).filterMap Prod.fst) (intC .i64) 1 c4f2_b c4f2_n c4f2_c c4.H) {r0 : Bool} {o0 : Csr} {o1 : Pre} (H : Z4v c0 was1 q2 c3 c4 = some (r0, o0, o1)) : Fnc Try.prog 40 #[.agg #[.int .i64 c0.N, .int .i64 c0.S, .int .i64 c0.T, .slice c0f3_b c0f3_n c0f3_c, .slice c0f4_b c0f4_n c0f4_c, .slice c0f5_b c0f5_n c0f5_c, .slice c0f6_b c0f6_n c0f6_c, .slice c0f7_b c0f7_n c0f7_c, .slice c0f8_b c0f8_n c0f8_c], .agg #[.slice was1f0_b was1f0_n was1f0_c, .slice was1f1_b was1f1_n was1f1_c, .slice was1f2_b was1f2_n was1f2_c], .agg #[.slice q2f0_b q2f0_n q2f0_c, .slice q2f1_b q2f1_n q2f1_c, .slice q2f2_b q2f2_n q2f2_c], .pointer (some ⟨c3_k, 0, none⟩), .pointer (some ⟨c4_k, 0, none⟩)] w (([(some c3_k, .cells #[.int .i64 c3.N, .int .i64 c3.S, .int .i64 c3.T, .slice c3f3_b c3f3_n c3f3_c, .slice c3f4_b c3f4_n c3f4_c, .slice c3f5_b c3f5_n c3f5_c, .slice c3f6_b c3f6_n c3f6_c, .slice c3f7_b c3f7_n c3f7_c, .slice c3f8_b c3f8_n c3f8_c] 32 (0, 0)), (some c4_k, .cells #[.slice c4f0_b c4f0_n c4f0_c, .slice c4f1_b c4f1_n c4f1_c, .slice c4f2_b c4f2_n c4f2_c] 29 (0, 0))] : Heap).filterMap Prod.fst) (fun v N => v = .bool r0 ∧ N = [(some c3_k, .cells #[.int .i64 o0.N, .int .i64 o0.S, .int .i64 o0.T, .slice c0f3_b c0f3_n c0f3_c, .slice c0f4_b c0f4_n c0f4_c, .slice c0f5_b c0f5_n c0f5_c, .slice c0f6_b c0f6_n c0f6_c, .slice c0f7_b c0f7_n c0f7_c, .slice c0f8_b c0f8_n c0f8_c] 32 (0, 0)), (some c4_k, .cells #[.slice q2f0_b q2f0_n q2f0_c, .slice q2f1_b q2f1_n q2f1_c, .slice q2f2_b q2f2_n q2f2_c] 29 (0, 0))]) := by
 unfold Z4v at H; refine Z0m (vs := [.agg #[.int .i64 c0.N, .int .i64 c0.S, .int .i64 c0.T, .slice c0f3_b c0f3_n c0f3_c, .slice c0f4_b c0f4_n c0f4_c, .slice c0f5_b c0f5_n c0f5_c, .slice c0f6_b c0f6_n c0f6_c, .slice c0f7_b c0f7_n c0f7_c, .slice c0f8_b c0f8_n c0f8_c], .agg #[.slice was1f0_b was1f0_n was1f0_c, .slice was1f1_b was1f1_n was1f1_c, .slice was1f2_b was1f2_n was1f2_c], .agg #[.slice q2f0_b q2f0_n q2f0_c, .slice q2f1_b q2f1_n q2f1_c, .slice q2f2_b q2f2_n q2f2_c], .pointer (some ⟨c3_k, 0, none⟩), .pointer (some ⟨c4_k, 0, none⟩)]) Try.func40 rfl rfl hin ?_; refine T.seq ?_; refine Z01 (ll := [0, 1, 2, 3]) rfl ?_; refine Z18 rfl rfl rfl rfl ?_; intro b3; refine Z18 rfl rfl rfl rfl ?_; intro b5; refine Z18 rfl rfl rfl rfl ?_; intro b7; refine TO.assign rfl rfl rfl rfl ?_; refine TO.done ?_; refine Z00 ?_; refine T.seq ?_; apply Z9i [⟨[], false, [], Z3o _⟩, ⟨[], false, [], Z3o _⟩, ⟨[0], true, [], Zmn⟩] [9, 10] 3 (HRk [[(some c3_k, .cells #[.int .i64 c3.N, .int .i64 c3.S, .int .i64 c3.T, .slice c3f3_b c3f3_n c3f3_c, .slice c3f4_b c3f4_n c3f4_c, .slice c3f5_b c3f5_n c3f5_c, .slice c3f6_b c3f6_n c3f6_c, .slice c3f7_b c3f7_n c3f7_c, .slice c3f8_b c3f8_n c3f8_c] 32 (0, 0))], [(some c3_k, .cells #[.int .i64 c0.N, .int .i64 c0.S, .int .i64 c0.T, .slice c0f3_b c0f3_n c0f3_c, .slice c0f4_b c0f4_n c0f4_c, .slice c0f5_b c0f5_n c0f5_c, .slice c0f6_b c0f6_n c0f6_c, .slice c0f7_b c0f7_n c0f7_c, .slice c0f8_b c0f8_n c0f8_c] 32 (0, 0))]]) [[], []] [(some c3_k, .cells #[.int .i64 c3.N, .int .i64 c3.S, .int .i64 c3.T, .slice c3f3_b c3f3_n c3f3_c, .slice c3f4_b c3f4_n c3f4_c, .slice c3f5_b c3f5_n c3f5_c, .slice c3f6_b c3f6_n c3f6_c, .slice c3f7_b c3f7_n c3f7_c, .slice c3f8_b c3f8_n c3f8_c] 32 (0, 0))] [(some b7, .cells #[.slice q2f0_b q2f0_n q2f0_c, .slice q2f1_b q2f1_n q2f1_c, .slice q2f2_b q2f2_n q2f2_c] 29 (0, 0)), (some b5, .cells #[.slice was1f0_b was1f0_n was1f0_c, .slice was1f1_b was1f1_n was1f1_c, .slice was1f2_b was1f2_n was1f2_c] 29 (0, 0)), (some b3, .cells #[.int .i64 c0.N, .int .i64 c0.S, .int .i64 c0.T, .slice c0f3_b c0f3_n c0f3_c, .slice c0f4_b c0f4_n c0f4_c, .slice c0f5_b c0f5_n c0f5_c, .slice c0f6_b c0f6_n c0f6_c, .slice c0f7_b c0f7_n c0f7_c, .slice c0f8_b c0f8_n c0f8_c] 32 (0, 0)), (some c4_k, .cells #[.slice c4f0_b c4f0_n c4f0_c, .slice c4f1_b c4f1_n c4f1_c, .slice c4f2_b c4f2_n c4f2_c] 29 (0, 0))]
 · exact Z5f
 · exact rfl
 · kernel_rfl
 · kernel_rfl
 · kernel_rfl
 · exact rfl
 · exact rfl
 · exact rfl
 · exact rfl
 · exact (by repeat (first | exact Pick.refl _ | exact Pick.nil | apply Pick.none | refine Pick.cons (by repeat (first | exact Take.head _ _ | apply Z0l)) ?_))
 ·
  refine ⟨?_, ?_, ?_, trivial⟩
  · rintro vs es Es Hx -; refine Z0a (D := []) rfl ?_; refine Z0c rfl rfl rfl rfl Z1e mm2 rfl ?_; refine TO.done ?_; exact Z14 rfl ⟨rfl, rfl⟩ (Pick.refl _) rfl
  · rintro vs es Es Hx -; refine Z0a (D := []) rfl ?_; refine Z0c rfl rfl rfl rfl Z0y mm0 rfl ?_; refine TO.done ?_; exact Z14 rfl ⟨rfl, rfl⟩ (Pick.refl _) rfl
  · rintro vs es Es Hx hb ⟨⟨h_0, e_0⟩, -⟩ hHR; obtain rfl : hb = [(some c3_k, .cells #[.int .i64 c3.N, .int .i64 c3.S, .int .i64 c3.T, .slice c3f3_b c3f3_n c3f3_c, .slice c3f4_b c3f4_n c3f4_c, .slice c3f5_b c3f5_n c3f5_c, .slice c3f6_b c3f6_n c3f6_c, .slice c3f7_b c3f7_n c3f7_c, .slice c3f8_b c3f8_n c3f8_c] 32 (0, 0))] := hHR; refine Z0a (D := [(9, vs 0)]) rfl ?_; rw [h_0]; refine Z0s rfl rfl rfl rfl tk0 Z9f rfl rfl rfl ?_; refine TO.done ?_; exact Zev (hb' := [(some c3_k, .cells #[.int .i64 c0.N, .int .i64 c0.S, .int .i64 c0.T, .slice c0f3_b c0f3_n c0f3_c, .slice c0f4_b c0f4_n c0f4_c, .slice c0f5_b c0f5_n c0f5_c, .slice c0f6_b c0f6_n c0f6_c, .slice c0f7_b c0f7_n c0f7_c, .slice c0f8_b c0f8_n c0f8_c] 32 (0, 0))]) rfl rfl rfl (by repeat (first | exact Pick.refl _ | exact Pick.nil | apply Pick.none | refine Pick.cons (by repeat (first | exact Take.head _ _ | apply Z0l)) ?_)) (by show [(9, vs 0)] = _; rw [h_0])
 · rintro vs es hb ⟨⟨h_0, e_0⟩, ⟨h_1, e_1⟩, e_2, -⟩ hHR; obtain rfl : hb = [(some c3_k, .cells #[.int .i64 c0.N, .int .i64 c0.S, .int .i64 c0.T, .slice c0f3_b c0f3_n c0f3_c, .slice c0f4_b c0f4_n c0f4_c, .slice c0f5_b c0f5_n c0f5_c, .slice c0f6_b c0f6_n c0f6_c, .slice c0f7_b c0f7_n c0f7_c, .slice c0f8_b c0f8_n c0f8_c] 32 (0, 0))] := hHR; refine Z0a (D := [(9, vs 0), (10, vs 1)]) rfl ?_; refine Z1o (H := [(some c3_k, .cells #[.int .i64 c0.N, .int .i64 c0.S, .int .i64 c0.T, .slice c0f3_b c0f3_n c0f3_c, .slice c0f4_b c0f4_n c0f4_c, .slice c0f5_b c0f5_n c0f5_c, .slice c0f6_b c0f6_n c0f6_c, .slice c0f7_b c0f7_n c0f7_c, .slice c0f8_b c0f8_n c0f8_c] 32 (0, 0)), (some b7, .cells #[.slice q2f0_b q2f0_n q2f0_c, .slice q2f1_b q2f1_n q2f1_c, .slice q2f2_b q2f2_n q2f2_c] 29 (0, 0)), (some b5, .cells #[.slice was1f0_b was1f0_n was1f0_c, .slice was1f1_b was1f1_n was1f1_c, .slice was1f2_b was1f2_n was1f2_c] 29 (0, 0)), (some b3, .cells #[.int .i64 c0.N, .int .i64 c0.S, .int .i64 c0.T, .slice c0f3_b c0f3_n c0f3_c, .slice c0f4_b c0f4_n c0f4_c, .slice c0f5_b c0f5_n c0f5_c, .slice c0f6_b c0f6_n c0f6_c, .slice c0f7_b c0f7_n c0f7_c, .slice c0f8_b c0f8_n c0f8_c] 32 (0, 0)), (some c4_k, .cells #[.slice c4f0_b c4f0_n c4f0_c, .slice c4f1_b c4f1_n c4f1_c, .slice c4f2_b c4f2_n c4f2_c] 29 (0, 0))]) (by show _ ++ (_ ++ (es 0 ++ (es 1 ++ (es 2 ++ ([]))))) = _; rw [e_0, e_1, e_2]; rfl) ?_; rw [h_0, h_1]; clear h_1 h_0 e_0 e_1 e_2; refine Z0s rfl rfl rfl rfl tk4 Z2h rfl rfl rfl ?_; refine TO.done ?_; refine Z00 ?_; refine Z0f AllF.nil ?_; refine T.seq ?_; refine Z01 (ll := [0]) rfl ?_; refine TO.assign rfl rfl rfl rfl ?_; refine TO.done ?_; refine Z00 ?_; refine T.ret ?_; obtain ⟨rfl, rfl, rfl⟩ := ret3 H; exact Z0o rfl rfl rfl rfl (Res.tmp rfl) (Pick.cons tk1 (Pick.cons tk0 Pick.nil)) ⟨rfl, rfl⟩
theorem Z7n {n0 : Net} {moves1 : List Int} {n0f3_b : Option Addr} {n0f3_n : Nat} {n0f3_c : Nat} {moves1_b : Option Addr} {moves1_n : Nat} {moves1_c : Nat} {each2_0_k : Nat} {each2_1_k : Nat} (w : World) (hin : Inv w (([(some each2_0_k, .cells #[.int .i64 0, .int .i64 0, .int .i64 0, .slice none 0 0, .slice none 0 0, .slice none 0 0, .slice none 0 0, .slice none 0 0, .slice none 0 0] 32 (0, 0)), (some each2_1_k, .cells #[.slice none 0 0, .slice none 0 0, .slice none 0 0] 29 (0, 0))] : Heap).filterMap Prod.fst) w [(some each2_0_k, .cells #[.int .i64 0, .int .i64 0, .int .i64 0, .slice none 0 0, .slice none 0 0, .slice none 0 0, .slice none 0 0, .slice none 0 0, .slice none 0 0] 32 (0, 0)), (some each2_1_k, .cells #[.slice none 0 0, .slice none 0 0, .slice none 0 0] 29 (0, 0))]) (h_n0f3 : RS w (([(some each2_0_k, .cells #[.int .i64 0, .int .i64 0, .int .i64 0, .slice none 0 0, .slice none 0 0, .slice none 0 0, .slice none 0 0, .slice none 0 0, .slice none 0 0] 32 (0, 0)), (some each2_1_k, .cells #[.slice none 0 0, .slice none 0 0, .slice none 0 0] 29 (0, 0))] : Heap).filterMap Prod.fst) Zai 3 n0f3_b n0f3_n n0f3_c n0.Arcs) (h_moves1 : RS w (([(some each2_0_k, .cells #[.int .i64 0, .int .i64 0, .int .i64 0, .slice none 0 0, .slice none 0 0, .slice none 0 0, .slice none 0 0, .slice none 0 0, .slice none 0 0] 32 (0, 0)), (some each2_1_k, .cells #[.slice none 0 0, .slice none 0 0, .slice none 0 0] 29 (0, 0))] : Heap).filterMap Prod.fst) (intC .u8) 1 moves1_b moves1_n moves1_c moves1) {r0 : Bool} {o0 : Csr} {o1 : Pre} (H : Z2a n0 moves1 = some (r0, o0, o1)) : Fnc Try.prog 34 #[.agg #[.int .i64 n0.N, .int .i64 n0.S, .int .i64 n0.T, .slice n0f3_b n0f3_n n0f3_c], .slice moves1_b moves1_n moves1_c, .func (.func 40) #[] #[.pointer (some ⟨each2_0_k, 0, none⟩), .pointer (some ⟨each2_1_k, 0, none⟩)]] w (([(some each2_0_k, .cells #[.int .i64 0, .int .i64 0, .int .i64 0, .slice none 0 0, .slice none 0 0, .slice none 0 0, .slice none 0 0, .slice none 0 0, .slice none 0 0] 32 (0, 0)), (some each2_1_k, .cells #[.slice none 0 0, .slice none 0 0, .slice none 0 0] 29 (0, 0))] : Heap).filterMap Prod.fst) (fun v N => ∃ (ob_0 : Option Nat) (n_0 : Nat) (c_0 : Nat) (j_0 : List Value) (ob_4 : Option Nat) (n_4 : Nat) (c_4 : Nat) (j_4 : List Value) (ob_8 : Option Nat) (n_8 : Nat) (c_8 : Nat) (j_8 : List Value) (ob_12 : Option Nat) (n_12 : Nat) (c_12 : Nat) (j_12 : List Value) (ob_16 : Option Nat) (n_16 : Nat) (c_16 : Nat) (j_16 : List Value) (ob_20 : Option Nat) (n_20 : Nat) (c_20 : Nat) (j_20 : List Value) (ob_24 : Option Nat) (n_24 : Nat) (c_24 : Nat) (j_24 : List Value) (ob_28 : Option Nat) (n_28 : Nat) (c_28 : Nat) (j_28 : List Value) (ob_32 : Option Nat) (n_32 : Nat) (c_32 : Nat) (j_32 : List Value), v = .bool r0 ∧ N = [(some each2_0_k, .cells #[.int .i64 o0.N, .int .i64 o0.S, .int .i64 o0.T, .slice (sb ob_0) n_0 c_0, .slice (sb ob_4) n_4 c_4, .slice (sb ob_8) n_8 c_8, .slice (sb ob_12) n_12 c_12, .slice (sb ob_16) n_16 c_16, .slice (sb ob_20) n_20 c_20] 32 (0, 0)), (ob_0, .cells (arr (intC .i64) o0.First j_0).toArray 3 (0, 0)), (ob_4, .cells (arr (intC .i64) o0.Head j_4).toArray 3 (0, 0)), (ob_8, .cells (arr (intC .i64) o0.Rev j_8).toArray 3 (0, 0)), (ob_12, .cells (arr (intC .i64) o0.Cap j_12).toArray 2 (0, 0)), (ob_16, .cells (arr (intC .i64) o0.Arc j_16).toArray 3 (0, 0)), (ob_20, .cells (arr boolC o0.Back j_20).toArray 4 (0, 0)), (some each2_1_k, .cells #[.slice (sb ob_24) n_24 c_24, .slice (sb ob_28) n_28 c_28, .slice (sb ob_32) n_32 c_32] 29 (0, 0)), (ob_24, .cells (arr (intC .i64) o1.Res j_24).toArray 2 (0, 0)), (ob_28, .cells (arr (intC .i64) o1.Ex j_28).toArray 2 (0, 0)), (ob_32, .cells (arr (intC .i64) o1.H j_32).toArray 3 (0, 0))] ∧ o0.First.length = n_0 ∧ n_0 ≤ c_0 ∧ j_0.length = (c_0 - n_0) * 1 ∧ (ob_0 = none → c_0 = 0) ∧ o0.Head.length = n_4 ∧ n_4 ≤ c_4 ∧ j_4.length = (c_4 - n_4) * 1 ∧ (ob_4 = none → c_4 = 0) ∧ o0.Rev.length = n_8 ∧ n_8 ≤ c_8 ∧ j_8.length = (c_8 - n_8) * 1 ∧ (ob_8 = none → c_8 = 0) ∧ o0.Cap.length = n_12 ∧ n_12 ≤ c_12 ∧ j_12.length = (c_12 - n_12) * 1 ∧ (ob_12 = none → c_12 = 0) ∧ o0.Arc.length = n_16 ∧ n_16 ≤ c_16 ∧ j_16.length = (c_16 - n_16) * 1 ∧ (ob_16 = none → c_16 = 0) ∧ o0.Back.length = n_20 ∧ n_20 ≤ c_20 ∧ j_20.length = (c_20 - n_20) * 1 ∧ (ob_20 = none → c_20 = 0) ∧ o1.Res.length = n_24 ∧ n_24 ≤ c_24 ∧ j_24.length = (c_24 - n_24) * 1 ∧ (ob_24 = none → c_24 = 0) ∧ o1.Ex.length = n_28 ∧ n_28 ≤ c_28 ∧ j_28.length = (c_28 - n_28) * 1 ∧ (ob_28 = none → c_28 = 0) ∧ o1.H.length = n_32 ∧ n_32 ≤ c_32 ∧ j_32.length = (c_32 - n_32) * 1 ∧ (ob_32 = none → c_32 = 0)) := by
 unfold Z2a at H; refine Z0m (vs := [.agg #[.int .i64 n0.N, .int .i64 n0.S, .int .i64 n0.T, .slice n0f3_b n0f3_n n0f3_c], .slice moves1_b moves1_n moves1_c, .func (.func 40) #[] #[.pointer (some ⟨each2_0_k, 0, none⟩), .pointer (some ⟨each2_1_k, 0, none⟩)]]) Try.func34 rfl rfl hin ?_; refine T.seq ?_; refine Z01 (ll := [0, 1]) rfl ?_; refine Z18 rfl rfl rfl rfl ?_; intro b3; refine TO.assign rfl rfl rfl rfl ?_; refine TO.done ?_; refine Z00 ?_; refine T.seq ?_; obtain ⟨⟨r5, r6⟩, e7, H⟩ := Z0b H; refine Z01 (ll := [0, 1, 2, 3, 4, 5, 6, 7]) rfl ?_; refine Z0c rfl rfl rfl rfl Z9h mm0 rfl ?_; refine Z0d Zez rfl rfl rfl rfl (fun wc hwc => Zl1 (n0 := n0) wc (h_n0f3.mono hwc) e7) ?_; rintro _ _ ⟨ob8, n9, c10, j11, ob12, n13, c14, j15, ob16, n17, c18, j19, ob20, n21, c22, j23, ob24, n25, c26, j27, ob28, n29, c30, j31, rfl, rfl, hn32, hc33, hj34, hz35, hn36, hc37, hj38, hz39, hn40, hc41, hj42, hz43, hn44, hc45, hj46, hz47, hn48, hc49, hj50, hz51, hn52, hc53, hj54, hz55⟩; refine TO.move rfl rfl rfl rfl ?_; refine TO.extract rfl rfl rfl rfl rfl ?_; refine TO.extract rfl rfl rfl rfl rfl ?_; refine Z13 rfl rfl rfl Zbs ?_; intro b62; refine Z0s rfl rfl rfl rfl tk0 Z9f rfl rfl rfl ?_; refine TO.assign rfl rfl rfl rfl ?_; refine TO.done ?_; refine Z00 ?_; refine Z0f (AllF.cons (t := 1) rfl (AllF.cons (t := 2) rfl (AllF.cons (t := 7) rfl (AllF.cons (t := 8) rfl AllF.nil)))) ?_; refine T.seq ?_; refine T.seq ?_; refine Z01 (ll := [0, 1]) rfl ?_; refine TO.move rfl rfl rfl rfl ?_; refine Z0h rfl rfl rfl rfl rfl rfl ?_; refine TO.done ?_; refine Z00 ?_; rcases Z09 H with ⟨g64, H⟩ | ⟨g64, H⟩
 · refine Z0t rfl g64 ?_; refine T.seq ?_; refine Z01 (ll := [0]) rfl ?_; refine TO.assign rfl rfl rfl rfl ?_; refine TO.done ?_; refine Z00 ?_; refine T.ret ?_; refine Z07 ?_; obtain ⟨rfl, rfl, rfl⟩ := ret3 H; exact Z0o rfl rfl rfl rfl (Res.tmp rfl) (Pick.cons tk8 (Pick.none (Pick.none (Pick.none (Pick.none (Pick.none (Pick.none (Pick.cons tk8 (Pick.none (Pick.none (Pick.none Pick.nil))))))))))) ⟨none, 0, 0, ([]), none, 0, 0, ([]), none, 0, 0, ([]), none, 0, 0, ([]), none, 0, 0, ([]), none, 0, 0, ([]), none, 0, 0, ([]), none, 0, 0, ([]), none, 0, 0, ([]), rfl, rfl, rfl, (Nat.le_refl _), (Z2i 0 _), (fun _ => rfl), rfl, (Nat.le_refl _), (Z2i 0 _), (fun _ => rfl), rfl, (Nat.le_refl _), (Z2i 0 _), (fun _ => rfl), rfl, (Nat.le_refl _), (Z2i 0 _), (fun _ => rfl), rfl, (Nat.le_refl _), (Z2i 0 _), (fun _ => rfl), rfl, (Nat.le_refl _), (Z2i 0 _), (fun _ => rfl), rfl, (Nat.le_refl _), (Z2i 0 _), (fun _ => rfl), rfl, (Nat.le_refl _), (Z2i 0 _), (fun _ => rfl), rfl, (Nat.le_refl _), (Z2i 0 _), (fun _ => rfl)⟩
 ·
  refine Z0u rfl g64 ?_; refine T.skip ?_; refine Z00 ?_; refine T.seq ?_; obtain ⟨r65, e66, H⟩ := Z0b H; refine Z01 (ll := [0, 1, 2, 3]) rfl ?_; refine Z0c rfl rfl rfl rfl Z1e mm0 rfl ?_; refine Z0d Zf3 rfl rfl rfl rfl (fun wc hwc => Zfd (c0 := r5) wc (hwc.rs (f := (intC .i64)) (s := 1) (xs := r5.First) (j := j11) (fun _ => rfl) mm1 hn32 hc33 hz35) (hwc.rs (f := (intC .i64)) (s := 1) (xs := r5.Head) (j := j15) (fun _ => rfl) mm2 hn36 hc37 hz39) (hwc.rs (f := (intC .i64)) (s := 1) (xs := r5.Rev) (j := j19) (fun _ => rfl) mm3 hn40 hc41 hz43) (hwc.rs (f := (intC .i64)) (s := 1) (xs := r5.Cap) (j := j23) (fun _ => rfl) mm4 hn44 hc45 hz47) (hwc.rs (f := (intC .i64)) (s := 1) (xs := r5.Arc) (j := j27) (fun _ => rfl) mm5 hn48 hc49 hz51) (hwc.rs (f := boolC) (s := 1) (xs := r5.Back) (j := j31) (fun _ => rfl) mm6 hn52 hc53 hz55) e66) ?_; rintro _ _ ⟨ob67, n68, c69, j70, ob71, n72, c73, j74, ob75, n76, c77, j78, rfl, rfl, hn79, hc80, hj81, hz82, hn83, hc84, hj85, hz86, hn87, hc88, hj89, hz90⟩; refine Z13 rfl rfl rfl Z3n ?_; intro b94; refine Z0s rfl rfl rfl rfl tk0 Z2h rfl rfl rfl ?_; refine TO.done ?_; refine Z00 ?_; refine T.seq ?_; refine T.seq ?_; obtain ⟨⟨r96, r97, r98⟩, e99, H⟩ := Z0b H; refine Z01 (ll := [0, 1, 2, 3, 4, 5]) rfl ?_; refine TO.move rfl rfl rfl rfl ?_; refine Z0c rfl rfl rfl rfl Z1e mm4 rfl ?_; refine Z0c rfl rfl rfl rfl Z0y mm0 rfl ?_; refine Z0c rfl rfl rfl rfl Z0y mm0 rfl ?_; refine Zcq Zbt rfl rfl rfl rfl rfl (Z05 Zd1 (Z05 Zd1 (Gone.refl _))) rfl (fun wc hwc => Z9c (c0 := r5) (was1 := r65) (q2 := r65) wc (hwc.self (Pick.cons Zd1 (Pick.cons Zd1 Pick.nil)) rfl) (hwc.rsM (f := (intC .i64)) (s := 1) (xs := r5.First) (j := j11) (fun _ => rfl) (Z05 Zd1 (Z05 Zd1 (Gone.refl _))) rfl mm5 hn32 hc33 hz35) (hwc.rsM (f := (intC .i64)) (s := 1) (xs := r5.Head) (j := j15) (fun _ => rfl) (Z05 Zd1 (Z05 Zd1 (Gone.refl _))) rfl mm6 hn36 hc37 hz39) (hwc.rsM (f := (intC .i64)) (s := 1) (xs := r5.Rev) (j := j19) (fun _ => rfl) (Z05 Zd1 (Z05 Zd1 (Gone.refl _))) rfl mm7 hn40 hc41 hz43) (hwc.rsM (f := (intC .i64)) (s := 1) (xs := r5.Cap) (j := j23) (fun _ => rfl) (Z05 Zd1 (Z05 Zd1 (Gone.refl _))) rfl mm8 hn44 hc45 hz47) (hwc.rsM (f := (intC .i64)) (s := 1) (xs := r5.Arc) (j := j27) (fun _ => rfl) (Z05 Zd1 (Z05 Zd1 (Gone.refl _))) rfl mm9 hn48 hc49 hz51) (hwc.rsM (f := boolC) (s := 1) (xs := r5.Back) (j := j31) (fun _ => rfl) (Z05 Zd1 (Z05 Zd1 (Gone.refl _))) rfl Zkk hn52 hc53 hz55) (hwc.rsM (f := (intC .i64)) (s := 1) (xs := r65.Res) (j := j70) (fun _ => rfl) (Z05 Zd1 (Z05 Zd1 (Gone.refl _))) rfl mm1 hn79 hc80 hz82) (hwc.rsM (f := (intC .i64)) (s := 1) (xs := r65.Ex) (j := j74) (fun _ => rfl) (Z05 Zd1 (Z05 Zd1 (Gone.refl _))) rfl mm2 hn83 hc84 hz86) (hwc.rsM (f := (intC .i64)) (s := 1) (xs := r65.H) (j := j78) (fun _ => rfl) (Z05 Zd1 (Z05 Zd1 (Gone.refl _))) rfl mm3 hn87 hc88 hz90) (hwc.rsM (f := (intC .i64)) (s := 1) (xs := r65.Res) (j := j70) (fun _ => rfl) (Z05 Zd1 (Z05 Zd1 (Gone.refl _))) rfl mm1 hn79 hc80 hz82) (hwc.rsM (f := (intC .i64)) (s := 1) (xs := r65.Ex) (j := j74) (fun _ => rfl) (Z05 Zd1 (Z05 Zd1 (Gone.refl _))) rfl mm2 hn83 hc84 hz86) (hwc.rsM (f := (intC .i64)) (s := 1) (xs := r65.H) (j := j78) (fun _ => rfl) (Z05 Zd1 (Z05 Zd1 (Gone.refl _))) rfl mm3 hn87 hc88 hz90) e99) ?_; rintro _ _ ⟨rfl, rfl⟩; refine TO.not rfl rfl rfl rfl ?_; refine TO.done ?_; refine Z00 ?_; refine Z0f (AllF.cons (t := 1) rfl (AllF.cons (t := 2) rfl (AllF.cons (t := 7) rfl (AllF.cons (t := 9) rfl (AllF.cons (t := 31) rfl AllF.nil))))) ?_; rcases Z09 H with ⟨g100, H⟩ | ⟨g100, H⟩
  · refine Z10 rfl g100 ?_; refine T.seq ?_; refine Z01 (ll := [0]) rfl ?_; refine TO.assign rfl rfl rfl rfl ?_; refine TO.done ?_; refine Z00 ?_; refine T.ret ?_; refine Z07 ?_; obtain ⟨rfl, rfl, rfl⟩ := ret3 H; exact Z0o rfl rfl rfl rfl (Res.tmp rfl) (Pick.cons tk0 (Pick.cons tk6 (Pick.cons tk6 (Pick.cons tk6 (Pick.cons tk6 (Pick.cons tk6 (Pick.cons tk6 (Pick.cons tk0 (Pick.cons tk1 (Pick.cons tk1 (Pick.cons tk1 Pick.nil))))))))))) ⟨ob8, n9, c10, j11, ob12, n13, c14, j15, ob16, n17, c18, j19, ob20, n21, c22, j23, ob24, n25, c26, j27, ob28, n29, c30, j31, ob67, n68, c69, j70, ob71, n72, c73, j74, ob75, n76, c77, j78, rfl, rfl, hn32, hc33, hj34, hz35, hn36, hc37, hj38, hz39, hn40, hc41, hj42, hz43, hn44, hc45, hj46, hz47, hn48, hc49, hj50, hz51, hn52, hc53, hj54, hz55, hn79, hc80, hj81, hz82, hn83, hc84, hj85, hz86, hn87, hc88, hj89, hz90⟩
  ·
   refine Z1s rfl (Bool.eq_false_iff.2 g100) ?_; refine T.skip ?_; refine Z00 ?_; refine T.seq ?_; refine T.seq ?_; refine Z01 (ll := [0, 1, 2]) rfl ?_; refine TO.move rfl rfl rfl rfl ?_; refine Z1m (xs := moves1) h_moves1.len rfl rfl rfl rfl rfl Z6z ?_; refine TO.move rfl rfl rfl rfl ?_; refine TO.done ?_; refine Z00 ?_; refine Zml (fun (N271 : Int) (S272 : Int) (T273 : Int) (Res274 : List Int) (n275 : Nat) (c276 : Nat) (ob277 : Option Nat) (j278 : List Value) (Ex284 : List Int) (n285 : Nat) (c286 : Nat) (ob287 : Option Nat) (j288 : List Value) (H294 : List Int) (n295 : Nat) (c296 : Nat) (ob297 : Option Nat) (j298 : List Value) => Z2m r5 N271 S272 T273 Res274 Ex284 H294 = some (r0, o0, o1) ∧ Res274.length = n275 ∧ n275 ≤ c276 ∧ j278.length = (c276 - n275) * 1 ∧ (ob277 = none → c276 = 0) ∧ Ex284.length = n285 ∧ n285 ≤ c286 ∧ j288.length = (c286 - n285) * 1 ∧ (ob287 = none → c286 = 0) ∧ H294.length = n295 ∧ n295 ≤ c296 ∧ j298.length = (c296 - n295) * 1 ∧ (ob297 = none → c296 = 0)) (fun (N271 : Int) (S272 : Int) (T273 : Int) (Res274 : List Int) (n275 : Nat) (c276 : Nat) (ob277 : Option Nat) (j278 : List Value) (Ex284 : List Int) (n285 : Nat) (c286 : Nat) (ob287 : Option Nat) (j288 : List Value) (H294 : List Int) (n295 : Nat) (c296 : Nat) (ob297 : Option Nat) (j298 : List Value) => []) (fun (N271 : Int) (S272 : Int) (T273 : Int) (Res274 : List Int) (n275 : Nat) (c276 : Nat) (ob277 : Option Nat) (j278 : List Value) (Ex284 : List Int) (n285 : Nat) (c286 : Nat) (ob287 : Option Nat) (j288 : List Value) (H294 : List Int) (n295 : Nat) (c296 : Nat) (ob297 : Option Nat) (j298 : List Value) => [(some each2_0_k, .cells #[.int .i64 N271, .int .i64 S272, .int .i64 T273, .slice (sb ob8) n9 c10, .slice (sb ob12) n13 c14, .slice (sb ob16) n17 c18, .slice (sb ob20) n21 c22, .slice (sb ob24) n25 c26, .slice (sb ob28) n29 c30] 32 (0, 0)), (ob8, .cells (arr (intC .i64) r5.First j11).toArray 3 (0, 0)), (ob12, .cells (arr (intC .i64) r5.Head j15).toArray 3 (0, 0)), (ob16, .cells (arr (intC .i64) r5.Rev j19).toArray 3 (0, 0)), (ob20, .cells (arr (intC .i64) r5.Cap j23).toArray 2 (0, 0)), (ob24, .cells (arr (intC .i64) r5.Arc j27).toArray 3 (0, 0)), (ob28, .cells (arr boolC r5.Back j31).toArray 4 (0, 0)), (some each2_1_k, .cells #[.slice (sb ob277) n275 c276, .slice (sb ob287) n285 c286, .slice (sb ob297) n295 c296] 29 (0, 0)), (ob277, .cells (arr (intC .i64) Res274 j278).toArray 2 (0, 0)), (ob287, .cells (arr (intC .i64) Ex284 j288).toArray 2 (0, 0)), (ob297, .cells (arr (intC .i64) H294 j298).toArray 3 (0, 0))]) ?_ ?_
   ·
    refine T.block ?_; obtain ⟨o_1, e_1, K_1⟩ := Z0b H; refine Zoz (fun (m_1 : Nat) (N101 : Int) (S102 : Int) (T103 : Int) (Res104 : List Int) (n105 : Nat) (c106 : Nat) (ob107 : Option Nat) (j108 : List Value) (Ex114 : List Int) (n115 : Nat) (c116 : Nat) (ob117 : Option Nat) (j118 : List Value) (H124 : List Int) (n125 : Nat) (c126 : Nat) (ob127 : Option Nat) (j128 : List Value) (x134 : Int) => Z2n (fun s => Z20 moves1 r5 s.1 s.2.1 s.2.2.1 s.2.2.2.1 s.2.2.2.2.1 s.2.2.2.2.2.1 s.2.2.2.2.2.2) m_1 (N101, S102, T103, Res104, Ex114, H124, x134) = some o_1 ∧ Res104.length = n105 ∧ n105 ≤ c106 ∧ j108.length = (c106 - n105) * 1 ∧ (ob107 = none → c106 = 0) ∧ Ex114.length = n115 ∧ n115 ≤ c116 ∧ j118.length = (c116 - n115) * 1 ∧ (ob117 = none → c116 = 0) ∧ H124.length = n125 ∧ n125 ≤ c126 ∧ j128.length = (c126 - n125) * 1 ∧ (ob127 = none → c126 = 0)) (fun (m_1 : Nat) (N101 : Int) (S102 : Int) (T103 : Int) (Res104 : List Int) (n105 : Nat) (c106 : Nat) (ob107 : Option Nat) (j108 : List Value) (Ex114 : List Int) (n115 : Nat) (c116 : Nat) (ob117 : Option Nat) (j118 : List Value) (H124 : List Int) (n125 : Nat) (c126 : Nat) (ob127 : Option Nat) (j128 : List Value) (x134 : Int) => [(2, .func (.func 40) #[] #[.pointer (some ⟨each2_0_k, 0, none⟩), .pointer (some ⟨each2_1_k, 0, none⟩)]), (7, .pointer (some ⟨b62, 0, none⟩)), (9, .pointer (some ⟨b94, 0, none⟩)), (32, .slice moves1_b moves1_n moves1_c), (33, .int .i64 (moves1.length : Int)), (34, .int .i64 x134)]) (fun (m_1 : Nat) (N101 : Int) (S102 : Int) (T103 : Int) (Res104 : List Int) (n105 : Nat) (c106 : Nat) (ob107 : Option Nat) (j108 : List Value) (Ex114 : List Int) (n115 : Nat) (c116 : Nat) (ob117 : Option Nat) (j118 : List Value) (H124 : List Int) (n125 : Nat) (c126 : Nat) (ob127 : Option Nat) (j128 : List Value) (x134 : Int) => [(some each2_0_k, .cells #[.int .i64 N101, .int .i64 S102, .int .i64 T103, .slice (sb ob8) n9 c10, .slice (sb ob12) n13 c14, .slice (sb ob16) n17 c18, .slice (sb ob20) n21 c22, .slice (sb ob24) n25 c26, .slice (sb ob28) n29 c30] 32 (0, 0)), (ob8, .cells (arr (intC .i64) r5.First j11).toArray 3 (0, 0)), (ob12, .cells (arr (intC .i64) r5.Head j15).toArray 3 (0, 0)), (ob16, .cells (arr (intC .i64) r5.Rev j19).toArray 3 (0, 0)), (ob20, .cells (arr (intC .i64) r5.Cap j23).toArray 2 (0, 0)), (ob24, .cells (arr (intC .i64) r5.Arc j27).toArray 3 (0, 0)), (ob28, .cells (arr boolC r5.Back j31).toArray 4 (0, 0)), (some each2_1_k, .cells #[.slice (sb ob107) n105 c106, .slice (sb ob117) n115 c116, .slice (sb ob127) n125 c126] 29 (0, 0)), (ob107, .cells (arr (intC .i64) Res104 j108).toArray 2 (0, 0)), (ob117, .cells (arr (intC .i64) Ex114 j118).toArray 2 (0, 0)), (ob127, .cells (arr (intC .i64) H124 j128).toArray 3 (0, 0)), (some b62, .cells #[.int .i64 r5.N, .int .i64 r5.S, .int .i64 r5.T, .slice (sb ob8) n9 c10, .slice (sb ob12) n13 c14, .slice (sb ob16) n17 c18, .slice (sb ob20) n21 c22, .slice (sb ob24) n25 c26, .slice (sb ob28) n29 c30] 32 (0, 0)), (some b94, .cells #[.slice (sb ob107) n105 c106, .slice (sb ob117) n115 c116, .slice (sb ob127) n125 c126] 29 (0, 0))]) (fun (m_1 : Nat) (N101 : Int) (S102 : Int) (T103 : Int) (Res104 : List Int) (n105 : Nat) (c106 : Nat) (ob107 : Option Nat) (j108 : List Value) (Ex114 : List Int) (n115 : Nat) (c116 : Nat) (ob117 : Option Nat) (j118 : List Value) (H124 : List Int) (n125 : Nat) (c126 : Nat) (ob127 : Option Nat) (j128 : List Value) (x134 : Int) => m_1) Z5p r97.N r97.S r97.T r65.Res n68 c69 ob67 j70 r65.Ex n72 c73 ob71 j74 r65.H n76 c77 ob75 j78 0 ⟨e_1, hn79, hc80, hj81, hz82, hn83, hc84, hj85, hz86, hn87, hc88, hj89, hz90⟩ (AllF.cons rfl (AllF.cons rfl (AllF.cons rfl (AllF.cons rfl (AllF.cons rfl (AllF.cons rfl AllF.nil)))))) (Pick.cons tk0 (Pick.cons tk6 (Pick.cons tk6 (Pick.cons tk6 (Pick.cons tk6 (Pick.cons tk6 (Pick.cons tk6 (Pick.cons tk0 (Pick.cons tk1 (Pick.cons tk1 (Pick.cons tk1 (Pick.cons tk1 (Pick.cons tk0 Pick.nil))))))))))))) ?_; rintro m_1 N101 S102 T103 Res104 n105 c106 ob107 j108 Ex114 n115 c116 ob117 j118 H124 n125 c126 ob127 j128 x134 ⟨H, hn109, hc110, hj111, hz112, hn119, hc120, hj121, hz122, hn129, hc130, hj131, hz132⟩; obtain ⟨n_1, r_1, rfl, H, C_1⟩ := Z1g H; have H : Z20 moves1 r5 N101 S102 T103 Res104 Ex114 H124 x134 = some r_1 := H; unfold Z20 at H; refine T.seq ?_; refine Z01 (ll := [0]) rfl ?_; refine Z0h rfl rfl rfl rfl rfl rfl ?_; refine TO.done ?_; refine Z00 ?_; refine T.seq ?_; rcases Z09 H with ⟨g135, H⟩ | ⟨g135, H⟩
    ·
     refine Z0t rfl g135 ?_; refine T.skip ?_; refine Z00 ?_; refine T.seq ?_; refine T.block ?_; refine T.seq ?_; obtain ⟨g136, H⟩ := Z06 H; refine Z01 (ll := [0, 1, 2]) rfl ?_; refine Z3k h_moves1 g136 rfl rfl rfl rfl rfl Z6z Zca ?_; refine Z42 h_moves1 g136 rfl rfl rfl rfl Zg5 ?_; refine TO.assign rfl rfl rfl rfl ?_; refine TO.done ?_; refine Z00 ?_; refine T.seq ?_; obtain ⟨⟨r137, r138⟩, e139, H⟩ := Z0b H; refine Z01 (ll := [0, 1, 2, 3, 4, 5, 6, 7]) rfl ?_; refine Z0c rfl rfl rfl rfl Z1e Zl7 rfl ?_; refine Z0c rfl rfl rfl rfl Z0y Zkj rfl ?_; refine Z0d Zf1 rfl rfl rfl rfl (fun wc hwc => Zfc (c0 := r5) (p1 := (Pre.mk Res104 Ex114 H124)) wc (hwc.rs (f := (intC .i64)) (s := 1) (xs := r5.First) (j := j11) (fun _ => rfl) mm1 hn32 hc33 hz35) (hwc.rs (f := (intC .i64)) (s := 1) (xs := r5.Head) (j := j15) (fun _ => rfl) mm2 hn36 hc37 hz39) (hwc.rs (f := (intC .i64)) (s := 1) (xs := r5.Rev) (j := j19) (fun _ => rfl) mm3 hn40 hc41 hz43) (hwc.rs (f := (intC .i64)) (s := 1) (xs := r5.Cap) (j := j23) (fun _ => rfl) mm4 hn44 hc45 hz47) (hwc.rs (f := (intC .i64)) (s := 1) (xs := r5.Arc) (j := j27) (fun _ => rfl) mm5 hn48 hc49 hz51) (hwc.rs (f := boolC) (s := 1) (xs := r5.Back) (j := j31) (fun _ => rfl) mm6 hn52 hc53 hz55) (hwc.rs (f := (intC .i64)) (s := 1) (xs := Res104) (j := j108) (fun _ => rfl) mm8 hn109 hc110 hz112) (hwc.rs (f := (intC .i64)) (s := 1) (xs := Ex114) (j := j118) (fun _ => rfl) mm9 hn119 hc120 hz122) (hwc.rs (f := (intC .i64)) (s := 1) (xs := H124) (j := j128) (fun _ => rfl) Zkk hn129 hc130 hz132) e139) ?_; rintro _ _ ⟨ob140, n141, c142, j143, ob144, n145, c146, j147, rfl, rfl, hn148, hc149, hj150, hz151, hn152, hc153, hj154, hz155⟩; refine TO.move rfl rfl rfl rfl ?_; refine TO.extract rfl rfl rfl rfl rfl ?_; refine TO.extract rfl rfl rfl rfl rfl ?_; refine TO.assign rfl rfl rfl rfl ?_; refine TO.assign rfl rfl rfl rfl ?_; refine TO.done ?_; refine Z00 ?_; refine Z0f (AllF.cons (t := 2) rfl (AllF.cons (t := 7) rfl (AllF.cons (t := 9) rfl (AllF.cons (t := 32) rfl (AllF.cons (t := 33) rfl (AllF.cons (t := 34) rfl (AllF.cons (t := 11) rfl (AllF.cons (t := 12) rfl (AllF.cons (t := 13) rfl AllF.nil))))))))) ?_; refine T.seq ?_; obtain ⟨g158, H⟩ := Z06 H; refine Z01 (ll := [0, 1, 2]) rfl ?_; refine TO.move rfl rfl rfl rfl ?_; refine Zdw rfl rfl rfl rfl Zad Zae (Z4u g158.1 g158.2) ?_; refine TO.assign rfl rfl rfl rfl ?_; refine TO.done ?_; refine Z00 ?_; refine T.seq ?_; refine Z01 (ll := [0]) rfl ?_; refine Z13 rfl rfl rfl Z3n ?_; intro b159; refine TO.done ?_; refine Z00 ?_; refine T.seq ?_; refine Z01 (ll := [0]) rfl ?_; refine TO.assign rfl rfl rfl rfl ?_; refine TO.done ?_; refine Z00 ?_; refine T.seq ?_; refine Zmm (fun (Res233 : List Int) (n234 : Nat) (c235 : Nat) (ob236 : Option Nat) (j237 : List Value) (Ex243 : List Int) (n244 : Nat) (c245 : Nat) (ob246 : Option Nat) (j247 : List Value) (H253 : List Int) (n254 : Nat) (c255 : Nat) (ob256 : Option Nat) (j257 : List Value) (f263 : Int) => Z21 r5 N101 S102 T103 Res104 Ex114 H124 x134 Res233 Ex243 H253 f263 = some r_1 ∧ Res233.length = n234 ∧ n234 ≤ c235 ∧ j237.length = (c235 - n234) * 1 ∧ (ob236 = none → c235 = 0) ∧ Ex243.length = n244 ∧ n244 ≤ c245 ∧ j247.length = (c245 - n244) * 1 ∧ (ob246 = none → c245 = 0) ∧ H253.length = n254 ∧ n254 ≤ c255 ∧ j257.length = (c255 - n254) * 1 ∧ (ob256 = none → c255 = 0)) (fun (Res233 : List Int) (n234 : Nat) (c235 : Nat) (ob236 : Option Nat) (j237 : List Value) (Ex243 : List Int) (n244 : Nat) (c245 : Nat) (ob246 : Option Nat) (j247 : List Value) (H253 : List Int) (n254 : Nat) (c255 : Nat) (ob256 : Option Nat) (j257 : List Value) (f263 : Int) => [(2, .func (.func 40) #[] #[.pointer (some ⟨each2_0_k, 0, none⟩), .pointer (some ⟨each2_1_k, 0, none⟩)]), (7, .pointer (some ⟨b62, 0, none⟩)), (9, .pointer (some ⟨b94, 0, none⟩)), (15, .pointer (some ⟨b159, 0, none⟩)), (16, .int .i64 f263), (32, .slice moves1_b moves1_n moves1_c), (33, .int .i64 (moves1.length : Int)), (34, .int .i64 x134)]) (fun (Res233 : List Int) (n234 : Nat) (c235 : Nat) (ob236 : Option Nat) (j237 : List Value) (Ex243 : List Int) (n244 : Nat) (c245 : Nat) (ob246 : Option Nat) (j247 : List Value) (H253 : List Int) (n254 : Nat) (c255 : Nat) (ob256 : Option Nat) (j257 : List Value) (f263 : Int) => [(some each2_0_k, .cells #[.int .i64 N101, .int .i64 S102, .int .i64 T103, .slice (sb ob8) n9 c10, .slice (sb ob12) n13 c14, .slice (sb ob16) n17 c18, .slice (sb ob20) n21 c22, .slice (sb ob24) n25 c26, .slice (sb ob28) n29 c30] 32 (0, 0)), (ob8, .cells (arr (intC .i64) r5.First j11).toArray 3 (0, 0)), (ob12, .cells (arr (intC .i64) r5.Head j15).toArray 3 (0, 0)), (ob16, .cells (arr (intC .i64) r5.Rev j19).toArray 3 (0, 0)), (ob20, .cells (arr (intC .i64) r5.Cap j23).toArray 2 (0, 0)), (ob24, .cells (arr (intC .i64) r5.Arc j27).toArray 3 (0, 0)), (ob28, .cells (arr boolC r5.Back j31).toArray 4 (0, 0)), (some each2_1_k, .cells #[.slice (sb ob107) n105 c106, .slice (sb ob117) n115 c116, .slice (sb ob127) n125 c126] 29 (0, 0)), (ob107, .cells (arr (intC .i64) Res104 j108).toArray 2 (0, 0)), (ob117, .cells (arr (intC .i64) Ex114 j118).toArray 2 (0, 0)), (ob127, .cells (arr (intC .i64) H124 j128).toArray 3 (0, 0)), (some b62, .cells #[.int .i64 r5.N, .int .i64 r5.S, .int .i64 r5.T, .slice (sb ob8) n9 c10, .slice (sb ob12) n13 c14, .slice (sb ob16) n17 c18, .slice (sb ob20) n21 c22, .slice (sb ob24) n25 c26, .slice (sb ob28) n29 c30] 32 (0, 0)), (some b94, .cells #[.slice (sb ob107) n105 c106, .slice (sb ob117) n115 c116, .slice (sb ob127) n125 c126] 29 (0, 0)), (some b159, .cells #[.slice (sb ob236) n234 c235, .slice (sb ob246) n244 c245, .slice (sb ob256) n254 c255] 29 (0, 0)), (ob236, .cells (arr (intC .i64) Res233 j237).toArray 2 (0, 0)), (ob246, .cells (arr (intC .i64) Ex243 j247).toArray 2 (0, 0)), (ob256, .cells (arr (intC .i64) H253 j257).toArray 3 (0, 0))]) ?_ ?_
     ·
      refine T.block ?_; refine T.seq ?_; refine Z1u (fun (x163 : Bool) => Z1f moves1 r5 N101 S102 T103 Res104 Ex114 H124 x134 r137 r138 x163 = some r_1) (fun (x163 : Bool) => [(2, .func (.func 40) #[] #[.pointer (some ⟨each2_0_k, 0, none⟩), .pointer (some ⟨each2_1_k, 0, none⟩)]), (7, .pointer (some ⟨b62, 0, none⟩)), (9, .pointer (some ⟨b94, 0, none⟩)), (12, .slice (sb ob140) n141 c142), (13, .slice (sb ob144) n145 c146), (14, .int .i64 (moves1.getD x134.toNat 0)), (15, .pointer (some ⟨b159, 0, none⟩)), (32, .slice moves1_b moves1_n moves1_c), (33, .int .i64 (moves1.length : Int)), (34, .int .i64 x134), (46, .bool x163)]) (fun (x163 : Bool) => [(some each2_0_k, .cells #[.int .i64 N101, .int .i64 S102, .int .i64 T103, .slice (sb ob8) n9 c10, .slice (sb ob12) n13 c14, .slice (sb ob16) n17 c18, .slice (sb ob20) n21 c22, .slice (sb ob24) n25 c26, .slice (sb ob28) n29 c30] 32 (0, 0)), (ob8, .cells (arr (intC .i64) r5.First j11).toArray 3 (0, 0)), (ob12, .cells (arr (intC .i64) r5.Head j15).toArray 3 (0, 0)), (ob16, .cells (arr (intC .i64) r5.Rev j19).toArray 3 (0, 0)), (ob20, .cells (arr (intC .i64) r5.Cap j23).toArray 2 (0, 0)), (ob24, .cells (arr (intC .i64) r5.Arc j27).toArray 3 (0, 0)), (ob28, .cells (arr boolC r5.Back j31).toArray 4 (0, 0)), (some each2_1_k, .cells #[.slice (sb ob107) n105 c106, .slice (sb ob117) n115 c116, .slice (sb ob127) n125 c126] 29 (0, 0)), (ob107, .cells (arr (intC .i64) Res104 j108).toArray 2 (0, 0)), (ob117, .cells (arr (intC .i64) Ex114 j118).toArray 2 (0, 0)), (ob127, .cells (arr (intC .i64) H124 j128).toArray 3 (0, 0)), (some b62, .cells #[.int .i64 r5.N, .int .i64 r5.S, .int .i64 r5.T, .slice (sb ob8) n9 c10, .slice (sb ob12) n13 c14, .slice (sb ob16) n17 c18, .slice (sb ob20) n21 c22, .slice (sb ob24) n25 c26, .slice (sb ob28) n29 c30] 32 (0, 0)), (some b94, .cells #[.slice (sb ob107) n105 c106, .slice (sb ob117) n115 c116, .slice (sb ob127) n125 c126] 29 (0, 0)), (ob140, .cells (arr (intC .i64) r137 j143).toArray 3 (0, 0)), (ob144, .cells (arr (intC .i64) r138 j147).toArray 3 (0, 0)), (some b159, .cells #[.slice none 0 0, .slice none 0 0, .slice none 0 0] 29 (0, 0))]) ?_ ?_
      ·
       rcases Z09 H with ⟨g161, H⟩ | ⟨g161, H⟩
       ·
        rcases Z09 H with ⟨g162, H⟩ | ⟨g162, H⟩
        · refine Z01 (ll := [0, 1, 2, 3, 4, 5, 6, 7, 8, 9, 10, 11, 12, 13]) rfl ?_; refine TO.move rfl rfl rfl rfl ?_; refine Z1m (xs := r137) hn148 rfl rfl rfl rfl rfl Z1i ?_; refine Z0h rfl rfl rfl rfl rfl rfl ?_; refine TO.move rfl rfl rfl rfl ?_; refine Z0j (t := 50) (b' := true) rfl (decide_eq_true g161) ?_; refine TO.move rfl rfl rfl rfl ?_; refine TO.rem rfl rfl rfl rfl rfl (by decide) ?_; refine Z0h rfl rfl rfl rfl rfl rfl ?_; refine TO.move rfl rfl rfl rfl ?_; refine Z0j (t := 54) (b' := true) rfl (decide_eq_true g162) ?_; refine Z03 rfl rfl rfl rfl ?_; refine Z03 rfl rfl rfl rfl ?_; refine Z03 rfl rfl rfl rfl ?_; refine Z0n rfl rfl rfl rfl rfl ?_; refine Z0n rfl rfl rfl rfl rfl ?_; refine TO.assign rfl rfl rfl rfl ?_; refine TO.done ?_; exact Z1r true H (AllF.cons rfl (AllF.cons rfl (AllF.cons rfl (AllF.cons rfl (AllF.cons rfl (AllF.cons rfl (AllF.cons rfl (AllF.cons rfl (AllF.cons rfl (AllF.cons rfl (AllF.cons rfl AllF.nil))))))))))) (Pick.cons tk3 (Pick.cons tk3 (Pick.cons tk3 (Pick.cons tk3 (Pick.cons tk3 (Pick.cons tk3 (Pick.cons tk3 (Pick.cons tk3 (Pick.cons tk3 (Pick.cons tk3 (Pick.cons tk3 (Pick.cons tk3 (Pick.cons tk3 (Pick.cons tk1 (Pick.cons tk1 (Pick.cons tk0 Pick.nil))))))))))))))))
        · refine Z01 (ll := [0, 1, 2, 3, 4, 5, 6, 7, 8, 9, 10, 11, 12, 13]) rfl ?_; refine TO.move rfl rfl rfl rfl ?_; refine Z1m (xs := r137) hn148 rfl rfl rfl rfl rfl Z1i ?_; refine Z0h rfl rfl rfl rfl rfl rfl ?_; refine TO.move rfl rfl rfl rfl ?_; refine Z0j (t := 50) (b' := true) rfl (decide_eq_true g161) ?_; refine TO.move rfl rfl rfl rfl ?_; refine TO.rem rfl rfl rfl rfl rfl (by decide) ?_; refine Z0h rfl rfl rfl rfl rfl rfl ?_; refine TO.move rfl rfl rfl rfl ?_; refine Z0j (t := 54) (b' := false) rfl (decide_eq_false g162) ?_; refine TO.move rfl rfl rfl rfl ?_; refine Z1m (xs := r138) hn152 rfl rfl rfl rfl rfl Z1i ?_; refine Z0h rfl rfl rfl rfl rfl rfl ?_; refine Z0r rfl rfl rfl rfl rfl ?_; refine Z0n rfl rfl rfl rfl rfl ?_; refine TO.assign rfl rfl rfl rfl ?_; refine TO.done ?_; exact Z1r (decide ((r138.length : Int) = 0)) H (AllF.cons rfl (AllF.cons rfl (AllF.cons rfl (AllF.cons rfl (AllF.cons rfl (AllF.cons rfl (AllF.cons rfl (AllF.cons rfl (AllF.cons rfl (AllF.cons rfl (AllF.cons rfl AllF.nil))))))))))) (Pick.cons tk3 (Pick.cons tk3 (Pick.cons tk3 (Pick.cons tk3 (Pick.cons tk3 (Pick.cons tk3 (Pick.cons tk3 (Pick.cons tk3 (Pick.cons tk3 (Pick.cons tk3 (Pick.cons tk3 (Pick.cons tk3 (Pick.cons tk3 (Pick.cons tk1 (Pick.cons tk1 (Pick.cons tk0 Pick.nil))))))))))))))))
       · refine Z01 (ll := [0, 1, 2, 3, 4, 5, 6, 7, 8, 9, 10, 11, 12, 13]) rfl ?_; refine TO.move rfl rfl rfl rfl ?_; refine Z1m (xs := r137) hn148 rfl rfl rfl rfl rfl Z1i ?_; refine Z0h rfl rfl rfl rfl rfl rfl ?_; refine TO.move rfl rfl rfl rfl ?_; refine Z0j (t := 50) (b' := false) rfl (decide_eq_false g161) ?_; refine Z03 rfl rfl rfl rfl ?_; refine Z03 rfl rfl rfl rfl ?_; refine Z03 rfl rfl rfl rfl ?_; refine Z03 rfl rfl rfl rfl ?_; refine Zi8 rfl rfl rfl rfl ?_; refine Zi8 rfl rfl rfl rfl ?_; refine Zi8 rfl rfl rfl rfl ?_; refine Z03 rfl rfl rfl rfl ?_; refine Z0r rfl rfl rfl rfl rfl ?_; refine TO.assign rfl rfl rfl rfl ?_; refine TO.done ?_; exact Z1r false H (AllF.cons rfl (AllF.cons rfl (AllF.cons rfl (AllF.cons rfl (AllF.cons rfl (AllF.cons rfl (AllF.cons rfl (AllF.cons rfl (AllF.cons rfl (AllF.cons rfl (AllF.cons rfl AllF.nil))))))))))) (Pick.cons tk3 (Pick.cons tk3 (Pick.cons tk3 (Pick.cons tk3 (Pick.cons tk3 (Pick.cons tk3 (Pick.cons tk3 (Pick.cons tk3 (Pick.cons tk3 (Pick.cons tk3 (Pick.cons tk3 (Pick.cons tk3 (Pick.cons tk3 (Pick.cons tk1 (Pick.cons tk1 (Pick.cons tk0 Pick.nil))))))))))))))))
      ·
       rintro x163 H; unfold Z1f at H; rcases Z09 H with ⟨g164, H⟩ | ⟨g164, H⟩
       ·
        refine Z10 rfl g164 ?_; obtain ⟨g165, H⟩ := Z06 H; obtain ⟨g166, H⟩ := Z06 H; obtain ⟨g167, H⟩ := Z06 H; obtain ⟨⟨r168, r169, r170⟩, e171, H⟩ := Z0b H; apply Z9i [⟨[], false, [], Z3o _⟩, ⟨[], false, [], Z3o _⟩, ⟨[], false, [], Z3o _⟩, ⟨[], false, [], Z3o _⟩, ⟨[3], false, [], Z3o _⟩, ⟨[], false, [], Z3o _⟩, ⟨[5], false, [], Z3o _⟩, ⟨[4, 6], false, [], Z3o _⟩, ⟨[2, 7], false, [], Z3o _⟩, ⟨[2, 7, 8], false, [], Z3o _⟩, ⟨[0, 1, 9], false, [], fun _ v e => ∃ (ob172 : Option Nat) (n173 : Nat) (c174 : Nat) (j175 : List Value) (ob176 : Option Nat) (n177 : Nat) (c178 : Nat) (j179 : List Value) (ob180 : Option Nat) (n181 : Nat) (c182 : Nat) (j183 : List Value), v = .tuple #[.agg #[.slice (sb ob172) n173 c174, .slice (sb ob176) n177 c178, .slice (sb ob180) n181 c182], .int .i64 r169, .int .i64 r170] ∧ e = [(ob172, .cells (arr (intC .i64) r168.Res j175).toArray 2 (0, 0)), (ob176, .cells (arr (intC .i64) r168.Ex j179).toArray 2 (0, 0)), (ob180, .cells (arr (intC .i64) r168.H j183).toArray 3 (0, 0))] ∧ r168.Res.length = n173 ∧ n173 ≤ c174 ∧ j175.length = (c174 - n173) * 1 ∧ (ob172 = none → c174 = 0) ∧ r168.Ex.length = n177 ∧ n177 ≤ c178 ∧ j179.length = (c178 - n177) * 1 ∧ (ob176 = none → c178 = 0) ∧ r168.H.length = n181 ∧ n181 ≤ c182 ∧ j183.length = (c182 - n181) * 1 ∧ (ob180 = none → c182 = 0)⟩, ⟨[10], false, [], fun vl v e => v = (vl.getD 0 undef) ∧ e = []⟩, ⟨[10, 11], false, [], fun vl v e => v = (Zie (vl.getD 1 undef) 0) ∧ e = []⟩, ⟨[10, 11], false, [], Z3o _⟩, ⟨[10, 11], false, [], Z3o _⟩, ⟨[10, 11, 12], true, [], Zmn⟩] [61, 62, 63, 64, 65, 66, 67, 68, 69, 70, 71, 60, 72, 73, 74] 16 (HRv [fun vl => [(some b159, .cells #[.slice none 0 0, .slice none 0 0, .slice none 0 0] 29 (0, 0))], fun vl => [(some b159, .cells #[(Z7o (vl.getD 0 undef) 0), (Z7o (vl.getD 0 undef) 1), (Z7o (vl.getD 0 undef) 2)] 29 (0, 0))]]) [[], [12]] [(some b159, .cells #[.slice none 0 0, .slice none 0 0, .slice none 0 0] 29 (0, 0))] [(some each2_0_k, .cells #[.int .i64 N101, .int .i64 S102, .int .i64 T103, .slice (sb ob8) n9 c10, .slice (sb ob12) n13 c14, .slice (sb ob16) n17 c18, .slice (sb ob20) n21 c22, .slice (sb ob24) n25 c26, .slice (sb ob28) n29 c30] 32 (0, 0)), (ob8, .cells (arr (intC .i64) r5.First j11).toArray 3 (0, 0)), (ob12, .cells (arr (intC .i64) r5.Head j15).toArray 3 (0, 0)), (ob16, .cells (arr (intC .i64) r5.Rev j19).toArray 3 (0, 0)), (ob20, .cells (arr (intC .i64) r5.Cap j23).toArray 2 (0, 0)), (ob24, .cells (arr (intC .i64) r5.Arc j27).toArray 3 (0, 0)), (ob28, .cells (arr boolC r5.Back j31).toArray 4 (0, 0)), (some each2_1_k, .cells #[.slice (sb ob107) n105 c106, .slice (sb ob117) n115 c116, .slice (sb ob127) n125 c126] 29 (0, 0)), (ob107, .cells (arr (intC .i64) Res104 j108).toArray 2 (0, 0)), (ob117, .cells (arr (intC .i64) Ex114 j118).toArray 2 (0, 0)), (ob127, .cells (arr (intC .i64) H124 j128).toArray 3 (0, 0)), (some b62, .cells #[.int .i64 r5.N, .int .i64 r5.S, .int .i64 r5.T, .slice (sb ob8) n9 c10, .slice (sb ob12) n13 c14, .slice (sb ob16) n17 c18, .slice (sb ob20) n21 c22, .slice (sb ob24) n25 c26, .slice (sb ob28) n29 c30] 32 (0, 0)), (some b94, .cells #[.slice (sb ob107) n105 c106, .slice (sb ob117) n115 c116, .slice (sb ob127) n125 c126] 29 (0, 0)), (ob140, .cells (arr (intC .i64) r137 j143).toArray 3 (0, 0)), (ob144, .cells (arr (intC .i64) r138 j147).toArray 3 (0, 0))]
        · exact Z5f
        · exact rfl
        · kernel_rfl
        · kernel_rfl
        · kernel_rfl
        · exact rfl
        · exact rfl
        · exact rfl
        · exact rfl
        · exact (by repeat (first | exact Pick.refl _ | exact Pick.nil | apply Pick.none | refine Pick.cons (by repeat (first | exact Take.head _ _ | apply Z0l)) ?_))
        ·
         refine ⟨?_, ?_, ?_, ?_, ?_, ?_, ?_, ?_, ?_, ?_, ?_, ?_, ?_, ?_, ?_, ?_, trivial⟩
         · rintro vs es Es Hx -; refine Z0a (D := []) rfl ?_; refine Z0c rfl rfl rfl rfl Z1e Zl7 rfl ?_; refine TO.done ?_; exact Z14 rfl ⟨rfl, rfl⟩ (Pick.refl _) rfl
         · rintro vs es Es Hx -; refine Z0a (D := []) rfl ?_; refine Z0c rfl rfl rfl rfl Z0y Zkj rfl ?_; refine TO.done ?_; exact Z14 rfl ⟨rfl, rfl⟩ (Pick.refl _) rfl
         · rintro vs es Es Hx -; refine Z0a (D := []) rfl ?_; refine TO.move rfl rfl rfl rfl ?_; refine TO.done ?_; exact Z14 rfl ⟨rfl, rfl⟩ (Pick.refl _) rfl
         · rintro vs es Es Hx -; refine Z0a (D := []) rfl ?_; refine TO.move rfl rfl rfl rfl ?_; refine TO.done ?_; exact Z14 rfl ⟨rfl, rfl⟩ (Pick.refl _) rfl
         · rintro vs es Es Hx ⟨⟨h_3, e_3⟩, -⟩; refine Z0a (D := [(64, vs 3)]) rfl ?_; rw [h_3]; refine Zoq g165 rfl rfl rfl rfl rfl ?_; refine TO.done ?_; exact Z14 rfl ⟨rfl, rfl⟩ (Pick.refl _) (by show [(64, vs 3)] = _; rw [h_3])
         · rintro vs es Es Hx -; refine Z0a (D := []) rfl ?_; refine TO.move rfl rfl rfl rfl ?_; refine TO.done ?_; exact Z14 rfl ⟨rfl, rfl⟩ (Pick.refl _) rfl
         · rintro vs es Es Hx ⟨⟨h_5, e_5⟩, -⟩; refine Z0a (D := [(66, vs 5)]) rfl ?_; rw [h_5]; refine Z1m (xs := r137) hn148 rfl rfl rfl rfl rfl Z1i ?_; refine TO.done ?_; exact Z14 rfl ⟨rfl, rfl⟩ (Pick.refl _) (by show [(66, vs 5)] = _; rw [h_5])
         · rintro vs es Es Hx ⟨⟨h_4, e_4⟩, ⟨h_6, e_6⟩, -⟩; refine Z0a (D := [(65, vs 4), (67, vs 6)]) rfl ?_; rw [h_4, h_6]; refine TO.rem rfl rfl rfl rfl rfl g166 ?_; refine TO.done ?_; exact Z14 rfl ⟨rfl, rfl⟩ (Pick.refl _) (by show [(65, vs 4), (67, vs 6)] = _; rw [h_4, h_6])
         · rintro vs es Es Hx ⟨⟨h_2, e_2⟩, ⟨h_7, e_7⟩, -⟩; refine Z0a (D := [(63, vs 2), (68, vs 7)]) rfl ?_; rw [h_2, h_7]; refine Z4z hz151 hc149 hn148 g167 rfl rfl rfl rfl rfl Z1i Z2r ?_; refine TO.done ?_; exact Z14 rfl ⟨rfl, rfl⟩ (Pick.refl _) (by show [(63, vs 2), (68, vs 7)] = _; rw [h_2, h_7])
         · rintro vs es Es Hx ⟨⟨h_2, e_2⟩, ⟨h_7, e_7⟩, ⟨h_8, e_8⟩, -⟩; refine Z0a (D := [(63, vs 2), (68, vs 7), (69, vs 8)]) rfl ?_; rw [h_2, h_7, h_8]; refine Z8p hz151 hc149 hn148 g167 rfl rfl rfl rfl Z2q Zki ?_; refine TO.done ?_; exact Z14 rfl ⟨rfl, rfl⟩ (Pick.refl _) (by show [(63, vs 2), (68, vs 7), (69, vs 8)] = _; rw [h_2, h_7, h_8])
         · rintro vs es Es Hx ⟨⟨h_0, e_0⟩, ⟨h_1, e_1⟩, ⟨h_9, e_9⟩, -⟩; refine Z0a (D := [(61, vs 0), (62, vs 1), (70, vs 9)]) rfl ?_; rw [h_0, h_1, h_9]; refine Z0d Zbv rfl rfl rfl rfl (fun wc hwc => Zce (c0 := r5) (p1 := (Pre.mk Res104 Ex114 H124)) (a2 := (r137.getD (((moves1.getD x134.toNat 0).tdiv 2).tmod (r137.length : Int)).toNat 0)) wc (hwc.rs (f := (intC .i64)) (s := 1) (xs := r5.First) (j := j11) (fun _ => rfl) mm1 hn32 hc33 hz35) (hwc.rs (f := (intC .i64)) (s := 1) (xs := r5.Head) (j := j15) (fun _ => rfl) mm2 hn36 hc37 hz39) (hwc.rs (f := (intC .i64)) (s := 1) (xs := r5.Rev) (j := j19) (fun _ => rfl) mm3 hn40 hc41 hz43) (hwc.rs (f := (intC .i64)) (s := 1) (xs := r5.Cap) (j := j23) (fun _ => rfl) mm4 hn44 hc45 hz47) (hwc.rs (f := (intC .i64)) (s := 1) (xs := r5.Arc) (j := j27) (fun _ => rfl) mm5 hn48 hc49 hz51) (hwc.rs (f := boolC) (s := 1) (xs := r5.Back) (j := j31) (fun _ => rfl) mm6 hn52 hc53 hz55) (hwc.rs (f := (intC .i64)) (s := 1) (xs := Res104) (j := j108) (fun _ => rfl) mm8 hn109 hc110 hz112) (hwc.rs (f := (intC .i64)) (s := 1) (xs := Ex114) (j := j118) (fun _ => rfl) mm9 hn119 hc120 hz122) (hwc.rs (f := (intC .i64)) (s := 1) (xs := H124) (j := j128) (fun _ => rfl) Zkk hn129 hc130 hz132) e171) ?_; rintro _ _ ⟨ob172, n173, c174, j175, ob176, n177, c178, j179, ob180, n181, c182, j183, rfl, rfl, hn184, hc185, hj186, hz187, hn188, hc189, hj190, hz191, hn192, hc193, hj194, hz195⟩; refine TO.done ?_; exact Z14 rfl ⟨ob172, n173, c174, j175, ob176, n177, c178, j179, ob180, n181, c182, j183, rfl, rfl, hn184, hc185, hj186, hz187, hn188, hc189, hj190, hz191, hn192, hc193, hj194, hz195⟩ (by repeat (first | exact Pick.refl _ | exact Pick.nil | apply Pick.none | refine Pick.cons (by repeat (first | exact Take.head _ _ | apply Z0l)) ?_)) (by show [(61, vs 0), (62, vs 1), (70, vs 9)] = _; rw [h_0, h_1, h_9])
         · rintro vs es Es Hx ⟨⟨ob172, n173, c174, j175, ob176, n177, c178, j179, ob180, n181, c182, j183, h_10, e_10, hn184, hc185, hj186, hz187, hn188, hc189, hj190, hz191, hn192, hc193, hj194, hz195⟩, -⟩; refine Z0a (D := [(71, vs 10)]) rfl ?_; rw [h_10]; refine Z1o (H := [(some each2_0_k, .cells #[.int .i64 N101, .int .i64 S102, .int .i64 T103, .slice (sb ob8) n9 c10, .slice (sb ob12) n13 c14, .slice (sb ob16) n17 c18, .slice (sb ob20) n21 c22, .slice (sb ob24) n25 c26, .slice (sb ob28) n29 c30] 32 (0, 0)), (ob8, .cells (arr (intC .i64) r5.First j11).toArray 3 (0, 0)), (ob12, .cells (arr (intC .i64) r5.Head j15).toArray 3 (0, 0)), (ob16, .cells (arr (intC .i64) r5.Rev j19).toArray 3 (0, 0)), (ob20, .cells (arr (intC .i64) r5.Cap j23).toArray 2 (0, 0)), (ob24, .cells (arr (intC .i64) r5.Arc j27).toArray 3 (0, 0)), (ob28, .cells (arr boolC r5.Back j31).toArray 4 (0, 0)), (some each2_1_k, .cells #[.slice (sb ob107) n105 c106, .slice (sb ob117) n115 c116, .slice (sb ob127) n125 c126] 29 (0, 0)), (ob107, .cells (arr (intC .i64) Res104 j108).toArray 2 (0, 0)), (ob117, .cells (arr (intC .i64) Ex114 j118).toArray 2 (0, 0)), (ob127, .cells (arr (intC .i64) H124 j128).toArray 3 (0, 0)), (some b62, .cells #[.int .i64 r5.N, .int .i64 r5.S, .int .i64 r5.T, .slice (sb ob8) n9 c10, .slice (sb ob12) n13 c14, .slice (sb ob16) n17 c18, .slice (sb ob20) n21 c22, .slice (sb ob24) n25 c26, .slice (sb ob28) n29 c30] 32 (0, 0)), (some b94, .cells #[.slice (sb ob107) n105 c106, .slice (sb ob117) n115 c116, .slice (sb ob127) n125 c126] 29 (0, 0)), (ob140, .cells (arr (intC .i64) r137 j143).toArray 3 (0, 0)), (ob144, .cells (arr (intC .i64) r138 j147).toArray 3 (0, 0))] ++ ([(ob172, .cells (arr (intC .i64) r168.Res j175).toArray 2 (0, 0)), (ob176, .cells (arr (intC .i64) r168.Ex j179).toArray 2 (0, 0)), (ob180, .cells (arr (intC .i64) r168.H j183).toArray 3 (0, 0))] ++ Hx)) (by show _ ++ ((es 10 ++ ([])) ++ _) = _; rw [e_10]; rfl) ?_; refine TO.move rfl rfl rfl rfl ?_; refine TO.done ?_; exact Z14 rfl ⟨by show _ = vs 10; rw [h_10] <;> rfl, rfl⟩ (by show Pick (_ ++ (_ ++ ((es 10 ++ ([])) ++ _))) _; rw [e_10]; exact (by repeat (first | exact Pick.refl _ | exact Pick.nil | apply Pick.none | refine Pick.cons (by repeat (first | exact Take.head _ _ | apply Z0l)) ?_))) (by show [(71, vs 10)] = _; rw [h_10])
         ·
          rintro vs es Es Hx ⟨⟨ob172, n173, c174, j175, ob176, n177, c178, j179, ob180, n181, c182, j183, h_10, e_10, hn184, hc185, hj186, hz187, hn188, hc189, hj190, hz191, hn192, hc193, hj194, hz195⟩, ⟨q_11, e_11⟩, -⟩; have h_11 : vs 11 = .tuple #[.agg #[.slice (sb ob172) n173 c174, .slice (sb ob176) n177 c178, .slice (sb ob180) n181 c182], .int .i64 r169, .int .i64 r170] := by refine Eq.trans q_11 ?_; show vs 10 = _; rw [h_10] <;> rfl
          refine Z0a (D := [(71, vs 10), (60, vs 11)]) rfl ?_; rw [h_10, h_11]; refine Z1o (H := [(some each2_0_k, .cells #[.int .i64 N101, .int .i64 S102, .int .i64 T103, .slice (sb ob8) n9 c10, .slice (sb ob12) n13 c14, .slice (sb ob16) n17 c18, .slice (sb ob20) n21 c22, .slice (sb ob24) n25 c26, .slice (sb ob28) n29 c30] 32 (0, 0)), (ob8, .cells (arr (intC .i64) r5.First j11).toArray 3 (0, 0)), (ob12, .cells (arr (intC .i64) r5.Head j15).toArray 3 (0, 0)), (ob16, .cells (arr (intC .i64) r5.Rev j19).toArray 3 (0, 0)), (ob20, .cells (arr (intC .i64) r5.Cap j23).toArray 2 (0, 0)), (ob24, .cells (arr (intC .i64) r5.Arc j27).toArray 3 (0, 0)), (ob28, .cells (arr boolC r5.Back j31).toArray 4 (0, 0)), (some each2_1_k, .cells #[.slice (sb ob107) n105 c106, .slice (sb ob117) n115 c116, .slice (sb ob127) n125 c126] 29 (0, 0)), (ob107, .cells (arr (intC .i64) Res104 j108).toArray 2 (0, 0)), (ob117, .cells (arr (intC .i64) Ex114 j118).toArray 2 (0, 0)), (ob127, .cells (arr (intC .i64) H124 j128).toArray 3 (0, 0)), (some b62, .cells #[.int .i64 r5.N, .int .i64 r5.S, .int .i64 r5.T, .slice (sb ob8) n9 c10, .slice (sb ob12) n13 c14, .slice (sb ob16) n17 c18, .slice (sb ob20) n21 c22, .slice (sb ob24) n25 c26, .slice (sb ob28) n29 c30] 32 (0, 0)), (some b94, .cells #[.slice (sb ob107) n105 c106, .slice (sb ob117) n115 c116, .slice (sb ob127) n125 c126] 29 (0, 0)), (ob140, .cells (arr (intC .i64) r137 j143).toArray 3 (0, 0)), (ob144, .cells (arr (intC .i64) r138 j147).toArray 3 (0, 0))] ++ ([(ob172, .cells (arr (intC .i64) r168.Res j175).toArray 2 (0, 0)), (ob176, .cells (arr (intC .i64) r168.Ex j179).toArray 2 (0, 0)), (ob180, .cells (arr (intC .i64) r168.H j183).toArray 3 (0, 0))] ++ Hx)) (by show _ ++ ((es 10 ++ (es 11 ++ ([]))) ++ _) = _; rw [e_10, e_11]; rfl) ?_; refine TO.extract rfl rfl rfl rfl rfl ?_; refine TO.done ?_; exact Z14 rfl ⟨by show _ = (Zie (vs 11) 0); rw [h_11] <;> rfl, rfl⟩ (by show Pick (_ ++ (_ ++ ((es 10 ++ (es 11 ++ ([]))) ++ _))) _; rw [e_10, e_11]; exact (by repeat (first | exact Pick.refl _ | exact Pick.nil | apply Pick.none | refine Pick.cons (by repeat (first | exact Take.head _ _ | apply Z0l)) ?_))) (by show [(71, vs 10), (60, vs 11)] = _; rw [h_10, h_11])
         ·
          rintro vs es Es Hx ⟨⟨ob172, n173, c174, j175, ob176, n177, c178, j179, ob180, n181, c182, j183, h_10, e_10, hn184, hc185, hj186, hz187, hn188, hc189, hj190, hz191, hn192, hc193, hj194, hz195⟩, ⟨q_11, e_11⟩, -⟩; have h_11 : vs 11 = .tuple #[.agg #[.slice (sb ob172) n173 c174, .slice (sb ob176) n177 c178, .slice (sb ob180) n181 c182], .int .i64 r169, .int .i64 r170] := by refine Eq.trans q_11 ?_; show vs 10 = _; rw [h_10] <;> rfl
          refine Z0a (D := [(71, vs 10), (60, vs 11)]) rfl ?_; rw [h_10, h_11]; refine Z1o (H := [(some each2_0_k, .cells #[.int .i64 N101, .int .i64 S102, .int .i64 T103, .slice (sb ob8) n9 c10, .slice (sb ob12) n13 c14, .slice (sb ob16) n17 c18, .slice (sb ob20) n21 c22, .slice (sb ob24) n25 c26, .slice (sb ob28) n29 c30] 32 (0, 0)), (ob8, .cells (arr (intC .i64) r5.First j11).toArray 3 (0, 0)), (ob12, .cells (arr (intC .i64) r5.Head j15).toArray 3 (0, 0)), (ob16, .cells (arr (intC .i64) r5.Rev j19).toArray 3 (0, 0)), (ob20, .cells (arr (intC .i64) r5.Cap j23).toArray 2 (0, 0)), (ob24, .cells (arr (intC .i64) r5.Arc j27).toArray 3 (0, 0)), (ob28, .cells (arr boolC r5.Back j31).toArray 4 (0, 0)), (some each2_1_k, .cells #[.slice (sb ob107) n105 c106, .slice (sb ob117) n115 c116, .slice (sb ob127) n125 c126] 29 (0, 0)), (ob107, .cells (arr (intC .i64) Res104 j108).toArray 2 (0, 0)), (ob117, .cells (arr (intC .i64) Ex114 j118).toArray 2 (0, 0)), (ob127, .cells (arr (intC .i64) H124 j128).toArray 3 (0, 0)), (some b62, .cells #[.int .i64 r5.N, .int .i64 r5.S, .int .i64 r5.T, .slice (sb ob8) n9 c10, .slice (sb ob12) n13 c14, .slice (sb ob16) n17 c18, .slice (sb ob20) n21 c22, .slice (sb ob24) n25 c26, .slice (sb ob28) n29 c30] 32 (0, 0)), (some b94, .cells #[.slice (sb ob107) n105 c106, .slice (sb ob117) n115 c116, .slice (sb ob127) n125 c126] 29 (0, 0)), (ob140, .cells (arr (intC .i64) r137 j143).toArray 3 (0, 0)), (ob144, .cells (arr (intC .i64) r138 j147).toArray 3 (0, 0))] ++ ([(ob172, .cells (arr (intC .i64) r168.Res j175).toArray 2 (0, 0)), (ob176, .cells (arr (intC .i64) r168.Ex j179).toArray 2 (0, 0)), (ob180, .cells (arr (intC .i64) r168.H j183).toArray 3 (0, 0))] ++ Hx)) (by show _ ++ ((es 10 ++ (es 11 ++ ([]))) ++ _) = _; rw [e_10, e_11]; rfl) ?_; refine TO.extract rfl rfl rfl rfl rfl ?_; refine TO.done ?_; exact Z14 rfl ⟨rfl, rfl⟩ (by show Pick (_ ++ (_ ++ ((es 10 ++ (es 11 ++ ([]))) ++ _))) _; rw [e_10, e_11]; exact (by repeat (first | exact Pick.refl _ | exact Pick.nil | apply Pick.none | refine Pick.cons (by repeat (first | exact Take.head _ _ | apply Z0l)) ?_))) (by show [(71, vs 10), (60, vs 11)] = _; rw [h_10, h_11])
         ·
          rintro vs es Es Hx ⟨⟨ob172, n173, c174, j175, ob176, n177, c178, j179, ob180, n181, c182, j183, h_10, e_10, hn184, hc185, hj186, hz187, hn188, hc189, hj190, hz191, hn192, hc193, hj194, hz195⟩, ⟨q_11, e_11⟩, -⟩; have h_11 : vs 11 = .tuple #[.agg #[.slice (sb ob172) n173 c174, .slice (sb ob176) n177 c178, .slice (sb ob180) n181 c182], .int .i64 r169, .int .i64 r170] := by refine Eq.trans q_11 ?_; show vs 10 = _; rw [h_10] <;> rfl
          refine Z0a (D := [(71, vs 10), (60, vs 11)]) rfl ?_; rw [h_10, h_11]; refine Z1o (H := [(some each2_0_k, .cells #[.int .i64 N101, .int .i64 S102, .int .i64 T103, .slice (sb ob8) n9 c10, .slice (sb ob12) n13 c14, .slice (sb ob16) n17 c18, .slice (sb ob20) n21 c22, .slice (sb ob24) n25 c26, .slice (sb ob28) n29 c30] 32 (0, 0)), (ob8, .cells (arr (intC .i64) r5.First j11).toArray 3 (0, 0)), (ob12, .cells (arr (intC .i64) r5.Head j15).toArray 3 (0, 0)), (ob16, .cells (arr (intC .i64) r5.Rev j19).toArray 3 (0, 0)), (ob20, .cells (arr (intC .i64) r5.Cap j23).toArray 2 (0, 0)), (ob24, .cells (arr (intC .i64) r5.Arc j27).toArray 3 (0, 0)), (ob28, .cells (arr boolC r5.Back j31).toArray 4 (0, 0)), (some each2_1_k, .cells #[.slice (sb ob107) n105 c106, .slice (sb ob117) n115 c116, .slice (sb ob127) n125 c126] 29 (0, 0)), (ob107, .cells (arr (intC .i64) Res104 j108).toArray 2 (0, 0)), (ob117, .cells (arr (intC .i64) Ex114 j118).toArray 2 (0, 0)), (ob127, .cells (arr (intC .i64) H124 j128).toArray 3 (0, 0)), (some b62, .cells #[.int .i64 r5.N, .int .i64 r5.S, .int .i64 r5.T, .slice (sb ob8) n9 c10, .slice (sb ob12) n13 c14, .slice (sb ob16) n17 c18, .slice (sb ob20) n21 c22, .slice (sb ob24) n25 c26, .slice (sb ob28) n29 c30] 32 (0, 0)), (some b94, .cells #[.slice (sb ob107) n105 c106, .slice (sb ob117) n115 c116, .slice (sb ob127) n125 c126] 29 (0, 0)), (ob140, .cells (arr (intC .i64) r137 j143).toArray 3 (0, 0)), (ob144, .cells (arr (intC .i64) r138 j147).toArray 3 (0, 0))] ++ ([(ob172, .cells (arr (intC .i64) r168.Res j175).toArray 2 (0, 0)), (ob176, .cells (arr (intC .i64) r168.Ex j179).toArray 2 (0, 0)), (ob180, .cells (arr (intC .i64) r168.H j183).toArray 3 (0, 0))] ++ Hx)) (by show _ ++ ((es 10 ++ (es 11 ++ ([]))) ++ _) = _; rw [e_10, e_11]; rfl) ?_; refine TO.extract rfl rfl rfl rfl rfl ?_; refine TO.done ?_; exact Z14 rfl ⟨rfl, rfl⟩ (by show Pick (_ ++ (_ ++ ((es 10 ++ (es 11 ++ ([]))) ++ _))) _; rw [e_10, e_11]; exact (by repeat (first | exact Pick.refl _ | exact Pick.nil | apply Pick.none | refine Pick.cons (by repeat (first | exact Take.head _ _ | apply Z0l)) ?_))) (by show [(71, vs 10), (60, vs 11)] = _; rw [h_10, h_11])
         ·
          rintro vs es Es Hx hb ⟨⟨ob172, n173, c174, j175, ob176, n177, c178, j179, ob180, n181, c182, j183, h_10, e_10, hn184, hc185, hj186, hz187, hn188, hc189, hj190, hz191, hn192, hc193, hj194, hz195⟩, ⟨q_11, e_11⟩, ⟨q_12, e_12⟩, -⟩ hHR; obtain rfl : hb = [(some b159, .cells #[.slice none 0 0, .slice none 0 0, .slice none 0 0] 29 (0, 0))] := hHR; have h_11 : vs 11 = .tuple #[.agg #[.slice (sb ob172) n173 c174, .slice (sb ob176) n177 c178, .slice (sb ob180) n181 c182], .int .i64 r169, .int .i64 r170] := by refine Eq.trans q_11 ?_; show vs 10 = _; rw [h_10] <;> rfl
          have h_12 : vs 12 = .agg #[.slice (sb ob172) n173 c174, .slice (sb ob176) n177 c178, .slice (sb ob180) n181 c182] := by refine Eq.trans q_12 ?_; show (Zie (vs 11) 0) = _; rw [h_11] <;> rfl
          refine Z0a (D := [(71, vs 10), (60, vs 11), (72, vs 12)]) rfl ?_; rw [h_10, h_11, h_12]; refine Z1o (H := [(some b159, .cells #[.slice none 0 0, .slice none 0 0, .slice none 0 0] 29 (0, 0))] ++ ([(some each2_0_k, .cells #[.int .i64 N101, .int .i64 S102, .int .i64 T103, .slice (sb ob8) n9 c10, .slice (sb ob12) n13 c14, .slice (sb ob16) n17 c18, .slice (sb ob20) n21 c22, .slice (sb ob24) n25 c26, .slice (sb ob28) n29 c30] 32 (0, 0)), (ob8, .cells (arr (intC .i64) r5.First j11).toArray 3 (0, 0)), (ob12, .cells (arr (intC .i64) r5.Head j15).toArray 3 (0, 0)), (ob16, .cells (arr (intC .i64) r5.Rev j19).toArray 3 (0, 0)), (ob20, .cells (arr (intC .i64) r5.Cap j23).toArray 2 (0, 0)), (ob24, .cells (arr (intC .i64) r5.Arc j27).toArray 3 (0, 0)), (ob28, .cells (arr boolC r5.Back j31).toArray 4 (0, 0)), (some each2_1_k, .cells #[.slice (sb ob107) n105 c106, .slice (sb ob117) n115 c116, .slice (sb ob127) n125 c126] 29 (0, 0)), (ob107, .cells (arr (intC .i64) Res104 j108).toArray 2 (0, 0)), (ob117, .cells (arr (intC .i64) Ex114 j118).toArray 2 (0, 0)), (ob127, .cells (arr (intC .i64) H124 j128).toArray 3 (0, 0)), (some b62, .cells #[.int .i64 r5.N, .int .i64 r5.S, .int .i64 r5.T, .slice (sb ob8) n9 c10, .slice (sb ob12) n13 c14, .slice (sb ob16) n17 c18, .slice (sb ob20) n21 c22, .slice (sb ob24) n25 c26, .slice (sb ob28) n29 c30] 32 (0, 0)), (some b94, .cells #[.slice (sb ob107) n105 c106, .slice (sb ob117) n115 c116, .slice (sb ob127) n125 c126] 29 (0, 0)), (ob140, .cells (arr (intC .i64) r137 j143).toArray 3 (0, 0)), (ob144, .cells (arr (intC .i64) r138 j147).toArray 3 (0, 0))] ++ ([(ob172, .cells (arr (intC .i64) r168.Res j175).toArray 2 (0, 0)), (ob176, .cells (arr (intC .i64) r168.Ex j179).toArray 2 (0, 0)), (ob180, .cells (arr (intC .i64) r168.H j183).toArray 3 (0, 0))] ++ Hx))) (by show _ ++ (_ ++ ((es 10 ++ (es 11 ++ (es 12 ++ ([])))) ++ _)) = _; rw [e_10, e_11, e_12]; rfl) ?_; refine Z0s rfl rfl rfl rfl tk0 Z2h rfl rfl rfl ?_; rw [show (.slice (sb ob172) n173 c174 : Value) = Z7o (vs 12) 0 from (by rw [h_12] <;> rfl)]; rw [show (.slice (sb ob176) n177 c178 : Value) = Z7o (vs 12) 1 from (by rw [h_12] <;> rfl)]; rw [show (.slice (sb ob180) n181 c182 : Value) = Z7o (vs 12) 2 from (by rw [h_12] <;> rfl)]; refine TO.done ?_; exact Zev (hb' := [(some b159, .cells #[(Z7o (vs 12) 0), (Z7o (vs 12) 1), (Z7o (vs 12) 2)] 29 (0, 0))]) rfl rfl rfl (by show Pick (_ ++ (_ ++ ((es 10 ++ (es 11 ++ (es 12 ++ ([])))) ++ _))) _; rw [e_10, e_11, e_12]; exact (by repeat (first | exact Pick.refl _ | exact Pick.nil | apply Pick.none | refine Pick.cons (by repeat (first | exact Take.head _ _ | apply Z0l)) ?_))) (by show [(71, vs 10), (60, vs 11), (72, vs 12)] = _; rw [h_10, h_11, h_12] <;> rfl)
        ·
         rintro vs es hb ⟨⟨h_0, e_0⟩, ⟨h_1, e_1⟩, ⟨h_2, e_2⟩, ⟨h_3, e_3⟩, ⟨h_4, e_4⟩, ⟨h_5, e_5⟩, ⟨h_6, e_6⟩, ⟨h_7, e_7⟩, ⟨h_8, e_8⟩, ⟨h_9, e_9⟩, ⟨ob172, n173, c174, j175, ob176, n177, c178, j179, ob180, n181, c182, j183, h_10, e_10, hn184, hc185, hj186, hz187, hn188, hc189, hj190, hz191, hn192, hc193, hj194, hz195⟩, ⟨q_11, e_11⟩, ⟨q_12, e_12⟩, ⟨h_13, e_13⟩, ⟨h_14, e_14⟩, e_15, -⟩ hHR; obtain rfl : hb = [(some b159, .cells #[(Z7o (vs 12) 0), (Z7o (vs 12) 1), (Z7o (vs 12) 2)] 29 (0, 0))] := hHR; have h_11 : vs 11 = .tuple #[.agg #[.slice (sb ob172) n173 c174, .slice (sb ob176) n177 c178, .slice (sb ob180) n181 c182], .int .i64 r169, .int .i64 r170] := by refine Eq.trans q_11 ?_; show vs 10 = _; rw [h_10] <;> rfl
         have h_12 : vs 12 = .agg #[.slice (sb ob172) n173 c174, .slice (sb ob176) n177 c178, .slice (sb ob180) n181 c182] := by refine Eq.trans q_12 ?_; show (Zie (vs 11) 0) = _; rw [h_11] <;> rfl
         refine Z0a (D := [(61, vs 0), (62, vs 1), (63, vs 2), (64, vs 3), (65, vs 4), (66, vs 5), (67, vs 6), (68, vs 7), (69, vs 8), (70, vs 9), (71, vs 10), (60, vs 11), (72, vs 12), (73, vs 13), (74, vs 14)]) rfl ?_; refine Z1o (H := [(some b159, .cells #[(Z7o (vs 12) 0), (Z7o (vs 12) 1), (Z7o (vs 12) 2)] 29 (0, 0)), (some each2_0_k, .cells #[.int .i64 N101, .int .i64 S102, .int .i64 T103, .slice (sb ob8) n9 c10, .slice (sb ob12) n13 c14, .slice (sb ob16) n17 c18, .slice (sb ob20) n21 c22, .slice (sb ob24) n25 c26, .slice (sb ob28) n29 c30] 32 (0, 0)), (ob8, .cells (arr (intC .i64) r5.First j11).toArray 3 (0, 0)), (ob12, .cells (arr (intC .i64) r5.Head j15).toArray 3 (0, 0)), (ob16, .cells (arr (intC .i64) r5.Rev j19).toArray 3 (0, 0)), (ob20, .cells (arr (intC .i64) r5.Cap j23).toArray 2 (0, 0)), (ob24, .cells (arr (intC .i64) r5.Arc j27).toArray 3 (0, 0)), (ob28, .cells (arr boolC r5.Back j31).toArray 4 (0, 0)), (some each2_1_k, .cells #[.slice (sb ob107) n105 c106, .slice (sb ob117) n115 c116, .slice (sb ob127) n125 c126] 29 (0, 0)), (ob107, .cells (arr (intC .i64) Res104 j108).toArray 2 (0, 0)), (ob117, .cells (arr (intC .i64) Ex114 j118).toArray 2 (0, 0)), (ob127, .cells (arr (intC .i64) H124 j128).toArray 3 (0, 0)), (some b62, .cells #[.int .i64 r5.N, .int .i64 r5.S, .int .i64 r5.T, .slice (sb ob8) n9 c10, .slice (sb ob12) n13 c14, .slice (sb ob16) n17 c18, .slice (sb ob20) n21 c22, .slice (sb ob24) n25 c26, .slice (sb ob28) n29 c30] 32 (0, 0)), (some b94, .cells #[.slice (sb ob107) n105 c106, .slice (sb ob117) n115 c116, .slice (sb ob127) n125 c126] 29 (0, 0)), (ob140, .cells (arr (intC .i64) r137 j143).toArray 3 (0, 0)), (ob144, .cells (arr (intC .i64) r138 j147).toArray 3 (0, 0)), (ob172, .cells (arr (intC .i64) r168.Res j175).toArray 2 (0, 0)), (ob176, .cells (arr (intC .i64) r168.Ex j179).toArray 2 (0, 0)), (ob180, .cells (arr (intC .i64) r168.H j183).toArray 3 (0, 0))]) (by show _ ++ (_ ++ (es 0 ++ (es 1 ++ (es 2 ++ (es 3 ++ (es 4 ++ (es 5 ++ (es 6 ++ (es 7 ++ (es 8 ++ (es 9 ++ (es 10 ++ (es 11 ++ (es 12 ++ (es 13 ++ (es 14 ++ (es 15 ++ ([])))))))))))))))))) = _; rw [e_0, e_1, e_2, e_3, e_4, e_5, e_6, e_7, e_8, e_9, e_10, e_11, e_12, e_13, e_14, e_15]; rfl) ?_; rw [h_0, h_1, h_2, h_3, h_4, h_5, h_6, h_7, h_8, h_9, h_10, h_11, h_12, h_13, h_14]; refine Z1o (H := [(some b159, .cells #[.slice (sb ob172) n173 c174, .slice (sb ob176) n177 c178, .slice (sb ob180) n181 c182] 29 (0, 0)), (some each2_0_k, .cells #[.int .i64 N101, .int .i64 S102, .int .i64 T103, .slice (sb ob8) n9 c10, .slice (sb ob12) n13 c14, .slice (sb ob16) n17 c18, .slice (sb ob20) n21 c22, .slice (sb ob24) n25 c26, .slice (sb ob28) n29 c30] 32 (0, 0)), (ob8, .cells (arr (intC .i64) r5.First j11).toArray 3 (0, 0)), (ob12, .cells (arr (intC .i64) r5.Head j15).toArray 3 (0, 0)), (ob16, .cells (arr (intC .i64) r5.Rev j19).toArray 3 (0, 0)), (ob20, .cells (arr (intC .i64) r5.Cap j23).toArray 2 (0, 0)), (ob24, .cells (arr (intC .i64) r5.Arc j27).toArray 3 (0, 0)), (ob28, .cells (arr boolC r5.Back j31).toArray 4 (0, 0)), (some each2_1_k, .cells #[.slice (sb ob107) n105 c106, .slice (sb ob117) n115 c116, .slice (sb ob127) n125 c126] 29 (0, 0)), (ob107, .cells (arr (intC .i64) Res104 j108).toArray 2 (0, 0)), (ob117, .cells (arr (intC .i64) Ex114 j118).toArray 2 (0, 0)), (ob127, .cells (arr (intC .i64) H124 j128).toArray 3 (0, 0)), (some b62, .cells #[.int .i64 r5.N, .int .i64 r5.S, .int .i64 r5.T, .slice (sb ob8) n9 c10, .slice (sb ob12) n13 c14, .slice (sb ob16) n17 c18, .slice (sb ob20) n21 c22, .slice (sb ob24) n25 c26, .slice (sb ob28) n29 c30] 32 (0, 0)), (some b94, .cells #[.slice (sb ob107) n105 c106, .slice (sb ob117) n115 c116, .slice (sb ob127) n125 c126] 29 (0, 0)), (ob140, .cells (arr (intC .i64) r137 j143).toArray 3 (0, 0)), (ob144, .cells (arr (intC .i64) r138 j147).toArray 3 (0, 0)), (ob172, .cells (arr (intC .i64) r168.Res j175).toArray 2 (0, 0)), (ob176, .cells (arr (intC .i64) r168.Ex j179).toArray 2 (0, 0)), (ob180, .cells (arr (intC .i64) r168.H j183).toArray 3 (0, 0))]) rfl ?_; clear h_14 h_13 h_12 h_11 h_10 h_9 h_8 h_7 h_6 h_5 h_4 h_3 h_2 h_1 h_0 q_11 q_12 e_0 e_1 e_2 e_3 e_4 e_5 e_6 e_7 e_8 e_9 e_10 e_11 e_12 e_13 e_14 e_15; refine TO.assign rfl rfl rfl rfl ?_; refine TO.done ?_; refine Z08 ?_; exact Zku r168.Res n173 c174 ob172 j175 r168.Ex n177 c178 ob176 j179 r168.H n181 c182 ob180 j183 r170 ⟨H, hn184, hc185, hj186, hz187, hn188, hc189, hj190, hz191, hn192, hc193, hj194, hz195⟩ (AllF.cons rfl (AllF.cons rfl (AllF.cons rfl (AllF.cons rfl (AllF.cons rfl (AllF.cons rfl (AllF.cons rfl (AllF.cons rfl AllF.nil)))))))) (Pick.cons tk1 (Pick.cons tk1 (Pick.cons tk1 (Pick.cons tk1 (Pick.cons tk1 (Pick.cons tk1 (Pick.cons tk1 (Pick.cons tk1 (Pick.cons tk1 (Pick.cons tk1 (Pick.cons tk1 (Pick.cons tk1 (Pick.cons tk1 (Pick.cons tk0 (Pick.cons tk2 (Pick.cons tk2 (Pick.cons tk2 Pick.nil)))))))))))))))))
       ·
        refine Z1s rfl (Bool.eq_false_iff.2 g164) ?_; refine T.seq ?_; refine Z01 (ll := [0, 1, 2, 3]) rfl ?_; refine TO.move rfl rfl rfl rfl ?_; refine Z1m (xs := r138) hn152 rfl rfl rfl rfl rfl Z1i ?_; refine Z0h rfl rfl rfl rfl rfl rfl ?_; refine TO.assign rfl rfl rfl rfl ?_; refine TO.done ?_; refine Z00 ?_; rcases Z09 H with ⟨g199, H⟩ | ⟨g199, H⟩
        ·
         refine Z0t rfl g199 ?_; obtain ⟨g200, H⟩ := Z06 H; obtain ⟨g201, H⟩ := Z06 H; obtain ⟨g202, H⟩ := Z06 H; obtain ⟨⟨r203, r204⟩, e205, H⟩ := Z0b H; apply Z9i [⟨[], false, [], Z3o _⟩, ⟨[], false, [], Z3o _⟩, ⟨[], false, [], Z3o _⟩, ⟨[], false, [], Z3o _⟩, ⟨[3], false, [], Z3o _⟩, ⟨[], false, [], Z3o _⟩, ⟨[5], false, [], Z3o _⟩, ⟨[4, 6], false, [], Z3o _⟩, ⟨[2, 7], false, [], Z3o _⟩, ⟨[2, 7, 8], false, [], Z3o _⟩, ⟨[0, 1, 9], false, [], fun _ v e => ∃ (ob206 : Option Nat) (n207 : Nat) (c208 : Nat) (j209 : List Value) (ob210 : Option Nat) (n211 : Nat) (c212 : Nat) (j213 : List Value) (ob214 : Option Nat) (n215 : Nat) (c216 : Nat) (j217 : List Value), v = .tuple #[.agg #[.slice (sb ob206) n207 c208, .slice (sb ob210) n211 c212, .slice (sb ob214) n215 c216], .int .i64 r204] ∧ e = [(ob206, .cells (arr (intC .i64) r203.Res j209).toArray 2 (0, 0)), (ob210, .cells (arr (intC .i64) r203.Ex j213).toArray 2 (0, 0)), (ob214, .cells (arr (intC .i64) r203.H j217).toArray 3 (0, 0))] ∧ r203.Res.length = n207 ∧ n207 ≤ c208 ∧ j209.length = (c208 - n207) * 1 ∧ (ob206 = none → c208 = 0) ∧ r203.Ex.length = n211 ∧ n211 ≤ c212 ∧ j213.length = (c212 - n211) * 1 ∧ (ob210 = none → c212 = 0) ∧ r203.H.length = n215 ∧ n215 ≤ c216 ∧ j217.length = (c216 - n215) * 1 ∧ (ob214 = none → c216 = 0)⟩, ⟨[10], false, [], fun vl v e => v = (vl.getD 0 undef) ∧ e = []⟩, ⟨[10, 11], false, [], fun vl v e => v = (Zie (vl.getD 1 undef) 0) ∧ e = []⟩, ⟨[10, 11], false, [], Z3o _⟩, ⟨[10, 11, 12], true, [], Zmn⟩] [80, 81, 82, 83, 84, 85, 86, 87, 88, 89, 90, 79, 91, 92] 15 (HRv [fun vl => [(some b159, .cells #[.slice none 0 0, .slice none 0 0, .slice none 0 0] 29 (0, 0))], fun vl => [(some b159, .cells #[(Z7o (vl.getD 0 undef) 0), (Z7o (vl.getD 0 undef) 1), (Z7o (vl.getD 0 undef) 2)] 29 (0, 0))]]) [[], [12]] [(some b159, .cells #[.slice none 0 0, .slice none 0 0, .slice none 0 0] 29 (0, 0))] [(some each2_0_k, .cells #[.int .i64 N101, .int .i64 S102, .int .i64 T103, .slice (sb ob8) n9 c10, .slice (sb ob12) n13 c14, .slice (sb ob16) n17 c18, .slice (sb ob20) n21 c22, .slice (sb ob24) n25 c26, .slice (sb ob28) n29 c30] 32 (0, 0)), (ob8, .cells (arr (intC .i64) r5.First j11).toArray 3 (0, 0)), (ob12, .cells (arr (intC .i64) r5.Head j15).toArray 3 (0, 0)), (ob16, .cells (arr (intC .i64) r5.Rev j19).toArray 3 (0, 0)), (ob20, .cells (arr (intC .i64) r5.Cap j23).toArray 2 (0, 0)), (ob24, .cells (arr (intC .i64) r5.Arc j27).toArray 3 (0, 0)), (ob28, .cells (arr boolC r5.Back j31).toArray 4 (0, 0)), (some each2_1_k, .cells #[.slice (sb ob107) n105 c106, .slice (sb ob117) n115 c116, .slice (sb ob127) n125 c126] 29 (0, 0)), (ob107, .cells (arr (intC .i64) Res104 j108).toArray 2 (0, 0)), (ob117, .cells (arr (intC .i64) Ex114 j118).toArray 2 (0, 0)), (ob127, .cells (arr (intC .i64) H124 j128).toArray 3 (0, 0)), (some b62, .cells #[.int .i64 r5.N, .int .i64 r5.S, .int .i64 r5.T, .slice (sb ob8) n9 c10, .slice (sb ob12) n13 c14, .slice (sb ob16) n17 c18, .slice (sb ob20) n21 c22, .slice (sb ob24) n25 c26, .slice (sb ob28) n29 c30] 32 (0, 0)), (some b94, .cells #[.slice (sb ob107) n105 c106, .slice (sb ob117) n115 c116, .slice (sb ob127) n125 c126] 29 (0, 0)), (ob140, .cells (arr (intC .i64) r137 j143).toArray 3 (0, 0)), (ob144, .cells (arr (intC .i64) r138 j147).toArray 3 (0, 0))]
         · exact Z5f
         · exact rfl
         · kernel_rfl
         · kernel_rfl
         · kernel_rfl
         · exact rfl
         · exact rfl
         · exact rfl
         · exact rfl
         · exact (by repeat (first | exact Pick.refl _ | exact Pick.nil | apply Pick.none | refine Pick.cons (by repeat (first | exact Take.head _ _ | apply Z0l)) ?_))
         ·
          refine ⟨?_, ?_, ?_, ?_, ?_, ?_, ?_, ?_, ?_, ?_, ?_, ?_, ?_, ?_, ?_, trivial⟩
          · rintro vs es Es Hx -; refine Z0a (D := []) rfl ?_; refine Z0c rfl rfl rfl rfl Z1e Zl7 rfl ?_; refine TO.done ?_; exact Z14 rfl ⟨rfl, rfl⟩ (Pick.refl _) rfl
          · rintro vs es Es Hx -; refine Z0a (D := []) rfl ?_; refine Z0c rfl rfl rfl rfl Z0y Zkj rfl ?_; refine TO.done ?_; exact Z14 rfl ⟨rfl, rfl⟩ (Pick.refl _) rfl
          · rintro vs es Es Hx -; refine Z0a (D := []) rfl ?_; refine TO.move rfl rfl rfl rfl ?_; refine TO.done ?_; exact Z14 rfl ⟨rfl, rfl⟩ (Pick.refl _) rfl
          · rintro vs es Es Hx -; refine Z0a (D := []) rfl ?_; refine TO.move rfl rfl rfl rfl ?_; refine TO.done ?_; exact Z14 rfl ⟨rfl, rfl⟩ (Pick.refl _) rfl
          · rintro vs es Es Hx ⟨⟨h_3, e_3⟩, -⟩; refine Z0a (D := [(83, vs 3)]) rfl ?_; rw [h_3]; refine Zoq g200 rfl rfl rfl rfl rfl ?_; refine TO.done ?_; exact Z14 rfl ⟨rfl, rfl⟩ (Pick.refl _) (by show [(83, vs 3)] = _; rw [h_3])
          · rintro vs es Es Hx -; refine Z0a (D := []) rfl ?_; refine TO.move rfl rfl rfl rfl ?_; refine TO.done ?_; exact Z14 rfl ⟨rfl, rfl⟩ (Pick.refl _) rfl
          · rintro vs es Es Hx ⟨⟨h_5, e_5⟩, -⟩; refine Z0a (D := [(85, vs 5)]) rfl ?_; rw [h_5]; refine Z1m (xs := r138) hn152 rfl rfl rfl rfl rfl Z1i ?_; refine TO.done ?_; exact Z14 rfl ⟨rfl, rfl⟩ (Pick.refl _) (by show [(85, vs 5)] = _; rw [h_5])
          · rintro vs es Es Hx ⟨⟨h_4, e_4⟩, ⟨h_6, e_6⟩, -⟩; refine Z0a (D := [(84, vs 4), (86, vs 6)]) rfl ?_; rw [h_4, h_6]; refine TO.rem rfl rfl rfl rfl rfl g201 ?_; refine TO.done ?_; exact Z14 rfl ⟨rfl, rfl⟩ (Pick.refl _) (by show [(84, vs 4), (86, vs 6)] = _; rw [h_4, h_6])
          · rintro vs es Es Hx ⟨⟨h_2, e_2⟩, ⟨h_7, e_7⟩, -⟩; refine Z0a (D := [(82, vs 2), (87, vs 7)]) rfl ?_; rw [h_2, h_7]; refine Z4z hz155 hc153 hn152 g202 rfl rfl rfl rfl rfl Z1i Z2r ?_; refine TO.done ?_; exact Z14 rfl ⟨rfl, rfl⟩ (Pick.refl _) (by show [(82, vs 2), (87, vs 7)] = _; rw [h_2, h_7])
          · rintro vs es Es Hx ⟨⟨h_2, e_2⟩, ⟨h_7, e_7⟩, ⟨h_8, e_8⟩, -⟩; refine Z0a (D := [(82, vs 2), (87, vs 7), (88, vs 8)]) rfl ?_; rw [h_2, h_7, h_8]; refine Z8p hz155 hc153 hn152 g202 rfl rfl rfl rfl Z2q Zmo ?_; refine TO.done ?_; exact Z14 rfl ⟨rfl, rfl⟩ (Pick.refl _) (by show [(82, vs 2), (87, vs 7), (88, vs 8)] = _; rw [h_2, h_7, h_8])
          · rintro vs es Es Hx ⟨⟨h_0, e_0⟩, ⟨h_1, e_1⟩, ⟨h_9, e_9⟩, -⟩; refine Z0a (D := [(80, vs 0), (81, vs 1), (89, vs 9)]) rfl ?_; rw [h_0, h_1, h_9]; refine Z0d Z9g rfl rfl rfl rfl (fun wc hwc => Zcf (c0 := r5) (p1 := (Pre.mk Res104 Ex114 H124)) (u2 := (r138.getD (((moves1.getD x134.toNat 0).tdiv 2).tmod (r138.length : Int)).toNat 0)) wc (hwc.rs (f := (intC .i64)) (s := 1) (xs := r5.First) (j := j11) (fun _ => rfl) mm1 hn32 hc33 hz35) (hwc.rs (f := (intC .i64)) (s := 1) (xs := r5.Head) (j := j15) (fun _ => rfl) mm2 hn36 hc37 hz39) (hwc.rs (f := (intC .i64)) (s := 1) (xs := r5.Rev) (j := j19) (fun _ => rfl) mm3 hn40 hc41 hz43) (hwc.rs (f := (intC .i64)) (s := 1) (xs := r5.Cap) (j := j23) (fun _ => rfl) mm4 hn44 hc45 hz47) (hwc.rs (f := (intC .i64)) (s := 1) (xs := r5.Arc) (j := j27) (fun _ => rfl) mm5 hn48 hc49 hz51) (hwc.rs (f := boolC) (s := 1) (xs := r5.Back) (j := j31) (fun _ => rfl) mm6 hn52 hc53 hz55) (hwc.rs (f := (intC .i64)) (s := 1) (xs := Res104) (j := j108) (fun _ => rfl) mm8 hn109 hc110 hz112) (hwc.rs (f := (intC .i64)) (s := 1) (xs := Ex114) (j := j118) (fun _ => rfl) mm9 hn119 hc120 hz122) (hwc.rs (f := (intC .i64)) (s := 1) (xs := H124) (j := j128) (fun _ => rfl) Zkk hn129 hc130 hz132) e205) ?_; rintro _ _ ⟨ob206, n207, c208, j209, ob210, n211, c212, j213, ob214, n215, c216, j217, rfl, rfl, hn218, hc219, hj220, hz221, hn222, hc223, hj224, hz225, hn226, hc227, hj228, hz229⟩; refine TO.done ?_; exact Z14 rfl ⟨ob206, n207, c208, j209, ob210, n211, c212, j213, ob214, n215, c216, j217, rfl, rfl, hn218, hc219, hj220, hz221, hn222, hc223, hj224, hz225, hn226, hc227, hj228, hz229⟩ (by repeat (first | exact Pick.refl _ | exact Pick.nil | apply Pick.none | refine Pick.cons (by repeat (first | exact Take.head _ _ | apply Z0l)) ?_)) (by show [(80, vs 0), (81, vs 1), (89, vs 9)] = _; rw [h_0, h_1, h_9])
          · rintro vs es Es Hx ⟨⟨ob206, n207, c208, j209, ob210, n211, c212, j213, ob214, n215, c216, j217, h_10, e_10, hn218, hc219, hj220, hz221, hn222, hc223, hj224, hz225, hn226, hc227, hj228, hz229⟩, -⟩; refine Z0a (D := [(90, vs 10)]) rfl ?_; rw [h_10]; refine Z1o (H := [(some each2_0_k, .cells #[.int .i64 N101, .int .i64 S102, .int .i64 T103, .slice (sb ob8) n9 c10, .slice (sb ob12) n13 c14, .slice (sb ob16) n17 c18, .slice (sb ob20) n21 c22, .slice (sb ob24) n25 c26, .slice (sb ob28) n29 c30] 32 (0, 0)), (ob8, .cells (arr (intC .i64) r5.First j11).toArray 3 (0, 0)), (ob12, .cells (arr (intC .i64) r5.Head j15).toArray 3 (0, 0)), (ob16, .cells (arr (intC .i64) r5.Rev j19).toArray 3 (0, 0)), (ob20, .cells (arr (intC .i64) r5.Cap j23).toArray 2 (0, 0)), (ob24, .cells (arr (intC .i64) r5.Arc j27).toArray 3 (0, 0)), (ob28, .cells (arr boolC r5.Back j31).toArray 4 (0, 0)), (some each2_1_k, .cells #[.slice (sb ob107) n105 c106, .slice (sb ob117) n115 c116, .slice (sb ob127) n125 c126] 29 (0, 0)), (ob107, .cells (arr (intC .i64) Res104 j108).toArray 2 (0, 0)), (ob117, .cells (arr (intC .i64) Ex114 j118).toArray 2 (0, 0)), (ob127, .cells (arr (intC .i64) H124 j128).toArray 3 (0, 0)), (some b62, .cells #[.int .i64 r5.N, .int .i64 r5.S, .int .i64 r5.T, .slice (sb ob8) n9 c10, .slice (sb ob12) n13 c14, .slice (sb ob16) n17 c18, .slice (sb ob20) n21 c22, .slice (sb ob24) n25 c26, .slice (sb ob28) n29 c30] 32 (0, 0)), (some b94, .cells #[.slice (sb ob107) n105 c106, .slice (sb ob117) n115 c116, .slice (sb ob127) n125 c126] 29 (0, 0)), (ob140, .cells (arr (intC .i64) r137 j143).toArray 3 (0, 0)), (ob144, .cells (arr (intC .i64) r138 j147).toArray 3 (0, 0))] ++ ([(ob206, .cells (arr (intC .i64) r203.Res j209).toArray 2 (0, 0)), (ob210, .cells (arr (intC .i64) r203.Ex j213).toArray 2 (0, 0)), (ob214, .cells (arr (intC .i64) r203.H j217).toArray 3 (0, 0))] ++ Hx)) (by show _ ++ ((es 10 ++ ([])) ++ _) = _; rw [e_10]; rfl) ?_; refine TO.move rfl rfl rfl rfl ?_; refine TO.done ?_; exact Z14 rfl ⟨by show _ = vs 10; rw [h_10] <;> rfl, rfl⟩ (by show Pick (_ ++ (_ ++ ((es 10 ++ ([])) ++ _))) _; rw [e_10]; exact (by repeat (first | exact Pick.refl _ | exact Pick.nil | apply Pick.none | refine Pick.cons (by repeat (first | exact Take.head _ _ | apply Z0l)) ?_))) (by show [(90, vs 10)] = _; rw [h_10])
          ·
           rintro vs es Es Hx ⟨⟨ob206, n207, c208, j209, ob210, n211, c212, j213, ob214, n215, c216, j217, h_10, e_10, hn218, hc219, hj220, hz221, hn222, hc223, hj224, hz225, hn226, hc227, hj228, hz229⟩, ⟨q_11, e_11⟩, -⟩; have h_11 : vs 11 = .tuple #[.agg #[.slice (sb ob206) n207 c208, .slice (sb ob210) n211 c212, .slice (sb ob214) n215 c216], .int .i64 r204] := by refine Eq.trans q_11 ?_; show vs 10 = _; rw [h_10] <;> rfl
           refine Z0a (D := [(90, vs 10), (79, vs 11)]) rfl ?_; rw [h_10, h_11]; refine Z1o (H := [(some each2_0_k, .cells #[.int .i64 N101, .int .i64 S102, .int .i64 T103, .slice (sb ob8) n9 c10, .slice (sb ob12) n13 c14, .slice (sb ob16) n17 c18, .slice (sb ob20) n21 c22, .slice (sb ob24) n25 c26, .slice (sb ob28) n29 c30] 32 (0, 0)), (ob8, .cells (arr (intC .i64) r5.First j11).toArray 3 (0, 0)), (ob12, .cells (arr (intC .i64) r5.Head j15).toArray 3 (0, 0)), (ob16, .cells (arr (intC .i64) r5.Rev j19).toArray 3 (0, 0)), (ob20, .cells (arr (intC .i64) r5.Cap j23).toArray 2 (0, 0)), (ob24, .cells (arr (intC .i64) r5.Arc j27).toArray 3 (0, 0)), (ob28, .cells (arr boolC r5.Back j31).toArray 4 (0, 0)), (some each2_1_k, .cells #[.slice (sb ob107) n105 c106, .slice (sb ob117) n115 c116, .slice (sb ob127) n125 c126] 29 (0, 0)), (ob107, .cells (arr (intC .i64) Res104 j108).toArray 2 (0, 0)), (ob117, .cells (arr (intC .i64) Ex114 j118).toArray 2 (0, 0)), (ob127, .cells (arr (intC .i64) H124 j128).toArray 3 (0, 0)), (some b62, .cells #[.int .i64 r5.N, .int .i64 r5.S, .int .i64 r5.T, .slice (sb ob8) n9 c10, .slice (sb ob12) n13 c14, .slice (sb ob16) n17 c18, .slice (sb ob20) n21 c22, .slice (sb ob24) n25 c26, .slice (sb ob28) n29 c30] 32 (0, 0)), (some b94, .cells #[.slice (sb ob107) n105 c106, .slice (sb ob117) n115 c116, .slice (sb ob127) n125 c126] 29 (0, 0)), (ob140, .cells (arr (intC .i64) r137 j143).toArray 3 (0, 0)), (ob144, .cells (arr (intC .i64) r138 j147).toArray 3 (0, 0))] ++ ([(ob206, .cells (arr (intC .i64) r203.Res j209).toArray 2 (0, 0)), (ob210, .cells (arr (intC .i64) r203.Ex j213).toArray 2 (0, 0)), (ob214, .cells (arr (intC .i64) r203.H j217).toArray 3 (0, 0))] ++ Hx)) (by show _ ++ ((es 10 ++ (es 11 ++ ([]))) ++ _) = _; rw [e_10, e_11]; rfl) ?_; refine TO.extract rfl rfl rfl rfl rfl ?_; refine TO.done ?_; exact Z14 rfl ⟨by show _ = (Zie (vs 11) 0); rw [h_11] <;> rfl, rfl⟩ (by show Pick (_ ++ (_ ++ ((es 10 ++ (es 11 ++ ([]))) ++ _))) _; rw [e_10, e_11]; exact (by repeat (first | exact Pick.refl _ | exact Pick.nil | apply Pick.none | refine Pick.cons (by repeat (first | exact Take.head _ _ | apply Z0l)) ?_))) (by show [(90, vs 10), (79, vs 11)] = _; rw [h_10, h_11])
          ·
           rintro vs es Es Hx ⟨⟨ob206, n207, c208, j209, ob210, n211, c212, j213, ob214, n215, c216, j217, h_10, e_10, hn218, hc219, hj220, hz221, hn222, hc223, hj224, hz225, hn226, hc227, hj228, hz229⟩, ⟨q_11, e_11⟩, -⟩; have h_11 : vs 11 = .tuple #[.agg #[.slice (sb ob206) n207 c208, .slice (sb ob210) n211 c212, .slice (sb ob214) n215 c216], .int .i64 r204] := by refine Eq.trans q_11 ?_; show vs 10 = _; rw [h_10] <;> rfl
           refine Z0a (D := [(90, vs 10), (79, vs 11)]) rfl ?_; rw [h_10, h_11]; refine Z1o (H := [(some each2_0_k, .cells #[.int .i64 N101, .int .i64 S102, .int .i64 T103, .slice (sb ob8) n9 c10, .slice (sb ob12) n13 c14, .slice (sb ob16) n17 c18, .slice (sb ob20) n21 c22, .slice (sb ob24) n25 c26, .slice (sb ob28) n29 c30] 32 (0, 0)), (ob8, .cells (arr (intC .i64) r5.First j11).toArray 3 (0, 0)), (ob12, .cells (arr (intC .i64) r5.Head j15).toArray 3 (0, 0)), (ob16, .cells (arr (intC .i64) r5.Rev j19).toArray 3 (0, 0)), (ob20, .cells (arr (intC .i64) r5.Cap j23).toArray 2 (0, 0)), (ob24, .cells (arr (intC .i64) r5.Arc j27).toArray 3 (0, 0)), (ob28, .cells (arr boolC r5.Back j31).toArray 4 (0, 0)), (some each2_1_k, .cells #[.slice (sb ob107) n105 c106, .slice (sb ob117) n115 c116, .slice (sb ob127) n125 c126] 29 (0, 0)), (ob107, .cells (arr (intC .i64) Res104 j108).toArray 2 (0, 0)), (ob117, .cells (arr (intC .i64) Ex114 j118).toArray 2 (0, 0)), (ob127, .cells (arr (intC .i64) H124 j128).toArray 3 (0, 0)), (some b62, .cells #[.int .i64 r5.N, .int .i64 r5.S, .int .i64 r5.T, .slice (sb ob8) n9 c10, .slice (sb ob12) n13 c14, .slice (sb ob16) n17 c18, .slice (sb ob20) n21 c22, .slice (sb ob24) n25 c26, .slice (sb ob28) n29 c30] 32 (0, 0)), (some b94, .cells #[.slice (sb ob107) n105 c106, .slice (sb ob117) n115 c116, .slice (sb ob127) n125 c126] 29 (0, 0)), (ob140, .cells (arr (intC .i64) r137 j143).toArray 3 (0, 0)), (ob144, .cells (arr (intC .i64) r138 j147).toArray 3 (0, 0))] ++ ([(ob206, .cells (arr (intC .i64) r203.Res j209).toArray 2 (0, 0)), (ob210, .cells (arr (intC .i64) r203.Ex j213).toArray 2 (0, 0)), (ob214, .cells (arr (intC .i64) r203.H j217).toArray 3 (0, 0))] ++ Hx)) (by show _ ++ ((es 10 ++ (es 11 ++ ([]))) ++ _) = _; rw [e_10, e_11]; rfl) ?_; refine TO.extract rfl rfl rfl rfl rfl ?_; refine TO.done ?_; exact Z14 rfl ⟨rfl, rfl⟩ (by show Pick (_ ++ (_ ++ ((es 10 ++ (es 11 ++ ([]))) ++ _))) _; rw [e_10, e_11]; exact (by repeat (first | exact Pick.refl _ | exact Pick.nil | apply Pick.none | refine Pick.cons (by repeat (first | exact Take.head _ _ | apply Z0l)) ?_))) (by show [(90, vs 10), (79, vs 11)] = _; rw [h_10, h_11])
          ·
           rintro vs es Es Hx hb ⟨⟨ob206, n207, c208, j209, ob210, n211, c212, j213, ob214, n215, c216, j217, h_10, e_10, hn218, hc219, hj220, hz221, hn222, hc223, hj224, hz225, hn226, hc227, hj228, hz229⟩, ⟨q_11, e_11⟩, ⟨q_12, e_12⟩, -⟩ hHR; obtain rfl : hb = [(some b159, .cells #[.slice none 0 0, .slice none 0 0, .slice none 0 0] 29 (0, 0))] := hHR; have h_11 : vs 11 = .tuple #[.agg #[.slice (sb ob206) n207 c208, .slice (sb ob210) n211 c212, .slice (sb ob214) n215 c216], .int .i64 r204] := by refine Eq.trans q_11 ?_; show vs 10 = _; rw [h_10] <;> rfl
           have h_12 : vs 12 = .agg #[.slice (sb ob206) n207 c208, .slice (sb ob210) n211 c212, .slice (sb ob214) n215 c216] := by refine Eq.trans q_12 ?_; show (Zie (vs 11) 0) = _; rw [h_11] <;> rfl
           refine Z0a (D := [(90, vs 10), (79, vs 11), (91, vs 12)]) rfl ?_; rw [h_10, h_11, h_12]; refine Z1o (H := [(some b159, .cells #[.slice none 0 0, .slice none 0 0, .slice none 0 0] 29 (0, 0))] ++ ([(some each2_0_k, .cells #[.int .i64 N101, .int .i64 S102, .int .i64 T103, .slice (sb ob8) n9 c10, .slice (sb ob12) n13 c14, .slice (sb ob16) n17 c18, .slice (sb ob20) n21 c22, .slice (sb ob24) n25 c26, .slice (sb ob28) n29 c30] 32 (0, 0)), (ob8, .cells (arr (intC .i64) r5.First j11).toArray 3 (0, 0)), (ob12, .cells (arr (intC .i64) r5.Head j15).toArray 3 (0, 0)), (ob16, .cells (arr (intC .i64) r5.Rev j19).toArray 3 (0, 0)), (ob20, .cells (arr (intC .i64) r5.Cap j23).toArray 2 (0, 0)), (ob24, .cells (arr (intC .i64) r5.Arc j27).toArray 3 (0, 0)), (ob28, .cells (arr boolC r5.Back j31).toArray 4 (0, 0)), (some each2_1_k, .cells #[.slice (sb ob107) n105 c106, .slice (sb ob117) n115 c116, .slice (sb ob127) n125 c126] 29 (0, 0)), (ob107, .cells (arr (intC .i64) Res104 j108).toArray 2 (0, 0)), (ob117, .cells (arr (intC .i64) Ex114 j118).toArray 2 (0, 0)), (ob127, .cells (arr (intC .i64) H124 j128).toArray 3 (0, 0)), (some b62, .cells #[.int .i64 r5.N, .int .i64 r5.S, .int .i64 r5.T, .slice (sb ob8) n9 c10, .slice (sb ob12) n13 c14, .slice (sb ob16) n17 c18, .slice (sb ob20) n21 c22, .slice (sb ob24) n25 c26, .slice (sb ob28) n29 c30] 32 (0, 0)), (some b94, .cells #[.slice (sb ob107) n105 c106, .slice (sb ob117) n115 c116, .slice (sb ob127) n125 c126] 29 (0, 0)), (ob140, .cells (arr (intC .i64) r137 j143).toArray 3 (0, 0)), (ob144, .cells (arr (intC .i64) r138 j147).toArray 3 (0, 0))] ++ ([(ob206, .cells (arr (intC .i64) r203.Res j209).toArray 2 (0, 0)), (ob210, .cells (arr (intC .i64) r203.Ex j213).toArray 2 (0, 0)), (ob214, .cells (arr (intC .i64) r203.H j217).toArray 3 (0, 0))] ++ Hx))) (by show _ ++ (_ ++ ((es 10 ++ (es 11 ++ (es 12 ++ ([])))) ++ _)) = _; rw [e_10, e_11, e_12]; rfl) ?_; refine Z0s rfl rfl rfl rfl tk0 Z2h rfl rfl rfl ?_; rw [show (.slice (sb ob206) n207 c208 : Value) = Z7o (vs 12) 0 from (by rw [h_12] <;> rfl)]; rw [show (.slice (sb ob210) n211 c212 : Value) = Z7o (vs 12) 1 from (by rw [h_12] <;> rfl)]; rw [show (.slice (sb ob214) n215 c216 : Value) = Z7o (vs 12) 2 from (by rw [h_12] <;> rfl)]; refine TO.done ?_; exact Zev (hb' := [(some b159, .cells #[(Z7o (vs 12) 0), (Z7o (vs 12) 1), (Z7o (vs 12) 2)] 29 (0, 0))]) rfl rfl rfl (by show Pick (_ ++ (_ ++ ((es 10 ++ (es 11 ++ (es 12 ++ ([])))) ++ _))) _; rw [e_10, e_11, e_12]; exact (by repeat (first | exact Pick.refl _ | exact Pick.nil | apply Pick.none | refine Pick.cons (by repeat (first | exact Take.head _ _ | apply Z0l)) ?_))) (by show [(90, vs 10), (79, vs 11), (91, vs 12)] = _; rw [h_10, h_11, h_12] <;> rfl)
         ·
          rintro vs es hb ⟨⟨h_0, e_0⟩, ⟨h_1, e_1⟩, ⟨h_2, e_2⟩, ⟨h_3, e_3⟩, ⟨h_4, e_4⟩, ⟨h_5, e_5⟩, ⟨h_6, e_6⟩, ⟨h_7, e_7⟩, ⟨h_8, e_8⟩, ⟨h_9, e_9⟩, ⟨ob206, n207, c208, j209, ob210, n211, c212, j213, ob214, n215, c216, j217, h_10, e_10, hn218, hc219, hj220, hz221, hn222, hc223, hj224, hz225, hn226, hc227, hj228, hz229⟩, ⟨q_11, e_11⟩, ⟨q_12, e_12⟩, ⟨h_13, e_13⟩, e_14, -⟩ hHR; obtain rfl : hb = [(some b159, .cells #[(Z7o (vs 12) 0), (Z7o (vs 12) 1), (Z7o (vs 12) 2)] 29 (0, 0))] := hHR; have h_11 : vs 11 = .tuple #[.agg #[.slice (sb ob206) n207 c208, .slice (sb ob210) n211 c212, .slice (sb ob214) n215 c216], .int .i64 r204] := by refine Eq.trans q_11 ?_; show vs 10 = _; rw [h_10] <;> rfl
          have h_12 : vs 12 = .agg #[.slice (sb ob206) n207 c208, .slice (sb ob210) n211 c212, .slice (sb ob214) n215 c216] := by refine Eq.trans q_12 ?_; show (Zie (vs 11) 0) = _; rw [h_11] <;> rfl
          refine Z0a (D := [(80, vs 0), (81, vs 1), (82, vs 2), (83, vs 3), (84, vs 4), (85, vs 5), (86, vs 6), (87, vs 7), (88, vs 8), (89, vs 9), (90, vs 10), (79, vs 11), (91, vs 12), (92, vs 13)]) rfl ?_; refine Z1o (H := [(some b159, .cells #[(Z7o (vs 12) 0), (Z7o (vs 12) 1), (Z7o (vs 12) 2)] 29 (0, 0)), (some each2_0_k, .cells #[.int .i64 N101, .int .i64 S102, .int .i64 T103, .slice (sb ob8) n9 c10, .slice (sb ob12) n13 c14, .slice (sb ob16) n17 c18, .slice (sb ob20) n21 c22, .slice (sb ob24) n25 c26, .slice (sb ob28) n29 c30] 32 (0, 0)), (ob8, .cells (arr (intC .i64) r5.First j11).toArray 3 (0, 0)), (ob12, .cells (arr (intC .i64) r5.Head j15).toArray 3 (0, 0)), (ob16, .cells (arr (intC .i64) r5.Rev j19).toArray 3 (0, 0)), (ob20, .cells (arr (intC .i64) r5.Cap j23).toArray 2 (0, 0)), (ob24, .cells (arr (intC .i64) r5.Arc j27).toArray 3 (0, 0)), (ob28, .cells (arr boolC r5.Back j31).toArray 4 (0, 0)), (some each2_1_k, .cells #[.slice (sb ob107) n105 c106, .slice (sb ob117) n115 c116, .slice (sb ob127) n125 c126] 29 (0, 0)), (ob107, .cells (arr (intC .i64) Res104 j108).toArray 2 (0, 0)), (ob117, .cells (arr (intC .i64) Ex114 j118).toArray 2 (0, 0)), (ob127, .cells (arr (intC .i64) H124 j128).toArray 3 (0, 0)), (some b62, .cells #[.int .i64 r5.N, .int .i64 r5.S, .int .i64 r5.T, .slice (sb ob8) n9 c10, .slice (sb ob12) n13 c14, .slice (sb ob16) n17 c18, .slice (sb ob20) n21 c22, .slice (sb ob24) n25 c26, .slice (sb ob28) n29 c30] 32 (0, 0)), (some b94, .cells #[.slice (sb ob107) n105 c106, .slice (sb ob117) n115 c116, .slice (sb ob127) n125 c126] 29 (0, 0)), (ob140, .cells (arr (intC .i64) r137 j143).toArray 3 (0, 0)), (ob144, .cells (arr (intC .i64) r138 j147).toArray 3 (0, 0)), (ob206, .cells (arr (intC .i64) r203.Res j209).toArray 2 (0, 0)), (ob210, .cells (arr (intC .i64) r203.Ex j213).toArray 2 (0, 0)), (ob214, .cells (arr (intC .i64) r203.H j217).toArray 3 (0, 0))]) (by show _ ++ (_ ++ (es 0 ++ (es 1 ++ (es 2 ++ (es 3 ++ (es 4 ++ (es 5 ++ (es 6 ++ (es 7 ++ (es 8 ++ (es 9 ++ (es 10 ++ (es 11 ++ (es 12 ++ (es 13 ++ (es 14 ++ ([]))))))))))))))))) = _; rw [e_0, e_1, e_2, e_3, e_4, e_5, e_6, e_7, e_8, e_9, e_10, e_11, e_12, e_13, e_14]; rfl) ?_; rw [h_0, h_1, h_2, h_3, h_4, h_5, h_6, h_7, h_8, h_9, h_10, h_11, h_12, h_13]; refine Z1o (H := [(some b159, .cells #[.slice (sb ob206) n207 c208, .slice (sb ob210) n211 c212, .slice (sb ob214) n215 c216] 29 (0, 0)), (some each2_0_k, .cells #[.int .i64 N101, .int .i64 S102, .int .i64 T103, .slice (sb ob8) n9 c10, .slice (sb ob12) n13 c14, .slice (sb ob16) n17 c18, .slice (sb ob20) n21 c22, .slice (sb ob24) n25 c26, .slice (sb ob28) n29 c30] 32 (0, 0)), (ob8, .cells (arr (intC .i64) r5.First j11).toArray 3 (0, 0)), (ob12, .cells (arr (intC .i64) r5.Head j15).toArray 3 (0, 0)), (ob16, .cells (arr (intC .i64) r5.Rev j19).toArray 3 (0, 0)), (ob20, .cells (arr (intC .i64) r5.Cap j23).toArray 2 (0, 0)), (ob24, .cells (arr (intC .i64) r5.Arc j27).toArray 3 (0, 0)), (ob28, .cells (arr boolC r5.Back j31).toArray 4 (0, 0)), (some each2_1_k, .cells #[.slice (sb ob107) n105 c106, .slice (sb ob117) n115 c116, .slice (sb ob127) n125 c126] 29 (0, 0)), (ob107, .cells (arr (intC .i64) Res104 j108).toArray 2 (0, 0)), (ob117, .cells (arr (intC .i64) Ex114 j118).toArray 2 (0, 0)), (ob127, .cells (arr (intC .i64) H124 j128).toArray 3 (0, 0)), (some b62, .cells #[.int .i64 r5.N, .int .i64 r5.S, .int .i64 r5.T, .slice (sb ob8) n9 c10, .slice (sb ob12) n13 c14, .slice (sb ob16) n17 c18, .slice (sb ob20) n21 c22, .slice (sb ob24) n25 c26, .slice (sb ob28) n29 c30] 32 (0, 0)), (some b94, .cells #[.slice (sb ob107) n105 c106, .slice (sb ob117) n115 c116, .slice (sb ob127) n125 c126] 29 (0, 0)), (ob140, .cells (arr (intC .i64) r137 j143).toArray 3 (0, 0)), (ob144, .cells (arr (intC .i64) r138 j147).toArray 3 (0, 0)), (ob206, .cells (arr (intC .i64) r203.Res j209).toArray 2 (0, 0)), (ob210, .cells (arr (intC .i64) r203.Ex j213).toArray 2 (0, 0)), (ob214, .cells (arr (intC .i64) r203.H j217).toArray 3 (0, 0))]) rfl ?_; clear h_13 h_12 h_11 h_10 h_9 h_8 h_7 h_6 h_5 h_4 h_3 h_2 h_1 h_0 q_11 q_12 e_0 e_1 e_2 e_3 e_4 e_5 e_6 e_7 e_8 e_9 e_10 e_11 e_12 e_13 e_14; refine TO.assign rfl rfl rfl rfl ?_; refine TO.done ?_; refine Z08 ?_; exact Zku r203.Res n207 c208 ob206 j209 r203.Ex n211 c212 ob210 j213 r203.H n215 c216 ob214 j217 r204 ⟨H, hn218, hc219, hj220, hz221, hn222, hc223, hj224, hz225, hn226, hc227, hj228, hz229⟩ (AllF.cons rfl (AllF.cons rfl (AllF.cons rfl (AllF.cons rfl (AllF.cons rfl (AllF.cons rfl (AllF.cons rfl (AllF.cons rfl AllF.nil)))))))) (Pick.cons tk1 (Pick.cons tk1 (Pick.cons tk1 (Pick.cons tk1 (Pick.cons tk1 (Pick.cons tk1 (Pick.cons tk1 (Pick.cons tk1 (Pick.cons tk1 (Pick.cons tk1 (Pick.cons tk1 (Pick.cons tk1 (Pick.cons tk1 (Pick.cons tk0 (Pick.cons tk2 (Pick.cons tk2 (Pick.cons tk2 Pick.nil)))))))))))))))))
        · refine Z0u rfl g199 ?_; refine T.seq ?_; refine Z01 (ll := [0]) rfl ?_; refine TO.assign rfl rfl rfl rfl ?_; refine TO.done ?_; refine Z00 ?_; refine Z0f (AllF.cons (t := 6) rfl AllF.nil) ?_; refine T.ret ?_; refine Z0e ?_; refine Z07 ?_; refine Z0e ?_; refine Z07 ?_; have H := Z0q H C_1 ▸ K_1; refine Z07 ?_; refine Z0e ?_; refine Z07 ?_; obtain ⟨rfl, rfl, rfl⟩ := ret3 H; exact Z0o rfl rfl rfl rfl (Res.tmp rfl) (Pick.cons tk0 (Pick.cons tk0 (Pick.cons tk0 (Pick.cons tk0 (Pick.cons tk0 (Pick.cons tk0 (Pick.cons tk0 (Pick.cons tk0 (Pick.cons tk0 (Pick.cons tk0 (Pick.cons tk0 Pick.nil))))))))))) ⟨ob8, n9, c10, j11, ob12, n13, c14, j15, ob16, n17, c18, j19, ob20, n21, c22, j23, ob24, n25, c26, j27, ob28, n29, c30, j31, ob107, n105, c106, j108, ob117, n115, c116, j118, ob127, n125, c126, j128, rfl, rfl, hn32, hc33, hj34, hz35, hn36, hc37, hj38, hz39, hn40, hc41, hj42, hz43, hn44, hc45, hj46, hz47, hn48, hc49, hj50, hz51, hn52, hc53, hj54, hz55, hn109, hc110, hj111, hz112, hn119, hc120, hj121, hz122, hn129, hc130, hj131, hz132⟩
     ·
      rintro Res233 n234 c235 ob236 j237 Ex243 n244 c245 ob246 j247 H253 n254 c255 ob256 j257 f263 ⟨H, hn238, hc239, hj240, hz241, hn248, hc249, hj250, hz251, hn258, hc259, hj260, hz261⟩; unfold Z21 at H; refine T.seq ?_; refine T.seq ?_; rcases Z09 H with ⟨g264, H⟩ | ⟨g264, H⟩
      · refine Z01 (ll := [0, 1, 2, 3, 4, 5, 6, 7, 8, 9]) rfl ?_; refine TO.move rfl rfl rfl rfl ?_; refine Z0h rfl rfl rfl rfl rfl rfl ?_; refine TO.move rfl rfl rfl rfl ?_; refine Z0j (t := 95) (b' := true) rfl (decide_eq_true g264) ?_; refine Z03 rfl rfl rfl rfl ?_; refine Z03 rfl rfl rfl rfl ?_; refine Z03 rfl rfl rfl rfl ?_; refine Z03 rfl rfl rfl rfl ?_; refine Z03 rfl rfl rfl rfl ?_; refine Z03 rfl rfl rfl rfl ?_; refine Z0n rfl rfl rfl rfl rfl ?_; refine TO.done ?_; refine Z00 ?_; refine Z10 rfl rfl ?_; refine T.seq ?_; refine Z01 (ll := [0]) rfl ?_; refine TO.assign rfl rfl rfl rfl ?_; refine TO.done ?_; refine Z00 ?_; refine Z0f (AllF.cons (t := 6) rfl AllF.nil) ?_; refine T.ret ?_; refine Z07 ?_; refine Z0e ?_; refine Z07 ?_; have H := Z0q H C_1 ▸ K_1; refine Z07 ?_; refine Z0e ?_; refine Z07 ?_; obtain ⟨rfl, rfl, rfl⟩ := ret3 H; exact Z0o rfl rfl rfl rfl (Res.tmp rfl) (Pick.cons tk0 (Pick.cons tk0 (Pick.cons tk0 (Pick.cons tk0 (Pick.cons tk0 (Pick.cons tk0 (Pick.cons tk0 (Pick.cons tk0 (Pick.cons tk0 (Pick.cons tk0 (Pick.cons tk0 Pick.nil))))))))))) ⟨ob8, n9, c10, j11, ob12, n13, c14, j15, ob16, n17, c18, j19, ob20, n21, c22, j23, ob24, n25, c26, j27, ob28, n29, c30, j31, ob107, n105, c106, j108, ob117, n115, c116, j118, ob127, n125, c126, j128, rfl, rfl, hn32, hc33, hj34, hz35, hn36, hc37, hj38, hz39, hn40, hc41, hj42, hz43, hn44, hc45, hj46, hz47, hn48, hc49, hj50, hz51, hn52, hc53, hj54, hz55, hn109, hc110, hj111, hz112, hn119, hc120, hj121, hz122, hn129, hc130, hj131, hz132⟩
      ·
       obtain ⟨⟨r265, r266, r267⟩, e268, H⟩ := Z0b H; refine Z01 (ll := [0, 1, 2, 3, 4, 5, 6, 7, 8, 9]) rfl ?_; refine TO.move rfl rfl rfl rfl ?_; refine Z0h rfl rfl rfl rfl rfl rfl ?_; refine TO.move rfl rfl rfl rfl ?_; refine Z0j (t := 95) (b' := false) rfl (decide_eq_false g264) ?_; refine TO.move rfl rfl rfl rfl ?_; refine Z0c rfl rfl rfl rfl Z1e Zl7 rfl ?_; refine Z0c rfl rfl rfl rfl Z0y Zkj rfl ?_; refine Z0c rfl rfl rfl rfl Z0y Zki rfl ?_; refine Zcq Zbt rfl rfl rfl rfl rfl (Z05 tk0 (Z05 tk6 (Gone.refl _))) rfl (fun wc hwc => Zaz (c0 := r5) (was1 := (Pre.mk Res104 Ex114 H124)) (q2 := (Pre.mk Res233 Ex243 H253)) (c3 := (Csr.mk N101 S102 T103 r5.First r5.Head r5.Rev r5.Cap r5.Arc r5.Back)) (c4 := (Pre.mk Res104 Ex114 H124)) wc (hwc.self (Pick.cons tk0 (Pick.cons tk6 Pick.nil)) rfl) (hwc.rsM (f := (intC .i64)) (s := 1) (xs := r5.First) (j := j11) (fun _ => rfl) (Z05 tk0 (Z05 tk6 (Gone.refl _))) rfl mm0 hn32 hc33 hz35) (hwc.rsM (f := (intC .i64)) (s := 1) (xs := r5.Head) (j := j15) (fun _ => rfl) (Z05 tk0 (Z05 tk6 (Gone.refl _))) rfl mm1 hn36 hc37 hz39) (hwc.rsM (f := (intC .i64)) (s := 1) (xs := r5.Rev) (j := j19) (fun _ => rfl) (Z05 tk0 (Z05 tk6 (Gone.refl _))) rfl mm2 hn40 hc41 hz43) (hwc.rsM (f := (intC .i64)) (s := 1) (xs := r5.Cap) (j := j23) (fun _ => rfl) (Z05 tk0 (Z05 tk6 (Gone.refl _))) rfl mm3 hn44 hc45 hz47) (hwc.rsM (f := (intC .i64)) (s := 1) (xs := r5.Arc) (j := j27) (fun _ => rfl) (Z05 tk0 (Z05 tk6 (Gone.refl _))) rfl mm4 hn48 hc49 hz51) (hwc.rsM (f := boolC) (s := 1) (xs := r5.Back) (j := j31) (fun _ => rfl) (Z05 tk0 (Z05 tk6 (Gone.refl _))) rfl mm5 hn52 hc53 hz55) (hwc.rsM (f := (intC .i64)) (s := 1) (xs := Res104) (j := j108) (fun _ => rfl) (Z05 tk0 (Z05 tk6 (Gone.refl _))) rfl mm6 hn109 hc110 hz112) (hwc.rsM (f := (intC .i64)) (s := 1) (xs := Ex114) (j := j118) (fun _ => rfl) (Z05 tk0 (Z05 tk6 (Gone.refl _))) rfl mm7 hn119 hc120 hz122) (hwc.rsM (f := (intC .i64)) (s := 1) (xs := H124) (j := j128) (fun _ => rfl) (Z05 tk0 (Z05 tk6 (Gone.refl _))) rfl mm8 hn129 hc130 hz132) (hwc.rsM (f := (intC .i64)) (s := 1) (xs := Res233) (j := j237) (fun _ => rfl) (Z05 tk0 (Z05 tk6 (Gone.refl _))) rfl Zkj hn238 hc239 hz241) (hwc.rsM (f := (intC .i64)) (s := 1) (xs := Ex243) (j := j247) (fun _ => rfl) (Z05 tk0 (Z05 tk6 (Gone.refl _))) rfl Zki hn248 hc249 hz251) (hwc.rsM (f := (intC .i64)) (s := 1) (xs := H253) (j := j257) (fun _ => rfl) (Z05 tk0 (Z05 tk6 (Gone.refl _))) rfl Zmo hn258 hc259 hz261) (hwc.rsM (f := (intC .i64)) (s := 1) (xs := r5.First) (j := j11) (fun _ => rfl) (Z05 tk0 (Z05 tk6 (Gone.refl _))) rfl mm0 hn32 hc33 hz35) (hwc.rsM (f := (intC .i64)) (s := 1) (xs := r5.Head) (j := j15) (fun _ => rfl) (Z05 tk0 (Z05 tk6 (Gone.refl _))) rfl mm1 hn36 hc37 hz39) (hwc.rsM (f := (intC .i64)) (s := 1) (xs := r5.Rev) (j := j19) (fun _ => rfl) (Z05 tk0 (Z05 tk6 (Gone.refl _))) rfl mm2 hn40 hc41 hz43) (hwc.rsM (f := (intC .i64)) (s := 1) (xs := r5.Cap) (j := j23) (fun _ => rfl) (Z05 tk0 (Z05 tk6 (Gone.refl _))) rfl mm3 hn44 hc45 hz47) (hwc.rsM (f := (intC .i64)) (s := 1) (xs := r5.Arc) (j := j27) (fun _ => rfl) (Z05 tk0 (Z05 tk6 (Gone.refl _))) rfl mm4 hn48 hc49 hz51) (hwc.rsM (f := boolC) (s := 1) (xs := r5.Back) (j := j31) (fun _ => rfl) (Z05 tk0 (Z05 tk6 (Gone.refl _))) rfl mm5 hn52 hc53 hz55) (hwc.rsM (f := (intC .i64)) (s := 1) (xs := Res104) (j := j108) (fun _ => rfl) (Z05 tk0 (Z05 tk6 (Gone.refl _))) rfl mm6 hn109 hc110 hz112) (hwc.rsM (f := (intC .i64)) (s := 1) (xs := Ex114) (j := j118) (fun _ => rfl) (Z05 tk0 (Z05 tk6 (Gone.refl _))) rfl mm7 hn119 hc120 hz122) (hwc.rsM (f := (intC .i64)) (s := 1) (xs := H124) (j := j128) (fun _ => rfl) (Z05 tk0 (Z05 tk6 (Gone.refl _))) rfl mm8 hn129 hc130 hz132) e268) ?_; rintro _ _ ⟨rfl, rfl⟩; refine TO.not rfl rfl rfl rfl ?_; refine Z0r rfl rfl rfl rfl rfl ?_; refine TO.done ?_; refine Z00 ?_; rcases Z09 H with ⟨g269, H⟩ | ⟨g269, H⟩
       · refine Z10 rfl g269 ?_; refine T.seq ?_; refine Z01 (ll := [0]) rfl ?_; refine TO.assign rfl rfl rfl rfl ?_; refine TO.done ?_; refine Z00 ?_; refine Z0f (AllF.cons (t := 6) rfl AllF.nil) ?_; refine T.ret ?_; refine Z07 ?_; refine Z0e ?_; refine Z07 ?_; have H := Z0q H C_1 ▸ K_1; refine Z07 ?_; refine Z0e ?_; refine Z07 ?_; obtain ⟨rfl, rfl, rfl⟩ := ret3 H; exact Z0o rfl rfl rfl rfl (Res.tmp rfl) (Pick.cons tk0 (Pick.cons tk1 (Pick.cons tk1 (Pick.cons tk1 (Pick.cons tk1 (Pick.cons tk1 (Pick.cons tk1 (Pick.cons tk0 (Pick.cons tk6 (Pick.cons tk6 (Pick.cons tk6 Pick.nil))))))))))) ⟨ob8, n9, c10, j11, ob12, n13, c14, j15, ob16, n17, c18, j19, ob20, n21, c22, j23, ob24, n25, c26, j27, ob28, n29, c30, j31, ob236, n234, c235, j237, ob246, n244, c245, j247, ob256, n254, c255, j257, rfl, rfl, hn32, hc33, hj34, hz35, hn36, hc37, hj38, hz39, hn40, hc41, hj42, hz43, hn44, hc45, hj46, hz47, hn48, hc49, hj50, hz51, hn52, hc53, hj54, hz55, hn238, hc239, hj240, hz241, hn248, hc249, hj250, hz251, hn258, hc259, hj260, hz261⟩
       · refine Z1s rfl (Bool.eq_false_iff.2 g269) ?_; refine T.skip ?_; refine Z00 ?_; refine Z01 (ll := [0, 1]) rfl ?_; refine Z0c rfl rfl rfl rfl Z0y Zki rfl ?_; refine Z0s rfl rfl rfl rfl Zd1 Z2h rfl rfl rfl ?_; refine TO.done ?_; refine Z08 ?_; refine Z00 ?_; obtain ⟨g270, H⟩ := Z06 H; refine Z01 (ll := [0, 1]) rfl ?_; refine Z0x g270 rfl rfl rfl rfl rfl ?_; refine TO.move rfl rfl rfl rfl ?_; refine TO.done ?_; have H := Z16 H C_1; exact Zlf n_1 r266.N r266.S r266.T Res233 n234 c235 ob236 j237 Ex243 n244 c245 ob246 j247 H253 n254 c255 ob256 j257 (x134 + 1) ⟨H, hn238, hc239, hj240, hz241, hn248, hc249, hj250, hz251, hn258, hc259, hj260, hz261⟩ (Nat.lt_succ_self _) (AllF.cons rfl (AllF.cons rfl (AllF.cons rfl (AllF.cons rfl (AllF.cons rfl (AllF.cons rfl AllF.nil)))))) (Pick.cons tk1 (Pick.cons tk2 (Pick.cons tk2 (Pick.cons tk2 (Pick.cons tk2 (Pick.cons tk2 (Pick.cons tk2 (Pick.cons tk1 (Pick.cons tk6 (Pick.cons tk6 (Pick.cons tk6 (Pick.cons tk4 (Pick.cons tk0 Pick.nil)))))))))))))
    · refine Z0u rfl g135 ?_; refine T.exit ?_; refine Z0g ?_; have H := Z0q H C_1 ▸ K_1; refine Z0g ?_; refine Z0v ?_; exact X.metE18 N101 S102 T103 Res104 n105 c106 ob107 j108 Ex114 n115 c116 ob117 j118 H124 n125 c126 ob127 j128 ⟨H, hn109, hc110, hj111, hz112, hn119, hc120, hj121, hz122, hn129, hc130, hj131, hz132⟩ AllF.nil (Pick.cons tk0 (Pick.cons tk0 (Pick.cons tk0 (Pick.cons tk0 (Pick.cons tk0 (Pick.cons tk0 (Pick.cons tk0 (Pick.cons tk0 (Pick.cons tk0 (Pick.cons tk0 (Pick.cons tk0 Pick.nil)))))))))))
   · rintro N271 S272 T273 Res274 n275 c276 ob277 j278 Ex284 n285 c286 ob287 j288 H294 n295 c296 ob297 j298 ⟨H, hn279, hc280, hj281, hz282, hn289, hc290, hj291, hz292, hn299, hc300, hj301, hz302⟩; unfold Z2m at H; refine T.seq ?_; refine Z01 (ll := [0]) rfl ?_; refine TO.assign rfl rfl rfl rfl ?_; refine TO.done ?_; refine Z00 ?_; refine T.ret ?_; obtain ⟨rfl, rfl, rfl⟩ := ret3 H; exact Z0o rfl rfl rfl rfl (Res.tmp rfl) (Pick.cons tk0 (Pick.cons tk0 (Pick.cons tk0 (Pick.cons tk0 (Pick.cons tk0 (Pick.cons tk0 (Pick.cons tk0 (Pick.cons tk0 (Pick.cons tk0 (Pick.cons tk0 (Pick.cons tk0 Pick.nil))))))))))) ⟨ob8, n9, c10, j11, ob12, n13, c14, j15, ob16, n17, c18, j19, ob20, n21, c22, j23, ob24, n25, c26, j27, ob28, n29, c30, j31, ob277, n275, c276, j278, ob287, n285, c286, j288, ob297, n295, c296, j298, rfl, rfl, hn32, hc33, hj34, hz35, hn36, hc37, hj38, hz39, hn40, hc41, hj42, hz43, hn44, hc45, hj46, hz47, hn48, hc49, hj50, hz51, hn52, hc53, hj54, hz55, hn279, hc280, hj281, hz282, hn289, hc290, hj291, hz292, hn299, hc300, hj301, hz302⟩
theorem w_acequialaw07_PreWrong {n0 : Net} {moves1 : List Int} {at2 : Int} {which3 : Int} {n0f3_b : Option Addr} {n0f3_n : Nat} {n0f3_c : Nat} {moves1_b : Option Addr} {moves1_n : Nat} {moves1_c : Nat} (w : World) (h_n0f3 : RS w [] Zai 3 n0f3_b n0f3_n n0f3_c n0.Arcs) (h_moves1 : RS w [] (intC .u8) 1 moves1_b moves1_n moves1_c moves1) {r0 : Bool} (H : Z3v n0 moves1 at2 which3 = some r0) : Fnc Try.prog 7 #[.agg #[.int .i64 n0.N, .int .i64 n0.S, .int .i64 n0.T, .slice n0f3_b n0f3_n n0f3_c], .slice moves1_b moves1_n moves1_c, .int .u8 at2, .int .u8 which3] w [] (fun v N => v = .bool r0 ∧ N = []) := by
 unfold Z3v at H; refine Z0m (vs := [.agg #[.int .i64 n0.N, .int .i64 n0.S, .int .i64 n0.T, .slice n0f3_b n0f3_n n0f3_c], .slice moves1_b moves1_n moves1_c, .int .u8 at2, .int .u8 which3]) Try.func7 rfl rfl (Inv.refl w) ?_; refine T.seq ?_; refine Z01 (ll := [0, 1]) rfl ?_; refine Z18 rfl rfl rfl rfl ?_; intro b1; refine TO.assign rfl rfl rfl rfl ?_; refine TO.done ?_; refine Z00 ?_; refine T.seq ?_; obtain ⟨r3, e4, H⟩ := Z0b H; refine Z01 (ll := [0, 1, 2]) rfl ?_; refine Z0c rfl rfl rfl rfl Z9h mm0 rfl ?_; refine Z0d Zf4 rfl rfl rfl rfl (fun wc hwc => Ze1 (n0 := n0) (verts1 := 20) (arcs2 := 50) wc (h_n0f3.mono hwc) e4) ?_; rintro _ _ ⟨ob5, n6, c7, j8, rfl, rfl, hn9, hc10, hj11, hz12⟩; refine Z0s rfl rfl rfl rfl tk1 Zey rfl rfl rfl ?_; refine TO.done ?_; refine Z00 ?_; refine T.seq ?_; refine Z01 (ll := [0]) rfl ?_; refine Z13 rfl rfl rfl Zbs ?_; intro b14; refine TO.done ?_; refine Z00 ?_; refine T.seq ?_; refine Z01 (ll := [0]) rfl ?_; refine Z13 rfl rfl rfl Z3n ?_; intro b16; refine TO.done ?_; refine Z00 ?_; refine T.seq ?_; refine T.seq ?_; obtain ⟨g18, H⟩ := Z06 H; obtain ⟨⟨r19, r20, r21⟩, e22, H⟩ := Z0b H; refine Z4d 7 [0, 1, 2, 3, 4, 5, 6] rfl Z5f (by kernel_rfl) (by kernel_rfl) rfl (by kernel_rfl) ?_; refine TQ.loadA rfl rfl rfl rfl Z9h mm2 rfl ?_; refine TQ.move rfl rfl rfl rfl ?_; refine TQ.move rfl rfl rfl rfl ?_; refine Zg7 (xs := moves1) h_moves1.len rfl rfl rfl rfl rfl Z6z ?_; refine TQ.min2 rfl rfl rfl rfl rfl ?_; refine TQ.slH (xs := moves1) h_moves1.len h_moves1.cap g18 rfl rfl rfl rfl rfl Z6z Zca ?_; refine TQ.makeFunc rfl rfl rfl rfl rfl ?_; refine Z4c [7, 8] rfl rfl ?_; refine Zg9 Zf0 rfl rfl rfl rfl (Z05 tk1 (Z05 tk0 (Gone.refl _))) rfl (fun wc hwc => Z7n (n0 := r3) (moves1 := (moves1.take (min (moves1.length : Int) 40).toNat)) wc (hwc.self (Pick.cons tk1 (Pick.cons tk0 Pick.nil)) rfl) (hwc.rsM (f := Zai) (s := 3) (xs := r3.Arcs) (j := j8) (fun _ => rfl) (Z05 tk1 (Z05 tk0 (Gone.refl _))) rfl mm1 hn9 hc10 hz12) ((RS.take h_moves1 g18).monoM (by decide) hwc (Z05 tk1 (Z05 tk0 (Gone.refl _))) rfl) e22) ?_; rintro _ _ ⟨ob23, n24, c25, j26, ob27, n28, c29, j30, ob31, n32, c33, j34, ob35, n36, c37, j38, ob39, n40, c41, j42, ob43, n44, c45, j46, ob47, n48, c49, j50, ob51, n52, c53, j54, ob55, n56, c57, j58, rfl, rfl, hn59, hc60, hj61, hz62, hn63, hc64, hj65, hz66, hn67, hc68, hj69, hz70, hn71, hc72, hj73, hz74, hn75, hc76, hj77, hz78, hn79, hc80, hj81, hz82, hn83, hc84, hj85, hz86, hn87, hc88, hj89, hz90, hn91, hc92, hj93, hz94⟩; refine TO.not rfl rfl rfl rfl ?_; refine TO.done ?_; refine Z00 ?_; refine Z0f (AllF.cons (t := 2) rfl (AllF.cons (t := 3) rfl (AllF.cons (t := 9) rfl (AllF.cons (t := 10) rfl (AllF.cons (t := 30) rfl AllF.nil))))) ?_; rcases Z09 H with ⟨g104, H⟩ | ⟨g104, H⟩
 · refine Z10 rfl g104 ?_; refine T.seq ?_; refine Z01 (ll := [0]) rfl ?_; refine TO.assign rfl rfl rfl rfl ?_; refine TO.done ?_; refine Z00 ?_; refine T.ret ?_; refine Z07 ?_; obtain rfl := ret1 H; exact Z0o rfl rfl rfl rfl (Res.tmp rfl) Pick.nil ⟨rfl, rfl⟩
 ·
  refine Z1s rfl (Bool.eq_false_iff.2 g104) ?_; refine T.skip ?_; refine Z00 ?_; refine T.seq ?_; obtain ⟨⟨r105, r106, r107⟩, e108, H⟩ := Z0b H; refine Z01 (ll := [0, 1, 2, 3, 4, 5, 6, 7, 8, 9, 10, 11, 12, 13]) rfl ?_; refine Z0c rfl rfl rfl rfl Z1e mm0 rfl ?_; refine Z0c rfl rfl rfl rfl Z0y mm7 rfl ?_; refine Z02 rfl rfl rfl rfl Z62 ?_; refine Z04 rfl rfl rfl rfl Z4i mm7 rfl ?_; refine Z1m (xs := r21.Res) hn83 rfl rfl rfl rfl rfl Z2u ?_; refine Z0d Zbv rfl rfl rfl rfl (fun wc hwc => Zce (c0 := r20) (p1 := r21) (a2 := (r21.Res.length : Int)) wc (hwc.rs (f := (intC .i64)) (s := 1) (xs := r20.First) (j := j26) (fun _ => rfl) mm1 hn59 hc60 hz62) (hwc.rs (f := (intC .i64)) (s := 1) (xs := r20.Head) (j := j30) (fun _ => rfl) mm2 hn63 hc64 hz66) (hwc.rs (f := (intC .i64)) (s := 1) (xs := r20.Rev) (j := j34) (fun _ => rfl) mm3 hn67 hc68 hz70) (hwc.rs (f := (intC .i64)) (s := 1) (xs := r20.Cap) (j := j38) (fun _ => rfl) mm4 hn71 hc72 hz74) (hwc.rs (f := (intC .i64)) (s := 1) (xs := r20.Arc) (j := j42) (fun _ => rfl) mm5 hn75 hc76 hz78) (hwc.rs (f := boolC) (s := 1) (xs := r20.Back) (j := j46) (fun _ => rfl) mm6 hn79 hc80 hz82) (hwc.rs (f := (intC .i64)) (s := 1) (xs := r21.Res) (j := j50) (fun _ => rfl) mm8 hn83 hc84 hz86) (hwc.rs (f := (intC .i64)) (s := 1) (xs := r21.Ex) (j := j54) (fun _ => rfl) mm9 hn87 hc88 hz90) (hwc.rs (f := (intC .i64)) (s := 1) (xs := r21.H) (j := j58) (fun _ => rfl) Zkk hn91 hc92 hz94) e108) ?_; rintro _ _ ⟨ob109, n110, c111, j112, ob113, n114, c115, j116, ob117, n118, c119, j120, rfl, rfl, hn121, hc122, hj123, hz124, hn125, hc126, hj127, hz128, hn129, hc130, hj131, hz132⟩; refine TO.move rfl rfl rfl rfl ?_; refine TO.extract rfl rfl rfl rfl rfl ?_; refine TO.extract rfl rfl rfl rfl rfl ?_; refine TO.extract rfl rfl rfl rfl rfl ?_; refine Z13 rfl rfl rfl Z3n ?_; intro b136; refine Z0s rfl rfl rfl rfl tk0 Z2h rfl rfl rfl ?_; refine TO.assign rfl rfl rfl rfl ?_; refine TO.assign rfl rfl rfl rfl ?_; refine TO.done ?_; refine Z00 ?_; refine Z0f (AllF.cons (t := 2) rfl (AllF.cons (t := 3) rfl (AllF.cons (t := 9) rfl (AllF.cons (t := 10) rfl (AllF.cons (t := 13) rfl AllF.nil))))) ?_; refine T.seq ?_; obtain ⟨⟨r138, r139⟩, e140, H⟩ := Z0b H; refine Z01 (ll := [0, 1, 2, 3, 4, 5, 6, 7, 8, 9, 10]) rfl ?_; refine Z0c rfl rfl rfl rfl Z1e mm4 rfl ?_; refine Z0c rfl rfl rfl rfl Z0y Zl7 rfl ?_; refine Z02 rfl rfl rfl rfl Z86 ?_; refine Z04 rfl rfl rfl rfl Z2q mm4 rfl ?_; refine Z0d Z9g rfl rfl rfl rfl (fun wc hwc => Zcf (c0 := r20) (p1 := r21) (u2 := r20.N) wc (hwc.rs (f := (intC .i64)) (s := 1) (xs := r20.First) (j := j26) (fun _ => rfl) mm5 hn59 hc60 hz62) (hwc.rs (f := (intC .i64)) (s := 1) (xs := r20.Head) (j := j30) (fun _ => rfl) mm6 hn63 hc64 hz66) (hwc.rs (f := (intC .i64)) (s := 1) (xs := r20.Rev) (j := j34) (fun _ => rfl) mm7 hn67 hc68 hz70) (hwc.rs (f := (intC .i64)) (s := 1) (xs := r20.Cap) (j := j38) (fun _ => rfl) mm8 hn71 hc72 hz74) (hwc.rs (f := (intC .i64)) (s := 1) (xs := r20.Arc) (j := j42) (fun _ => rfl) mm9 hn75 hc76 hz78) (hwc.rs (f := boolC) (s := 1) (xs := r20.Back) (j := j46) (fun _ => rfl) Zkk hn79 hc80 hz82) (hwc.rs (f := (intC .i64)) (s := 1) (xs := r21.Res) (j := j50) (fun _ => rfl) Zkj hn83 hc84 hz86) (hwc.rs (f := (intC .i64)) (s := 1) (xs := r21.Ex) (j := j54) (fun _ => rfl) Zki hn87 hc88 hz90) (hwc.rs (f := (intC .i64)) (s := 1) (xs := r21.H) (j := j58) (fun _ => rfl) Zmo hn91 hc92 hz94) e140) ?_; rintro _ _ ⟨ob141, n142, c143, j144, ob145, n146, c147, j148, ob149, n150, c151, j152, rfl, rfl, hn153, hc154, hj155, hz156, hn157, hc158, hj159, hz160, hn161, hc162, hj163, hz164⟩; refine TO.move rfl rfl rfl rfl ?_; refine TO.extract rfl rfl rfl rfl rfl ?_; refine TO.extract rfl rfl rfl rfl rfl ?_; refine Z13 rfl rfl rfl Z3n ?_; intro b168; refine Z0s rfl rfl rfl rfl tk0 Z2h rfl rfl rfl ?_; refine TO.assign rfl rfl rfl rfl ?_; refine TO.done ?_; refine Z00 ?_; refine Z0f (AllF.cons (t := 2) rfl (AllF.cons (t := 3) rfl (AllF.cons (t := 9) rfl (AllF.cons (t := 10) rfl (AllF.cons (t := 13) rfl (AllF.cons (t := 15) rfl AllF.nil)))))) ?_; refine T.seq ?_; obtain ⟨⟨r170, r171⟩, e172, H⟩ := Z0b H; refine Z01 (ll := [0, 1, 2, 3, 4, 5, 6, 7, 8, 9, 10]) rfl ?_; refine Z0c rfl rfl rfl rfl Z1e mm8 rfl ?_; refine Z0c rfl rfl rfl rfl Z0y mm15 rfl ?_; refine Z02 rfl rfl rfl rfl Zaw ?_; refine Z04 rfl rfl rfl rfl Z2q mm8 rfl ?_; refine Z0d Z9g rfl rfl rfl rfl (fun wc hwc => Zcf (c0 := r20) (p1 := r21) (u2 := r20.S) wc (hwc.rs (f := (intC .i64)) (s := 1) (xs := r20.First) (j := j26) (fun _ => rfl) mm9 hn59 hc60 hz62) (hwc.rs (f := (intC .i64)) (s := 1) (xs := r20.Head) (j := j30) (fun _ => rfl) Zkk hn63 hc64 hz66) (hwc.rs (f := (intC .i64)) (s := 1) (xs := r20.Rev) (j := j34) (fun _ => rfl) Zl7 hn67 hc68 hz70) (hwc.rs (f := (intC .i64)) (s := 1) (xs := r20.Cap) (j := j38) (fun _ => rfl) Zkj hn71 hc72 hz74) (hwc.rs (f := (intC .i64)) (s := 1) (xs := r20.Arc) (j := j42) (fun _ => rfl) Zki hn75 hc76 hz78) (hwc.rs (f := boolC) (s := 1) (xs := r20.Back) (j := j46) (fun _ => rfl) Zmo hn79 hc80 hz82) (hwc.rs (f := (intC .i64)) (s := 1) (xs := r21.Res) (j := j50) (fun _ => rfl) mm16 hn83 hc84 hz86) (hwc.rs (f := (intC .i64)) (s := 1) (xs := r21.Ex) (j := j54) (fun _ => rfl) mm17 hn87 hc88 hz90) (hwc.rs (f := (intC .i64)) (s := 1) (xs := r21.H) (j := j58) (fun _ => rfl) mm18 hn91 hc92 hz94) e172) ?_; rintro _ _ ⟨ob173, n174, c175, j176, ob177, n178, c179, j180, ob181, n182, c183, j184, rfl, rfl, hn185, hc186, hj187, hz188, hn189, hc190, hj191, hz192, hn193, hc194, hj195, hz196⟩; refine TO.move rfl rfl rfl rfl ?_; refine TO.extract rfl rfl rfl rfl rfl ?_; refine TO.extract rfl rfl rfl rfl rfl ?_; refine Z13 rfl rfl rfl Z3n ?_; intro b200; refine Z0s rfl rfl rfl rfl tk0 Z2h rfl rfl rfl ?_; refine TO.assign rfl rfl rfl rfl ?_; refine TO.done ?_; refine Z00 ?_; refine Z0f (AllF.cons (t := 2) rfl (AllF.cons (t := 3) rfl (AllF.cons (t := 9) rfl (AllF.cons (t := 10) rfl (AllF.cons (t := 13) rfl (AllF.cons (t := 15) rfl (AllF.cons (t := 17) rfl AllF.nil))))))) ?_; refine T.seq ?_; refine T.seq ?_; rcases Z09 H with ⟨g202, H⟩ | ⟨g202, H⟩
  · refine Z01 (ll := [0, 1, 2, 3, 4, 5, 6, 7, 8, 9]) rfl ?_; refine TO.move rfl rfl rfl rfl ?_; refine Z0h rfl rfl rfl rfl rfl rfl ?_; refine TO.move rfl rfl rfl rfl ?_; refine Z0j (t := 59) (b' := true) rfl (decide_eq_true g202) ?_; refine Z03 rfl rfl rfl rfl ?_; refine Z03 rfl rfl rfl rfl ?_; refine Z0n rfl rfl rfl rfl rfl ?_; refine TO.move rfl rfl rfl rfl ?_; refine Z03 rfl rfl rfl rfl ?_; refine Z03 rfl rfl rfl rfl ?_; refine Z0n rfl rfl rfl rfl rfl ?_; refine TO.done ?_; refine Z00 ?_; refine Z0f (AllF.cons (t := 2) rfl (AllF.cons (t := 3) rfl (AllF.cons (t := 9) rfl (AllF.cons (t := 10) rfl (AllF.cons (t := 66) rfl AllF.nil))))) ?_; refine Z10 rfl rfl ?_; refine T.seq ?_; refine Z01 (ll := [0]) rfl ?_; refine TO.assign rfl rfl rfl rfl ?_; refine TO.done ?_; refine Z00 ?_; refine T.ret ?_; refine Z07 ?_; obtain rfl := ret1 H; exact Z0o rfl rfl rfl rfl (Res.tmp rfl) Pick.nil ⟨rfl, rfl⟩
  ·
   rcases Z09 H with ⟨g203, H⟩ | ⟨g203, H⟩
   · refine Z01 (ll := [0, 1, 2, 3, 4, 5, 6, 7, 8, 9]) rfl ?_; refine TO.move rfl rfl rfl rfl ?_; refine Z0h rfl rfl rfl rfl rfl rfl ?_; refine TO.move rfl rfl rfl rfl ?_; refine Z0j (t := 59) (b' := false) rfl (decide_eq_false g202) ?_; refine TO.move rfl rfl rfl rfl ?_; refine Z0h rfl rfl rfl rfl rfl rfl ?_; refine Z0r rfl rfl rfl rfl rfl ?_; refine TO.move rfl rfl rfl rfl ?_; refine Z0j (t := 63) (b' := true) rfl (decide_eq_true g203) ?_; refine Z03 rfl rfl rfl rfl ?_; refine Z03 rfl rfl rfl rfl ?_; refine Z0n rfl rfl rfl rfl rfl ?_; refine TO.done ?_; refine Z00 ?_; refine Z0f (AllF.cons (t := 2) rfl (AllF.cons (t := 3) rfl (AllF.cons (t := 9) rfl (AllF.cons (t := 10) rfl (AllF.cons (t := 66) rfl AllF.nil))))) ?_; refine Z10 rfl rfl ?_; refine T.seq ?_; refine Z01 (ll := [0]) rfl ?_; refine TO.assign rfl rfl rfl rfl ?_; refine TO.done ?_; refine Z00 ?_; refine T.ret ?_; refine Z07 ?_; obtain rfl := ret1 H; exact Z0o rfl rfl rfl rfl (Res.tmp rfl) Pick.nil ⟨rfl, rfl⟩
   ·
    refine Z01 (ll := [0, 1, 2, 3, 4, 5, 6, 7, 8, 9]) rfl ?_; refine TO.move rfl rfl rfl rfl ?_; refine Z0h rfl rfl rfl rfl rfl rfl ?_; refine TO.move rfl rfl rfl rfl ?_; refine Z0j (t := 59) (b' := false) rfl (decide_eq_false g202) ?_; refine TO.move rfl rfl rfl rfl ?_; refine Z0h rfl rfl rfl rfl rfl rfl ?_; refine Z0r rfl rfl rfl rfl rfl ?_; refine TO.move rfl rfl rfl rfl ?_; refine Z0j (t := 63) (b' := false) rfl (decide_eq_false g203) ?_; refine TO.move rfl rfl rfl rfl ?_; refine Z0h rfl rfl rfl rfl rfl rfl ?_; refine Z0r rfl rfl rfl rfl rfl ?_; refine TO.done ?_; refine Z00 ?_; refine Z0f (AllF.cons (t := 2) rfl (AllF.cons (t := 3) rfl (AllF.cons (t := 9) rfl (AllF.cons (t := 10) rfl (AllF.cons (t := 66) rfl AllF.nil))))) ?_; rcases Z09 H with ⟨g204, H⟩ | ⟨g204, H⟩
    · refine Z0t rfl g204 ?_; refine T.seq ?_; refine Z01 (ll := [0]) rfl ?_; refine TO.assign rfl rfl rfl rfl ?_; refine TO.done ?_; refine Z00 ?_; refine T.ret ?_; refine Z07 ?_; obtain rfl := ret1 H; exact Z0o rfl rfl rfl rfl (Res.tmp rfl) Pick.nil ⟨rfl, rfl⟩
    ·
     refine Z0u rfl g204 ?_; refine T.skip ?_; refine Z00 ?_; refine T.seq ?_; obtain ⟨r205, e206, H⟩ := Z0b H; refine Z01 (ll := [0, 1, 2, 3]) rfl ?_; refine Z0c rfl rfl rfl rfl Z0y mm19 rfl ?_; refine Z0d Zf2 rfl rfl rfl rfl (fun wc hwc => Ze0 (p0 := r21) wc (hwc.rs (f := (intC .i64)) (s := 1) (xs := r21.Res) (j := j50) (fun _ => rfl) mm20 hn83 hc84 hz86) (hwc.rs (f := (intC .i64)) (s := 1) (xs := r21.Ex) (j := j54) (fun _ => rfl) mm21 hn87 hc88 hz90) (hwc.rs (f := (intC .i64)) (s := 1) (xs := r21.H) (j := j58) (fun _ => rfl) mm22 hn91 hc92 hz94) e206) ?_; rintro _ _ ⟨ob207, n208, c209, j210, ob211, n212, c213, j214, ob215, n216, c217, j218, rfl, rfl, hn219, hc220, hj221, hz222, hn223, hc224, hj225, hz226, hn227, hc228, hj229, hz230⟩; refine Z13 rfl rfl rfl Z3n ?_; intro b234; refine Z0s rfl rfl rfl rfl tk0 Z2h rfl rfl rfl ?_; refine TO.done ?_; refine Z00 ?_; refine T.seq ?_; obtain ⟨g236, H⟩ := Z06 H; obtain ⟨g237, H⟩ := Z06 H; refine Z01 (ll := [0, 1, 2, 3, 4, 5]) rfl ?_; refine TO.move rfl rfl rfl rfl ?_; refine Zdw rfl rfl rfl rfl Zad Zae (Z4u g236.1 g236.2) ?_; refine Z02 rfl rfl rfl rfl Z86 ?_; refine Z04 rfl rfl rfl rfl Z2q mm16 rfl ?_; refine TO.rem rfl rfl rfl rfl rfl g237 ?_; refine TO.assign rfl rfl rfl rfl ?_; refine TO.done ?_; refine Z00 ?_; refine Z0f (AllF.cons (t := 2) rfl (AllF.cons (t := 3) rfl (AllF.cons (t := 9) rfl (AllF.cons (t := 10) rfl (AllF.cons (t := 18) rfl (AllF.cons (t := 19) rfl AllF.nil)))))) ?_; refine T.seq ?_; refine T.seq ?_; refine Z01 (ll := [0, 1]) rfl ?_; refine TO.move rfl rfl rfl rfl ?_; refine TO.rem rfl rfl rfl rfl rfl (by decide) ?_; refine TO.done ?_; refine Z00 ?_; refine Zou (fun (xs272 : List Int) (Ex274 : List Int) (n275 : Nat) (c276 : Nat) (ob277 : Option Nat) (j278 : List Value) (xs284 : List Int) => Z12 r20 r21 xs272 Ex274 xs284 = some r0 ∧ xs272.length = n208 ∧ Ex274.length = n275 ∧ n275 ≤ c276 ∧ j278.length = (c276 - n275) * 1 ∧ (ob277 = none → c276 = 0) ∧ xs284.length = n216) (fun (xs272 : List Int) (Ex274 : List Int) (n275 : Nat) (c276 : Nat) (ob277 : Option Nat) (j278 : List Value) (xs284 : List Int) => [(9, .pointer (some ⟨b14, 0, none⟩)), (10, .pointer (some ⟨b16, 0, none⟩)), (18, .pointer (some ⟨b234, 0, none⟩))]) (fun (xs272 : List Int) (Ex274 : List Int) (n275 : Nat) (c276 : Nat) (ob277 : Option Nat) (j278 : List Value) (xs284 : List Int) => [(some b14, .cells #[.int .i64 r20.N, .int .i64 r20.S, .int .i64 r20.T, .slice (sb ob23) n24 c25, .slice (sb ob27) n28 c29, .slice (sb ob31) n32 c33, .slice (sb ob35) n36 c37, .slice (sb ob39) n40 c41, .slice (sb ob43) n44 c45] 32 (0, 0)), (ob23, .cells (arr (intC .i64) r20.First j26).toArray 3 (0, 0)), (ob27, .cells (arr (intC .i64) r20.Head j30).toArray 3 (0, 0)), (ob31, .cells (arr (intC .i64) r20.Rev j34).toArray 3 (0, 0)), (ob35, .cells (arr (intC .i64) r20.Cap j38).toArray 2 (0, 0)), (ob39, .cells (arr (intC .i64) r20.Arc j42).toArray 3 (0, 0)), (ob43, .cells (arr boolC r20.Back j46).toArray 4 (0, 0)), (some b16, .cells #[.slice (sb ob47) n48 c49, .slice (sb ob51) n52 c53, .slice (sb ob55) n56 c57] 29 (0, 0)), (ob47, .cells (arr (intC .i64) r21.Res j50).toArray 2 (0, 0)), (ob51, .cells (arr (intC .i64) r21.Ex j54).toArray 2 (0, 0)), (ob55, .cells (arr (intC .i64) r21.H j58).toArray 3 (0, 0)), (some b234, .cells #[.slice (sb ob207) n208 c209, .slice (sb ob277) n275 c276, .slice (sb ob215) n216 c217] 29 (0, 0)), (ob207, .cells (arr (intC .i64) xs272 j210).toArray 2 (0, 0)), (ob277, .cells (arr (intC .i64) Ex274 j278).toArray 2 (0, 0)), (ob215, .cells (arr (intC .i64) xs284 j218).toArray 3 (0, 0))]) ?_ ?_
     ·
      refine T.block ?_; refine T.seq ?_; refine Z01 (ll := [0, 1]) rfl ?_; refine Z0h rfl rfl rfl rfl rfl rfl ?_; refine TO.assign rfl rfl rfl rfl ?_; refine TO.done ?_; refine Z00 ?_; rcases Z09 H with ⟨g238, H⟩ | ⟨g238, H⟩
      · refine Z0t rfl g238 ?_; obtain ⟨g239, H⟩ := Z06 H; obtain ⟨g240, H⟩ := Z06 H; obtain ⟨g241, H⟩ := Z06 H; refine Z01 (ll := [0, 1, 2, 3, 4, 5, 6, 7]) rfl ?_; refine Z02 rfl rfl rfl rfl Z88 ?_; refine Z04 rfl rfl rfl rfl Z4i mm0 rfl ?_; refine TO.move rfl rfl rfl rfl ?_; refine Z4z hz226 hc224 hn223 g239 rfl rfl rfl rfl rfl Z2u Z3f ?_; refine Z8p hz226 hc224 hn223 g239 rfl rfl rfl rfl Zc9 mm2 ?_; refine Z0x g240 rfl rfl rfl rfl rfl ?_; refine Z4z hz226 hc224 hn223 g241 rfl rfl rfl rfl rfl Z2u Z3f ?_; refine Z8a hz226 hc224 hn223 g241 rfl rfl rfl rfl tk2 Z3f ?_; refine TO.done ?_; refine Z08 ?_; exact Ze7 r205.Res (r205.Ex.set (at2.tmod r20.N).toNat ((r205.Ex.getD (at2.tmod r20.N).toNat 0) + 1)) n212 c213 ob211 j214 r205.H ⟨H, hn219, (List.length_set.trans hn223), hc224, hj225, hz226, hn227⟩ (AllF.cons rfl (AllF.cons rfl (AllF.cons rfl AllF.nil))) (Pick.cons Z8f (Pick.cons Z8f (Pick.cons Z8f (Pick.cons Z8f (Pick.cons Z8f (Pick.cons Z8f (Pick.cons Z8f (Pick.cons Z8f (Pick.cons Z8f (Pick.cons Z8f (Pick.cons Z8f (Pick.cons tk1 (Pick.cons tk1 (Pick.cons tk0 (Pick.cons tk0 Pick.nil)))))))))))))))
      ·
       refine Z0u rfl g238 ?_; refine T.seq ?_; refine Z01 (ll := [0, 1]) rfl ?_; refine Z0h rfl rfl rfl rfl rfl rfl ?_; refine TO.assign rfl rfl rfl rfl ?_; refine TO.done ?_; refine Z00 ?_; rcases Z09 H with ⟨g242, H⟩ | ⟨g242, H⟩
       · refine Z0t rfl g242 ?_; obtain ⟨g243, H⟩ := Z06 H; obtain ⟨g244, H⟩ := Z06 H; obtain ⟨g245, H⟩ := Z06 H; refine Z01 (ll := [0, 1, 2, 3, 4, 5, 6, 7, 8]) rfl ?_; refine Z02 rfl rfl rfl rfl Z87 ?_; refine Z04 rfl rfl rfl rfl Z9e mm0 rfl ?_; refine Z02 rfl rfl rfl rfl Zaw ?_; refine Z04 rfl rfl rfl rfl Z2q mm16 rfl ?_; refine Z4z hz230 hc228 hn227 g243 rfl rfl rfl rfl rfl Z1i Z2r ?_; refine Z8p hz230 hc228 hn227 g243 rfl rfl rfl rfl Z2q mm3 ?_; refine Z0x g244 rfl rfl rfl rfl rfl ?_; refine Z4z hz230 hc228 hn227 g245 rfl rfl rfl rfl rfl Z1i Z2r ?_; refine Z8a hz230 hc228 hn227 g245 rfl rfl rfl rfl tk3 Z2r ?_; refine TO.done ?_; refine Z08 ?_; exact Ze7 r205.Res r205.Ex n212 c213 ob211 j214 (r205.H.set r20.S.toNat ((r205.H.getD r20.S.toNat 0) + 1)) ⟨H, hn219, hn223, hc224, hj225, hz226, (List.length_set.trans hn227)⟩ (AllF.cons rfl (AllF.cons rfl (AllF.cons rfl AllF.nil))) (Pick.cons Z8f (Pick.cons Z8f (Pick.cons Z8f (Pick.cons Z8f (Pick.cons Z8f (Pick.cons Z8f (Pick.cons Z8f (Pick.cons Z8f (Pick.cons Z8f (Pick.cons Z8f (Pick.cons Z8f (Pick.cons tk1 (Pick.cons tk1 (Pick.cons tk1 (Pick.cons tk0 Pick.nil)))))))))))))))
       ·
        refine Z0u rfl g242 ?_; refine T.seq ?_; refine Z01 (ll := [0, 1]) rfl ?_; refine Z0h rfl rfl rfl rfl rfl rfl ?_; refine TO.assign rfl rfl rfl rfl ?_; refine TO.done ?_; refine Z00 ?_; rcases Z09 H with ⟨g246, H⟩ | ⟨g246, H⟩
        · refine Z0t rfl g246 ?_; obtain ⟨g247, H⟩ := Z06 H; obtain ⟨g248, H⟩ := Z06 H; obtain ⟨g249, H⟩ := Z06 H; refine Z01 (ll := [0, 1, 2, 3, 4, 5, 6, 7, 8]) rfl ?_; refine Z02 rfl rfl rfl rfl Z87 ?_; refine Z04 rfl rfl rfl rfl Z9e mm0 rfl ?_; refine Z02 rfl rfl rfl rfl Zdt ?_; refine Z04 rfl rfl rfl rfl Z2q mm16 rfl ?_; refine Z4z hz230 hc228 hn227 g247 rfl rfl rfl rfl rfl Z1i Z2r ?_; refine Z8p hz230 hc228 hn227 g247 rfl rfl rfl rfl Z2q mm3 ?_; refine Z0x g248 rfl rfl rfl rfl rfl ?_; refine Z4z hz230 hc228 hn227 g249 rfl rfl rfl rfl rfl Z1i Z2r ?_; refine Z8a hz230 hc228 hn227 g249 rfl rfl rfl rfl tk3 Z2r ?_; refine TO.done ?_; refine Z08 ?_; exact Ze7 r205.Res r205.Ex n212 c213 ob211 j214 (r205.H.set r20.T.toNat ((r205.H.getD r20.T.toNat 0) + 1)) ⟨H, hn219, hn223, hc224, hj225, hz226, (List.length_set.trans hn227)⟩ (AllF.cons rfl (AllF.cons rfl (AllF.cons rfl AllF.nil))) (Pick.cons Z8f (Pick.cons Z8f (Pick.cons Z8f (Pick.cons Z8f (Pick.cons Z8f (Pick.cons Z8f (Pick.cons Z8f (Pick.cons Z8f (Pick.cons Z8f (Pick.cons Z8f (Pick.cons Z8f (Pick.cons tk1 (Pick.cons tk1 (Pick.cons tk1 (Pick.cons tk0 Pick.nil)))))))))))))))
        ·
         refine Z0u rfl g246 ?_; refine T.seq ?_; refine Z01 (ll := [0, 1]) rfl ?_; refine Z0h rfl rfl rfl rfl rfl rfl ?_; refine TO.assign rfl rfl rfl rfl ?_; refine TO.done ?_; refine Z00 ?_; refine Z0f (AllF.cons (t := 2) rfl (AllF.cons (t := 9) rfl (AllF.cons (t := 10) rfl (AllF.cons (t := 18) rfl (AllF.cons (t := 19) rfl (AllF.cons (t := 75) rfl (AllF.cons (t := 122) rfl AllF.nil))))))) ?_; rcases Z09 H with ⟨g250, H⟩ | ⟨g250, H⟩
         · refine Z0t rfl g250 ?_; obtain ⟨g251, H⟩ := Z06 H; obtain ⟨g252, H⟩ := Z06 H; refine Z01 (ll := [0, 1, 2, 3, 4, 5, 6, 7]) rfl ?_; refine Z02 rfl rfl rfl rfl Z87 ?_; refine Z04 rfl rfl rfl rfl Z9e mm0 rfl ?_; refine TO.move rfl rfl rfl rfl ?_; refine Z02 rfl rfl rfl rfl Z86 ?_; refine Z04 rfl rfl rfl rfl Z2q mm16 rfl ?_; refine Zk9 g251 rfl rfl rfl rfl rfl ?_; refine Z4z hz230 hc228 hn227 g252 rfl rfl rfl rfl rfl Z1i Z2r ?_; refine Z8a hz230 hc228 hn227 g252 rfl rfl rfl rfl tk3 Z2r ?_; refine TO.done ?_; refine Z08 ?_; exact Ze7 r205.Res r205.Ex n212 c213 ob211 j214 (r205.H.set (at2.tmod r20.N).toNat (2 * r20.N)) ⟨H, hn219, hn223, hc224, hj225, hz226, (List.length_set.trans hn227)⟩ (AllF.cons rfl (AllF.cons rfl (AllF.cons rfl AllF.nil))) (Pick.cons Z8f (Pick.cons Z8f (Pick.cons Z8f (Pick.cons Z8f (Pick.cons Z8f (Pick.cons Z8f (Pick.cons Z8f (Pick.cons Z8f (Pick.cons Z8f (Pick.cons Z8f (Pick.cons Z8f (Pick.cons tk1 (Pick.cons tk1 (Pick.cons tk1 (Pick.cons tk0 Pick.nil)))))))))))))))
         ·
          refine Z0u rfl g250 ?_; refine T.seq ?_; refine Z01 (ll := [0, 1]) rfl ?_; refine Z0h rfl rfl rfl rfl rfl rfl ?_; refine TO.assign rfl rfl rfl rfl ?_; refine TO.done ?_; refine Z00 ?_; rcases Z09 H with ⟨g253, H⟩ | ⟨g253, H⟩
          · refine Z0t rfl g253 ?_; obtain ⟨g256, H⟩ := Z06 H; refine Z01 (ll := [0, 1, 2, 3, 4, 5]) rfl ?_; refine Z02 rfl rfl rfl rfl Z88 ?_; refine Z04 rfl rfl rfl rfl Z4i mm0 rfl ?_; refine Z17 [.int .i64 0] [0] rfl rfl rfl rfl Z2u Z3f Zc8 rfl rfl (by simp only [Z2b, setCells, Value.cells, List.toList_toArray, List.getD_cons_zero, List.getD_cons_succ, List.set_cons_zero, List.set_cons_succ]; rfl) (by kernel_rfl) ?_; intro b254; refine Z8g (f := (intC .i64)) (s := 1) (xs := r205.Ex) (ob := ob211) (j := j214) (ys := [0]) (fun _ => rfl) (fun _ => rfl) Zew g256 rfl rfl rfl rfl rfl tk3 hn223 hc224 hj225 hz226 (fun wc hwc => (hwc.rs (f := (intC .i64)) (s := 1) (xs := [0]) (j := ([])) (fun _ => rfl) mm0 rfl (Nat.le_refl _) Z4b)) ?_; intro ob257 c258 j259 hc260 hj261 hz262; refine Z02 rfl rfl rfl rfl Z88 ?_; refine Z0z (cs' := [.slice (sb ob207) n208 c209, .slice (sb ob257) (n212 + 1) c258, .slice (sb ob215) n216 c217]) rfl rfl rfl rfl tk2 Zex rfl rfl rfl ?_; refine TO.done ?_; refine Z08 ?_; exact Ze7 r205.Res (r205.Ex ++ ([0])) (n212 + 1) c258 ob257 j259 r205.H ⟨H, hn219, (Z94 hn223 rfl), hc260, hj261, hz262, hn227⟩ (AllF.cons rfl (AllF.cons rfl (AllF.cons rfl AllF.nil))) (Pick.cons Zmw (Pick.cons Zmw (Pick.cons Zmw (Pick.cons Zmw (Pick.cons Zmw (Pick.cons Zmw (Pick.cons Zmw (Pick.cons Zmw (Pick.cons Zmw (Pick.cons Zmw (Pick.cons Zmw (Pick.cons tk0 (Pick.cons tk2 (Pick.cons tk0 (Pick.cons tk1 Pick.nil)))))))))))))))
          ·
           refine Z0u rfl g253 ?_; refine T.seq ?_; refine T.seq ?_; refine Z01 (ll := [0, 1, 2, 3]) rfl ?_; refine Z02 rfl rfl rfl rfl Z62 ?_; refine Z04 rfl rfl rfl rfl Z4i mm0 rfl ?_; refine Z1m (xs := r205.Res) hn219 rfl rfl rfl rfl rfl Z2u ?_; refine Z0h rfl rfl rfl rfl rfl rfl ?_; refine TO.done ?_; refine Z00 ?_; refine Z0f (AllF.cons (t := 2) rfl (AllF.cons (t := 9) rfl (AllF.cons (t := 10) rfl (AllF.cons (t := 18) rfl (AllF.cons (t := 79) rfl AllF.nil))))) ?_; rcases Z09 H with ⟨g264, H⟩ | ⟨g264, H⟩
           · refine Z0t rfl g264 ?_; refine T.seq ?_; obtain ⟨r265, e266, H⟩ := Z0b H; refine Z01 (ll := [0, 1]) rfl ?_; refine Z0d Zbu rfl rfl rfl rfl (fun wc hwc => Z9k  wc  e266) ?_; rintro _ _ ⟨rfl, rfl⟩; refine TO.assign rfl rfl rfl rfl ?_; refine TO.done ?_; refine Z00 ?_; refine T.ret ?_; refine Z07 ?_; refine Z0e ?_; refine Z07 ?_; obtain rfl := ret1 H; exact Z0o rfl rfl rfl rfl (Res.tmp rfl) Pick.nil ⟨rfl, rfl⟩
           · refine Z0u rfl g264 ?_; refine T.skip ?_; refine Z00 ?_; obtain ⟨g267, H⟩ := Z06 H; obtain ⟨g268, H⟩ := Z06 H; obtain ⟨g269, H⟩ := Z06 H; obtain ⟨g270, H⟩ := Z06 H; obtain ⟨g271, H⟩ := Z06 H; refine Z4d 8 [0, 1, 2, 3, 4, 5, 6, 7] rfl Z5f (by kernel_rfl) (by kernel_rfl) rfl (by kernel_rfl) ?_; refine Z0i rfl rfl rfl rfl Z62 ?_; refine Z1t rfl rfl rfl rfl Z4i mm0 rfl ?_; refine TQ.move rfl rfl rfl rfl ?_; refine Zoo rfl rfl rfl rfl Zad Zae (Z4u g267.1 g267.2) ?_; refine Z0i rfl rfl rfl rfl Z62 ?_; refine Z1t rfl rfl rfl rfl Z4i mm0 rfl ?_; refine Zg7 (xs := r205.Res) hn219 rfl rfl rfl rfl rfl Z2u ?_; refine TQ.rem rfl rfl rfl rfl rfl g268 ?_; refine Z4c [8, 9, 10, 11, 12] rfl rfl ?_; refine Z4z hz222 hc220 hn219 g269 rfl rfl rfl rfl rfl Z2u Z3f ?_; refine Z8p hz222 hc220 hn219 g269 rfl rfl rfl rfl Zc9 mm1 ?_; refine Z0x g270 rfl rfl rfl rfl rfl ?_; refine Z4z hz222 hc220 hn219 g271 rfl rfl rfl rfl rfl Z2u Z3f ?_; refine Z8a hz222 hc220 hn219 g271 rfl rfl rfl rfl tk1 Z3f ?_; refine TO.done ?_; refine Z08 ?_; exact Ze7 (r205.Res.set (at2.tmod (r205.Res.length : Int)).toNat ((r205.Res.getD (at2.tmod (r205.Res.length : Int)).toNat 0) + 1)) r205.Ex n212 c213 ob211 j214 r205.H ⟨H, (List.length_set.trans hn219), hn223, hc224, hj225, hz226, hn227⟩ (AllF.cons rfl (AllF.cons rfl (AllF.cons rfl AllF.nil))) (Pick.cons Z8f (Pick.cons Z8f (Pick.cons Z8f (Pick.cons Z8f (Pick.cons Z8f (Pick.cons Z8f (Pick.cons Z8f (Pick.cons Z8f (Pick.cons Z8f (Pick.cons Z8f (Pick.cons Z8f (Pick.cons tk1 (Pick.cons tk0 (Pick.cons tk0 (Pick.cons tk0 Pick.nil)))))))))))))))
     ·
      rintro xs272 Ex274 n275 c276 ob277 j278 xs284 ⟨H, hn273, hn279, hc280, hj281, hz282, hn285⟩; unfold Z12 at H; refine T.seq ?_; obtain ⟨r286, e287, H⟩ := Z0b H; rcases Z09 H with ⟨g288, H⟩ | ⟨g288, H⟩
      ·
       obtain ⟨r289, e290, H⟩ := Z0b H; rcases Z09 H with ⟨g291, H⟩ | ⟨g291, H⟩
       · obtain ⟨r292, e293, H⟩ := Z0b H; refine Z01 (ll := [0, 1, 2, 3, 4, 5, 6, 7, 8, 9, 10, 11, 12]) rfl ?_; refine Z0c rfl rfl rfl rfl Z1e mm0 rfl ?_; refine Z0c rfl rfl rfl rfl Z0y Zl7 rfl ?_; refine Z0d Z5t rfl rfl rfl rfl (fun wc hwc => Z8h (c0 := r20) (p1 := (Pre.mk xs272 Ex274 xs284)) wc (hwc.rs (f := (intC .i64)) (s := 1) (xs := r20.First) (j := j26) (fun _ => rfl) mm1 hn59 hc60 hz62) (hwc.rs (f := (intC .i64)) (s := 1) (xs := r20.Head) (j := j30) (fun _ => rfl) mm2 hn63 hc64 hz66) (hwc.rs (f := (intC .i64)) (s := 1) (xs := r20.Rev) (j := j34) (fun _ => rfl) mm3 hn67 hc68 hz70) (hwc.rs (f := (intC .i64)) (s := 1) (xs := r20.Cap) (j := j38) (fun _ => rfl) mm4 hn71 hc72 hz74) (hwc.rs (f := (intC .i64)) (s := 1) (xs := r20.Arc) (j := j42) (fun _ => rfl) mm5 hn75 hc76 hz78) (hwc.rs (f := boolC) (s := 1) (xs := r20.Back) (j := j46) (fun _ => rfl) mm6 hn79 hc80 hz82) (hwc.rs (f := (intC .i64)) (s := 1) (xs := xs272) (j := j210) (fun _ => rfl) Zkj hn273 hc220 hz222) (hwc.rs (f := (intC .i64)) (s := 1) (xs := Ex274) (j := j278) (fun _ => rfl) Zki hn279 hc280 hz282) (hwc.rs (f := (intC .i64)) (s := 1) (xs := xs284) (j := j218) (fun _ => rfl) Zmo hn285 hc228 hz230) e287) ?_; rintro _ _ ⟨rfl, rfl⟩; refine TO.not rfl rfl rfl rfl ?_; refine TO.move rfl rfl rfl rfl ?_; refine Z0j (t := 142) (b' := true) rfl g288 ?_; refine Z0c rfl rfl rfl rfl Z1e mm0 rfl ?_; refine Z0c rfl rfl rfl rfl Z0y mm7 rfl ?_; refine Z0d Z5t rfl rfl rfl rfl (fun wc hwc => Z8h (c0 := r20) (p1 := r21) wc (hwc.rs (f := (intC .i64)) (s := 1) (xs := r20.First) (j := j26) (fun _ => rfl) mm1 hn59 hc60 hz62) (hwc.rs (f := (intC .i64)) (s := 1) (xs := r20.Head) (j := j30) (fun _ => rfl) mm2 hn63 hc64 hz66) (hwc.rs (f := (intC .i64)) (s := 1) (xs := r20.Rev) (j := j34) (fun _ => rfl) mm3 hn67 hc68 hz70) (hwc.rs (f := (intC .i64)) (s := 1) (xs := r20.Cap) (j := j38) (fun _ => rfl) mm4 hn71 hc72 hz74) (hwc.rs (f := (intC .i64)) (s := 1) (xs := r20.Arc) (j := j42) (fun _ => rfl) mm5 hn75 hc76 hz78) (hwc.rs (f := boolC) (s := 1) (xs := r20.Back) (j := j46) (fun _ => rfl) mm6 hn79 hc80 hz82) (hwc.rs (f := (intC .i64)) (s := 1) (xs := r21.Res) (j := j50) (fun _ => rfl) mm8 hn83 hc84 hz86) (hwc.rs (f := (intC .i64)) (s := 1) (xs := r21.Ex) (j := j54) (fun _ => rfl) mm9 hn87 hc88 hz90) (hwc.rs (f := (intC .i64)) (s := 1) (xs := r21.H) (j := j58) (fun _ => rfl) Zkk hn91 hc92 hz94) e290) ?_; rintro _ _ ⟨rfl, rfl⟩; refine Z0n rfl rfl rfl rfl rfl ?_; refine TO.move rfl rfl rfl rfl ?_; refine Z0j (t := 147) (b' := true) rfl g291 ?_; refine Z0d Zbu rfl rfl rfl rfl (fun wc hwc => Z9k  wc  e293) ?_; rintro _ _ ⟨rfl, rfl⟩; refine Z0n rfl rfl rfl rfl rfl ?_; refine TO.assign rfl rfl rfl rfl ?_; refine TO.done ?_; refine Z00 ?_; refine Z0f (AllF.cons (t := 8) rfl AllF.nil) ?_; refine T.ret ?_; obtain rfl := ret1 H; exact Z0o rfl rfl rfl rfl (Res.tmp rfl) Pick.nil ⟨rfl, rfl⟩
       · refine Z01 (ll := [0, 1, 2, 3, 4, 5, 6, 7, 8, 9, 10, 11, 12]) rfl ?_; refine Z0c rfl rfl rfl rfl Z1e mm0 rfl ?_; refine Z0c rfl rfl rfl rfl Z0y Zl7 rfl ?_; refine Z0d Z5t rfl rfl rfl rfl (fun wc hwc => Z8h (c0 := r20) (p1 := (Pre.mk xs272 Ex274 xs284)) wc (hwc.rs (f := (intC .i64)) (s := 1) (xs := r20.First) (j := j26) (fun _ => rfl) mm1 hn59 hc60 hz62) (hwc.rs (f := (intC .i64)) (s := 1) (xs := r20.Head) (j := j30) (fun _ => rfl) mm2 hn63 hc64 hz66) (hwc.rs (f := (intC .i64)) (s := 1) (xs := r20.Rev) (j := j34) (fun _ => rfl) mm3 hn67 hc68 hz70) (hwc.rs (f := (intC .i64)) (s := 1) (xs := r20.Cap) (j := j38) (fun _ => rfl) mm4 hn71 hc72 hz74) (hwc.rs (f := (intC .i64)) (s := 1) (xs := r20.Arc) (j := j42) (fun _ => rfl) mm5 hn75 hc76 hz78) (hwc.rs (f := boolC) (s := 1) (xs := r20.Back) (j := j46) (fun _ => rfl) mm6 hn79 hc80 hz82) (hwc.rs (f := (intC .i64)) (s := 1) (xs := xs272) (j := j210) (fun _ => rfl) Zkj hn273 hc220 hz222) (hwc.rs (f := (intC .i64)) (s := 1) (xs := Ex274) (j := j278) (fun _ => rfl) Zki hn279 hc280 hz282) (hwc.rs (f := (intC .i64)) (s := 1) (xs := xs284) (j := j218) (fun _ => rfl) Zmo hn285 hc228 hz230) e287) ?_; rintro _ _ ⟨rfl, rfl⟩; refine TO.not rfl rfl rfl rfl ?_; refine TO.move rfl rfl rfl rfl ?_; refine Z0j (t := 142) (b' := true) rfl g288 ?_; refine Z0c rfl rfl rfl rfl Z1e mm0 rfl ?_; refine Z0c rfl rfl rfl rfl Z0y mm7 rfl ?_; refine Z0d Z5t rfl rfl rfl rfl (fun wc hwc => Z8h (c0 := r20) (p1 := r21) wc (hwc.rs (f := (intC .i64)) (s := 1) (xs := r20.First) (j := j26) (fun _ => rfl) mm1 hn59 hc60 hz62) (hwc.rs (f := (intC .i64)) (s := 1) (xs := r20.Head) (j := j30) (fun _ => rfl) mm2 hn63 hc64 hz66) (hwc.rs (f := (intC .i64)) (s := 1) (xs := r20.Rev) (j := j34) (fun _ => rfl) mm3 hn67 hc68 hz70) (hwc.rs (f := (intC .i64)) (s := 1) (xs := r20.Cap) (j := j38) (fun _ => rfl) mm4 hn71 hc72 hz74) (hwc.rs (f := (intC .i64)) (s := 1) (xs := r20.Arc) (j := j42) (fun _ => rfl) mm5 hn75 hc76 hz78) (hwc.rs (f := boolC) (s := 1) (xs := r20.Back) (j := j46) (fun _ => rfl) mm6 hn79 hc80 hz82) (hwc.rs (f := (intC .i64)) (s := 1) (xs := r21.Res) (j := j50) (fun _ => rfl) mm8 hn83 hc84 hz86) (hwc.rs (f := (intC .i64)) (s := 1) (xs := r21.Ex) (j := j54) (fun _ => rfl) mm9 hn87 hc88 hz90) (hwc.rs (f := (intC .i64)) (s := 1) (xs := r21.H) (j := j58) (fun _ => rfl) Zkk hn91 hc92 hz94) e290) ?_; rintro _ _ ⟨rfl, rfl⟩; refine Z0n rfl rfl rfl rfl rfl ?_; refine TO.move rfl rfl rfl rfl ?_; refine Z0j (t := 147) (b' := false) rfl (Bool.eq_false_iff.2 g291) ?_; refine Z03 rfl rfl rfl rfl ?_; refine Z0r rfl rfl rfl rfl rfl ?_; refine TO.assign rfl rfl rfl rfl ?_; refine TO.done ?_; refine Z00 ?_; refine Z0f (AllF.cons (t := 8) rfl AllF.nil) ?_; refine T.ret ?_; obtain rfl := ret1 H; exact Z0o rfl rfl rfl rfl (Res.tmp rfl) Pick.nil ⟨rfl, rfl⟩
      · refine Z01 (ll := [0, 1, 2, 3, 4, 5, 6, 7, 8, 9, 10, 11, 12]) rfl ?_; refine Z0c rfl rfl rfl rfl Z1e mm0 rfl ?_; refine Z0c rfl rfl rfl rfl Z0y Zl7 rfl ?_; refine Z0d Z5t rfl rfl rfl rfl (fun wc hwc => Z8h (c0 := r20) (p1 := (Pre.mk xs272 Ex274 xs284)) wc (hwc.rs (f := (intC .i64)) (s := 1) (xs := r20.First) (j := j26) (fun _ => rfl) mm1 hn59 hc60 hz62) (hwc.rs (f := (intC .i64)) (s := 1) (xs := r20.Head) (j := j30) (fun _ => rfl) mm2 hn63 hc64 hz66) (hwc.rs (f := (intC .i64)) (s := 1) (xs := r20.Rev) (j := j34) (fun _ => rfl) mm3 hn67 hc68 hz70) (hwc.rs (f := (intC .i64)) (s := 1) (xs := r20.Cap) (j := j38) (fun _ => rfl) mm4 hn71 hc72 hz74) (hwc.rs (f := (intC .i64)) (s := 1) (xs := r20.Arc) (j := j42) (fun _ => rfl) mm5 hn75 hc76 hz78) (hwc.rs (f := boolC) (s := 1) (xs := r20.Back) (j := j46) (fun _ => rfl) mm6 hn79 hc80 hz82) (hwc.rs (f := (intC .i64)) (s := 1) (xs := xs272) (j := j210) (fun _ => rfl) Zkj hn273 hc220 hz222) (hwc.rs (f := (intC .i64)) (s := 1) (xs := Ex274) (j := j278) (fun _ => rfl) Zki hn279 hc280 hz282) (hwc.rs (f := (intC .i64)) (s := 1) (xs := xs284) (j := j218) (fun _ => rfl) Zmo hn285 hc228 hz230) e287) ?_; rintro _ _ ⟨rfl, rfl⟩; refine TO.not rfl rfl rfl rfl ?_; refine TO.move rfl rfl rfl rfl ?_; refine Z0j (t := 142) (b' := false) rfl (Bool.eq_false_iff.2 g288) ?_; refine Z03 rfl rfl rfl rfl ?_; refine Z03 rfl rfl rfl rfl ?_; refine Z03 rfl rfl rfl rfl ?_; refine Z0r rfl rfl rfl rfl rfl ?_; refine TO.move rfl rfl rfl rfl ?_; refine Z03 rfl rfl rfl rfl ?_; refine Z0r rfl rfl rfl rfl rfl ?_; refine TO.assign rfl rfl rfl rfl ?_; refine TO.done ?_; refine Z00 ?_; refine Z0f (AllF.cons (t := 8) rfl AllF.nil) ?_; refine T.ret ?_; obtain rfl := ret1 H; exact Z0o rfl rfl rfl rfl (Res.tmp rfl) Pick.nil ⟨rfl, rfl⟩
end Go.Proofs.Ytjeenmabclghoaa.Ax
namespace Go.Acq
open Go
def hit (a : Arc) (v : Nat) : Nat := if a.fr = a.to then 0 else if a.fr = v ∨ a.to = v then 1 else 0
def cnt (al : List Arc) (v : Nat) : Nat → Nat
  | 0 => 0
  | k + 1 => cnt al v k + hit (al.getD k default) v
def Z0w (al : List Arc) : Nat → Nat
  | 0 => 0
  | v + 1 => Z0w al v + cnt al v al.length
def vtx (a : Arc) (s : Bool) : Int := if s then a.to else a.fr
def pos (al : List Arc) (i : Nat) (s : Bool) : Nat := Z0w al (vtx (al.getD i default) s).toNat + cnt al (vtx (al.getD i default) s).toNat i
def Za6 (n : Nat) (al : List Arc) : Prop := ∀ i, i < al.length → ∀ s, 0 ≤ vtx (al.getD i default) s ∧ vtx (al.getD i default) s < n
theorem Zip {α : Type} (xs : List α) (i j : Nat) (v d : α) : (xs.set i v).getD j d = if i = j ∧ i < xs.length then v else xs.getD j d := by
 rw [List.getD_eq_getElem?_getD, List.getD_eq_getElem?_getD, List.getElem?_set]
 split
 ·
  rename_i h; subst h
  split
  · rename_i h2; simp [h2]
  · rename_i h2; simp [h2]
 · rename_i h; simp [h]
theorem Z81 {α : Type} {xs : List α} {i j : Nat} {v d : α} (h : i ≠ j) : (xs.set i v).getD j d = xs.getD j d := by
 rw [Zip, if_neg (fun e => h e.1)]
theorem Zc3 {α : Type} {xs : List α} {i : Nat} {v d : α} (h : i < xs.length) : (xs.set i v).getD i d = v := by
 rw [Zip, if_pos ⟨rfl, h⟩]
theorem Z3x {α : Type} (n j : Nat) (v : α) : (List.replicate n v).getD j v = v := by
 rw [List.getD_eq_getElem?_getD, List.getElem?_replicate]; split <;> simp
theorem hit_le (a : Arc) (v : Nat) : hit a v ≤ 1 := by unfold hit; split; omega; split <;> omega
theorem cnt_mono {al : List Arc} {v i j : Nat} (h : i ≤ j) : cnt al v i ≤ cnt al v j := by
 induction h with
 | refl => exact Nat.le_refl _
 | step _ ih => exact Nat.le_trans ih (Nat.le_add_right _ _)
theorem Zko (al : List Arc) (v k : Nat) : cnt al v k ≤ k := by
 induction k with
 | zero => exact Nat.le_refl _
 | succ k ih => have := hit_le (al.getD k default) v; simp only [cnt]; omega
theorem Z5m {al : List Arc} {u v : Nat} (h : u ≤ v) : Z0w al u ≤ Z0w al v := by
 induction h with
 | refl => exact Nat.le_refl _
 | step _ ih => exact Nat.le_trans ih (Nat.le_add_right _ _)
theorem Znm (al : List Arc) (v : Nat) : Z0w al v ≤ v * al.length := by
 induction v with
 | zero => exact Nat.zero_le _
 | succ v ih => have := Zko al v al.length; simp only [Z0w, Nat.succ_mul]; omega
theorem hit_vtx {a : Arc} {s : Bool} (h : a.fr ≠ a.to) (h0 : 0 ≤ vtx a s) : hit a (vtx a s).toNat = 1 := by
 unfold hit; rw [if_neg h, if_pos]
 cases s
 · left; simp only [vtx] at h0 ⊢; simp only [Bool.false_eq_true, if_false] at h0 ⊢; omega
 · right; simp only [vtx] at h0 ⊢; simp only [if_true] at h0 ⊢; omega
theorem Zej {al : List Arc} {i j : Nat} {s : Bool} (hij : i < j) (h : (al.getD i default).fr ≠ (al.getD i default).to) (h0 : 0 ≤ vtx (al.getD i default) s) :
    cnt al (vtx (al.getD i default) s).toNat i < cnt al (vtx (al.getD i default) s).toNat j := by
  have h1 := cnt_mono (al := al) (v := (vtx (al.getD i default) s).toNat) (i := i + 1) (j := j) hij
  have h2 := hit_vtx h h0
  simp only [cnt] at h1
  omega
theorem Zc0 {al : List Arc} {n i : Nat} {s : Bool} (hi : i < al.length) (h : (al.getD i default).fr ≠ (al.getD i default).to) (he : Za6 n al) : pos al i s < Z0w al n := by
 have h1 := Zej (s := s) hi h (he i hi s).1
 have h2 := Z5m (al := al) (u := (vtx (al.getD i default) s).toNat + 1) (v := n) (by have := he i hi s; omega)
 simp only [Z0w] at h2
 unfold pos; omega
theorem Z8j {al : List Arc} {n i j : Nat} {s t : Bool} (he : Za6 n al) (hi : i < al.length) (hj : j < al.length) (h : (al.getD i default).fr ≠ (al.getD i default).to) (g : (al.getD j default).fr ≠ (al.getD j default).to)
    (e : pos al i s = pos al j t) : i = j ∧ s = t := by
  have hi1 := Zej (s := s) hi h (he i hi s).1
  have hj1 := Zej (s := t) hj g (he j hj t).1
  have hv : (vtx (al.getD i default) s).toNat = (vtx (al.getD j default) t).toNat := by
    rcases Nat.lt_trichotomy (vtx (al.getD i default) s).toNat (vtx (al.getD j default) t).toNat with h1 | h1 | h1
    · have := Z5m (al := al) (u := (vtx (al.getD i default) s).toNat + 1) h1
      simp only [Z0w] at this
      unfold pos at e; omega
    · exact h1
    · have := Z5m (al := al) (u := (vtx (al.getD j default) t).toNat + 1) h1
      simp only [Z0w] at this
      unfold pos at e; omega
  have hij : i = j := by
    rcases Nat.lt_trichotomy i j with h1 | h1 | h1
    · have h2 := Zej (s := s) h1 h (he i hi s).1
      unfold pos at e; rw [hv] at e h2; omega
    · exact h1
    · have h2 := Zej (s := t) h1 g (he j hj t).1
      unfold pos at e; rw [hv] at e; omega
  refine ⟨hij, ?_⟩
  subst hij
  have h1 := (he i hi s).1
  have h2 := (he i hi t).1
  cases s <;> cases t <;> first | rfl | (simp only [vtx, Bool.false_eq_true, if_false, if_true] at hv h1 h2; omega)
theorem Zkp {al : List Arc} {v r : Nat} : ∀ {k : Nat}, r < cnt al v k → ∃ i, i < k ∧ cnt al v i = r ∧ hit (al.getD i default) v = 1
 | 0, h => by simp [cnt] at h
 | k + 1, h => by
  by_cases h1 : r < cnt al v k
  · obtain ⟨i, h2, h3⟩ := Zkp h1; exact ⟨i, by omega, h3⟩
  ·
   have := hit_le (al.getD k default) v
   simp only [cnt] at h
   exact ⟨k, by omega, by omega, by omega⟩
theorem Zfr {al : List Arc} {p : Nat} : ∀ {n : Nat}, p < Z0w al n → ∃ v, v < n ∧ Z0w al v ≤ p ∧ p < Z0w al (v + 1)
 | 0, h => by simp [Z0w] at h
 | n + 1, h => by
  by_cases h1 : p < Z0w al n
  · obtain ⟨v, h2, h3⟩ := Zfr h1; exact ⟨v, by omega, h3⟩
  · exact ⟨n, by omega, by omega, h⟩
theorem Zkh {al : List Arc} {n p : Nat} (h : p < Z0w al n) : ∃ i s, i < al.length ∧ (al.getD i default).fr ≠ (al.getD i default).to ∧ pos al i s = p ∧ 0 ≤ vtx (al.getD i default) s ∧ vtx (al.getD i default) s < n ∧
    Z0w al (vtx (al.getD i default) s).toNat ≤ p ∧ p < Z0w al ((vtx (al.getD i default) s).toNat + 1) := by
  obtain ⟨v, hv, h1, h2⟩ := Zfr h
  simp only [Z0w] at h2
  obtain ⟨i, hi, h3, h4⟩ := Zkp (al := al) (v := v) (r := p - Z0w al v) (k := al.length) (by omega)
  unfold hit at h4
  split at h4
  · omega
  · rename_i hne
    split at h4
    · rename_i ho
      rcases ho with ho | ho
      · refine ⟨i, false, hi, hne, ?_, ?_, ?_, ?_, ?_⟩ <;> simp only [pos, vtx, Bool.false_eq_true, if_false, ho, Int.toNat_natCast, Z0w] <;> omega
      · refine ⟨i, true, hi, hne, ?_, ?_, ?_, ?_, ?_⟩ <;> simp only [pos, vtx, if_true, ho, Int.toNat_natCast, Z0w] <;> omega
    · omega
def CsrAt (al : List Arc) (hs rs cs aa : List Int) (bs : List Bool) (k : Nat) : Prop :=
  ∀ i, i < k → (al.getD i default).fr ≠ (al.getD i default).to → ∀ s,
    hs.getD (pos al i s) 0 = vtx (al.getD i default) (!s) ∧ rs.getD (pos al i s) 0 = pos al i (!s) ∧ cs.getD (pos al i s) 0 = (if s then 0 else (al.getD i default).cap) ∧
    aa.getD (pos al i s) 0 = i ∧ bs.getD (pos al i s) false = s
structure CsrOK (al : List Arc) (n : Nat) (fs hs rs cs aa : List Int) (bs : List Bool) : Prop where
  lf : fs.length = n + 1
  lh : hs.length = Z0w al n
  lr : rs.length = Z0w al n
  lc : cs.length = Z0w al n
  la : aa.length = Z0w al n
  lb : bs.length = Z0w al n
  hf : ∀ v, v ≤ n → fs.getD v 0 = Z0w al v
  hat : CsrAt al hs rs cs aa bs al.length
theorem CsrAt.skip {al : List Arc} {hs rs cs aa : List Int} {bs : List Bool} {k : Nat} (h : CsrAt al hs rs cs aa bs k) (e : (al.getD k default).fr = (al.getD k default).to) : CsrAt al hs rs cs aa bs (k + 1) := by
 intro i hi hne s
 rcases Nat.lt_succ_iff_lt_or_eq.1 hi with h1 | h1
 · exact h i h1 hne s
 · subst h1; exact absurd e hne
theorem set2 {α : Type} {xs : List α} {p q j : Nat} {u v d : α} (hp : p < xs.length) (hq : q < xs.length) (hpq : p ≠ q) :
    ((xs.set p u).set q v).getD j d = if j = p then u else if j = q then v else xs.getD j d := by
  rw [Zip, Zip]
  by_cases h1 : j = p
  · subst h1; rw [if_pos rfl, if_neg (fun e => hpq e.1.symm), if_pos ⟨rfl, hp⟩]
  · rw [if_neg h1]
    by_cases h2 : j = q
    · subst h2; rw [if_pos rfl, if_pos ⟨rfl, by simpa using hq⟩]
    · rw [if_neg h2, if_neg (fun e => h2 e.1.symm), if_neg (fun e => h1 e.1.symm)]
theorem CsrAt.put {al : List Arc} {n : Nat} {hs rs cs aa : List Int} {bs : List Bool} {k : Nat} (h : CsrAt al hs rs cs aa bs k) (he : Za6 n al) (hk : k < al.length) (hne : (al.getD k default).fr ≠ (al.getD k default).to)
    (lh : hs.length = Z0w al n) (lr : rs.length = Z0w al n) (lc : cs.length = Z0w al n) (la : aa.length = Z0w al n) (lb : bs.length = Z0w al n) :
    CsrAt al ((hs.set (pos al k false) (al.getD k default).to).set (pos al k true) (al.getD k default).fr) ((rs.set (pos al k false) (pos al k true)).set (pos al k true) (pos al k false))
      ((cs.set (pos al k false) (al.getD k default).cap).set (pos al k true) 0) ((aa.set (pos al k false) k).set (pos al k true) k) ((bs.set (pos al k false) false).set (pos al k true) true) (k + 1) := by
  have hp : pos al k false < Z0w al n := Zc0 hk hne he
  have hq : pos al k true < Z0w al n := Zc0 hk hne he
  have hpq : pos al k false ≠ pos al k true := fun e => by have := (Z8j he hk hk hne hne e).2; cases this
  intro i hi hni s
  have hil : i < al.length := by omega
  rw [set2 (by omega) (by omega) hpq, set2 (by omega) (by omega) hpq, set2 (by omega) (by omega) hpq, set2 (by omega) (by omega) hpq, set2 (by omega) (by omega) hpq]
  by_cases hik : i = k
  · subst hik
    cases s
    · simp [vtx]
    · simp [vtx, hpq.symm]
  · have h1 : pos al i s ≠ pos al k false := fun e => hik (Z8j he hil hk hni hne e).1
    have h2 : pos al i s ≠ pos al k true := fun e => hik (Z8j he hil hk hni hne e).1
    simp only [if_neg h1, if_neg h2]
    exact h i (by omega) hni s
def Counted (al : List Arc) (m k : Nat) (fs : List Int) : Prop := fs.length = m + 1 ∧ fs.getD 0 0 = 0 ∧ ∀ v : Int, 0 ≤ v → v < m → fs.getD (v + 1).toNat 0 = cnt al v.toNat k
def Summed (al : List Arc) (m k : Nat) (fs : List Int) : Prop := fs.length = m + 1 ∧ (∀ u, u ≤ k → fs.getD u 0 = Z0w al u) ∧ ∀ u, k ≤ u → u < m → fs.getD (u + 1) 0 = cnt al u al.length
theorem Z95 {al : List Arc} {v : Nat} (hv : v ≤ 4096) (hl : al.length ≤ 16384) : Z0w al v ≤ 67108864 :=
 Nat.le_trans (Znm al v) (Nat.mul_le_mul hv hl)
theorem Counted.start (al : List Arc) (m : Nat) {p : Nat} (h : p = m + 1) : Counted al m 0 (List.replicate p 0) :=
 ⟨by simp [h], Z3x _ _ _, fun v _ _ => by rw [Z3x]; rfl⟩
theorem Counted.skip {al : List Arc} {m k : Nat} {fs : List Int} (h : Counted al m k fs) (e : (al.getD k default).fr = (al.getD k default).to) : Counted al m (k + 1) fs :=
 ⟨h.1, h.2.1, fun v h0 h1 => by rw [h.2.2 v h0 h1]; simp only [cnt, hit, if_pos e, Nat.add_zero]⟩
theorem Counted.put {al : List Arc} {m k : Nat} {fs : List Int} (h : Counted al m k fs) (he : Za6 m al) (hk : k < al.length) (hne : (al.getD k default).fr ≠ (al.getD k default).to) :
    Counted al m (k + 1) ((fs.set ((al.getD k default).fr + 1).toNat (fs.getD ((al.getD k default).fr + 1).toNat 0 + 1)).set ((al.getD k default).to + 1).toNat
      ((fs.set ((al.getD k default).fr + 1).toNat (fs.getD ((al.getD k default).fr + 1).toNat 0 + 1)).getD ((al.getD k default).to + 1).toNat 0 + 1)) := by
  have e0 := he k hk false
  have e1 := he k hk true
  simp only [vtx, Bool.false_eq_true, if_false, if_true] at e0 e1
  obtain ⟨hl, hz, hv⟩ := h
  refine ⟨by simpa using hl, ?_, ?_⟩
  · rw [Z81 (by omega), Z81 (by omega)]; exact hz
  · intro v h0 h1
    have hvv := hv v h0 h1
    rw [Z81 (i := ((al.getD k default).fr + 1).toNat) (j := ((al.getD k default).to + 1).toNat) (by omega), set2 (by omega) (by omega) (by omega)]
    simp only [cnt, hit, if_neg hne]
    by_cases a1 : v = (al.getD k default).fr
    · rw [if_pos (by omega), if_pos (by omega), ← a1, hvv]; omega
    · rw [if_neg (by omega)]
      by_cases a2 : v = (al.getD k default).to
      · rw [if_pos (by omega), if_pos (by omega), ← a2, hvv]; omega
      · rw [if_neg (by omega), if_neg (by omega), hvv]; omega
theorem Counted.summed {al : List Arc} {m : Nat} {fs : List Int} (h : Counted al m al.length fs) : Summed al m 0 fs :=
 ⟨h.1, fun u hu => by rw [Nat.le_zero.1 hu]; exact h.2.1, fun u _ hu => by have := h.2.2 u (by omega) (by omega); rw [show ((u : Int) + 1).toNat = u + 1 by omega] at this; simpa using this⟩
theorem Summed.put {al : List Arc} {m k : Nat} {fs : List Int} (h : Summed al m k fs) (hk : k < m) {i : Nat} (hi : i = k + 1) : Summed al m (k + 1) (fs.set i (fs.getD i 0 + fs.getD k 0)) := by
 subst hi
 obtain ⟨hl, h1, h2⟩ := h
 refine ⟨by simpa using hl, fun u hu => ?_, fun u h3 h4 => ?_⟩
 ·
  by_cases e : u = k + 1
  · subst e; rw [Zc3 (by omega), h1 k (Nat.le_refl _), h2 k (Nat.le_refl _) hk]; simp [Z0w]; omega
  · rw [Z81 (by omega)]; exact h1 u (by omega)
 · rw [Z81 (by omega)]; exact h2 u (by omega) h4
theorem Z8l {N S T : Int} {al : List Arc} (h : Za7 N S T al = 0) : (2 ≤ N ∧ N ≤ 4096) ∧ (al.length : Int) ≤ 16384 ∧ (Z5e N S = true ∧ Z5e N T = true ∧ S ≠ T) ∧ al.all (Ze4 N) = true ∧ al.all Znl = true ∧ (Zib 4611686018427387904 al).isSome = true := by
 unfold Za7 at h
 split at h
 · omega
 ·
  rename_i h1
  split at h
  · omega
  ·
   rename_i h2
   split at h
   · omega
   ·
    rename_i h3
    split at h
    · omega
    ·
     rename_i h4
     split at h
     · omega
     ·
      rename_i h5
      split at h
      · omega
      ·
       rename_i h6
       refine ⟨Classical.not_not.1 h1, Classical.not_not.1 h2, Classical.not_not.1 h3, by simpa using h4, by simpa using h5, ?_⟩
       cases e : Zib 4611686018427387904 al <;> simp_all
theorem Zix {m : Nat} {al : List Arc} (h : al.all (Ze4 (m : Int)) = true) : Za6 m al := by
 intro i hi s
 have h1 := List.all_eq_true.1 h _ (Z8s hi default)
 simp only [Ze4, Z5e, Bool.and_eq_true, decide_eq_true_eq] at h1
 cases s
 · simp only [vtx, Bool.false_eq_true, if_false]; exact h1.1
 · simp only [vtx, if_true]; exact h1.2
def MakeAt (al : List Arc) (m k : Nat) (nx hs rs cs aa : List Int) (bs : List Bool) : Prop :=
  (nx.length = m + 1 ∧ hs.length = Z0w al m ∧ rs.length = Z0w al m ∧ cs.length = Z0w al m ∧ aa.length = Z0w al m ∧ bs.length = Z0w al m) ∧
  CsrAt al hs rs cs aa bs k ∧ ∀ v : Int, 0 ≤ v → v < m → nx.getD v.toNat 0 = Z0w al v.toNat + cnt al v.toNat k
theorem MakeAt.start {al : List Arc} {m : Nat} {fs : List Int} (hl : fs.length = m + 1) (hf : ∀ u, u ≤ m → fs.getD u 0 = Z0w al u) :
    MakeAt al m 0 fs (List.replicate (Z0w al m) 0) (List.replicate (Z0w al m) 0) (List.replicate (Z0w al m) 0) (List.replicate (Z0w al m) 0) (List.replicate (Z0w al m) false) := by
  refine ⟨⟨hl, by simp, by simp, by simp, by simp, by simp⟩, fun i hi => by omega, fun v h0 h1 => ?_⟩
  rw [hf _ (by omega)]; simp [cnt]
theorem MakeAt.skip {al : List Arc} {m k : Nat} {nx hs rs cs aa : List Int} {bs : List Bool} (h : MakeAt al m k nx hs rs cs aa bs) (e : (al.getD k default).fr = (al.getD k default).to) : MakeAt al m (k + 1) nx hs rs cs aa bs :=
 ⟨h.1, h.2.1.skip e, fun v h0 h1 => by rw [h.2.2 v h0 h1]; simp only [cnt, hit, if_pos e, Nat.add_zero]⟩
theorem MakeAt.at {al : List Arc} {m k : Nat} {nx hs rs cs aa : List Int} {bs : List Bool} (h : MakeAt al m k nx hs rs cs aa bs) (he : Za6 m al) (hk : k < al.length) (s : Bool) : nx.getD (vtx (al.getD k default) s).toNat 0 = (pos al k s : Nat) := by
 rw [h.2.2 _ (he k hk s).1 (he k hk s).2]; simp only [pos]; omega
theorem MakeAt.put {al : List Arc} {m k : Nat} {nx hs rs cs aa : List Int} {bs : List Bool} (h : MakeAt al m k nx hs rs cs aa bs) (he : Za6 m al) (hk : k < al.length) (hne : (al.getD k default).fr ≠ (al.getD k default).to) :
    MakeAt al m (k + 1) ((nx.set (al.getD k default).fr.toNat ((pos al k false : Nat) + 1)).set (al.getD k default).to.toNat ((pos al k true : Nat) + 1))
      ((hs.set (pos al k false) (al.getD k default).to).set (pos al k true) (al.getD k default).fr) ((rs.set (pos al k false) (pos al k true)).set (pos al k true) (pos al k false))
      ((cs.set (pos al k false) (al.getD k default).cap).set (pos al k true) 0) ((aa.set (pos al k false) k).set (pos al k true) k) ((bs.set (pos al k false) false).set (pos al k true) true) := by
  have g0 := h.at he hk false
  have g1 := h.at he hk true
  obtain ⟨⟨l0, l1, l2, l3, l4, l5⟩, hA, hv⟩ := h
  have e0 := he k hk false
  have e1 := he k hk true
  simp only [vtx, Bool.false_eq_true, if_false, if_true] at e0 e1 g0 g1
  refine ⟨⟨by simpa using l0, by simpa using l1, by simpa using l2, by simpa using l3, by simpa using l4, by simpa using l5⟩, hA.put he hk hne l1 l2 l3 l4 l5, fun v h0 h1 => ?_⟩
  have hvv := hv v h0 h1
  rw [set2 (by omega) (by omega) (by omega)]
  simp only [cnt, hit, if_neg hne]
  by_cases a1 : v = (al.getD k default).fr
  · rw [if_pos (by omega), if_pos (by omega), ← g0, ← a1, hvv]; omega
  · rw [if_neg (by omega)]
    by_cases a2 : v = (al.getD k default).to
    · rw [if_pos (by omega), if_pos (by omega), ← g1, ← a2, hvv]; omega
    · rw [if_neg (by omega), if_neg (by omega), hvv]; omega
theorem MakeAt.done {al : List Arc} {m : Nat} {fs nx hs rs cs aa : List Int} {bs : List Bool} (h : MakeAt al m al.length nx hs rs cs aa bs) (hl : fs.length = m + 1) (hf : ∀ u, u ≤ m → fs.getD u 0 = Z0w al u) : CsrOK al m fs hs rs cs aa bs :=
 ⟨hl, h.1.2.1, h.1.2.2.1, h.1.2.2.2.1, h.1.2.2.2.2.1, h.1.2.2.2.2.2, hf, h.2.1⟩
end Go.Acq
namespace Go.Acq
open Go
theorem next_ne {S m : Int} (h0 : 0 ≤ S) (h1 : S < m) (h2 : 2 ≤ m) : 0 ≤ (S + 1).tmod m ∧ (S + 1).tmod m < m ∧ (S + 1).tmod m ≠ S := by
 rw [Int.tmod_eq_emod_of_nonneg (by omega)]
 refine ⟨Int.emod_nonneg _ (by omega), Int.emod_lt_of_pos _ (by omega), ?_⟩
 by_cases h : S + 1 < m
 · rw [Int.emod_eq_of_lt (by omega) h]; omega
 · rw [show S + 1 = m by omega, Int.emod_self]; omega
theorem Zgi {x n : Int} (h : 0 ≤ x) (hn : 0 < n) : 0 ≤ x.tmod n ∧ x.tmod n < n := by
 rw [Int.tmod_eq_emod_of_nonneg h]
 exact ⟨Int.emod_nonneg _ (by omega), Int.emod_lt_of_pos _ hn⟩
def SomeAt (m : Nat) (ol : List Arc) : Prop := ∀ a, a ∈ ol → Ze4 m a = true ∧ 0 ≤ a.cap ∧ a.cap < 1125899906842624
theorem SomeAt.put {m : Nat} {ol : List Arc} {a : Arc} (h : SomeAt m ol) (h1 : 0 ≤ a.fr ∧ a.fr < m) (h2 : 0 ≤ a.to ∧ a.to < m) (h3 : 0 ≤ a.cap ∧ a.cap < 1125899906842624) : SomeAt m (ol ++ [a]) := by
 intro b hb
 rcases List.mem_append.1 hb with hb | hb
 · exact h b hb
 ·
  simp only [List.mem_singleton] at hb
  subst hb
  exact ⟨by simp [Ze4, Z5e, h1, h2], h3⟩
theorem Zmy {m : Nat} {ol : List Arc} {left : Int} (h : SomeAt m ol) (hl : (ol.length : Int) * 1125899906842624 ≤ left) : (Zib left ol).isSome = true := by
 induction ol generalizing left with
 | nil => simp [Zib]
 | cons a ol ih =>
  have ha := (h a (.head _)).2
  simp only [List.length_cons] at hl
  have h2 : (0 : Int) ≤ (ol.length : Int) * 1125899906842624 := by omega
  simp only [Zib]
  rw [if_neg (by omega)]
  exact ih (fun b hb => h b (.tail _ hb)) (by omega)
theorem Zl4 {m : Nat} {S T : Int} {ol : List Arc} (hm : 2 ≤ m) (hm2 : m ≤ 4096) (hS : 0 ≤ S ∧ S < m) (hT : 0 ≤ T ∧ T < m) (hST : T ≠ S) (h : SomeAt m ol) (hl : ol.length ≤ 4096) : Za7 m S T ol = 0 := by
 have h1 : ol.all (Ze4 m) = true := List.all_eq_true.2 fun a ha => (h a ha).1
 have h2 : ol.all Znl = true := List.all_eq_true.2 fun a ha => by simp [Znl, (h a ha).2.1]
 have h3 : (Zib 4611686018427387904 ol).isSome = true := Zmy h (by omega)
 unfold Za7
 rw [if_neg (by omega), if_neg (by omega), if_neg (by simp [Z5e, hS, hT, Ne.symm hST]), if_neg (by simp [h1]), if_neg (by simp [h2]), if_neg (by
  cases e : Zib 4611686018427387904 ol with
  | none => rw [e] at h3; cases h3
  | some x => simp)]
def WithinAt (al : List Arc) (n k : Nat) (fl : List Int) : Prop := fl.length = n ∧
  (∀ i, i < k → 0 ≤ fl.getD i 0 ∧ fl.getD i 0 ≤ (al.getD i default).cap ∧ ((al.getD i default).fr = (al.getD i default).to → fl.getD i 0 = 0)) ∧ ∀ i, k ≤ i → fl.getD i 0 = 0
theorem WithinAt.start (al : List Arc) (n : Nat) : WithinAt al n 0 (List.replicate n 0) := ⟨by simp, fun i h => by omega, fun i _ => Z3x _ _ _⟩
theorem WithinAt.skip {al : List Arc} {n k : Nat} {fl : List Int} (h : WithinAt al n k fl) (hc : 0 ≤ (al.getD k default).cap) : WithinAt al n (k + 1) fl := by
 refine ⟨h.1, fun i hi => ?_, fun i hi => h.2.2 i (by omega)⟩
 rcases Nat.lt_succ_iff_lt_or_eq.1 hi with h1 | h1
 · exact h.2.1 i h1
 · subst h1; have := h.2.2 i (Nat.le_refl _); rw [this]; exact ⟨Int.le_refl _, hc, fun _ => rfl⟩
theorem WithinAt.put {al : List Arc} {n k : Nat} {fl : List Int} {v : Int} (h : WithinAt al n k fl) (hk : k < n) (h0 : 0 ≤ v) (h1 : v ≤ (al.getD k default).cap) (hne : (al.getD k default).fr ≠ (al.getD k default).to) : WithinAt al n (k + 1) (fl.set k v) := by
 refine ⟨by simpa using h.1, fun i hi => ?_, fun i hi => by rw [Z81 (by omega)]; exact h.2.2 i (by omega)⟩
 by_cases e : i = k
 · subst e; rw [Zc3 (by rw [h.1]; exact hk)]; exact ⟨h0, h1, fun e => absurd e hne⟩
 · rw [Z81 (by omega)]; exact h.2.1 i (by omega)
def resOK (aa cs : List Int) (bs : List Bool) (fl : List Int) (j : Nat) : Prop := aa.getD j 0 < fl.length ∧ (bs.getD j false = true ∨ (0 ≤ fl.getD (aa.getD j 0).toNat 0 ∧ fl.getD (aa.getD j 0).toNat 0 ≤ cs.getD j 0))
def resV (aa cs : List Int) (bs : List Bool) (fl : List Int) (j : Nat) : Int := if bs.getD j false = true then fl.getD (aa.getD j 0).toNat 0 else cs.getD j 0 - fl.getD (aa.getD j 0).toNat 0
def ResAt (aa cs : List Int) (bs : List Bool) (fl : List Int) (L k : Nat) (rl : List Int) : Prop := rl.length = L ∧ ∀ j, j < k → resOK aa cs bs fl j ∧ rl.getD j 0 = resV aa cs bs fl j
theorem ResAt.put {aa cs : List Int} {bs : List Bool} {fl : List Int} {L k : Nat} {rl : List Int} {v : Int} (h : ResAt aa cs bs fl L k rl) (hk : k < L) (h1 : resOK aa cs bs fl k) (h2 : v = resV aa cs bs fl k) : ResAt aa cs bs fl L (k + 1) (rl.set k v) := by
 refine ⟨by simpa using h.1, fun j hj => ?_⟩
 by_cases e : j = k
 · subst e; rw [Zc3 (by rw [h.1]; exact hk)]; exact ⟨h1, h2⟩
 · rw [Z81 (by omega)]; exact h.2 j (by omega)
end Go.Acq
namespace Go.Acq
open Go
theorem CsrOK.place {al : List Arc} {m : Nat} {fs hs rs cs aa : List Int} {bs : List Bool} (h : CsrOK al m fs hs rs cs aa bs) {j : Nat} (hj : j < Z0w al m) :
    ∃ i s, i < al.length ∧ (al.getD i default).fr ≠ (al.getD i default).to ∧ pos al i s = j ∧ hs.getD j 0 = vtx (al.getD i default) (!s) ∧ rs.getD j 0 = pos al i (!s) ∧ cs.getD j 0 = (if s then 0 else (al.getD i default).cap) ∧ aa.getD j 0 = i ∧ bs.getD j false = s := by
  obtain ⟨i, s, hi, hne, hp, _⟩ := Zkh hj
  have := h.hat i hi hne s
  rw [hp] at this
  exact ⟨i, s, hi, hne, hp, this⟩
end Go.Acq
namespace Go.Acq
open Go
theorem Zfl {α : Type} {m : Option α} {v : α} (h : Ok m (fun a => a = v)) : m = some v := by obtain ⟨a, h1, h2⟩ := h; rw [h1, h2]
theorem Zah {α : Type} {m : Option α} {v : α} {Q : α → Prop} (h : m = some v) (q : Q v) : Ok m Q := ⟨v, h, q⟩
abbrev lenok (n : Nat) : Prop := n ≤ 9223372036854775807
theorem Zfg {x n : Int} (h1 : n ≤ 4611686018427387904) : Z2c x n = some (Zfs x n) := by
 unfold Z2c Zfs
 by_cases h : n < 1
 · rw [if_pos h, if_pos h]
 ·
  have a1 := Int.tmod_lt_of_pos x (show 0 < n by omega)
  have a2 := Zfm x (show 0 < n by omega)
  rw [if_neg h, if_neg h, Z7e (by omega), Z7e (by constructor <;> omega), Z7e (by omega)]
theorem Zf6 (n : Net) (v : Int) : Z5b n v = some (Z5e n.N v) := by
 unfold Z5b Z5e
 by_cases h : 0 ≤ v <;> simp [h]
theorem s_rules4 (n : Net) (a : Arc) : Z7v n a = some (Ze4 n.N a) := by
 unfold Z7v Ze4
 rw [Zf6, Zf6]
 simp only [Option.bind_some]
 cases Z5e n.N a.fr <;> simp
theorem s_of4 (n : Net) (h : lenok n.Arcs.length) : Z4o n = some (n.Arcs.all (Ze4 n.N)) := by
 refine Zfl ?_
 unfold Z4o Z1q Z1z
 refine Ok.bind.2 (Ok.bind.2 (Ok.bind.2 (Zga (fun x => 0 ≤ x ∧ x ≤ n.Arcs.length ∧ ∀ i, i < x.toNat → Ze4 n.N (n.Arcs.getD i default) = true) (fun x => (n.Arcs.length - x).toNat) ⟨by omega, by omega, fun i hi => by omega⟩ (by unfold Z5p; omega) ?_)))
 rintro x ⟨h0, h1, h2⟩
 unfold Z1c Z51
 refine Ok.ite.2 ⟨fun hx => ?_, fun hx => ?_⟩
 ·
  refine Ok.gd.2 ⟨(by omega), Ok.bind.2 (Ok.bind.2 (Zah (s_rules4 _ _) (Ok.some.2 (Ok.ite.2 ⟨fun hb => ?_, fun hb => ?_⟩))))⟩
  ·
   refine Ok.some.2 (Ok.some.2 (Ok.some.2 (Ok.some.2 ?_)))
   simp only [h0, decide_true, Bool.not_true]
   refine Eq.symm (Bool.eq_false_iff.2 fun hall => ?_)
   have := List.all_eq_true.1 hall _ (Z8s (show x.toNat < n.Arcs.length by omega) default)
   rw [this] at hb; cases hb
  ·
   refine Ok.gd.2 ⟨(by omega), Ok.some.2 ⟨⟨by omega, by omega, fun i hi => ?_⟩, by omega⟩⟩
   rcases Nat.lt_or_ge i x.toNat with h3 | h3
   · exact h2 i h3
   · rw [show i = x.toNat by omega]; simpa using hb
 ·
  refine Ok.some.2 (Ok.some.2 (Ok.some.2 (Ok.some.2 ?_)))
  refine Eq.symm (List.all_eq_true.2 fun a ha => ?_)
  obtain ⟨i, hi, rfl⟩ := List.getElem_of_mem ha
  have := h2 i (by omega)
  rwa [List.getD_eq_getElem?_getD, List.getElem?_eq_getElem hi] at this
theorem s_of5 (n : Net) (h : lenok n.Arcs.length) : Z4n n = some (n.Arcs.all Znl) := by
 refine Zfl ?_
 unfold Z4n Z1p Z1y
 refine Ok.bind.2 (Ok.bind.2 (Ok.bind.2 (Zga (fun x => 0 ≤ x ∧ x ≤ n.Arcs.length ∧ ∀ i, i < x.toNat → Znl (n.Arcs.getD i default) = true) (fun x => (n.Arcs.length - x).toNat) ⟨by omega, by omega, fun i hi => by omega⟩ (by unfold Z5p; omega) ?_)))
 rintro x ⟨h0, h1, h2⟩
 unfold Z1b Z50 Z9m
 refine Ok.ite.2 ⟨fun hx => ?_, fun hx => ?_⟩
 ·
  refine Ok.gd.2 ⟨(by omega), Ok.bind.2 (Ok.bind.2 (Ok.some.2 (Ok.some.2 (Ok.ite.2 ⟨fun hb => ?_, fun hb => ?_⟩))))⟩
  ·
   refine Ok.some.2 (Ok.some.2 (Ok.some.2 (Ok.some.2 ?_)))
   simp only [h0, decide_true, Bool.not_true]
   refine Eq.symm (Bool.eq_false_iff.2 fun hall => ?_)
   have := List.all_eq_true.1 hall _ (Z8s (show x.toNat < n.Arcs.length by omega) default)
   simp only [Znl] at this
   rw [this] at hb; cases hb
  ·
   refine Ok.gd.2 ⟨(by omega), Ok.some.2 ⟨⟨by omega, by omega, fun i hi => ?_⟩, by omega⟩⟩
   rcases Nat.lt_or_ge i x.toNat with h3 | h3
   · exact h2 i h3
   · rw [show i = x.toNat by omega]; simpa [Znl] using hb
 ·
  refine Ok.some.2 (Ok.some.2 (Ok.some.2 (Ok.some.2 ?_)))
  refine Eq.symm (List.all_eq_true.2 fun a ha => ?_)
  obtain ⟨i, hi, rfl⟩ := List.getElem_of_mem ha
  have := h2 i (by omega)
  rwa [List.getD_eq_getElem?_getD, List.getElem?_eq_getElem hi] at this
theorem s_Sum (n : Net) (h : lenok n.Arcs.length) : Zc2 n = some (match Zib 4611686018427387904 n.Arcs with | some l => (4611686018427387904 - l, true) | none => (0, false)) := by
 refine Zfl ?_
 unfold Zc2
 refine Ok.bind.2 (Zga (fun s => 0 ≤ s.2 ∧ s.2 ≤ n.Arcs.length ∧ 0 ≤ s.1 ∧ s.1 ≤ 4611686018427387904 ∧ Zib 4611686018427387904 n.Arcs = Zib s.1 (n.Arcs.drop s.2.toNat)) (fun s => (n.Arcs.length - s.2).toNat) ⟨by simp, by simp, by simp, by simp, by simp⟩ (by unfold Z5p; simp; omega) ?_)
 rintro ⟨left, x⟩ ⟨h0, h1, h2, h3, h4⟩
 simp only at h0 h1 h2 h3 h4 ⊢
 unfold Z90 Z91
 refine Ok.ite.2 ⟨fun hx => ?_, fun hx => ?_⟩
 ·
  rw [Zih (by omega)] at h4
  refine Ok.gd.2 ⟨(by omega), Ok.ite.2 ⟨fun hb => ?_, fun hb => ?_⟩⟩
  ·
   rw [if_pos rfl]
   refine Ok.some.2 (Ok.some.2 ?_)
   rw [h4, if_pos (.inl hb)]
  ·
   by_cases hc : left < (n.Arcs.getD x.toNat default).cap
   ·
    rw [if_pos (decide_eq_true hc)]
    refine Ok.some.2 (Ok.some.2 ?_)
    rw [h4, if_pos (.inr hc)]
   ·
    rw [if_neg (by simpa using hc)]
    refine Ok.gd.2 ⟨(by omega), Ok.gd.2 ⟨(by omega), Ok.some.2 ⟨⟨by simp only; omega, by simp only; omega, by simp only; omega, by simp only; omega, ?_⟩, by simp only; omega⟩⟩⟩
    rw [h4, if_neg (by omega)]
    simp only
    rw [show (x + 1).toNat = x.toNat + 1 by omega]
 ·
  unfold Zam
  refine Ok.some.2 (Ok.gd.2 ⟨(by omega), Ok.some.2 ?_⟩)
  rw [h4, List.drop_eq_nil_of_le (by omega)]
  rfl
theorem s_Check (n : Net) (h : lenok n.Arcs.length) : Za5 n = some (Za7 n.N n.S n.T n.Arcs) := by
 unfold Za5 Zbk Z6w Z6v Z9p Z9o Z9n Z9l Z8r
 rw [Zf6, Zf6, s_of4 n h, s_of5 n h, s_Sum n h]
 unfold Za7
 simp only [Option.bind_some]
 by_cases h1 : 2 ≤ n.N ∧ n.N ≤ 4096
 ·
  rw [if_pos h1.1, if_neg (not_not_intro h1)]
  simp only [Option.bind_some, decide_eq_true h1.2, Bool.not_true, Bool.false_eq_true, if_false]
  by_cases h2 : (n.Arcs.length : Int) ≤ 16384
  ·
   rw [if_neg (by simp [h2]), if_neg (not_not_intro h2)]
   by_cases h3 : Z5e n.N n.S = true ∧ Z5e n.N n.T = true ∧ n.S ≠ n.T
   ·
    rw [if_pos h3.1, if_pos h3.2.1, if_neg (not_not_intro h3)]
    simp only [Option.bind_some, decide_eq_true h3.2.2, Bool.not_true, Bool.false_eq_true, if_false]
    cases h4 : n.Arcs.all (Ze4 n.N)
    · simp
    ·
     cases h5 : n.Arcs.all Znl
     · simp
     · cases h6 : Zib 4611686018427387904 n.Arcs <;> simp
   ·
    rw [if_pos h3]
    by_cases a1 : Z5e n.N n.S = true
    ·
     by_cases a2 : Z5e n.N n.T = true
     ·
      have a3 : ¬ n.S ≠ n.T := fun e => h3 ⟨a1, a2, e⟩
      simp [a1, a2, a3]
     · simp [a1, a2]
    · simp [a1]
  · rw [if_pos (by simp [h2]), if_pos h2]
 ·
  rw [if_pos h1]
  by_cases a1 : 2 ≤ n.N
  ·
   have a2 : ¬ n.N ≤ 4096 := fun e => h1 ⟨a1, e⟩
   simp [a1, a2]
  · simp [a1]
end Go.Acq
namespace Go.Acq
open Go
set_option linter.unusedSimpArgs false
structure NetIn (n : Net) : Prop where
  nN : i64ok n.N
  nS : i64ok n.S
  nT : i64ok n.T
  arcs : ∀ a, a ∈ n.Arcs → i64ok a.fr ∧ i64ok a.to ∧ i64ok a.cap
  len : n.Arcs.length ≤ 9223372036854775807
structure Made (n : Net) (v a : Int) : Prop where
  check : Za7 n.N n.S n.T n.Arcs = 0
  rows : SomeAt n.N.toNat n.Arcs
  verts : n.N ≤ v
  arcs : (n.Arcs.length : Int) ≤ a
  ends : 2 ≤ n.N ∧ 0 ≤ n.S ∧ n.S < n.N ∧ 0 ≤ n.T ∧ n.T < n.N ∧ n.S ≠ n.T
theorem Made.nat {n : Net} {v a : Int} (h : Made n v a) : ∃ m : Nat, n.N = m ∧ SomeAt m n.Arcs := ⟨n.N.toNat, by have := h.ends.1; omega, h.rows⟩
theorem Made.caps {n : Net} {m : Nat} (h : SomeAt m n.Arcs) : ∀ i, i < n.Arcs.length → 0 ≤ (n.Arcs.getD i default).cap ∧ (n.Arcs.getD i default).cap < 1125899906842624 := fun _ hi => (h _ (Z8s hi default)).2
theorem s_Some {n : Net} {v a : Int} (h : NetIn n) (hv0 : 2 ≤ v) (hv1 : v ≤ 4096) (ha0 : 0 ≤ a) (ha1 : a ≤ 4096) : Ok (Z55 n v a) (fun r => Made r v a) := by
 have hN := Za8 (x := n.N) (n := v - 1) (by omega)
 unfold Z55
 refine Ok.gd.2 ⟨(by omega), Ok.bind.2 (Zah (Zfg (by omega)) (Ok.gd.2 ⟨(by omega), ?_⟩))⟩
 obtain ⟨m, hm⟩ : ∃ m : Nat, 2 + Zfs n.N (v - 1) = m := ⟨(2 + Zfs n.N (v - 1)).toNat, by omega⟩
 rw [hm]
 have hS := Za8 (x := n.S) (n := (m : Int)) (by omega)
 have hT := Za8 (x := n.T) (n := (m : Int)) (by omega)
 refine Ok.bind.2 (Zah (Zfg (by omega)) (Ok.bind.2 (Zah (Zfg (by omega)) ?_)))
 have key : ∀ t : Int, 0 ≤ t → t < m → t ≠ Zfs n.S m → Ok (Z34 n a (Zfs n.N (v - 1)) (Zfs n.S m) t) (fun r => Made r v a) := by
  intro t t0 t1 t2
  unfold Z34
  refine Ok.gd.2 ⟨(by omega), Ok.bind.2 ?_⟩
  obtain ⟨q, hq⟩ : ∃ q : Nat, min (n.Arcs.length : Int) a = q := ⟨(min (n.Arcs.length : Int) a).toNat, by omega⟩
  obtain ⟨al, hal⟩ : ∃ l, l = n.Arcs.take (q : Int).toNat := ⟨_, rfl⟩
  have hlen : al.length = q := by rw [hal, List.length_take]; omega
  have hcap : ∀ b, b ∈ al → i64ok b.cap := fun b hb => (h.arcs b (List.mem_of_mem_take (by rw [← hal]; exact hb))).2.2
  refine Zdb (fun s => ∃ k : Nat, s.2 = k ∧ k ≤ q ∧ s.1.length = k ∧ SomeAt m s.1) (fun s => (q - s.2).toNat) ⟨0, rfl, by omega, rfl, fun b hb => by cases hb⟩ (by unfold Z5p; simp only; omega) ?_
  rintro ⟨ol, x⟩ ⟨k, h1, h2, h3, h4⟩ P next exit
  simp only at h1 h2 h3 h4 next ⊢
  subst h1
  unfold Z3q
  rw [hq, ← hal]
  simp only [Int.toNat_natCast]
  refine Ok.ite.2 ⟨fun hx => ?_, fun hx => ?_⟩
  ·
   have hkl : k < al.length := by omega
   have hc := hcap _ (Z8s hkl default)
   have hj : ∀ c : Int, 0 ≤ c → Ok (Z33 n a (Zfs n.N (v - 1)) ol k c) P := by
    intro c hc0
    unfold Z33
    rw [hq, ← hal, hm]
    refine Ok.bind.2 (Zah (Zfg (by omega)) (Ok.bind.2 (Zah (Zfg (by omega)) (Ok.gd.2 ⟨?_, Ok.gd.2 ⟨(by omega), Ok.some.2 (next _ ⟨k + 1, by simp, by omega, by simp [h3], ?_⟩ (by simp only; omega))⟩⟩))))
    · rw [List.length_append, h3]; simp only [List.length_cons, List.length_nil]; constructor <;> omega
    · exact h4.put (Za8 (by omega)) (Za8 (by omega)) (Zgi hc0 (by omega))
   refine Ok.gd.2 ⟨(by omega), Ok.ite.2 ⟨fun hn => ?_, fun hn => ?_⟩⟩
   · exact Ok.gd.2 ⟨by constructor <;> omega, Ok.gd.2 ⟨by constructor <;> omega, hj (-((al.getD k default).cap + 1)) (by omega)⟩⟩
   · exact hj (al.getD k default).cap (by omega)
  ·
   refine Ok.some.2 (exit _ ?_)
   unfold Z52
   refine Ok.some.2 ?_
   rw [hm]
   exact ⟨Zl4 (by omega) (by omega) hS ⟨t0, t1⟩ t2 h4 (show ol.length ≤ 4096 by omega), by simpa using h4, by simp only; omega, by show (ol.length : Int) ≤ a; omega, ⟨by simp only; omega, hS.1, hS.2, t0, t1, fun e => t2 e.symm⟩⟩
 refine Ok.ite.2 ⟨fun he => ?_, fun he => ?_⟩
 ·
  refine Ok.gd.2 ⟨(by omega), Ok.gd.2 ⟨by omega, ?_⟩⟩
  obtain ⟨n1, n2, n3⟩ := next_ne hS.1 hS.2 (by omega)
  exact key _ n1 n2 n3
 · exact key _ hT.1 hT.2 (fun e => he e.symm)
theorem Zn2 {n : Net} {m : Nat} (hN : n.N = m) (hm : m ≤ 4096) (hl : n.Arcs.length ≤ 16384) (he : Za6 m n.Arcs) :
    Ok (Z7w n) (fun fs => fs.length = m + 1 ∧ ∀ u, u ≤ m → fs.getD u 0 = Z0w n.Arcs u) := by
  unfold Z7w
  simp only [hN]
  refine Ok.gd.2 ⟨(by omega), Ok.gd.2 ⟨(by omega), Ok.bind.2 (Zdb (fun s => ∃ k : Nat, s.2 = k ∧ k ≤ n.Arcs.length ∧ Counted n.Arcs m k s.1) (fun s => (n.Arcs.length - s.2).toNat) ⟨0, rfl, by omega, Counted.start n.Arcs m (by omega)⟩ (by unfold Z5p; simp only; omega) ?_)⟩⟩
  rintro ⟨fs, x⟩ ⟨k, h1, h2, h3⟩ P next exit
  simp only at h1 h2 h3 next ⊢
  subst h1
  unfold Z5s
  simp only [Int.toNat_natCast]
  refine Ok.ite.2 ⟨fun hx => ?_, fun hx => ?_⟩
  · have hkl : k < n.Arcs.length := by omega
    have hfl := h3.1
    have e0 := he k hkl false
    have e1 := he k hkl true
    simp only [vtx, Bool.false_eq_true, if_false, if_true] at e0 e1
    have c0 := h3.2.2 _ e0.1 e0.2
    have c1 := h3.2.2 _ e1.1 e1.2
    have d0 := Zko n.Arcs (n.Arcs.getD k default).fr.toNat k
    have d1 := Zko n.Arcs (n.Arcs.getD k default).to.toNat k
    refine Ok.gd.2 ⟨(by omega), Ok.ite.2 ⟨fun hne => ?_, fun hne => ?_⟩⟩
    · have c2 : (fs.set ((n.Arcs.getD k default).fr + 1).toNat (fs.getD ((n.Arcs.getD k default).fr + 1).toNat 0 + 1)).getD ((n.Arcs.getD k default).to + 1).toNat 0 = cnt n.Arcs (n.Arcs.getD k default).to.toNat k := by rw [Z81 (by omega)]; exact c1
      refine Ok.gd.2 ⟨(by omega), Ok.gd.2 ⟨(by omega), Ok.gd.2 ⟨(by omega), Ok.gd.2 ⟨(by omega), Ok.gd.2 ⟨(by omega), Ok.gd.2 ⟨(by simp only [List.length_set, List.length_replicate]; omega), Ok.gd.2 ⟨(by omega), Ok.gd.2 ⟨(by simp only [List.length_set, List.length_replicate]; omega), Ok.gd.2 ⟨(by omega), Ok.some.2 (next _ ⟨k + 1, by simp, by omega, ?_⟩ (by simp only; omega))⟩⟩⟩⟩⟩⟩⟩⟩⟩
      exact h3.put he hkl hne
    · refine Ok.gd.2 ⟨(by omega), Ok.some.2 (next _ ⟨k + 1, by simp, by omega, h3.skip (Classical.not_not.1 hne)⟩ (by simp only; omega))⟩
  · refine Ok.some.2 (exit _ ?_)
    have hk : k = n.Arcs.length := by omega
    subst hk
    unfold Z6y
    refine Ok.bind.2 (Zdb (fun s => ∃ v : Nat, s.2 = v ∧ v ≤ m ∧ Summed n.Arcs m v s.1) (fun s => (m - s.2).toNat) ⟨0, rfl, by omega, h3.summed⟩ (by unfold Z5p; simp only; omega) ?_)
    rintro ⟨gs, y⟩ ⟨v, g1, g2, g3⟩ P2 next2 exit2
    simp only at g1 g2 g3 next2 ⊢
    subst g1
    unfold Z5r
    simp only [hN, Int.toNat_natCast]
    have hgl := g3.1
    have b0 := g3.2.1 v (Nat.le_refl _)
    refine Ok.ite.2 ⟨fun hv => ?_, fun hv => ?_⟩
    · have b1 := g3.2.2 v (Nat.le_refl _) (by omega)
      have b2 := Z95 (al := n.Arcs) (v := v) (by omega) hl
      have b3 := Zko n.Arcs v n.Arcs.length
      have b5 : ((v : Int) + 1).toNat = v + 1 := by omega
      simp only [b5]
      refine Ok.gd.2 ⟨(by omega), Ok.gd.2 ⟨(by omega), Ok.gd.2 ⟨(by omega), Ok.gd.2 ⟨(by omega), Ok.gd.2 ⟨(by omega), Ok.gd.2 ⟨(by omega), Ok.some.2 (next2 _ ⟨v + 1, by simp, by omega, ?_⟩ (by simp only; omega))⟩⟩⟩⟩⟩⟩
      exact g3.put (by omega) rfl
    · refine Ok.some.2 (exit2 _ ?_)
      unfold Z6x
      have : v = m := by omega
      subst this
      exact Ok.some.2 ⟨hgl, g3.2.1⟩
structure CsrIs (n : Net) (m : Nat) (c : Csr) : Prop where
  hN : c.N = m
  hS : c.S = n.S
  hT : c.T = n.T
  ok : CsrOK n.Arcs m c.First c.Head c.Rev c.Cap c.Arc c.Back
theorem s_Make {n : Net} {m : Nat} (hN : n.N = m) (hc : Za7 n.N n.S n.T n.Arcs = 0) (hl : lenok n.Arcs.length) :
    Ok (Z9x n) (fun r => CsrIs n m r.1 ∧ r.2 = 0) := by
  have hz := Z8l hc
  have hm : m ≤ 4096 := by omega
  have he : Za6 m n.Arcs := Zix (by rw [← hN]; exact hz.2.2.2.1)
  unfold Z9x
  refine Ok.bind.2 (Zah (s_Check n hl) (Ok.ite.2 ⟨fun h => absurd hc h, fun _ => Ok.bind.2 (Ok.mono (Zn2 hN hm (by omega) he) ?_)⟩))
  rintro fs ⟨hfl, hfs⟩
  simp only [hN, Int.toNat_natCast, hfs m (Nat.le_refl _)]
  have hbs := Z95 (al := n.Arcs) (v := m) hm (by omega)
  unfold Z30
  refine Ok.gd.2 ⟨(by omega), Ok.gd.2 ⟨(by omega), Ok.gd.2 ⟨(by omega), Ok.gd.2 ⟨(by omega), Ok.gd.2 ⟨(by omega), Ok.gd.2 ⟨(by omega), Ok.bind.2 (Ok.gd.2 ⟨(by omega), Ok.some.2 (Ok.bind.2 ?_)⟩)⟩⟩⟩⟩⟩⟩
  refine Zdb (fun s => ∃ k : Nat, s.2.2.2.2.2.2 = k ∧ k ≤ n.Arcs.length ∧ MakeAt n.Arcs m k s.2.2.2.2.2.1 s.1 s.2.1 s.2.2.1 s.2.2.2.1 s.2.2.2.2.1) (fun s => (n.Arcs.length - s.2.2.2.2.2.2).toNat) ⟨0, rfl, by omega, MakeAt.start hfl hfs⟩ (by unfold Z5p; simp only; omega) ?_
  rintro ⟨hs, rs, cs, aa, bs, nx, x⟩ ⟨k, h1, h2, h3⟩ P next exit
  simp only at h1 h2 h3 next ⊢
  subst h1
  unfold Z7x
  simp only [Int.toNat_natCast]
  refine Ok.ite.2 ⟨fun hx => ?_, fun hx => ?_⟩
  · have hkl : k < n.Arcs.length := by omega
    refine Ok.gd.2 ⟨(by omega), Ok.ite.2 ⟨fun heq => ?_, fun hne => ?_⟩⟩
    · exact Ok.gd.2 ⟨(by omega), Ok.some.2 (next _ ⟨k + 1, by simp, by omega, h3.skip heq⟩ (by simp only; omega))⟩
    · have e0 := he k hkl false
      have e1 := he k hkl true
      have n0 := h3.at he hkl false
      have n1 := h3.at he hkl true
      have p0 : pos n.Arcs k false < Z0w n.Arcs m := Zc0 hkl hne he
      have p1 : pos n.Arcs k true < Z0w n.Arcs m := Zc0 hkl hne he
      simp only [vtx, Bool.false_eq_true, if_false, if_true] at e0 e1 n0 n1
      have hh := h3
      obtain ⟨⟨l0, l1, l2, l3, l4, l5⟩, _, _⟩ := h3
      unfold Z92
      simp only [n0, Int.toNat_natCast]
      have n2 : (nx.set (n.Arcs.getD k default).fr.toNat ((pos n.Arcs k false : Int) + 1)).getD (n.Arcs.getD k default).to.toNat 0 = (pos n.Arcs k true : Nat) := by rw [Z81 (by omega)]; exact n1
      refine Ok.bind.2 (Ok.gd.2 ⟨(by omega), Ok.gd.2 ⟨(by omega), Ok.gd.2 ⟨(by omega), Ok.gd.2 ⟨(by omega), Ok.gd.2 ⟨(by omega), Ok.gd.2 ⟨(by omega), Ok.gd.2 ⟨(by omega), Ok.gd.2 ⟨(by omega), Ok.some.2 (Ok.bind.2 ?_)⟩⟩⟩⟩⟩⟩⟩⟩)
      simp only [n2, Int.toNat_natCast]
      refine Ok.gd.2 ⟨(by simp only [List.length_set, List.length_replicate]; omega), Ok.gd.2 ⟨(by simp only [List.length_set, List.length_replicate]; omega), Ok.gd.2 ⟨(by omega), Ok.gd.2 ⟨(by simp only [List.length_set, List.length_replicate]; omega), Ok.gd.2 ⟨(by simp only [List.length_set, List.length_replicate]; omega), Ok.gd.2 ⟨(by simp only [List.length_set, List.length_replicate]; omega), Ok.gd.2 ⟨(by simp only [List.length_set, List.length_replicate]; omega), Ok.gd.2 ⟨(by simp only [List.length_set, List.length_replicate]; omega), Ok.some.2 (Ok.gd.2 ⟨(by omega), Ok.gd.2 ⟨(by simp only [List.length_set, List.length_replicate]; omega), Ok.gd.2 ⟨(by omega), Ok.some.2 (next _ ⟨k + 1, by simp, by omega, ?_⟩ (by simp only; omega))⟩⟩⟩)⟩⟩⟩⟩⟩⟩⟩⟩
      exact hh.put he hkl hne
  · refine Ok.some.2 (exit _ ?_)
    unfold Z9q
    have hk : k = n.Arcs.length := by omega
    subst hk
    exact Ok.some.2 ⟨⟨hN, rfl, rfl, h3.done hfl hfs⟩, rfl⟩
def Zcw (rs cs : List Int) (res : List Int) (j : Nat) : Prop :=
  0 ≤ res.getD j 0 ∧ res.getD j 0 ≤ max (cs.getD j 0) (cs.getD (rs.getD j 0).toNat 0) ∧ res.getD (rs.getD j 0).toNat 0 = max (cs.getD j 0) (cs.getD (rs.getD j 0).toNat 0) - res.getD j 0
def FlowK (al : List Arc) (a : Nat) (res : List Int) (k : Nat) (fl : List Int) : Prop :=
  fl.length = a ∧ ∀ i, fl.getD i 0 = if i < al.length ∧ (al.getD i default).fr ≠ (al.getD i default).to ∧ pos al i true < k then res.getD (pos al i true) 0 else 0
theorem s_over {l : List Int} {a : Int} (hl : lenok l.length) : Ok (Z1x l a) (fun r => r = decide (∃ j, j < l.length ∧ a ≤ l.getD j 0)) := by
 unfold Z1x Z2t
 refine Ok.bind.2 (Ok.bind.2 (Zdb (fun x => ∃ k : Nat, x = k ∧ k ≤ l.length ∧ ∀ j, j < k → ¬ a ≤ l.getD j 0) (fun x => (l.length - x).toNat) ⟨0, rfl, by omega, fun j hj => by omega⟩ (by unfold Z5p; omega) ?_))
 rintro x ⟨k, rfl, g2, g3⟩ P next exit
 unfold Z1w Zan
 simp only [Int.toNat_natCast]
 refine Ok.ite.2 ⟨fun hx => ?_, fun hx => ?_⟩
 ·
  refine Ok.gd.2 ⟨(by omega), Ok.bind.2 (Ok.some.2 (Ok.ite.2 ⟨fun hd => ?_, fun hd => ?_⟩))⟩
  ·
   have hd := of_decide_eq_true hd
   refine Ok.some.2 (exit _ (Ok.some.2 (Ok.some.2 ?_)))
   rw [decide_eq_true (show (0 : Int) ≤ k by omega)]
   exact (decide_eq_true ⟨k, by omega, hd⟩).symm
  ·
   refine Ok.gd.2 ⟨(by omega), Ok.some.2 (next _ ⟨k + 1, by simp, by omega, fun j hj => ?_⟩ (by omega))⟩
   rcases Nat.lt_or_ge j k with h | h
   · exact g3 j h
   · rw [show j = k by omega]; exact fun h => hd (decide_eq_true h)
 ·
  refine Ok.some.2 (exit _ (Ok.some.2 (Ok.some.2 ?_)))
  refine (decide_eq_false ?_).symm
  rintro ⟨j, hj, hja⟩
  exact g3 j (by omega) hja
end Go.Acq
namespace Go.Acq
open Go
set_option linter.unusedSimpArgs false
def FirstAt (l : List Int) (x : Int) (r : Nat) : Prop := r ≤ l.length ∧ (∀ k, k < r → l.getD k 0 < x) ∧ (r < l.length → x ≤ l.getD r 0)
theorem Zik {l : List Int} {x : Int} (hl : l.length ≤ 4611686018427387904) (hm : ∀ i j, i ≤ j → j < l.length → l.getD i 0 ≤ l.getD j 0) : Ok (Z54 l x) (fun r => ∃ n : Nat, r = n ∧ FirstAt l x n) := by
 unfold Z54 Z39
 refine Ok.bind.2 (Ok.bind.2 (Zdb (fun s => ∃ i j : Nat, s = ((i : Int), (j : Int)) ∧ i ≤ j ∧ j ≤ l.length ∧ (∀ k, k < i → l.getD k 0 < x) ∧ (j < l.length → x ≤ l.getD j 0)) (fun s => (s.2 - s.1).toNat) ⟨0, l.length, rfl, by omega, by omega, fun k h => by omega, fun h => by omega⟩ (by unfold Z5p; omega) ?_))
 rintro s ⟨i, j, rfl, h1, h2, h3, h4⟩ P next exit
 unfold Z28 Z5g
 have next : ∀ i' j' : Nat, i' ≤ j' → j' ≤ l.length → (∀ k, k < i' → l.getD k 0 < x) → (j' < l.length → x ≤ l.getD j' 0) → j' - i' < j - i → P (.inl ((i' : Int), (j' : Int))) := fun i' j' a b c d e => next _ ⟨i', j', rfl, a, b, c, d⟩ (by simp only; omega)
 simp only
 refine Ok.ite.2 ⟨fun hx => ?_, fun hx => Ok.some.2 (exit _ ?_)⟩
 ·
  have hd : Int.fdiv ((i : Int) + j) (2 ^ 1) = ((i + j) / 2 : Nat) := by rw [Int.fdiv_eq_ediv_of_nonneg _ (by omega)]; omega
  simp only [hd, Int.toNat_natCast]
  refine Ok.gd.2 ⟨(by omega), Ok.gd.2 ⟨(by omega), Ok.gd.2 ⟨(by omega), Ok.bind.2 (Ok.gd.2 ⟨(by omega), Ok.some.2 (Ok.ite.2 ⟨fun hb => ?_, fun hb => ?_⟩)⟩)⟩⟩⟩
  ·
   have hb : l.getD ((i + j) / 2) 0 < x := by
    have : ¬ x ≤ l.getD ((i + j) / 2) 0 := by simpa using hb
    omega
   refine Ok.gd.2 ⟨(by omega), Ok.some.2 ?_⟩
   have := next ((i + j) / 2 + 1) j (by omega) h2 (fun k hk => by have := hm k ((i + j) / 2) (by omega) (by omega); omega) h4 (by omega)
   rwa [show (((i + j) / 2 + 1 : Nat) : Int) = (((i + j) / 2 : Nat) : Int) + 1 by omega] at this
  ·
   have hb : x ≤ l.getD ((i + j) / 2) 0 := by
    have : ¬ ¬ x ≤ l.getD ((i + j) / 2) 0 := by simpa using hb
    omega
   exact Ok.some.2 (next i ((i + j) / 2) (by omega) (by omega) h3 (fun _ => hb) (by omega))
 ·
  unfold Z2s
  have : i = j := by omega
  subst this
  exact Ok.some.2 (Ok.some.2 ⟨i, rfl, h2, h3, h4⟩)
theorem s_Len (c : Csr) : Z93 c = some (c.Head.length : Int) := rfl
theorem s_Tail {n : Net} {m : Nat} {c : Csr} (hc : CsrIs n m c) (he : Za6 m n.Arcs) (hm : m ≤ 4096) (hl : n.Arcs.length ≤ 16384) {i : Nat} {s : Bool} (hi : i < n.Arcs.length) (hne : (n.Arcs.getD i default).fr ≠ (n.Arcs.getD i default).to) :
    Z7d c (pos n.Arcs i s : Nat) = some (vtx (n.Arcs.getD i default) s, true) := by
  refine Zfl ?_
  have hp := Zc0 (s := s) hi hne he
  have hbs := Z95 (al := n.Arcs) (v := m) (by omega) (by omega)
  have lf := hc.ok.lf
  have lh := hc.ok.lh
  unfold Z7d
  refine Ok.ite.2 ⟨fun h => by omega, fun _ => Ok.bind.2 (Zah (s_Len c) ?_)⟩
  unfold Z6l
  refine Ok.ite.2 ⟨fun h => by have := of_decide_eq_true h; omega, fun _ => Ok.gd.2 ⟨(by omega), ?_⟩⟩
  refine Ok.bind.2 (Ok.mono (Zik (by omega) fun a b hab hb => ?_) ?_)
  · rw [hc.ok.hf a (by omega), hc.ok.hf b (by omega)]
    have := Z5m (al := n.Arcs) hab
    omega
  rintro r ⟨k, rfl, g1, g2, g3⟩
  have hv := he i hi s
  obtain ⟨v, hv'⟩ : ∃ v : Nat, vtx (n.Arcs.getD i default) s = v := ⟨(vtx (n.Arcs.getD i default) s).toNat, by omega⟩
  have hcl := Zej (s := s) hi hne hv.1
  have hpos : pos n.Arcs i s = Z0w n.Arcs v + cnt n.Arcs v i := by unfold pos; rw [hv', Int.toNat_natCast]
  rw [hv'] at hv hcl ⊢
  rw [Int.toNat_natCast] at hcl
  have hb1 : Z0w n.Arcs (v + 1) = Z0w n.Arcs v + cnt n.Arcs v n.Arcs.length := rfl
  have e : k = v + 1 := by
    rcases Nat.lt_trichotomy k (v + 1) with h | h | h
    · have h3 := g3 (by omega)
      rw [hc.ok.hf k (by omega)] at h3
      have := Z5m (al := n.Arcs) (show k ≤ v by omega)
      omega
    · exact h
    · have h3 := g2 (v + 1) h
      rw [hc.ok.hf (v + 1) (by omega)] at h3
      omega
  subst e
  refine Ok.gd.2 ⟨(by omega), Ok.some.2 ?_⟩
  simp
end Go.Acq
namespace Go.Acq
open Go
set_option linter.unusedSimpArgs false
def ex (al : List Arc) (f : List Int) (v : Int) : Nat → Int
  | 0 => 0
  | k + 1 => ex al f v k - (if (al.getD k default).fr = v then f.getD k 0 else 0) + (if (al.getD k default).to = v then f.getD k 0 else 0)
def tot (f : List Int) : Nat → Int
  | 0 => 0
  | k + 1 => tot f k + f.getD k 0
def part (al : List Arc) (f : List Int) (j : Int) : Nat → Int
  | 0 => 0
  | k + 1 => part al f j k - (if (al.getD k default).fr < j then f.getD k 0 else 0) + (if (al.getD k default).to < j then f.getD k 0 else 0)
theorem ex_le {al : List Arc} {f : List Int} (v : Int) {n : Nat} (h : ∀ i, i < n → 0 ≤ f.getD i 0) : ∀ k, k ≤ n → -tot f k ≤ ex al f v k ∧ ex al f v k ≤ tot f k
 | 0, _ => by simp [ex, tot]
 | k + 1, hk => by
  have ih := ex_le (al := al) v h k (by omega)
  have := h k hk
  simp only [ex, tot]
  split <;> split <;> omega
theorem Zhs {f : List Int} {n : Nat} (h : ∀ i, i < n → 0 ≤ f.getD i 0) : ∀ j k, j ≤ k → k ≤ n → tot f j ≤ tot f k
  | j, 0, hj, _ => by have : j = 0 := by omega
                      subst this; exact Int.le_refl _
  | j, k + 1, hj, hk => by
    rcases Nat.lt_or_ge j (k + 1) with h1 | h1
    · have := Zhs h j k (by omega) (by omega)
      have := h k hk
      simp only [tot]; omega
    · rw [show j = k + 1 by omega]; exact Int.le_refl _
theorem sumL_tot {f : List Int} : ∀ (al : List Arc) (left : Int) (k : Nat), (Zib left (al.drop k)).isSome = true → 0 ≤ left → k ≤ al.length → (∀ i, i < al.length → 0 ≤ f.getD i 0 ∧ f.getD i 0 ≤ (al.getD i default).cap) → tot f al.length - tot f k ≤ left := by
 intro al left k
 induction hn : al.length - k generalizing left k with
 | zero =>
  intro _ h0 hk _
  rw [show k = al.length by omega]; omega
 | succ n ih =>
  intro hs h0 hk hf
  have hkl : k < al.length := by omega
  rw [Zih hkl] at hs
  by_cases hc : (al.getD k default).cap < 0 ∨ left < (al.getD k default).cap
  · rw [if_pos hc] at hs; cases hs
  ·
   rw [if_neg hc] at hs
   have := ih (left - (al.getD k default).cap) (k + 1) (by omega) hs (by omega) (by omega) hf
   have hfk := hf k hkl
   simp only [tot] at this
   omega
def FwithinP (n : Net) (f : List Int) : Prop := Za7 n.N n.S n.T n.Arcs = 0 ∧ f.length = n.Arcs.length ∧ ∀ i, i < n.Arcs.length → 0 ≤ f.getD i 0 ∧ f.getD i 0 ≤ (n.Arcs.getD i default).cap
theorem FwithinP.tot {n : Net} {f : List Int} (h : FwithinP n f) : ∀ k, k ≤ n.Arcs.length → 0 ≤ tot f k ∧ tot f k ≤ 4611686018427387904 := by
 intro k hk
 have hz := Z8l h.1
 have h1 := sumL_tot (f := f) n.Arcs 4611686018427387904 0 (by simpa using hz.2.2.2.2.2) (by omega) (by omega) h.2.2
 have h2 := Zhs (fun i hi => (h.2.2 i hi).1) k n.Arcs.length hk (Nat.le_refl _)
 have h3 := Zhs (fun i hi => (h.2.2 i hi).1) 0 k (by omega) hk
 simp only [Acq.tot] at h1 h3
 omega
theorem Zfq {b : Bool} (h : ¬(!b) = true) : b = true := by cases b; exact absurd rfl h; rfl
def AllP (n : Net) (f : List Int) (so : Int → Prop) (but : List Int) : Prop := FwithinP n f ∧ ∀ v : Nat, v < n.N.toNat → so (ex n.Arcs f v n.Arcs.length) ∨ (v : Int) ∈ but
end Go.Acq
namespace Go.Acq
open Go
set_option linter.unusedSimpArgs false
theorem Ziw {α : Type} {xs ys : List α} {d : α} {i : Nat} (h : i < xs.length) : (xs ++ ys).getD i d = xs.getD i d := by
 rw [List.getD_eq_getElem?_getD, List.getElem?_append_left h, List.getD_eq_getElem?_getD]
theorem Ziv {α : Type} {xs ys : List α} {d : α} {i : Nat} (h : xs.length ≤ i) : (xs ++ ys).getD i d = ys.getD (i - xs.length) d := by
 rw [List.getD_eq_getElem?_getD, List.getElem?_append_right h, List.getD_eq_getElem?_getD]
theorem pos_row {al : List Arc} {i v : Nat} {s : Bool} (hi : i < al.length) (hne : (al.getD i default).fr ≠ (al.getD i default).to) (h0 : 0 ≤ vtx (al.getD i default) s) (h1 : Z0w al v ≤ pos al i s) (h2 : pos al i s < Z0w al (v + 1)) : vtx (al.getD i default) s = v ∧ pos al i s = Z0w al v + cnt al v i := by
 obtain ⟨u, hu⟩ : ∃ u : Nat, vtx (al.getD i default) s = u := ⟨(vtx (al.getD i default) s).toNat, by omega⟩
 have hcl := Zej (s := s) hi hne h0
 have hpos : pos al i s = Z0w al u + cnt al u i := by unfold pos; rw [hu, Int.toNat_natCast]
 rw [hu, Int.toNat_natCast] at hcl
 have hb1 : Z0w al (u + 1) = Z0w al u + cnt al u al.length := rfl
 have : u = v := by
  rcases Nat.lt_trichotomy u v with h | h | h
  · have := Z5m (al := al) (show u + 1 ≤ v by omega); omega
  · exact h
  · have := Z5m (al := al) (show v + 1 ≤ u by omega); omega
 subst this
 exact ⟨hu, hpos⟩
end Go.Acq
namespace Go.Acq
open Go
set_option linter.unusedSimpArgs false
def inS (c : List Bool) (v : Int) : Bool := c.getD v.toNat false
def acK (al : List Arc) (f : List Int) (c : List Bool) : Nat → Int
  | 0 => 0
  | k + 1 => acK al f c k + (if inS c (al.getD k default).fr = true ∧ inS c (al.getD k default).to = false then f.getD k 0 else 0) - (if inS c (al.getD k default).fr = false ∧ inS c (al.getD k default).to = true then f.getD k 0 else 0)
def totC (al : List Arc) : Nat → Int
  | 0 => 0
  | k + 1 => totC al k + (al.getD k default).cap
theorem Zkc (al : List Arc) : ∀ k, k ≤ al.length → totC al k = tot (al.map (·.cap)) k
 | 0, _ => rfl
 | k + 1, hk => by
  simp only [totC, tot, Zkc al k (by omega)]
  rw [List.getD_eq_getElem?_getD, List.getD_eq_getElem?_getD, List.getElem?_map, List.getElem?_eq_getElem (show k < al.length by omega)]; rfl
theorem Znh {al : List Arc} {i : Nat} (hi : i < al.length) : (al.map (·.cap)).getD i 0 = (al.getD i default).cap := by
 rw [List.getD_eq_getElem?_getD, List.getD_eq_getElem?_getD, List.getElem?_map, List.getElem?_eq_getElem hi]; rfl
theorem Zjz {n : Net} (h : Za7 n.N n.S n.T n.Arcs = 0) (hc : ∀ i, i < n.Arcs.length → 0 ≤ (n.Arcs.getD i default).cap) : FwithinP n (n.Arcs.map (·.cap)) :=
 ⟨h, by simp, fun i hi => by rw [Znh hi]; exact ⟨hc i hi, Int.le_refl _⟩⟩
theorem Zgz {n : Net} (h : Za7 n.N n.S n.T n.Arcs = 0) : ∀ i, i < n.Arcs.length → 0 ≤ (n.Arcs.getD i default).cap := fun i hi => by
 have := List.all_eq_true.1 (Z8l h).2.2.2.2.1 _ (Z8s hi default)
 simpa [Znl] using this
theorem Zmv {n : Net} (h : Za7 n.N n.S n.T n.Arcs = 0) : ∀ k, k ≤ n.Arcs.length → 0 ≤ totC n.Arcs k ∧ totC n.Arcs k ≤ 4611686018427387904 := fun k hk => by
 rw [Zkc _ k hk]
 have := (Zjz h (Zgz h)).tot k (by simpa using hk)
 exact this
end Go.Acq
namespace Go.Acq
open Go
set_option linter.unusedSimpArgs false
inductive Reach (G : Nat → Nat → Prop) (s : Nat) : Nat → Prop
  | refl : Reach G s s
  | step {u v : Nat} : Reach G s u → G u v → Reach G s v
theorem Reach.trans {G : Nat → Nat → Prop} {a b c : Nat} (h : Reach G a b) (g : Reach G b c) : Reach G a c := by
 induction g with
 | refl => exact h
 | step _ h2 ih => exact .step ih h2
theorem Reach.mono {G K : Nat → Nat → Prop} {a b : Nat} (h : Reach G a b) (hk : ∀ u v, G u v → K u v) : Reach K a b := by
 induction h with
 | refl => exact .refl
 | step _ h2 ih => exact .step ih (hk _ _ h2)
def tc (l : List Bool) : Nat → Nat
  | 0 => 0
  | k + 1 => tc l k + if l.getD k false = true then 1 else 0
theorem tc_set {l : List Bool} {i : Nat} (hi : i < l.length) (hf : l.getD i false = false) : ∀ k : Nat, tc (l.set i true) k = tc l k + (if i < k then 1 else 0)
 | 0 => by simp [tc]
 | k + 1 => by
  have ih := tc_set hi hf k
  simp only [tc, ih, Zip]
  by_cases c : i = k
  ·
   subst c
   rw [if_neg (show ¬ i < i by omega), if_pos (show i = i ∧ i < l.length from ⟨rfl, hi⟩), hf, if_pos rfl, if_pos (show i < i + 1 by omega)]; rfl
  ·
   rw [if_neg (show ¬(i = k ∧ i < l.length) from fun h => c h.1)]
   by_cases c2 : i < k
   · rw [if_pos c2, if_pos (show i < k + 1 by omega)]; omega
   · rw [if_neg c2, if_neg (show ¬ i < k + 1 by omega)]; omega
structure MetI (G : Nat → Nat → Prop) (s m : Nat) (xs : List Bool) (row : List Int) : Prop where
  len : xs.length = m
  nat : ∀ q, q < row.length → ∃ v : Nat, row.getD q 0 = v ∧ v < m ∧ xs.getD v false = true ∧ Reach G s v
  has : ∀ v, v < m → xs.getD v false = true → ∃ q, q < row.length ∧ row.getD q 0 = (v : Int)
  cnt : row.length = tc xs m
theorem MetI.put {G : Nat → Nat → Prop} {s m v : Nat} {xs : List Bool} {row : List Int} (h : MetI G s m xs row) (hv : v < m) (hf : xs.getD v false = false) (hr : Reach G s v) : MetI G s m (xs.set v true) (row ++ [(v : Int)]) := by
 have hl := h.len
 refine ⟨by simp [hl], fun q hq => ?_, fun u hu hx => ?_, ?_⟩
 ·
  rw [List.length_append, List.length_singleton] at hq
  rcases Nat.lt_or_ge q row.length with h1 | h1
  ·
   obtain ⟨u, h2, h3, h4, h5⟩ := h.nat q h1
   refine ⟨u, by rw [Ziw h1]; exact h2, h3, ?_, h5⟩
   rw [Zip]; split
   · rfl
   · exact h4
  ·
   refine ⟨v, ?_, hv, by rw [Zip, if_pos ⟨rfl, by omega⟩], hr⟩
   rw [Ziv h1, show q - row.length = 0 by omega]; rfl
 ·
  rw [Zip] at hx
  by_cases c : v = u
  ·
   refine ⟨row.length, by simp, ?_⟩
   rw [Ziv (Nat.le_refl _), Nat.sub_self, ← c]; rfl
  ·
   rw [if_neg (fun h => c h.1)] at hx
   obtain ⟨q, h1, h2⟩ := h.has u hu hx
   exact ⟨q, by rw [List.length_append]; omega, by rw [Ziw h1]; exact h2⟩
 · rw [List.length_append, List.length_singleton, tc_set (by omega) hf, if_pos hv, h.cnt]
def OpenA (n : Net) (f : List Int) (u v : Nat) : Prop := ∃ i, i < n.Arcs.length ∧ (n.Arcs.getD i default).fr ≠ (n.Arcs.getD i default).to ∧
  (((n.Arcs.getD i default).fr = u ∧ (n.Arcs.getD i default).to = v ∧ f.getD i 0 < (n.Arcs.getD i default).cap) ∨ ((n.Arcs.getD i default).to = u ∧ (n.Arcs.getD i default).fr = v ∧ 0 < f.getD i 0))
end Go.Acq
namespace Go.Acq
open Go
set_option linter.unusedSimpArgs false
def Zfk (al : List Arc) (f : List Int) (c : List Bool) (j : Int) : Nat → Int
  | 0 => 0
  | k + 1 => Zfk al f c j k - (if (al.getD k default).fr < j ∧ inS c (al.getD k default).fr = false then f.getD k 0 else 0) + (if (al.getD k default).to < j ∧ inS c (al.getD k default).to = false then f.getD k 0 else 0)
theorem Zgn {al : List Arc} {f : List Int} {c : List Bool} (j : Int) : ∀ k, Zfk al f c (j + 1) k = Zfk al f c j k + (if inS c j = false then ex al f j k else 0)
 | 0 => by simp [Zfk, ex]
 | k + 1 => by
  have ih := Zgn (al := al) (f := f) (c := c) j k
  simp only [Zfk, ex, ih]
  have e1 : ∀ x : Int, (if x < j + 1 ∧ inS c x = false then f.getD k 0 else 0) = (if x < j ∧ inS c x = false then f.getD k 0 else 0) + (if x = j ∧ inS c j = false then f.getD k 0 else 0) := fun x => by
   by_cases h1 : x < j
   ·
    by_cases h3 : inS c x = false
    · rw [if_pos ⟨by omega, h3⟩, if_pos ⟨h1, h3⟩, if_neg (fun h => by omega)]; omega
    · rw [if_neg (fun h => h3 h.2), if_neg (fun h => h3 h.2), if_neg (fun h => by omega)]; omega
   ·
    by_cases h2 : x = j
    ·
     subst h2
     by_cases h3 : inS c x = false
     · rw [if_pos ⟨by omega, h3⟩, if_neg (fun h => h1 h.1), if_pos ⟨rfl, h3⟩]; omega
     · rw [if_neg (fun h => h3 h.2), if_neg (fun h => h3 h.2), if_neg (fun h => h3 h.2)]; omega
    · rw [if_neg (fun h => by omega), if_neg (fun h => by omega), if_neg (fun h => h2 h.1)]; omega
  rw [e1, e1]
  by_cases h : inS c j = false
  ·
   simp only [h, and_true, if_true]
   omega
  ·
   simp only [h, Bool.not_eq_false, and_false, if_false, ite_false, reduceCtorEq]
   omega
theorem Zgo {al : List Arc} {f : List Int} {c : List Bool} {m : Nat} (he : Za6 m al) : ∀ k, k ≤ al.length → Zfk al f c 0 k = 0
 | 0, _ => rfl
 | k + 1, hk => by
  have h0 := he k hk false
  have h1 := he k hk true
  simp only [vtx, Bool.false_eq_true, if_false, if_true] at h0 h1
  simp only [Zfk, Zgo he k (by omega)]
  rw [if_neg (fun h => by omega), if_neg (fun h => by omega)]; rfl
theorem Zin {al : List Arc} {f : List Int} {c : List Bool} {m : Nat} (he : Za6 m al) : ∀ k, k ≤ al.length → Zfk al f c m k = acK al f c k
 | 0, _ => rfl
 | k + 1, hk => by
  have h0 := he k hk false
  have h1 := he k hk true
  simp only [vtx, Bool.false_eq_true, if_false, if_true] at h0 h1
  simp only [Zfk, acK, Zin he k (by omega)]
  obtain ⟨A, hA⟩ : ∃ A, al.getD k default = A := ⟨_, rfl⟩
  obtain ⟨F, hF⟩ : ∃ F, f.getD k 0 = F := ⟨_, rfl⟩
  rw [hA] at h0 h1 ⊢
  rw [hF]
  cases a : inS c A.fr <;> cases b : inS c A.to <;> simp [h0.2, h1.2] <;> omega
end Go.Acq
namespace Go.Acq
open Go
set_option linter.unusedSimpArgs false
def Zag (g : Nat → Int) : Nat → Int
  | 0 => 0
  | k + 1 => Zag g k + g k
theorem Z9u {g h : Nat → Int} : ∀ {k : Nat}, (∀ i, i < k → g i = h i) → Zag g k = Zag h k
 | 0, _ => rfl
 | k + 1, e => by simp only [Zag]; rw [Z9u fun i hi => e i (by omega), e k (by omega)]
theorem Zhu (g h : Nat → Int) : ∀ k, Zag (fun i => g i + h i) k = Zag g k + Zag h k
 | 0 => rfl
 | k + 1 => by simp only [Zag, Zhu g h k]; omega
theorem Zfe {g : Nat → Int} {k : Nat} (h : ∀ i, i < k → g i = 0) : Zag g k = 0 := by
 induction k with
 | zero => rfl
 | succ k ih => simp only [Zag]; rw [ih fun i hi => h i (by omega), h k (by omega)]; rfl
theorem Zbh {g : Nat → Int} {i : Nat} : ∀ {k : Nat}, i < k → (∀ j, j < k → j ≠ i → g j = 0) → Zag g k = g i
 | 0, h, _ => by omega
 | k + 1, h, e => by
  simp only [Zag]
  by_cases c : i = k
  · subst c; rw [Zfe fun j hj => e j (by omega) (by omega)]; omega
  · rw [Zbh (show i < k by omega) fun j hj hne => e j (by omega) hne, e k (by omega) (fun h => c h.symm)]; omega
theorem Zif (F : Nat → Nat → Int) (K : Nat) : ∀ L, Zag (fun j => Zag (fun i => F i j) K) L = Zag (fun i => Zag (fun j => F i j) L) K
 | 0 => (Zfe fun _ _ => rfl).symm
 | L + 1 => by
  simp only [Zag]
  rw [Zif F K L, ← Zhu]
theorem Zig {g : Nat → Int} {k : Nat} : ∀ {l : Nat}, k ≤ l → (∀ i, i < l → 0 ≤ g i) → Zag g k ≤ Zag g l
 | 0, h, _ => by rw [show k = 0 by omega]; exact Int.le_refl _
 | l + 1, h, e => by
  by_cases c : k = l + 1
  · subst c; exact Int.le_refl _
  ·
   have := Zig (show k ≤ l by omega) fun i hi => e i (by omega)
   have := e l (by omega)
   simp only [Zag]; omega
theorem Znj (al : List Arc) (f : List Int) (v : Int) : ∀ k, ex al f v k = Zag (fun i => (if (al.getD i default).to = v then f.getD i 0 else 0) - (if (al.getD i default).fr = v then f.getD i 0 else 0)) k
 | 0 => rfl
 | k + 1 => by simp only [ex, Zag, Znj al f v k]; omega
theorem Zkb (f : List Int) : ∀ k, tot f k = Zag (fun i => f.getD i 0) k
 | 0 => rfl
 | k + 1 => by simp only [tot, Zag, Zkb f k]
theorem posSum {al : List Arc} {m : Nat} (he : Za6 m al) (g : Nat → Int) : Zag g (Z0w al m) = Zag (fun i => if (al.getD i default).fr = (al.getD i default).to then 0 else g (pos al i false) + g (pos al i true)) al.length := by
 let F : Nat → Nat → Int := fun i j => if (al.getD i default).fr = (al.getD i default).to then 0 else (if pos al i false = j then g j else 0) + (if pos al i true = j then g j else 0)
 have e1 : Zag g (Z0w al m) = Zag (fun j => Zag (fun i => F i j) al.length) (Z0w al m) := by
  refine Z9u fun j hj => ?_
  obtain ⟨i, s, hi, hne, hp, _⟩ := Zkh (al := al) hj
  rw [Zbh (i := i) hi]
  ·
   simp only [F]
   rw [if_neg hne]
   cases s
   ·
    have h2 : pos al i true ≠ j := fun e => by have := (Z8j he hi hi hne hne (hp.trans e.symm)).2; cases this
    rw [if_pos hp, if_neg h2]; omega
   ·
    have h2 : pos al i false ≠ j := fun e => by have := (Z8j he hi hi hne hne (hp.trans e.symm)).2; cases this
    rw [if_neg h2, if_pos hp]; omega
  ·
   intro i' hi' hii
   simp only [F]
   by_cases c : (al.getD i' default).fr = (al.getD i' default).to
   · rw [if_pos c]
   · rw [if_neg c, if_neg fun e => hii (Z8j he hi' hi c hne (e.trans hp.symm)).1, if_neg fun e => hii (Z8j he hi' hi c hne (e.trans hp.symm)).1]; rfl
 rw [e1, Zif]
 refine Z9u fun i hi => ?_
 by_cases c : (al.getD i default).fr = (al.getD i default).to
 ·
  rw [if_pos c]
  exact Zfe fun j _ => by simp only [F]; rw [if_pos c]
 ·
  rw [if_neg c]
  have e2 : Zag (fun j => F i j) (Z0w al m) = Zag (fun j => (if pos al i false = j then g j else 0) + (if pos al i true = j then g j else 0)) (Z0w al m) := Z9u fun j _ => by simp only [F]; rw [if_neg c]
  rw [e2, Zhu, Zbh (i := pos al i false) (Zc0 hi c he) fun j _ hj => if_neg fun e => hj e.symm, Zbh (i := pos al i true) (Zc0 hi c he) fun j _ hj => if_neg fun e => hj e.symm, if_pos rfl, if_pos rfl]
def hd (c : Csr) (j : Nat) : Nat := (c.Head.getD j 0).toNat
def rv (c : Csr) (j : Nat) : Nat := (c.Rev.getD j 0).toNat
def fs (c : Csr) (v : Nat) : Nat := (c.First.getD v 0).toNat
def tl (c : Csr) (j : Nat) : Nat := hd c (rv c j)
def bk (c : Csr) (j : Nat) : Bool := c.Back.getD j false
def cp (c : Csr) (j : Nat) : Int := max (c.Cap.getD j 0) (c.Cap.getD (rv c j) 0)
structure Row (n : Net) (m L : Nat) (c : Csr) : Prop where
  is : CsrIs n m c
  chk : Za7 n.N n.S n.T n.Arcs = 0
  hm : n.N = m
  hL : Z0w n.Arcs m = L
section row
variable {n : Net} {m L : Nat} {c : Csr}
theorem Row.he (r : Row n m L c) : Za6 m n.Arcs := Zix (by rw [← r.hm]; exact (Z8l r.chk).2.2.2.1)
theorem Row.bd (r : Row n m L c) : 2 ≤ m ∧ m ≤ 4096 ∧ n.Arcs.length ≤ 16384 ∧ L ≤ 67108864 := by
 have hz := Z8l r.chk
 have := r.hm
 have hb := Z95 (al := n.Arcs) (v := m) (by omega) (by omega)
 have := r.hL
 omega
theorem Row.ends (r : Row n m L c) : (∃ S : Nat, n.S = S ∧ c.S = S ∧ S < m) ∧ (∃ T : Nat, n.T = T ∧ c.T = T ∧ T < m) ∧ n.S ≠ n.T ∧ c.N = m := by
 have hz := Z8l r.chk
 simp only [Z5e, decide_eq_true_eq] at hz
 have h1 := r.hm
 have h2 := r.is.hS
 have h3 := r.is.hT
 exact ⟨⟨n.S.toNat, by omega, by omega, by omega⟩, ⟨n.T.toNat, by omega, by omega, by omega⟩, hz.2.2.1.2.2, r.is.hN⟩
theorem Row.caps (r : Row n m L c) : ∀ i, i < n.Arcs.length → 0 ≤ (n.Arcs.getD i default).cap ∧ (n.Arcs.getD i default).cap ≤ 4611686018427387904 := fun i hi => by
 have h0 := Zgz r.chk i hi
 have h1 := Zmv r.chk (i + 1) hi
 have h2 := Zmv r.chk i (by omega)
 simp only [totC] at h1
 omega
theorem Row.lens (r : Row n m L c) : c.First.length = m + 1 ∧ c.Head.length = L ∧ c.Rev.length = L ∧ c.Cap.length = L ∧ c.Arc.length = L ∧ c.Back.length = L := by
 have h := r.is.ok
 rw [← r.hL]
 exact ⟨h.lf, h.lh, h.lr, h.lc, h.la, h.lb⟩
theorem Row.at (r : Row n m L c) {j : Nat} (hj : j < L) : ∃ i s, i < n.Arcs.length ∧ (n.Arcs.getD i default).fr ≠ (n.Arcs.getD i default).to ∧ pos n.Arcs i s = j ∧ c.Head.getD j 0 = (hd c j : Nat) ∧ (hd c j : Int) = vtx (n.Arcs.getD i default) (!s) ∧ (tl c j : Int) = vtx (n.Arcs.getD i default) s ∧
    c.Rev.getD j 0 = (rv c j : Nat) ∧ rv c j = pos n.Arcs i (!s) ∧ c.Cap.getD j 0 = (if s then 0 else (n.Arcs.getD i default).cap) ∧ c.Arc.getD j 0 = i ∧ bk c j = s := by
  obtain ⟨i, s, hi, hne, hp, q1, q2, q3, q4, q5⟩ := r.is.ok.place (by rw [r.hL]; exact hj)
  have hv := r.he i hi (!s)
  have hv2 := r.he i hi s
  have hr : rv c j = pos n.Arcs i (!s) := by unfold rv; rw [q2, Int.toNat_natCast]
  refine ⟨i, s, hi, hne, hp, by unfold hd; omega, by unfold hd; omega, ?_, by unfold rv; omega, hr, q3, q4, q5⟩
  unfold tl hd
  rw [hr, (r.is.ok.hat i hi hne (!s)).1, Bool.not_not]; omega
theorem Row.head (r : Row n m L c) {j : Nat} (hj : j < L) : c.Head.getD j 0 = (hd c j : Nat) ∧ hd c j < m := by
 obtain ⟨i, s, hi, hne, hp, q1, q2, q3, q4, q5, q6, q7, q8⟩ := r.at hj
 have hv := r.he i hi (!s)
 exact ⟨q1, by omega⟩
theorem Row.rev (r : Row n m L c) {j : Nat} (hj : j < L) : c.Rev.getD j 0 = (rv c j : Nat) ∧ rv c j < L ∧ rv c (rv c j) = j ∧ rv c j ≠ j := by
 obtain ⟨i, s, hi, hne, hp, q1, q2, q3, q4, q5, q6, q7, q8⟩ := r.at hj
 have hq : pos n.Arcs i (!s) < L := by rw [← r.hL]; exact Zc0 hi hne r.he
 refine ⟨q4, by rw [q5]; exact hq, ?_, fun e => ?_⟩
 ·
  have := (r.is.ok.hat i hi hne (!s)).2.1
  rw [q5]; unfold rv; rw [this, Int.toNat_natCast, Bool.not_not, hp]
 ·
  have := (Z8j r.he hi hi hne hne (q5.symm.trans (e.trans hp.symm))).2
  cases s <;> cases this
theorem Row.tlh (r : Row n m L c) {j : Nat} (hj : j < L) : tl c j < m ∧ tl c (rv c j) = hd c j ∧ hd c (rv c j) = tl c j ∧ tl c j ≠ hd c j := by
 obtain ⟨i, s, hi, hne, hp, q1, q2, q3, q4, q5, q6, q7, q8⟩ := r.at hj
 have hv := r.he i hi s
 refine ⟨by omega, ?_, rfl, fun e => ?_⟩
 · unfold tl; rw [(r.rev hj).2.2.1]
 ·
  apply hne
  have : vtx (n.Arcs.getD i default) s = vtx (n.Arcs.getD i default) (!s) := by omega
  cases s <;> simpa [vtx, eq_comm] using this
theorem Row.back (r : Row n m L c) {j : Nat} (hj : j < L) : bk c (rv c j) = !bk c j := by
 obtain ⟨i, s, hi, hne, hp, q1, q2, q3, q4, q5, q6, q7, q8⟩ := r.at hj
 unfold bk at q8 ⊢
 rw [q5, (r.is.ok.hat i hi hne (!s)).2.2.2.2, q8]
theorem Row.first (r : Row n m L c) : (∀ v, v ≤ m → c.First.getD v 0 = (fs c v : Nat) ∧ fs c v = Z0w n.Arcs v) ∧ fs c 0 = 0 ∧ fs c m = L ∧ ∀ v, v < m → fs c v ≤ fs c (v + 1) ∧ fs c (v + 1) ≤ L := by
 have h : ∀ v, v ≤ m → c.First.getD v 0 = (fs c v : Nat) ∧ fs c v = Z0w n.Arcs v := fun v hv => by
  have := r.is.ok.hf v hv
  unfold fs; rw [this, Int.toNat_natCast]; exact ⟨rfl, rfl⟩
 refine ⟨h, by rw [(h 0 (by omega)).2]; rfl, by rw [(h m (Nat.le_refl _)).2]; exact r.hL, fun v hv => ?_⟩
 rw [(h v (by omega)).2, (h (v + 1) (by omega)).2, ← r.hL]
 exact ⟨Z5m (by omega), Z5m (by omega)⟩
theorem Row.range (r : Row n m L c) {j u : Nat} (hj : j < L) (hu : u < m) : (fs c u ≤ j ∧ j < fs c (u + 1)) ↔ tl c j = u := by
 obtain ⟨i, s, hi, hne, hp, q1, q2, q3, q4, q5, q6, q7, q8⟩ := r.at hj
 have hv := r.he i hi s
 have f1 := (r.first.1 u (by omega)).2
 have f2 := (r.first.1 (u + 1) (by omega)).2
 constructor
 ·
  rintro ⟨h1, h2⟩
  have := (pos_row (v := u) hi hne hv.1 (by omega) (by omega)).1
  omega
 ·
  intro h
  have hcl := Zej (s := s) hi hne hv.1
  have hpos : pos n.Arcs i s = Z0w n.Arcs (vtx (n.Arcs.getD i default) s).toNat + cnt n.Arcs (vtx (n.Arcs.getD i default) s).toNat i := rfl
  have e : (vtx (n.Arcs.getD i default) s).toNat = u := by omega
  rw [e] at hcl hpos
  have hb1 : Z0w n.Arcs (u + 1) = Z0w n.Arcs u + cnt n.Arcs u n.Arcs.length := rfl
  omega
theorem Row.cap (r : Row n m L c) {j : Nat} (hj : j < L) : 0 ≤ c.Cap.getD j 0 ∧ c.Cap.getD j 0 + c.Cap.getD (rv c j) 0 = cp c j ∧ cp c (rv c j) = cp c j ∧ 0 ≤ cp c j ∧ cp c j ≤ 4611686018427387904 ∧ (bk c j = true → c.Cap.getD j 0 = 0) := by
 obtain ⟨i, s, hi, hne, hp, q1, q2, q3, q4, q5, q6, q7, q8⟩ := r.at hj
 have hc := r.caps i hi
 have h2 : c.Cap.getD (rv c j) 0 = if (!s) then 0 else (n.Arcs.getD i default).cap := by rw [q5]; exact (r.is.ok.hat i hi hne (!s)).2.2.1
 have h3 := (r.rev hj).2.2.1
 unfold cp
 rw [h3, q6, h2, q8]
 cases s
 · simp only [Bool.not_false, if_true, Bool.false_eq_true, if_false, false_implies, and_true]; omega
 · simp only [Bool.not_true, if_true, Bool.false_eq_true, if_false, true_implies, and_true]; omega
theorem Row.cpPos (r : Row n m L c) {i : Nat} (hi : i < n.Arcs.length) (hne : (n.Arcs.getD i default).fr ≠ (n.Arcs.getD i default).to) (s : Bool) : cp c (pos n.Arcs i s) = (n.Arcs.getD i default).cap ∧ rv c (pos n.Arcs i s) = pos n.Arcs i (!s) ∧ pos n.Arcs i s < L := by
 have z := r.is.ok.hat i hi hne s
 have z2 := r.is.ok.hat i hi hne (!s)
 have hc := r.caps i hi
 have hr : rv c (pos n.Arcs i s) = pos n.Arcs i (!s) := by unfold rv; rw [z.2.1, Int.toNat_natCast]
 refine ⟨?_, hr, by rw [← r.hL]; exact Zc0 hi hne r.he⟩
 unfold cp
 rw [hr, z.2.2.1, z2.2.2.1]
 cases s <;> simp only [Bool.not_true, Bool.not_false, if_true, Bool.false_eq_true, if_false] <;> omega
theorem Row.tailM (r : Row n m L c) {j : Nat} (hj : j < L) : Z7d c (j : Nat) = some (((tl c j : Nat) : Int), true) := by
 obtain ⟨i, s, hi, hne, hp, q1, q2, q3, q4, q5, q6, q7, q8⟩ := r.at hj
 have b := r.bd
 have := s_Tail r.is r.he (by omega) (by omega) (s := s) hi hne
 rw [hp] at this
 rw [this, q3]
theorem Row.tailN (r : Row n m L c) {a : Int} (h : ¬(0 ≤ a ∧ a < L)) : Z7d c a = some (0, false) := by
 have := r.lens.2.1
 unfold Z7d Z93 Z6l
 by_cases c1 : a < 0
 · rw [if_pos c1, if_pos rfl]
 ·
  rw [if_neg c1]
  simp only [Option.bind_some]
  rw [if_pos (decide_eq_true (by omega))]
theorem Zij {S X : Type} {y : S → Int → Option (S ⊕ X)} {s0 : S} {u : Nat} (r : Row n m L c) (hu : u < m) (I : Nat → S → Prop) (J : X → Prop) (h0 : I (fs c u) s0)
    (hstep : ∀ j s, fs c u ≤ j → j < fs c (u + 1) → I j s → Ok (y s (j : Nat)) (fun t => match t with | .inl s' => I (j + 1) s' | .inr x => J x)) :
    Ok (Z3d y c (u : Nat) (.inl s0)) (fun t => match t with | .inl s => I (fs c (u + 1)) s | .inr x => J x) := by
  have lf := r.lens.1
  have b := r.bd
  have f1 := (r.first.1 u (by omega)).1
  have f2 := (r.first.1 (u + 1) (by omega)).1
  have f3 := r.first.2.2.2 u hu
  have e1 : ((u : Int) + 1).toNat = u + 1 := by omega
  unfold Z3d
  simp only [Int.toNat_natCast, f1]
  refine Ok.gd.2 ⟨(by omega), Ok.bind.2 (Zdb (fun s => ∃ (k : Nat) (st : S), s = ((k : Int), Sum.inl st) ∧ fs c u ≤ k ∧ k ≤ fs c (u + 1) ∧ I k st) (fun s => (fs c (u + 1) - s.1).toNat) ⟨fs c u, s0, rfl, Nat.le_refl _, f3.1, h0⟩ (by unfold Z5p; simp only; omega) ?_)⟩
  rintro s ⟨k, st, rfl, hk0, hk, hI⟩ P next exit
  unfold Z68
  simp only [Int.toNat_natCast, e1, f2]
  refine Ok.gd.2 ⟨(by omega), Ok.gd.2 ⟨(by omega), Ok.ite.2 ⟨fun hx => ?_, fun hx => Ok.some.2 (exit _ (Ok.some.2 ?_))⟩⟩⟩
  · refine Ok.bind.2 ?_
    show Ok (y st _) _
    refine Ok.mono (hstep k st hk0 (by omega) hI) ?_
    rintro (s' | x) hr
    · exact Ok.ite.2 ⟨fun h => by simp at h, fun _ => Ok.gd.2 ⟨(by omega), Ok.some.2 (next _ ⟨k + 1, s', by simp, by omega, by omega, hr⟩ (by simp only; omega))⟩⟩
    · exact Ok.ite.2 ⟨fun _ => Ok.some.2 (exit _ (Ok.some.2 hr)), fun h => by simp at h⟩
  · obtain rfl : k = fs c (u + 1) := by omega
    exact hI
def flN (al : List Arc) (R : List Int) : List Int := (List.range al.length).map fun i => if (al.getD i default).fr = (al.getD i default).to then 0 else R.getD (pos al i true) 0
theorem flN_len (al : List Arc) (R : List Int) : (flN al R).length = al.length := by simp [flN]
theorem Zao {al : List Arc} {R : List Int} {i : Nat} (h : i < al.length) : (flN al R).getD i 0 = if (al.getD i default).fr = (al.getD i default).to then 0 else R.getD (pos al i true) 0 := by
 unfold flN
 rw [List.getD_eq_getElem?_getD, List.getElem?_map, List.getElem?_range h]; rfl
structure ResOK (n : Net) (m L : Nat) (c : Csr) (R X : List Int) : Prop where
  lr : R.length = L
  lx : X.length = m
  res : ∀ j, j < L → 0 ≤ R.getD j 0 ∧ R.getD j 0 + R.getD (rv c j) 0 = cp c j
  ex : ∀ v : Nat, v < m → X.getD v 0 = ex n.Arcs (flN n.Arcs R) v n.Arcs.length
theorem Zgk {R : List Int} (r : Row n m L c) (h : ∀ j, j < L → 0 ≤ R.getD j 0 ∧ R.getD j 0 + R.getD (rv c j) 0 = cp c j) : FwithinP n (flN n.Arcs R) := by
 refine ⟨r.chk, flN_len _ _, fun i hi => ?_⟩
 rw [Zao hi]
 have hc := r.caps i hi
 by_cases e : (n.Arcs.getD i default).fr = (n.Arcs.getD i default).to
 · rw [if_pos e]; omega
 ·
  rw [if_neg e]
  obtain ⟨a1, a2, a3⟩ := r.cpPos hi e true
  have h1 := h _ a3
  have h2 := h _ (r.rev a3).2.1
  omega
theorem ResOK.within {R X : List Int} (h : ResOK n m L c R X) (r : Row n m L c) : FwithinP n (flN n.Arcs R) := Zgk r h.res
theorem Zmt {f : List Int} (hw : FwithinP n f) (v : Int) : -4611686018427387904 ≤ ex n.Arcs f v n.Arcs.length ∧ ex n.Arcs f v n.Arcs.length ≤ 4611686018427387904 := by
 have := ex_le (al := n.Arcs) v (fun i hi => (hw.2.2 i hi).1) n.Arcs.length (Nat.le_refl _)
 have := hw.tot n.Arcs.length (Nat.le_refl _)
 omega
theorem ResOK.bnd {R X : List Int} (h : ResOK n m L c R X) (r : Row n m L c) {v : Nat} (hv : v < m) : -4611686018427387904 ≤ X.getD v 0 ∧ X.getD v 0 ≤ 4611686018427387904 := by
 rw [h.ex v hv]; exact Zmt (h.within r) v
theorem ResOK.rle {R X : List Int} (h : ResOK n m L c R X) (r : Row n m L c) {j : Nat} (hj : j < L) : 0 ≤ R.getD j 0 ∧ R.getD j 0 ≤ cp c j ∧ R.getD j 0 ≤ 4611686018427387904 := by
 have h1 := h.res j hj
 have h2 := h.res _ (r.rev hj).2.1
 have h3 := r.cap hj
 omega
def mvR (c : Csr) (R : List Int) (j : Nat) (d : Int) : List Int := (R.set j (R.getD j 0 - d)).set (rv c j) (R.getD (rv c j) 0 + d)
def mvX (c : Csr) (X : List Int) (j : Nat) (d : Int) : List Int := (X.set (tl c j) (X.getD (tl c j) 0 - d)).set (hd c j) (X.getD (hd c j) 0 + d)
theorem Zch {R : List Int} {j k : Nat} {d : Int} (r : Row n m L c) (hl : R.length = L) (hj : j < L) : (mvR c R j d).getD k 0 = if k = rv c j then R.getD (rv c j) 0 + d else if k = j then R.getD j 0 - d else R.getD k 0 := by
 have := r.rev hj
 unfold mvR
 rw [Zip, Zip, List.length_set]
 by_cases c1 : k = rv c j
 · rw [if_pos ⟨c1.symm, by omega⟩, if_pos c1]
 ·
  rw [if_neg fun h => c1 h.1.symm, if_neg c1]
  by_cases c2 : k = j
  · rw [if_pos ⟨c2.symm, by omega⟩, if_pos c2]
  · rw [if_neg fun h => c2 h.1.symm, if_neg c2]
theorem Zf7 {X : List Int} {j k : Nat} {d : Int} (r : Row n m L c) (hl : X.length = m) (hj : j < L) : (mvX c X j d).getD k 0 = X.getD k 0 - (if tl c j = k then d else 0) + (if hd c j = k then d else 0) := by
 have h1 := r.tlh hj
 have h2 := r.head hj
 unfold mvX
 rw [Zip, Zip, List.length_set]
 by_cases c1 : hd c j = k
 ·
  subst c1
  rw [if_pos ⟨rfl, by omega⟩, if_neg h1.2.2.2, if_pos rfl]; omega
 ·
  rw [if_neg fun h => c1 h.1]
  by_cases c2 : tl c j = k
  ·
   subst c2
   rw [if_pos ⟨rfl, by omega⟩, if_pos rfl, if_neg c1]; omega
  · rw [if_neg fun h => c2 h.1, if_neg c2, if_neg c1]; omega
theorem ex_bump {al : List Arc} {f g : List Int} {i : Nat} {δ : Int} {K : Nat} (v : Int) (hi : i < K) (h : ∀ k, k < K → g.getD k 0 = f.getD k 0 + if k = i then δ else 0) :
    ex al g v K = ex al f v K + ((if (al.getD i default).to = v then δ else 0) - (if (al.getD i default).fr = v then δ else 0)) := by
  have key : ∀ k, k ≤ K → ex al g v k = ex al f v k + if i < k then ((if (al.getD i default).to = v then δ else 0) - (if (al.getD i default).fr = v then δ else 0)) else 0 := by
    intro k
    induction k with
    | zero => intro _; rw [if_neg (by omega)]; rfl
    | succ k ih =>
      intro hk
      simp only [ex]
      rw [ih (by omega), h k (by omega)]
      by_cases e : k = i
      · subst e
        rw [if_neg (show ¬ k < k by omega), if_pos rfl, if_pos (show k < k + 1 by omega)]
        split <;> split <;> omega
      · rw [if_neg e]
        by_cases e2 : i < k
        · rw [if_pos e2, if_pos (show i < k + 1 by omega)]; simp only [Int.add_zero]; omega
        · rw [if_neg e2, if_neg (show ¬ i < k + 1 by omega)]; simp only [Int.add_zero]
  rw [key K (Nat.le_refl _), if_pos hi]
theorem ResOK.move {R X : List Int} {j : Nat} {d : Int} (h : ResOK n m L c R X) (r : Row n m L c) (hj : j < L) (d0 : 0 ≤ d) (d1 : d ≤ R.getD j 0) : ResOK n m L c (mvR c R j d) (mvX c X j d) := by
 have hr := r.rev hj
 have hlr := h.lr
 have hlx := h.lx
 refine ⟨by simp [mvR, hlr], by simp [mvX, hlx], fun k hk => ?_, fun v hv => ?_⟩
 ·
  have hk2 := r.rev hk
  have a := h.res k hk
  have a2 := h.res _ hr.2.1
  have a3 := h.res j hj
  have a4 := r.cap hj
  rw [Zch r hlr hj, Zch r hlr hj]
  by_cases c1 : k = rv c j
  ·
   subst c1
   rw [if_pos rfl, hr.2.2.1, if_neg fun e => hr.2.2.2 e.symm, if_pos rfl, a4.2.2.1]; omega
  ·
   by_cases c2 : k = j
   ·
    subst c2
    rw [if_neg c1, if_pos rfl, if_pos rfl]; omega
   ·
    have c3 : rv c k ≠ rv c j := fun e => c2 (by rw [← hk2.2.2.1, e, hr.2.2.1])
    have c4 : rv c k ≠ j := fun e => c1 (by rw [← e, hk2.2.2.1])
    rw [if_neg c1, if_neg c2, if_neg c3, if_neg c4]; exact a
 ·
  obtain ⟨i, s, hi, hne, hp, q1, q2, q3, q4, q5, q6, q7, q8⟩ := r.at hj
  rw [Zf7 r hlx hj, h.ex v hv, ex_bump (f := flN n.Arcs R) (g := flN n.Arcs (mvR c R j d)) (i := i) (δ := if s then -d else d) (v : Int) hi fun k hk => ?_]
  ·
   have t1 : (tl c j = v) ↔ vtx (n.Arcs.getD i default) s = (v : Int) := by rw [← q3]; omega
   have t2 : (hd c j = v) ↔ vtx (n.Arcs.getD i default) (!s) = (v : Int) := by rw [← q2]; omega
   simp only [t1, t2]
   cases s <;> simp only [vtx, Bool.not_false, Bool.not_true, if_true, if_false, Bool.false_eq_true] <;> split <;> split <;> omega
  ·
   rw [Zao hk, Zao hk]
   by_cases e : (n.Arcs.getD k default).fr = (n.Arcs.getD k default).to
   ·
    have : k ≠ i := fun e2 => by subst e2; exact hne e
    rw [if_pos e, if_pos e, if_neg this]; rfl
   ·
    rw [if_neg e, if_neg e, Zch r hlr hj]
    by_cases e2 : k = i
    ·
     subst e2
     cases s
     ·
      have b1 : pos n.Arcs k true = rv c j := by rw [q5]; rfl
      rw [if_pos b1, if_pos rfl, b1]; rfl
     ·
      have b1 : pos n.Arcs k true ≠ rv c j := fun e3 => by rw [q5] at e3; have := (Z8j r.he hk hk e e e3).2; cases this
      rw [if_neg b1, if_pos hp, if_pos rfl, hp]; rfl
    ·
     have b1 : pos n.Arcs k true ≠ rv c j := fun e3 => by rw [q5] at e3; exact e2 (Z8j r.he hk hi e hne e3).1
     have b2 : pos n.Arcs k true ≠ j := fun e3 => by rw [← hp] at e3; exact e2 (Z8j r.he hk hi e hne e3).1
     rw [if_neg b1, if_neg b2, if_neg e2, Int.add_zero]
theorem s_move {p : Pre} {j : Nat} {d : Int} (r : Row n m L c) (h : ResOK n m L c p.Res p.Ex) (hj : j < L) (d0 : 0 ≤ d) (d1 : d ≤ p.Res.getD j 0) : Z9w c p (j : Nat) d = some ⟨mvR c p.Res j d, mvX c p.Ex j d, p.H⟩ := by
 refine Zfl ?_
 obtain ⟨-, lh, lr, -, -, -⟩ := r.lens
 have h1 := r.head hj
 have h2 := r.rev hj
 have h3 := r.tlh hj
 have h4 := r.head h2.2.1
 have hlr := h.lr
 have hlx := h.lx
 have hm := h.move r hj d0 d1
 have b1 := h.bnd r h3.1
 have b2 := hm.bnd r h1.2
 have b3 := h.rle r hj
 have b4 := hm.rle r h2.2.1
 have b5 := h.rle r h2.2.1
 rw [Zf7 r hlx hj, if_neg h3.2.2.2, if_pos rfl] at b2
 rw [Zch r hlr hj, if_pos rfl] at b4
 have e1 : (p.Res.set j (p.Res.getD j 0 - d)).getD (rv c j) 0 = p.Res.getD (rv c j) 0 := Z81 fun e => h2.2.2.2 e.symm
 have e2 : (p.Ex.set (tl c j) (p.Ex.getD (tl c j) 0 - d)).getD (hd c j) 0 = p.Ex.getD (hd c j) 0 := Z81 h3.2.2.2
 have e3 : c.Head.getD (rv c j) 0 = (tl c j : Nat) := h4.1
 unfold Z9w
 simp only [Int.toNat_natCast, h1.1, h2.1, e3, e1, e2, List.length_set, hlr, hlx, lh, lr]
 have i1 : inb (j : Int) L := by constructor <;> omega
 have i2 : inb ((rv c j : Nat) : Int) L := by constructor <;> omega
 have i3 : inb ((tl c j : Nat) : Int) m := by constructor <;> omega
 have i4 : inb ((hd c j : Nat) : Int) m := by constructor <;> omega
 have o1 : i64ok (p.Res.getD j 0 - d) := by constructor <;> omega
 have o2 : i64ok (p.Res.getD (rv c j) 0 + d) := by constructor <;> omega
 have o3 : i64ok (p.Ex.getD (tl c j) 0 - d) := by constructor <;> omega
 have o4 : i64ok (p.Ex.getD (hd c j) 0 + d) := by constructor <;> omega
 refine Ok.gd.2 ⟨i1, Ok.gd.2 ⟨i2, Ok.gd.2 ⟨i1, Ok.gd.2 ⟨o1, Ok.gd.2 ⟨i1, Ok.gd.2 ⟨i1, Ok.gd.2 ⟨i2, Ok.gd.2 ⟨o2, Ok.gd.2 ⟨i2, Ok.gd.2 ⟨i3, Ok.gd.2 ⟨o3, Ok.gd.2 ⟨i3, Ok.gd.2 ⟨i1, Ok.gd.2 ⟨i4, Ok.gd.2 ⟨o4, Ok.gd.2 ⟨i4, Ok.some.2 rfl⟩⟩⟩⟩⟩⟩⟩⟩⟩⟩⟩⟩⟩⟩⟩⟩
theorem Zff {xs : List Int} (h : xs.length ≤ 1000000000) : Z2l xs = some xs := by
 refine Zfl ?_
 unfold Z2l
 exact Ok.gd.2 ⟨by constructor <;> omega, Ok.some.2 rfl⟩
theorem s_CloneI {xs : List Int} (h : xs.length ≤ 1000000000) : Z30 xs = some xs := by
 refine Zfl ?_
 unfold Z30
 exact Ok.gd.2 ⟨by constructor <;> omega, Ok.some.2 rfl⟩
end row
end Go.Acq
