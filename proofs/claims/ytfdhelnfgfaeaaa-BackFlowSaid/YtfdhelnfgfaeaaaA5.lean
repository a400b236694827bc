/- Texts of this claim, one behind the other. -/
import Derived.Test.YtfdhelnfgfaeaaaA2
import Derived.Test.YtfdhelnfgfaeaaaA4
import Derived.Test.YtfdhelnfgfaeaaaA3
import Derived.Test.YtfdhelnfgfaeaaaA1
set_option linter.unusedVariables false
set_option linter.unusedSimpArgs false
namespace Go.Proofs.Ytfdhelnfgfaeaaa.Ax
open Go Go.Acq Go.RowKit Go.Proofs
set_option linter.unusedVariables false
set_option linter.unusedSimpArgs false
set_option maxHeartbeats 8000000
set_option maxRecDepth 20000
theorem Z2d : Zh4 Try.prog 77 3 = true := by kernel_rfl
theorem Zcx : Z0v Try.prog 109 = true := by kernel_rfl
theorem Zbk : Z0v Try.prog 118 = true := by kernel_rfl
theorem Zel : Z0v Try.prog 119 = true := by kernel_rfl
theorem Zln : Z0v Try.prog 120 = true := by kernel_rfl
theorem Zlm : Z0v Try.prog 121 = true := by kernel_rfl
theorem Zh7 : Z0v Try.prog 122 = true := by kernel_rfl
theorem Zll : Z0v Try.prog 123 = true := by kernel_rfl
theorem Zj7 : Z0v Try.prog 76 = true := by kernel_rfl
theorem Ze0 : Z0v Try.prog 80 = true := by kernel_rfl
theorem Zj6 : Z0v Try.prog 81 = true := by kernel_rfl
theorem Z80 : Z40 Try.prog 64 0 = some 0 := by kernel_rfl
theorem Zar : Z40 Try.prog 64 1 = some 1 := by kernel_rfl
theorem Zfv : Z40 Try.prog 64 2 = some 2 := by kernel_rfl
theorem Z6a : Z40 Try.prog 77 0 = some 0 := by kernel_rfl
theorem Zaq : Z40 Try.prog 77 1 = some 1 := by kernel_rfl
theorem Z92 : Z40 Try.prog 77 2 = some 2 := by kernel_rfl
theorem Z5f : Z3g Try.prog 77 = some 3 := by kernel_rfl
theorem Z9i : Z8a Try.prog 77 = some (.agg #[.slice none 0 0, .slice none 0 0, .slice none 0 0]) := by kernel_rfl
theorem Zj5 : ElemT Try.prog 40 3 1 8 (.int .i64 0) := ⟨Z0l, Z0q, Z8q, Z3m, rfl⟩
theorem Zct {c0 : Csr} {u1 : Int} {a4 d0 c9 c8 b8 b9 : Option Addr} {c4 b5 a6 b0 b6 c3 a9 b7 c7 a7 a8 a5 : Nat} (w : World) (d4 : RS w [] (intC .i64) 1 a4 c4 b5 c0.First) (d1 : RS w [] (intC .i64) 1 d0 a6 b0 c0.Head) (d5 : RS w [] (intC .i64) 1 c9 b6 c3 c0.Rev) (d2 : RS w [] (intC .i64) 1 c8 a9 b7 c0.Cap) (d7 : RS w [] (intC .i64) 1 b8 c7 a7 c0.Arc) (d6 : RS w [] boolC 1 b9 a8 a5 c0.Back) (H : Z5s c0 u1 = some ()) : Fnc Try.prog 80 #[.agg #[.int .i64 c0.N, .int .i64 c0.S, .int .i64 c0.T, .slice a4 c4 b5, .slice d0 a6 b0, .slice c9 b6 c3, .slice c8 a9 b7, .slice b8 c7 a7, .slice b9 a8 a5], .int .i64 u1] w [] (fun v N => ∃ (d8 d9 : Nat), v = .func (.func 109) #[] #[.pointer (some ⟨d8, 0, none⟩), .pointer (some ⟨d9, 0, none⟩)] ∧ N = [(some d8, .cells #[.int .i64 c0.N, .int .i64 c0.S, .int .i64 c0.T, .slice a4 c4 b5, .slice d0 a6 b0, .slice c9 b6 c3, .slice c8 a9 b7, .slice b8 c7 a7, .slice b9 a8 a5] 64 (0, 0)), (some d9, .cells #[.int .i64 u1] 3 (0, 0))]) := by
 unfold Z5s at H; refine Fnc.enter (vs := [.agg #[.int .i64 c0.N, .int .i64 c0.S, .int .i64 c0.T, .slice a4 c4 b5, .slice d0 a6 b0, .slice c9 b6 c3, .slice c8 a9 b7, .slice b8 c7 a7, .slice b9 a8 a5], .int .i64 u1]) Try.func80 rfl rfl (Inv.refl w) ?_; refine Z0b ?_; refine Z04 (ll := [0, 1, 2]) rfl ?_; refine Z1h rr4 ?_; intro b1; refine TO.box rr4 ?_; intro b3; refine Z06 rr4 ?_; refine Z03 ?_; refine Z01 ?_; refine Z0b ?_; refine Z04 (ll := [0, 1]) rfl ?_; refine TO.makeFunc rr5 ?_; refine Z06 rr4 ?_; refine Z03 ?_; refine Z01 ?_; refine T.ret ?_; exact Z16 rr4 (Res.tmp rfl) (Z02 tk1 (Z02 tk0 Z08)) ⟨b1, b3, rfl, rfl⟩
theorem Zax {S_ X_ : Type} {yy_ : S_ → Int → Option (S_ ⊕ X_)} {c1 : Csr} {c2 : Int} {tt_ : S_ ⊕ X_} {d6 d0 b7 c9 d5 d2 c4 c7 b0 c3 b5 d1 b6 d7 l_ : Nat} {a6 d4 b9 a9 a8 a7 : Option Addr} {J_ : S_ ⊕ X_ → Heap → Prop} {a4 : Heap} (w : World) (hin : Inv w (ids a4) w a4) (e9 : J_ tt_ a4) (g3 : YC Try.prog l_ (V := Int) (fun v => [.int .i64 v]) yy_ J_ w (ids a4)) (a5 : RS w (ids a4) (intC .i64) 1 a6 d0 b7 c1.First) (f0 : RS w (ids a4) (intC .i64) 1 d4 c9 d5 c1.Head) (e5 : RS w (ids a4) (intC .i64) 1 b9 d2 c4 c1.Rev) (e6 : RS w (ids a4) (intC .i64) 1 a9 c7 b0 c1.Cap) (e8 : RS w (ids a4) (intC .i64) 1 a8 c3 b5 c1.Arc) (e7 : RS w (ids a4) boolC 1 a7 d1 b6 c1.Back) (c8 : HB w (ids a4) d6 [.int .i64 c1.N, .int .i64 c1.S, .int .i64 c1.T, .slice a6 d0 b7, .slice d4 c9 d5, .slice b9 d2 c4, .slice a9 c7 b0, .slice a8 c3 b5, .slice a7 d1 b6]) (b8 : HB w (ids a4) d7 [.int .i64 c2]) {f4 : S_ ⊕ X_} (H : Z61 yy_ c1 c2 tt_ = some f4) : Fnc Try.prog 109 #[.func (.yield l_) #[] #[], .pointer (some ⟨d6, 0, none⟩), .pointer (some ⟨d7, 0, none⟩)] w (ids a4) (fun v N => v = .tuple #[] ∧ J_ f4 N) := by
 unfold Z61 at H; refine Fnc.enter (vs := [.func (.yield l_) #[] #[], .pointer (some ⟨d6, 0, none⟩), .pointer (some ⟨d7, 0, none⟩)]) Try.func109 rfl rfl hin ?_; refine Z0b ?_; obtain ⟨g1, H⟩ := Z0c H; refine Z04 (ll := [0, 1, 2, 3, 4, 5]) rfl ?_; refine Z0a rr4 Zat ?_; refine Z4x c8 rr5 Z18 ?_; refine Z4x b8 rr5 Z0h ?_; refine Z2b a5 g1 rr5 Z0l Z0q ?_; refine Z2r a5 g1 rr4 Z0h ?_; refine Z06 rr4 ?_; refine Z03 ?_; refine Z01 ?_; refine T.block ?_; obtain ⟨f5, f6, f2⟩ := Z0m H; refine Ze8 (fun (d9 : Nat) (a2 : Int) (e0 : Heap) (d8 : S_ ⊕ X_) => Z1t (fun s => Z6z yy_ c1 c2 s.1 s.2) d9 (a2, d8) = some f5 ∧ J_ d8 e0) (fun (d9 : Nat) (a2 : Int) (e0 : Heap) (d8 : S_ ⊕ X_) => [(0, .func (.yield l_) #[] #[]), (1, .pointer (some ⟨d6, 0, none⟩)), (2, .pointer (some ⟨d7, 0, none⟩)), (4, .int .i64 a2)]) (fun (d9 : Nat) (a2 : Int) (e0 : Heap) (d8 : S_ ⊕ X_) => (e0)) (fun (d9 : Nat) (a2 : Int) (e0 : Heap) (d8 : S_ ⊕ X_) => d9) Z3f (c1.First.getD c2.toNat 0) a4 tt_ ⟨f6, e9⟩ (Z00 rfl (Z00 rfl (Z00 rfl (Z00 rfl Z09)))) (Z07 _) ?_; rintro d9 a2 e0 d8 ⟨H, f3⟩; obtain ⟨f7, f8, rfl, H, e3⟩ := Z1b H; have H : Z6z yy_ c1 c2 a2 d8 = some f8 := H; unfold Z6z at H; refine Z0b ?_; refine Z0b ?_; obtain ⟨g6, H⟩ := Z0c H; obtain ⟨g7, H⟩ := Z0c H; refine Z04 (ll := [0, 1, 2, 3, 4, 5, 6, 7]) rfl ?_; refine Z05 rr4 ?_; refine Z0a rr4 Zat ?_; refine Z4x c8 rr5 Z18 ?_; refine Z4x b8 rr5 Z0h ?_; refine Z19 g6 rr5 ?_; refine Z2b a5 g7 rr5 Z0l Z0q ?_; refine Z2r a5 g7 rr4 Z0h ?_; refine Z0t rr6 ?_; refine Z03 ?_; refine Z01 ?_; rcases Z0j H with ⟨g8, H⟩ | ⟨g8, H⟩
 ·
  refine Z13 rfl g8 ?_; refine T.skip ?_; refine Z01 ?_; refine Z0p (Z00 (t := 0) rfl (Z00 (t := 1) rfl (Z00 (t := 2) rfl (Z00 (t := 4) rfl Z09)))) ?_; refine Z0b ?_; refine T.block ?_; refine Z0b ?_; obtain ⟨f9, g0, H⟩ := Z0m H; refine Z04 (ll := [0, 1, 2, 3]) rfl ?_; refine Z05 rr4 ?_; refine Z05 rr4 ?_; refine TO.yield (Ho := []) (v := a2) rfl g3 g0 f3 rr6 ?_; intro e1 e2; refine Z12 (H := (e1)) rfl ?_; refine TO.not rr4 ?_; refine Z03 ?_; refine Z01 ?_; rcases Z0j H with ⟨e4, H⟩ | ⟨e4, H⟩
  · refine Z1j rfl e4 ?_; refine T.ret ?_; refine Z0r ?_; refine Z0k ?_; have H := Z0w H e3 ▸ f2; refine Z0k ?_; refine Z0r ?_; obtain rfl := ret1 H; exact Zj3 rr4  (Z07 _) ⟨rfl, e2⟩
  · refine Z1s rfl (Bool.eq_false_iff.2 e4) ?_; refine T.skip ?_; refine Z0f ?_; refine Z01 ?_; obtain ⟨g2, H⟩ := Z0c H; refine Z04 (ll := [0, 1, 2]) rfl ?_; refine Z05 rr4 ?_; refine Z19 g2 rr5 ?_; refine Z06 rr4 ?_; refine Z03 ?_; have H := Z15 H e3; exact Zbj f7 (a2 + 1) e1 f9 ⟨H, e2⟩ (Nat.lt_succ_self _) (Z00 rfl (Z00 rfl (Z00 rfl (Z00 rfl Z09)))) (Z07 _)
 · refine Z14 rfl g8 ?_; refine T.exit ?_; refine Z0n ?_; have H := Z0w H e3 ▸ f2; refine Z0n ?_; refine Z0x ?_; refine Znj ?_; obtain rfl := ret1 H; exact Zj3 rr4  (Z07 _) ⟨rfl, f3⟩
theorem Zgk {c0 : Csr} {p1 : Pre} {a2 d3 : Int} {e4 e3 e2 e1 f0 d8 c7 : Option Addr} {e0 d7 e5 e7 e8 d9 e6 e9 f2 d5 d6 d4 d0 a7 b0 a6 a9 c9 c4 : Nat} {a5 a4 : Option Nat} {c8 c3 : List Value} (w : World) (hin : Inv w (([(some d0, .cells #[.slice (sb a5) a7 b0, .slice (sb a4) a6 a9, .slice c7 c9 c4] 77 (0, 0)), (a5, .cells (arr (intC .i64) p1.Res c8).toArray 2 (0, 0)), (a4, .cells (arr (intC .i64) p1.Ex c3).toArray 2 (0, 0))] : Heap).filterMap Prod.fst) w [(some d0, .cells #[.slice (sb a5) a7 b0, .slice (sb a4) a6 a9, .slice c7 c9 c4] 77 (0, 0)), (a5, .cells (arr (intC .i64) p1.Res c8).toArray 2 (0, 0)), (a4, .cells (arr (intC .i64) p1.Ex c3).toArray 2 (0, 0))]) (f8 : RS w (([(some d0, .cells #[.slice (sb a5) a7 b0, .slice (sb a4) a6 a9, .slice c7 c9 c4] 77 (0, 0)), (a5, .cells (arr (intC .i64) p1.Res c8).toArray 2 (0, 0)), (a4, .cells (arr (intC .i64) p1.Ex c3).toArray 2 (0, 0))] : Heap).filterMap Prod.fst) (intC .i64) 1 e4 e0 d7 c0.First) (d2 : RS w (([(some d0, .cells #[.slice (sb a5) a7 b0, .slice (sb a4) a6 a9, .slice c7 c9 c4] 77 (0, 0)), (a5, .cells (arr (intC .i64) p1.Res c8).toArray 2 (0, 0)), (a4, .cells (arr (intC .i64) p1.Ex c3).toArray 2 (0, 0))] : Heap).filterMap Prod.fst) (intC .i64) 1 e3 e5 e7 c0.Head) (d1 : RS w (([(some d0, .cells #[.slice (sb a5) a7 b0, .slice (sb a4) a6 a9, .slice c7 c9 c4] 77 (0, 0)), (a5, .cells (arr (intC .i64) p1.Res c8).toArray 2 (0, 0)), (a4, .cells (arr (intC .i64) p1.Ex c3).toArray 2 (0, 0))] : Heap).filterMap Prod.fst) (intC .i64) 1 e2 e8 d9 c0.Rev) (f7 : RS w (([(some d0, .cells #[.slice (sb a5) a7 b0, .slice (sb a4) a6 a9, .slice c7 c9 c4] 77 (0, 0)), (a5, .cells (arr (intC .i64) p1.Res c8).toArray 2 (0, 0)), (a4, .cells (arr (intC .i64) p1.Ex c3).toArray 2 (0, 0))] : Heap).filterMap Prod.fst) (intC .i64) 1 e1 e6 e9 c0.Cap) (f6 : RS w (([(some d0, .cells #[.slice (sb a5) a7 b0, .slice (sb a4) a6 a9, .slice c7 c9 c4] 77 (0, 0)), (a5, .cells (arr (intC .i64) p1.Res c8).toArray 2 (0, 0)), (a4, .cells (arr (intC .i64) p1.Ex c3).toArray 2 (0, 0))] : Heap).filterMap Prod.fst) (intC .i64) 1 f0 f2 d5 c0.Arc) (f9 : RS w (([(some d0, .cells #[.slice (sb a5) a7 b0, .slice (sb a4) a6 a9, .slice c7 c9 c4] 77 (0, 0)), (a5, .cells (arr (intC .i64) p1.Res c8).toArray 2 (0, 0)), (a4, .cells (arr (intC .i64) p1.Ex c3).toArray 2 (0, 0))] : Heap).filterMap Prod.fst) boolC 1 d8 d6 d4 c0.Back) (b5 : p1.Res.length = a7) (b8 : a7 ≤ b0) (f4 : c8.length = (b0 - a7) * 1) (b9 : (a5 = none → b0 = 0)) (a8 : p1.Ex.length = a6) (b6 : a6 ≤ a9) (f3 : c3.length = (a9 - a6) * 1) (b7 : (a4 = none → a9 = 0)) (f5 : RS w (([(some d0, .cells #[.slice (sb a5) a7 b0, .slice (sb a4) a6 a9, .slice c7 c9 c4] 77 (0, 0)), (a5, .cells (arr (intC .i64) p1.Res c8).toArray 2 (0, 0)), (a4, .cells (arr (intC .i64) p1.Ex c3).toArray 2 (0, 0))] : Heap).filterMap Prod.fst) (intC .i64) 1 c7 c9 c4 p1.H) {o0 : Pre} (H : Za9 c0 p1 a2 d3 = some o0) : Fnc Try.prog 81 #[.agg #[.int .i64 c0.N, .int .i64 c0.S, .int .i64 c0.T, .slice e4 e0 d7, .slice e3 e5 e7, .slice e2 e8 d9, .slice e1 e6 e9, .slice f0 f2 d5, .slice d8 d6 d4], .pointer (some ⟨d0, 0, none⟩), .int .i64 a2, .int .i64 d3] w (([(some d0, .cells #[.slice (sb a5) a7 b0, .slice (sb a4) a6 a9, .slice c7 c9 c4] 77 (0, 0)), (a5, .cells (arr (intC .i64) p1.Res c8).toArray 2 (0, 0)), (a4, .cells (arr (intC .i64) p1.Ex c3).toArray 2 (0, 0))] : Heap).filterMap Prod.fst) (fun v N => v = .tuple #[] ∧ N = [(some d0, .cells #[.slice (sb a5) a7 b0, .slice (sb a4) a6 a9, .slice c7 c9 c4] 77 (0, 0)), (a5, .cells (arr (intC .i64) o0.Res c8).toArray 2 (0, 0)), (a4, .cells (arr (intC .i64) o0.Ex c3).toArray 2 (0, 0))] ∧ o0.Res.length = a7 ∧ o0.Ex.length = a6) := by
 unfold Za9 at H; refine Fnc.enter (vs := [.agg #[.int .i64 c0.N, .int .i64 c0.S, .int .i64 c0.T, .slice e4 e0 d7, .slice e3 e5 e7, .slice e2 e8 d9, .slice e1 e6 e9, .slice f0 f2 d5, .slice d8 d6 d4], .pointer (some ⟨d0, 0, none⟩), .int .i64 a2, .int .i64 d3]) Try.func81 rfl rfl hin ?_; refine Z0b ?_; refine Z04 (ll := [0]) rfl ?_; refine Z1h rr4 ?_; intro b4; refine Z03 ?_; refine Z01 ?_; refine Z0b ?_; obtain ⟨g6, H⟩ := Z0c H; obtain ⟨g7, H⟩ := Z0c H; refine Z6o 7 [0, 1, 2, 3, 4, 5, 6] rfl Z5i (by kernel_rfl) (by kernel_rfl) rfl (by kernel_rfl) ?_; refine Z17 rr4 Z82 ?_; refine Z1u rr4 Z18 mm0 rfl ?_; refine Z17 rr4 Z81 ?_; refine Z1u rr4 Z18 mm0 rfl ?_; refine TQ.move rr4 ?_; refine Z9u d1 g6 rr5 Z0l Z0q ?_; refine Z9o d1 g6 rr4 Z0h ?_; refine TQ.tail [7, 8, 9] rr2 ?_; refine Z2b d2 g7 rr5 Z0l Z0q ?_; refine Z2r d2 g7 rr4 Z0h ?_; refine Z06 rr4 ?_; refine Z03 ?_; refine Z01 ?_; refine Z0p (Z00 (t := 1) rfl (Z00 (t := 2) rfl (Z00 (t := 3) rfl (Z00 (t := 4) rfl (Z00 (t := 8) rfl Z09))))) ?_; refine Z0b ?_; obtain ⟨g8, H⟩ := Z0c H; obtain ⟨g9, H⟩ := Z0c H; obtain ⟨g0, H⟩ := Z0c H; refine Z04 (ll := [0, 1, 2, 3, 4, 5, 6, 7, 8, 9, 10]) rfl ?_; refine Z05 rr4 ?_; refine TO.nilCheck rr4 ?_; refine Z0a rr4 Z6a ?_; refine Z0e rr4 Z2e mm1 rfl ?_; refine Z05 rr4 ?_; refine Z3n b9 b8 b5 g8 rr5 Z0s Z0z ?_; refine Z6n b9 b8 b5 g8 rr4 Z1d mm2 ?_; refine Z05 rr4 ?_; refine Z8r g9 rr5 ?_; refine Z3n b9 b8 b5 g0 rr5 Z0s Z0z ?_; refine Z8s b9 b8 b5 g0 rr4 tk2 Z0z ?_; refine Z03 ?_; refine Z01 ?_; refine Z0p (Z00 (t := 1) rfl (Z00 (t := 2) rfl (Z00 (t := 3) rfl (Z00 (t := 4) rfl (Z00 (t := 8) rfl Z09))))) ?_; refine Z0b ?_; obtain ⟨g1, H⟩ := Z0c H; obtain ⟨g2, H⟩ := Z0c H; obtain ⟨h3, H⟩ := Z0c H; obtain ⟨g3, H⟩ := Z0c H; refine Z6o 12 [0, 1, 2, 3, 4, 5, 6, 7, 8, 9, 10, 11] rfl Z5i (by kernel_rfl) (by kernel_rfl) rfl (by kernel_rfl) ?_; refine TQ.move rr4 ?_; refine TQ.nilCheck rr4 ?_; refine Z17 rr4 Z6a ?_; refine Z1u rr4 Z2e mm2 rfl ?_; refine Z17 rr4 Z81 ?_; refine Z1u rr4 Z18 mm1 rfl ?_; refine TQ.move rr4 ?_; refine Z9u d1 g1 rr5 Z0l Z0q ?_; refine Z9o d1 g1 rr4 Z0h ?_; refine Z9t b9 b8 (List.length_set.trans b5) g2 rr5 Z0s Z0z ?_; refine Z7m b9 b8 (List.length_set.trans b5) g2 rr4 Z1d mm0 ?_; refine TQ.move rr4 ?_; refine TQ.tail [12, 13, 14] rr2 ?_; refine Z19 h3 rr5 ?_; refine Z3n b9 b8 (List.length_set.trans b5) g3 rr5 Z0s Z0z ?_; refine Z8s b9 b8 (List.length_set.trans b5) g3 rr4 tk0 Z0z ?_; refine Z03 ?_; refine Z01 ?_; refine Z0p (Z00 (t := 1) rfl (Z00 (t := 2) rfl (Z00 (t := 3) rfl (Z00 (t := 4) rfl (Z00 (t := 8) rfl Z09))))) ?_; refine Z0b ?_; obtain ⟨g4, H⟩ := Z0c H; obtain ⟨h4, H⟩ := Z0c H; obtain ⟨g5, H⟩ := Z0c H; refine Z04 (ll := [0, 1, 2, 3, 4, 5, 6, 7, 8, 9, 10]) rfl ?_; refine Z05 rr4 ?_; refine TO.nilCheck rr4 ?_; refine Z0a rr4 Zaq ?_; refine Z0e rr4 Z2e mm2 rfl ?_; refine Z05 rr4 ?_; refine Z3n b7 b6 a8 g4 rr5 Z0s Z0z ?_; refine Z6n b7 b6 a8 g4 rr4 Z1d mm3 ?_; refine Z05 rr4 ?_; refine Z8r h4 rr5 ?_; refine Z3n b7 b6 a8 g5 rr5 Z0s Z0z ?_; refine Z8s b7 b6 a8 g5 rr4 tk3 Z0z ?_; refine Z03 ?_; refine Z01 ?_; refine Z0p (Z00 (t := 1) rfl (Z00 (t := 2) rfl (Z00 (t := 3) rfl (Z00 (t := 4) rfl Z09)))) ?_; obtain ⟨h0, H⟩ := Z0c H; obtain ⟨h1, H⟩ := Z0c H; obtain ⟨h5, H⟩ := Z0c H; obtain ⟨h2, H⟩ := Z0c H; refine Z6o 12 [0, 1, 2, 3, 4, 5, 6, 7, 8, 9, 10, 11] rfl Z5i (by kernel_rfl) (by kernel_rfl) rfl (by kernel_rfl) ?_; refine TQ.move rr4 ?_; refine TQ.nilCheck rr4 ?_; refine Z17 rr4 Zaq ?_; refine Z1u rr4 Z2e mm3 rfl ?_; refine Z17 rr4 Z82 ?_; refine Z1u rr4 Z18 mm2 rfl ?_; refine TQ.move rr4 ?_; refine Z9u d2 h0 rr5 Z0l Z0q ?_; refine Z9o d2 h0 rr4 Z0h ?_; refine Z9t b7 b6 (List.length_set.trans a8) h1 rr5 Z0s Z0z ?_; refine Z7m b7 b6 (List.length_set.trans a8) h1 rr4 Z1d mm0 ?_; refine TQ.move rr4 ?_; refine TQ.tail [12, 13, 14] rr2 ?_; refine Z19 h5 rr5 ?_; refine Z3n b7 b6 (List.length_set.trans a8) h2 rr5 Z0s Z0z ?_; refine Z8s b7 b6 (List.length_set.trans a8) h2 rr4 tk0 Z0z ?_; refine Z03 ?_; refine Znj ?_; obtain rfl := ret1 H; exact Zj3 rr4  (Z02 tk3 (Z02 tk1 (Z02 tk0 Z08))) ⟨rfl, rfl, (List.length_set.trans (List.length_set.trans b5)), (List.length_set.trans (List.length_set.trans a8))⟩
theorem Zjs {c0 : Csr} {a4 d1 d0 c8 b8 b9 : Option Addr} {c4 b5 a6 b0 b6 c3 a9 b7 c7 a7 a8 a5 : Nat} (w : World) (d5 : RS w [] (intC .i64) 1 a4 c4 b5 c0.First) (d4 : RS w [] (intC .i64) 1 d1 a6 b0 c0.Head) (d6 : RS w [] (intC .i64) 1 d0 b6 c3 c0.Rev) (d2 : RS w [] (intC .i64) 1 c8 a9 b7 c0.Cap) (d8 : RS w [] (intC .i64) 1 b8 c7 a7 c0.Arc) (d7 : RS w [] boolC 1 b9 a8 a5 c0.Back) {r0 : Pre} (H : Z7z c0 = some r0) : Fnc Try.prog 44 #[.agg #[.int .i64 c0.N, .int .i64 c0.S, .int .i64 c0.T, .slice a4 c4 b5, .slice d1 a6 b0, .slice d0 b6 c3, .slice c8 a9 b7, .slice b8 c7 a7, .slice b9 a8 a5]] w [] (fun v N => ∃ (f3 : Option Nat) (h6 h7 : Nat) (j2 : List Value) (f4 : Option Nat) (h8 h9 : Nat) (j3 : List Value) (f5 : Option Nat) (i2 i4 : Nat) (j4 : List Value), v = .agg #[.slice (sb f3) h6 h7, .slice (sb f4) h8 h9, .slice (sb f5) i2 i4] ∧ N = [(f3, .cells (arr (intC .i64) r0.Res j2).toArray 2 (0, 0)), (f4, .cells (arr (intC .i64) r0.Ex j3).toArray 2 (0, 0)), (f5, .cells (arr (intC .i64) r0.H j4).toArray 3 (0, 0))] ∧ r0.Res.length = h6 ∧ h6 ≤ h7 ∧ j2.length = (h7 - h6) * 1 ∧ (f3 = none → h7 = 0) ∧ r0.Ex.length = h8 ∧ h8 ≤ h9 ∧ j3.length = (h9 - h8) * 1 ∧ (f4 = none → h9 = 0) ∧ r0.H.length = i2 ∧ i2 ≤ i4 ∧ j4.length = (i4 - i2) * 1 ∧ (f5 = none → i4 = 0)) := by
 unfold Z7z at H; refine Zbr (vs := [.agg #[.int .i64 c0.N, .int .i64 c0.S, .int .i64 c0.T, .slice a4 c4 b5, .slice d1 a6 b0, .slice d0 b6 c3, .slice c8 a9 b7, .slice b8 c7 a7, .slice b9 a8 a5]]) Try.func44 rfl rfl (Inv.refl w) ?_; refine Z0b ?_; refine Z04 (ll := [0, 1]) rfl ?_; refine Z1h rr4 ?_; intro b1; refine Z1r rr3 Z9i ?_; intro b3; refine Z03 ?_; refine Z01 ?_; refine Z0b ?_; obtain ⟨r5, e6, H⟩ := Z0m H; obtain ⟨k4, H⟩ := Z0c H; obtain ⟨k5, H⟩ := Z0c H; apply Z9q [⟨[], false, [], Z2h _⟩, ⟨[0], false, [], Z2h _⟩, ⟨[1], false, [], fun _ v e => ∃ (e0 : Option Nat) (n8 c9 : Nat) (e7 : List Value), v = .slice (sb e0) n8 c9 ∧ e = [(e0, .cells (arr (intC .i64) r5 e7).toArray 2 (0, 0))] ∧ r5.length = n8 ∧ n8 ≤ c9 ∧ e7.length = (c9 - n8) * 1 ∧ (e0 = none → c9 = 0)⟩, ⟨[], false, [], Z2h _⟩, ⟨[3], false, [], Z2h _⟩, ⟨[4], false, [], fun _ v e => ∃ (e2 : Nat), v = .slice (some ⟨e2, 0, none⟩) c0.N.toNat c0.N.toNat ∧ e = [(some e2, .cells (arr (intC .i64) (List.replicate c0.N.toNat (0 : Int)) ([])).toArray 2 (0, 0))]⟩, ⟨[], false, [], Z2h _⟩, ⟨[6], false, [], Z2h _⟩, ⟨[7], false, [], fun _ v e => ∃ (e3 : Nat), v = .slice (some ⟨e3, 0, none⟩) c0.N.toNat c0.N.toNat ∧ e = [(some e3, .cells (arr (intC .i64) (List.replicate c0.N.toNat (0 : Int)) ([])).toArray 3 (0, 0))]⟩, ⟨[2, 5, 8], false, [], fun vl v e => v = (Value.agg #[(vl.getD 0 undef), (vl.getD 1 undef), (vl.getD 2 undef)]) ∧ e = []⟩, ⟨[], false, [], fun _ v e => ∃ (e8 : Nat), v = .pointer (some ⟨e8, 0, none⟩) ∧ e = [(some e8, .cells #[.slice none 0 0, .slice none 0 0, .slice none 0 0] 77 (0, 0))]⟩] [5, 6, 7, 8, 9, 10, 11, 12, 13, 14, 3] 11 (HRk [[]]) [[]] [] [(some b3, .cells #[.slice none 0 0, .slice none 0 0, .slice none 0 0] 77 (0, 0)), (some b1, .cells #[.int .i64 c0.N, .int .i64 c0.S, .int .i64 c0.T, .slice a4 c4 b5, .slice d1 a6 b0, .slice d0 b6 c3, .slice c8 a9 b7, .slice b8 c7 a7, .slice b9 a8 a5] 64 (0, 0))]
 · exact Z5i
 · exact rfl
 · kernel_rfl
 · kernel_rfl
 · kernel_rfl
 · exact rfl
 · exact rfl
 · exact rfl
 · exact rfl
 · exact (by repeat (first | exact Z07 _ | exact Z08 | apply Pick.none | refine Z02 (by repeat (first | exact Take.head _ _ | apply Take.tail)) ?_))
 ·
  refine ⟨?_, ?_, ?_, ?_, ?_, ?_, ?_, ?_, ?_, ?_, ?_, trivial⟩
  · rintro vs es Es Hx -; refine Z0d (D := []) rfl ?_; refine Z0a rr4 Zas ?_; refine Z03 ?_; exact Z10 rfl ⟨rfl, rfl⟩ (Z07 _) rfl
  · rintro vs es Es Hx ⟨⟨g1, i5⟩, -⟩; refine Z0d (D := [(5, vs 0)]) rfl ?_; rw [g1]; refine Z0e rr4 Z2e mm1 rfl ?_; refine Z03 ?_; exact Z10 rfl ⟨rfl, rfl⟩ (Z07 _) (by show [(5, vs 0)] = _; rw [g1])
  · rintro vs es Es Hx ⟨⟨g2, g3⟩, -⟩; refine Z0d (D := [(6, vs 1)]) rfl ?_; rw [g2]; refine Z0o Zcz rr4 (fun wc hwc => Z5l (s0 := c0.Cap) wc (d2.mono hwc) e6) ?_; rintro _ _ ⟨e0, n8, c9, e7, rfl, rfl, f2, e4, e9, e5⟩; refine Z03 ?_; exact Z10 rfl ⟨e0, n8, c9, e7, rfl, rfl, f2, e4, e9, e5⟩ (by repeat (first | exact Z07 _ | exact Z08 | apply Pick.none | refine Z02 (by repeat (first | exact Take.head _ _ | apply Take.tail)) ?_)) (by show [(6, vs 1)] = _; rw [g2])
  · rintro vs es Es Hx -; refine Z0d (D := []) rfl ?_; refine Z0a rr4 Z80 ?_; refine Z03 ?_; exact Z10 rfl ⟨rfl, rfl⟩ (Z07 _) rfl
  · rintro vs es Es Hx ⟨⟨g4, i6⟩, -⟩; refine Z0d (D := [(8, vs 3)]) rfl ?_; rw [g4]; refine Z0e rr4 Z0h mm1 rfl ?_; refine Z03 ?_; exact Z10 rfl ⟨rfl, rfl⟩ (Z07 _) (by show [(8, vs 3)] = _; rw [g4])
  · rintro vs es Es Hx ⟨⟨g5, i7⟩, -⟩; refine Z0d (D := [(9, vs 4)]) rfl ?_; rw [g5]; refine Zcp k4 rr5 Z0s Z0z Zb4 Ze3 rfl ?_; intro e2; refine Z03 ?_; exact Z10 rfl ⟨e2, rfl, rfl⟩ (by repeat (first | exact Z07 _ | exact Z08 | apply Pick.none | refine Z02 (by repeat (first | exact Take.head _ _ | apply Take.tail)) ?_)) (by show [(9, vs 4)] = _; rw [g5])
  · rintro vs es Es Hx -; refine Z0d (D := []) rfl ?_; refine Z0a rr4 Z80 ?_; refine Z03 ?_; exact Z10 rfl ⟨rfl, rfl⟩ (Z07 _) rfl
  · rintro vs es Es Hx ⟨⟨g6, i8⟩, -⟩; refine Z0d (D := [(11, vs 6)]) rfl ?_; rw [g6]; refine Z0e rr4 Z0h mm1 rfl ?_; refine Z03 ?_; exact Z10 rfl ⟨rfl, rfl⟩ (Z07 _) (by show [(11, vs 6)] = _; rw [g6])
  · rintro vs es Es Hx ⟨⟨g7, i9⟩, -⟩; refine Z0d (D := [(12, vs 7)]) rfl ?_; rw [g7]; refine Zcp k5 rr5 Z0l Z0q Z3m Z8q rfl ?_; intro e3; refine Z03 ?_; exact Z10 rfl ⟨e3, rfl, rfl⟩ (by repeat (first | exact Z07 _ | exact Z08 | apply Pick.none | refine Z02 (by repeat (first | exact Take.head _ _ | apply Take.tail)) ?_)) (by show [(12, vs 7)] = _; rw [g7])
  · rintro vs es Es Hx ⟨⟨e0, n8, c9, e7, f6, g8, f2, e4, e9, e5⟩, ⟨e2, f7, g9⟩, ⟨e3, f8, h0⟩, -⟩; refine Z0d (D := [(7, vs 2), (10, vs 5), (13, vs 8)]) rfl ?_; rw [f6, f7, f8]; refine Z12 (H := [(some b3, .cells #[.slice none 0 0, .slice none 0 0, .slice none 0 0] 77 (0, 0)), (some b1, .cells #[.int .i64 c0.N, .int .i64 c0.S, .int .i64 c0.T, .slice a4 c4 b5, .slice d1 a6 b0, .slice d0 b6 c3, .slice c8 a9 b7, .slice b8 c7 a7, .slice b9 a8 a5] 64 (0, 0))] ++ ([(e0, .cells (arr (intC .i64) r5 e7).toArray 2 (0, 0)), (some e2, .cells (arr (intC .i64) (List.replicate c0.N.toNat (0 : Int)) ([])).toArray 2 (0, 0)), (some e3, .cells (arr (intC .i64) (List.replicate c0.N.toNat (0 : Int)) ([])).toArray 3 (0, 0))] ++ Hx)) (by show _ ++ ((es 2 ++ (es 5 ++ (es 8 ++ ([])))) ++ _) = _; rw [g8, g9, h0]; rfl) ?_; refine Z36 (t := 77) [.slice none 0 0, .slice none 0 0, .slice none 0 0] [0, 1, 2] rr4 (by simp only [Z3h, setCells, Value.cells, List.toList_toArray, List.getD_cons_zero, List.getD_cons_succ, List.set_cons_zero, List.set_cons_succ]; rfl) (by kernel_rfl) ?_; refine Z03 ?_; exact Z10 rfl ⟨by show _ = (Value.agg #[vs 2, vs 5, vs 8]); rw [f6, f7, f8] <;> rfl, rfl⟩ (by show Pick (_ ++ (_ ++ ((es 2 ++ (es 5 ++ (es 8 ++ ([])))) ++ _))) _; rw [g8, g9, h0]; exact (by repeat (first | exact Z07 _ | exact Z08 | apply Pick.none | refine Z02 (by repeat (first | exact Take.head _ _ | apply Take.tail)) ?_))) (by show [(7, vs 2), (10, vs 5), (13, vs 8)] = _; rw [f6, f7, f8])
  · rintro vs es Es Hx -; refine Z0d (D := []) rfl ?_; refine Z1r rr3 Z9i ?_; intro e8; refine Z03 ?_; exact Z10 rfl ⟨e8, rfl, rfl⟩ (by repeat (first | exact Z07 _ | exact Z08 | apply Pick.none | refine Z02 (by repeat (first | exact Take.head _ _ | apply Take.tail)) ?_)) rfl
 ·
  rintro vs es hb ⟨⟨g1, i5⟩, ⟨g2, g3⟩, ⟨e0, n8, c9, e7, f6, g8, f2, e4, e9, e5⟩, ⟨g4, i6⟩, ⟨g5, i7⟩, ⟨e2, f7, g9⟩, ⟨g6, i8⟩, ⟨g7, i9⟩, ⟨e3, f8, h0⟩, ⟨j5, j6⟩, ⟨e8, h1, h2⟩, -⟩ hHR; obtain rfl : hb = [] := hHR; have j7 : vs 9 = .agg #[.slice (sb e0) n8 c9, .slice (some ⟨e2, 0, none⟩) c0.N.toNat c0.N.toNat, .slice (some ⟨e3, 0, none⟩) c0.N.toNat c0.N.toNat] := by refine Eq.trans j5 ?_; show (Value.agg #[vs 2, vs 5, vs 8]) = _; rw [f6, f7, f8] <;> rfl
  refine Z0d (D := [(5, vs 0), (6, vs 1), (7, vs 2), (8, vs 3), (9, vs 4), (10, vs 5), (11, vs 6), (12, vs 7), (13, vs 8), (14, vs 9), (3, vs 10)]) rfl ?_; refine Z12 (H := [(some b3, .cells #[.slice none 0 0, .slice none 0 0, .slice none 0 0] 77 (0, 0)), (some b1, .cells #[.int .i64 c0.N, .int .i64 c0.S, .int .i64 c0.T, .slice a4 c4 b5, .slice d1 a6 b0, .slice d0 b6 c3, .slice c8 a9 b7, .slice b8 c7 a7, .slice b9 a8 a5] 64 (0, 0)), (e0, .cells (arr (intC .i64) r5 e7).toArray 2 (0, 0)), (some e2, .cells (arr (intC .i64) (List.replicate c0.N.toNat (0 : Int)) ([])).toArray 2 (0, 0)), (some e3, .cells (arr (intC .i64) (List.replicate c0.N.toNat (0 : Int)) ([])).toArray 3 (0, 0)), (some e8, .cells #[.slice none 0 0, .slice none 0 0, .slice none 0 0] 77 (0, 0))]) (by show _ ++ (_ ++ (es 0 ++ (es 1 ++ (es 2 ++ (es 3 ++ (es 4 ++ (es 5 ++ (es 6 ++ (es 7 ++ (es 8 ++ (es 9 ++ (es 10 ++ ([]))))))))))))) = _; rw [i5, g3, g8, i6, i7, g9, i8, i9, h0, j6, h2]; rfl) ?_; rw [g1, g2, f6, g4, g5, f7, g6, g7, f8, j7, h1]; clear h1 j7 f8 g7 g6 f7 g5 g4 f6 g2 g1 j5 i5 g3 g8 i6 i7 g9 i8 i9 h0 j6 h2; refine Z1f rr4 tk5 Z5f rr3 ?_; refine Z03 ?_; refine Z01 ?_; refine Z0p (Z00 (t := 1) rfl (Z00 (t := 2) rfl (Z00 (t := 3) rfl Z09))) ?_; refine Z0b ?_; obtain ⟨j8, H⟩ := Z0c H; refine Z04 (ll := [0, 1, 2, 3, 4, 5, 6, 7]) rfl ?_; refine Z0a rr4 Z92 ?_; refine Z0e rr4 Z18 mm0 rfl ?_; refine Z0a rr4 Zar ?_; refine Z0e rr4 Z0h mm2 rfl ?_; refine Z0a rr4 Z80 ?_; refine Z0e rr4 Z0h mm2 rfl ?_; refine Z6i List.length_replicate j8 rr5 Z0l Z0q ?_; refine Z9p j8 rr4 tk5 Z0q ?_; refine Z03 ?_; refine Z01 ?_; refine Z0b ?_; refine Z0b ?_; obtain ⟨⟨⟩, k6, H⟩ := Z0m H; refine Z04 (ll := [0, 1, 2, 3]) rfl ?_; refine Z0u rr4 Z1q mm3 rfl ?_; refine Z0a rr4 Zar ?_; refine Z0e rr4 Z0h mm3 rfl ?_; refine Z0o Ze0 rr4 (fun wc hwc => Zct (c0 := c0) (u1 := c0.S) wc (d5.mono hwc) (d4.mono hwc) (d6.mono hwc) (d2.mono hwc) (d8.mono hwc) (d7.mono hwc) k6) ?_; rintro _ _ ⟨j9, k1, rfl, rfl⟩; refine Z03 ?_; refine Z01 ?_; refine Z0p (Z00 (t := 1) rfl (Z00 (t := 2) rfl (Z00 (t := 3) rfl (Z00 (t := 25) rfl Z09)))) ?_; refine T.block ?_; obtain ⟨k7, g3, k8⟩ := Z0m H; refine T.rangeFunc (S := (List Int × List Int)) (X := (Empty)) (V := Int) rfl Zcx rr2 (fun v => [.int .i64 v]) (fun _ => rfl) (fun s v => Z5j c0 s.1 s.2 v) (fun t Hq => match t with | .inl (d9, e1) => Hq = [(some e8, .cells #[.slice (sb e0) n8 c9, .slice (some ⟨e2, 0, none⟩) c0.N.toNat c0.N.toNat, .slice (some ⟨e3, 0, none⟩) c0.N.toNat c0.N.toNat] 77 (0, 0)), (e0, .cells (arr (intC .i64) d9 e7).toArray 2 (0, 0)), (some e2, .cells (arr (intC .i64) e1 ([])).toArray 2 (0, 0))] ∧ d9.length = n8 ∧ e1.length = c0.N.toNat | .inr x => nomatch x) (fun x => nomatch x) (r5, (List.replicate c0.N.toNat (0 : Int))) k7 [(some e8, .cells #[.slice (sb e0) n8 c9, .slice (some ⟨e2, 0, none⟩) c0.N.toNat c0.N.toNat, .slice (some ⟨e3, 0, none⟩) c0.N.toNat c0.N.toNat] 77 (0, 0)), (e0, .cells (arr (intC .i64) r5 e7).toArray 2 (0, 0)), (some e2, .cells (arr (intC .i64) (List.replicate c0.N.toNat (0 : Int)) ([])).toArray 2 (0, 0))] [(some j9, .cells #[.int .i64 c0.N, .int .i64 c0.S, .int .i64 c0.T, .slice a4 c4 b5, .slice d1 a6 b0, .slice d0 b6 c3, .slice c8 a9 b7, .slice b8 c7 a7, .slice b9 a8 a5] 64 (0, 0)), (some k1, .cells #[.int .i64 c0.S] 3 (0, 0)), (some e3, .cells (arr (intC .i64) ((List.replicate c0.N.toNat (0 : Int)).set c0.S.toNat c0.N) ([])).toArray 3 (0, 0)), (some b3, .cells #[.slice none 0 0, .slice none 0 0, .slice none 0 0] 77 (0, 0)), (some b1, .cells #[.int .i64 c0.N, .int .i64 c0.S, .int .i64 c0.T, .slice a4 c4 b5, .slice d1 a6 b0, .slice d0 b6 c3, .slice c8 a9 b7, .slice b8 c7 a7, .slice b9 a8 a5] 64 (0, 0))] ⟨rfl, f2, List.length_replicate⟩ (Z02 tk3 (Z02 tk5 (Z02 tk5 (Z07 _)))) ?_ ?_ ?_ ?_
  · intro lp wc J_ H0_ hJ_ hin_ hY_ lo_ hwc k9; subst k9; exact Zax (yy_ := (fun s v => Z5j c0 s.1 s.2 v)) (c1 := c0) (c2 := c0.S) (tt_ := .inl (r5, (List.replicate c0.N.toNat (0 : Int)))) (J_ := J_) wc hin_ hJ_ hY_ (d5.monoM (by decide) hwc (List.Perm.refl _) rfl) (d4.monoM (by decide) hwc (List.Perm.refl _) rfl) (d6.monoM (by decide) hwc (List.Perm.refl _) rfl) (d2.monoM (by decide) hwc (List.Perm.refl _) rfl) (d8.monoM (by decide) hwc (List.Perm.refl _) rfl) (d7.monoM (by decide) hwc (List.Perm.refl _) rfl) (hwc.hbM (cs := [.int .i64 c0.N, .int .i64 c0.S, .int .i64 c0.T, .slice a4 c4 b5, .slice d1 a6 b0, .slice d0 b6 c3, .slice c8 a9 b7, .slice b8 c7 a7, .slice b9 a8 a5]) (List.Perm.refl _) rfl mm0) (hwc.hbM (cs := [.int .i64 c0.S]) (List.Perm.refl _) rfl mm1) g3
  ·
   rintro lp l6 ⟨d9, e1⟩ h3 l0 _ hy ⟨rfl, f0, f9⟩ l1 l3; refine ⟨[(1, .pointer (some ⟨b1, 0, none⟩)), (2, .pointer (some ⟨b3, 0, none⟩)), (3, .pointer (some ⟨e8, 0, none⟩)), (26, .int .i64 h3), (4, .int .i64 h3)], [(some e8, .cells #[.slice (sb e0) n8 c9, .slice (some ⟨e2, 0, none⟩) c0.N.toNat c0.N.toNat, .slice (some ⟨e3, 0, none⟩) c0.N.toNat c0.N.toNat] 77 (0, 0)), (e0, .cells (arr (intC .i64) d9 e7).toArray 2 (0, 0)), (some e2, .cells (arr (intC .i64) e1 ([])).toArray 2 (0, 0))], ?_, ?_⟩
   · refine Z04 (ll := [0]) rfl ?_; refine Z06 rr4 ?_; refine Z03 ?_; exact Znk (Z00 rfl (Z00 rfl (Z00 rfl (Z00 rfl (Z00 rfl Z09))))) (Z07 _)
   · intro l7 l4 hwc; have d5 := d5.monoM (by decide) hwc (List.Perm.refl _) rfl; have d4 := d4.monoM (by decide) hwc (List.Perm.refl _) rfl; have d6 := d6.monoM (by decide) hwc (List.Perm.refl _) rfl; have d2 := d2.monoM (by decide) hwc (List.Perm.refl _) rfl; have d8 := d8.monoM (by decide) hwc (List.Perm.refl _) rfl; have d7 := d7.monoM (by decide) hwc (List.Perm.refl _) rfl; have h4 := hwc.hbM (cs := [.int .i64 c0.N, .int .i64 c0.S, .int .i64 c0.T, .slice a4 c4 b5, .slice d1 a6 b0, .slice d0 b6 c3, .slice c8 a9 b7, .slice b8 c7 a7, .slice b9 a8 a5]) (List.Perm.refl _) rfl mm4; have g0 := hwc.rsM (f := (intC .i64)) (s := 1) (xs := ((List.replicate c0.N.toNat (0 : Int)).set c0.S.toNat c0.N)) (j := ([])) (fun _ => rfl) (List.Perm.refl _) rfl mm2 (List.length_set.trans List.length_replicate) (Nat.le_refl _) Z51; have k2 := hwc.hbM (cs := [.slice none 0 0, .slice none 0 0, .slice none 0 0]) (List.Perm.refl _) rfl mm3; have H : Z5j c0 d9 e1 h3 = some l0 := hy; unfold Z5j at H; refine T.block ?_; obtain ⟨k3, H⟩ := Z0c H; obtain ⟨l8, l5, H⟩ := Z0m H; refine Z6o 7 [0, 1, 2, 3, 4, 5, 6] rfl Z5i (by kernel_rfl) (by kernel_rfl) rfl (by kernel_rfl) ?_; refine TQ.ldHBA h4 rr5 Z1q ?_; refine TQ.move rr4 ?_; refine Z17 rr4 Z6a ?_; refine Z1u rr4 Z2e mm0 rfl ?_; refine TQ.move rr4 ?_; refine Z9t e5 e4 f0 k3 rr5 Z0s Z0z ?_; refine Z7m e5 e4 f0 k3 rr4 Z1d mm1 ?_; refine TQ.tail [7] rr2 ?_; refine Ze6 Zj6 rr4 (Z0i tk0 (Z0i tk0 (Z0i tk0 (Gone.refl _)))) rfl (fun wc hwc => Zgk (c0 := c0) (p1 := (Pre.mk d9 e1 ((List.replicate c0.N.toNat (0 : Int)).set c0.S.toNat c0.N))) (a2 := h3) (d3 := (d9.getD h3.toNat 0)) wc (hwc.self (Z02 tk0 (Z02 tk0 (Z02 tk0 Z08))) rfl) (d5.monoM (by decide) hwc (Z0i tk0 (Z0i tk0 (Z0i tk0 (Gone.refl _)))) rfl) (d4.monoM (by decide) hwc (Z0i tk0 (Z0i tk0 (Z0i tk0 (Gone.refl _)))) rfl) (d6.monoM (by decide) hwc (Z0i tk0 (Z0i tk0 (Z0i tk0 (Gone.refl _)))) rfl) (d2.monoM (by decide) hwc (Z0i tk0 (Z0i tk0 (Z0i tk0 (Gone.refl _)))) rfl) (d8.monoM (by decide) hwc (Z0i tk0 (Z0i tk0 (Z0i tk0 (Gone.refl _)))) rfl) (d7.monoM (by decide) hwc (Z0i tk0 (Z0i tk0 (Z0i tk0 (Gone.refl _)))) rfl) f0 e4 e9 e5 f9 (Nat.le_refl _) (Z38 _ _) Z51 (g0.monoM (by decide) hwc (Z0i tk0 (Z0i tk0 (Z0i tk0 (Gone.refl _)))) rfl) l5) ?_; rintro _ _ ⟨rfl, rfl, j0, j1⟩; refine Z03 ?_; refine Z0f ?_; exact Za6 H ⟨rfl, j0, j1⟩ (Z02 tk0 (Z02 tk0 (Z02 tk0 Z08)))
  · rintro ⟨d9, e1⟩ ht h5 _ ⟨rfl, f0, f9⟩; subst ht; have H : (some (Pre.mk d9 e1 ((List.replicate c0.N.toNat (0 : Int)).set c0.S.toNat c0.N))) = some r0 := k8; refine Za7 (H := [(some e8, .cells #[.slice (sb e0) n8 c9, .slice (some ⟨e2, 0, none⟩) c0.N.toNat c0.N.toNat, .slice (some ⟨e3, 0, none⟩) c0.N.toNat c0.N.toNat] 77 (0, 0)), (e0, .cells (arr (intC .i64) d9 e7).toArray 2 (0, 0)), (some e2, .cells (arr (intC .i64) e1 ([])).toArray 2 (0, 0)), (some h5, mkO), (some j9, .cells #[.int .i64 c0.N, .int .i64 c0.S, .int .i64 c0.T, .slice a4 c4 b5, .slice d1 a6 b0, .slice d0 b6 c3, .slice c8 a9 b7, .slice b8 c7 a7, .slice b9 a8 a5] 64 (0, 0)), (some k1, .cells #[.int .i64 c0.S] 3 (0, 0)), (some e3, .cells (arr (intC .i64) ((List.replicate c0.N.toNat (0 : Int)).set c0.S.toNat c0.N) ([])).toArray 3 (0, 0)), (some b3, .cells #[.slice none 0 0, .slice none 0 0, .slice none 0 0] 77 (0, 0)), (some b1, .cells #[.int .i64 c0.N, .int .i64 c0.S, .int .i64 c0.T, .slice a4 c4 b5, .slice d1 a6 b0, .slice d0 b6 c3, .slice c8 a9 b7, .slice b8 c7 a7, .slice b9 a8 a5] 64 (0, 0))]) rfl ?_; refine Z0f ?_; refine Z01 ?_; refine Z0b ?_; refine Z04 (ll := [0, 1]) rfl ?_; refine Z0u rr4 Z2d mm0 rfl ?_; refine Z1f rr4 tk7 Z5f rr3 ?_; refine Z03 ?_; refine Z01 ?_; refine T.ret ?_; obtain rfl := ret1 H; exact Zk2 [h5] rr5 (Z02 tk4 (Z07 _)) (Z4k rfl Z2d mm0 rfl) (Z02 tk2 (Z02 tk2 (Z02 tk4 Z08))) ⟨e0, n8, c9, e7, (some e2), c0.N.toNat, c0.N.toNat, ([]), (some e3), c0.N.toNat, c0.N.toNat, ([]), rfl, rfl, f0, e4, e9, e5, f9, (Nat.le_refl _), (Z38 _ _), Z51, (List.length_set.trans List.length_replicate), (Nat.le_refl _), (Z38 _ _), Z51⟩
  · intro x; exact nomatch x
theorem Z99 {c0 : Csr} {p1 : Pre} {u2 : Int} {a4 d8 d7 d5 c9 d0 d6 b8 c4 : Option Addr} {d2 b7 a6 b6 c7 d1 b5 c8 d4 a7 a8 a5 d9 c3 a9 b9 e0 b0 : Nat} (w : World) (e5 : RS w [] (intC .i64) 1 a4 d2 b7 c0.First) (e2 : RS w [] (intC .i64) 1 d8 a6 b6 c0.Head) (e6 : RS w [] (intC .i64) 1 d7 c7 d1 c0.Rev) (e3 : RS w [] (intC .i64) 1 d5 b5 c8 c0.Cap) (e8 : RS w [] (intC .i64) 1 c9 d4 a7 c0.Arc) (e7 : RS w [] boolC 1 d0 a8 a5 c0.Back) (e4 : RS w [] (intC .i64) 1 d6 d9 c3 p1.Res) (e1 : RS w [] (intC .i64) 1 b8 a9 b9 p1.Ex) (e9 : RS w [] (intC .i64) 1 c4 e0 b0 p1.H) {r0 : Bool} (H : Z62 c0 p1 u2 = some r0) : Fnc Try.prog 118 #[.agg #[.int .i64 c0.N, .int .i64 c0.S, .int .i64 c0.T, .slice a4 d2 b7, .slice d8 a6 b6, .slice d7 c7 d1, .slice d5 b5 c8, .slice c9 d4 a7, .slice d0 a8 a5], .agg #[.slice d6 d9 c3, .slice b8 a9 b9, .slice c4 e0 b0], .int .i64 u2] w [] (fun v N => v = .bool r0 ∧ N = []) := by
 unfold Z62 at H; refine Fnc.enter (vs := [.agg #[.int .i64 c0.N, .int .i64 c0.S, .int .i64 c0.T, .slice a4 d2 b7, .slice d8 a6 b6, .slice d7 c7 d1, .slice d5 b5 c8, .slice c9 d4 a7, .slice d0 a8 a5], .agg #[.slice d6 d9 c3, .slice b8 a9 b9, .slice c4 e0 b0], .int .i64 u2]) Try.func118 rfl rfl (Inv.refl w) ?_; refine Z0b ?_; refine Z04 (ll := [0, 1, 2]) rfl ?_; refine Z1h rr4 ?_; intro b1; refine Z1h rr4 ?_; intro b3; refine Z06 rr4 ?_; refine Z03 ?_; refine Z01 ?_; refine Z0b ?_; rcases Z0j H with ⟨g5, H⟩ | ⟨g5, H⟩
 ·
  rcases Z0j H with ⟨g6, H⟩ | ⟨g6, H⟩
  · obtain ⟨g7, H⟩ := Z0c H; refine Z04 (ll := [0, 1, 2, 3, 4, 5, 6, 7, 8, 9, 10, 11, 12, 13, 14, 15, 16, 17, 18]) rfl ?_; refine Z05 rr4 ?_; refine Z0a rr4 Zar ?_; refine Z0e rr4 Z0h mm1 rfl ?_; refine Z0t rr6 ?_; refine Z05 rr4 ?_; refine Z0y (t := 11) (b' := true) rfl (decide_eq_true g5) ?_; refine Z05 rr4 ?_; refine Z0a rr4 Zfv ?_; refine Z0e rr4 Z0h mm1 rfl ?_; refine Z0t rr6 ?_; refine Z1a rr5 ?_; refine Z05 rr4 ?_; refine Z0y (t := 17) (b' := true) rfl (decide_eq_true g6) ?_; refine Z0a rr4 Zaq ?_; refine Z0e rr4 Z2e mm0 rfl ?_; refine Z05 rr4 ?_; refine Z2b e1 g7 rr5 Z0s Z0z ?_; refine Z2r e1 g7 rr4 Z1d ?_; refine Z0t rr6 ?_; refine Z1a rr5 ?_; refine Z06 rr4 ?_; refine Z03 ?_; refine Z01 ?_; refine Z0p (Z00 (t := 6) rfl Z09) ?_; refine T.ret ?_; obtain rfl := ret1 H; exact Z16 rr4 (Res.tmp rfl) Z08 ⟨rfl, rfl⟩
  · refine Z04 (ll := [0, 1, 2, 3, 4, 5, 6, 7, 8, 9, 10, 11, 12, 13, 14, 15, 16, 17, 18]) rfl ?_; refine Z05 rr4 ?_; refine Z0a rr4 Zar ?_; refine Z0e rr4 Z0h mm1 rfl ?_; refine Z0t rr6 ?_; refine Z05 rr4 ?_; refine Z0y (t := 11) (b' := true) rfl (decide_eq_true g5) ?_; refine Z05 rr4 ?_; refine Z0a rr4 Zfv ?_; refine Z0e rr4 Z0h mm1 rfl ?_; refine Z0t rr6 ?_; refine Z1a rr5 ?_; refine Z05 rr4 ?_; refine Z0y (t := 17) (b' := false) rfl (decide_eq_false g6) ?_; refine Z0g rr4 ?_; refine Z0g rr4 ?_; refine Z0g rr4 ?_; refine Z0g rr4 ?_; refine Z0g rr4 ?_; refine Z0g rr4 ?_; refine Z1c rr5 ?_; refine Z06 rr4 ?_; refine Z03 ?_; refine Z01 ?_; refine Z0p (Z00 (t := 6) rfl Z09) ?_; refine T.ret ?_; obtain rfl := ret1 H; exact Z16 rr4 (Res.tmp rfl) Z08 ⟨rfl, rfl⟩
 · refine Z04 (ll := [0, 1, 2, 3, 4, 5, 6, 7, 8, 9, 10, 11, 12, 13, 14, 15, 16, 17, 18]) rfl ?_; refine Z05 rr4 ?_; refine Z0a rr4 Zar ?_; refine Z0e rr4 Z0h mm1 rfl ?_; refine Z0t rr6 ?_; refine Z05 rr4 ?_; refine Z0y (t := 11) (b' := false) rfl (decide_eq_false g5) ?_; refine Z0g rr4 ?_; refine Z0g rr4 ?_; refine Z0g rr4 ?_; refine Z0g rr4 ?_; refine Z1c rr5 ?_; refine Z05 rr4 ?_; refine Z0g rr4 ?_; refine Z0g rr4 ?_; refine Z0g rr4 ?_; refine Z0g rr4 ?_; refine Z0g rr4 ?_; refine Z0g rr4 ?_; refine Z1c rr5 ?_; refine Z06 rr4 ?_; refine Z03 ?_; refine Z01 ?_; refine Z0p (Z00 (t := 6) rfl Z09) ?_; refine T.ret ?_; obtain rfl := ret1 H; exact Z16 rr4 (Res.tmp rfl) Z08 ⟨rfl, rfl⟩
theorem Z9m {c0 : Csr} {p1 : Pre} {u2 a3 : Int} {a6 e0 d9 d7 d1 d2 d8 c3 c8 : Option Addr} {d5 b9 a8 b8 c9 d4 b7 d0 d6 a9 b0 a7 e1 c7 b5 c4 e2 b6 : Nat} (w : World) (e5 : RS w [] (intC .i64) 1 a6 d5 b9 c0.First) (e3 : RS w [] (intC .i64) 1 e0 a8 b8 c0.Head) (e6 : RS w [] (intC .i64) 1 d9 c9 d4 c0.Rev) (e4 : RS w [] (intC .i64) 1 d7 b7 d0 c0.Cap) (e9 : RS w [] (intC .i64) 1 d1 d6 a9 c0.Arc) (e7 : RS w [] boolC 1 d2 b0 a7 c0.Back) (a4 : RS w [] (intC .i64) 1 d8 e1 c7 p1.Res) (e8 : RS w [] (intC .i64) 1 c3 b5 c4 p1.Ex) (a5 : RS w [] (intC .i64) 1 c8 e2 b6 p1.H) {r0 : Bool} (H : Z4g c0 p1 u2 a3 = some r0) : Fnc Try.prog 119 #[.agg #[.int .i64 c0.N, .int .i64 c0.S, .int .i64 c0.T, .slice a6 d5 b9, .slice e0 a8 b8, .slice d9 c9 d4, .slice d7 b7 d0, .slice d1 d6 a9, .slice d2 b0 a7], .agg #[.slice d8 e1 c7, .slice c3 b5 c4, .slice c8 e2 b6], .int .i64 u2, .int .i64 a3] w [] (fun v N => v = .bool r0 ∧ N = []) := by
 unfold Z4g at H; refine Fnc.enter (vs := [.agg #[.int .i64 c0.N, .int .i64 c0.S, .int .i64 c0.T, .slice a6 d5 b9, .slice e0 a8 b8, .slice d9 c9 d4, .slice d7 b7 d0, .slice d1 d6 a9, .slice d2 b0 a7], .agg #[.slice d8 e1 c7, .slice c3 b5 c4, .slice c8 e2 b6], .int .i64 u2, .int .i64 a3]) Try.func119 rfl rfl (Inv.refl w) ?_; refine Z0b ?_; refine Z04 (ll := [0, 1, 2]) rfl ?_; refine Z1h rr4 ?_; intro b1; refine Z1h rr4 ?_; intro b3; refine Z06 rr4 ?_; refine Z03 ?_; refine Z01 ?_; refine Z0b ?_; obtain ⟨g5, H⟩ := Z0c H; rcases Z0j H with ⟨g6, H⟩ | ⟨g6, H⟩
 · obtain ⟨g7, H⟩ := Z0c H; obtain ⟨g8, H⟩ := Z0c H; obtain ⟨g9, H⟩ := Z0c H; obtain ⟨f0, H⟩ := Z0c H; refine Z6o 22 [0, 1, 2, 3, 4, 5, 6, 7, 8, 9, 10, 11, 12, 13, 14, 15, 16, 17, 18, 19, 20, 21] rfl Z5i (by kernel_rfl) (by kernel_rfl) rfl (by kernel_rfl) ?_; refine Z17 rr4 Z6a ?_; refine Z1u rr4 Z2e mm0 rfl ?_; refine TQ.move rr4 ?_; refine Z9u a4 g5 rr5 Z0s Z0z ?_; refine Z9o a4 g5 rr4 Z1d ?_; refine Ze5 rr6 ?_; refine TQ.move rr4 ?_; refine Zb9 (t := 15) (b' := true) rfl (decide_eq_true g6) ?_; refine Z17 rr4 Z92 ?_; refine Z1u rr4 Z18 mm0 rfl ?_; refine TQ.move rr4 ?_; refine Z9u a5 g7 rr5 Z0l Z0q ?_; refine Z9o a5 g7 rr4 Z0h ?_; refine Z17 rr4 Z92 ?_; refine Z1u rr4 Z18 mm0 rfl ?_; refine Z17 rr4 Z82 ?_; refine Z1u rr4 Z18 mm1 rfl ?_; refine TQ.move rr4 ?_; refine Z9u e3 g8 rr5 Z0l Z0q ?_; refine Z9o e3 g8 rr4 Z0h ?_; refine Z9u a5 g9 rr5 Z0l Z0q ?_; refine Z9o a5 g9 rr4 Z0h ?_; refine Zob f0 rr5 ?_; refine TQ.tail [22, 23, 24] rr2 ?_; refine Z0t rr6 ?_; refine Z1a rr5 ?_; refine Z06 rr4 ?_; refine Z03 ?_; refine Z01 ?_; refine Z0p (Z00 (t := 8) rfl Z09) ?_; refine T.ret ?_; obtain rfl := ret1 H; exact Z16 rr4 (Res.tmp rfl) Z08 ⟨rfl, rfl⟩
 · refine Z6o 22 [0, 1, 2, 3, 4, 5, 6, 7, 8, 9, 10, 11, 12, 13, 14, 15, 16, 17, 18, 19, 20, 21] rfl Z5i (by kernel_rfl) (by kernel_rfl) rfl (by kernel_rfl) ?_; refine Z17 rr4 Z6a ?_; refine Z1u rr4 Z2e mm0 rfl ?_; refine TQ.move rr4 ?_; refine Z9u a4 g5 rr5 Z0s Z0z ?_; refine Z9o a4 g5 rr4 Z1d ?_; refine Ze5 rr6 ?_; refine TQ.move rr4 ?_; refine Zb9 (t := 15) (b' := false) rfl (decide_eq_false g6) ?_; refine Z22 rr4 ?_; refine Z22 rr4 ?_; refine Z22 rr4 ?_; refine Z22 rr4 ?_; refine Z22 rr4 ?_; refine Z22 rr4 ?_; refine Z22 rr4 ?_; refine Z22 rr4 ?_; refine Z22 rr4 ?_; refine Z22 rr4 ?_; refine Z22 rr4 ?_; refine Z22 rr4 ?_; refine Z22 rr4 ?_; refine Z22 rr4 ?_; refine Z22 rr4 ?_; refine TQ.tail [22, 23, 24] rr2 ?_; refine Z0g rr4 ?_; refine Z1c rr5 ?_; refine Z06 rr4 ?_; refine Z03 ?_; refine Z01 ?_; refine Z0p (Z00 (t := 8) rfl Z09) ?_; refine T.ret ?_; obtain rfl := ret1 H; exact Z16 rr4 (Res.tmp rfl) Z08 ⟨rfl, rfl⟩
theorem Zgl {p0 : Pre} {b0 a4 b5 : Option Addr} {a9 b6 a5 a7 a6 a8 : Nat} (w : World) (e1 : RS w [] (intC .i64) 1 b0 a9 b6 p0.Res) (e2 : RS w [] (intC .i64) 1 a4 a5 a7 p0.Ex) (e3 : RS w [] (intC .i64) 1 b5 a6 a8 p0.H) {r0 : Pre} (H : Z8x p0 = some r0) : Fnc Try.prog 76 #[.agg #[.slice b0 a9 b6, .slice a4 a5 a7, .slice b5 a6 a8]] w [] (fun v N => ∃ (c4 : Option Nat) (f0 f2 : Nat) (g8 : List Value) (c7 : Option Nat) (f3 f4 : Nat) (g9 : List Value) (c8 : Option Nat) (f5 f6 : Nat) (h0 : List Value), v = .agg #[.slice (sb c4) f0 f2, .slice (sb c7) f3 f4, .slice (sb c8) f5 f6] ∧ N = [(c4, .cells (arr (intC .i64) r0.Res g8).toArray 2 (0, 0)), (c7, .cells (arr (intC .i64) r0.Ex g9).toArray 2 (0, 0)), (c8, .cells (arr (intC .i64) r0.H h0).toArray 3 (0, 0))] ∧ r0.Res.length = f0 ∧ f0 ≤ f2 ∧ g8.length = (f2 - f0) * 1 ∧ (c4 = none → f2 = 0) ∧ r0.Ex.length = f3 ∧ f3 ≤ f4 ∧ g9.length = (f4 - f3) * 1 ∧ (c7 = none → f4 = 0) ∧ r0.H.length = f5 ∧ f5 ≤ f6 ∧ h0.length = (f6 - f5) * 1 ∧ (c8 = none → f6 = 0)) := by
 unfold Z8x at H; refine Fnc.enter (vs := [.agg #[.slice b0 a9 b6, .slice a4 a5 a7, .slice b5 a6 a8]]) Try.func76 rfl rfl (Inv.refl w) ?_; refine Z0b ?_; refine Z04 (ll := [0, 1]) rfl ?_; refine Z1h rr4 ?_; intro b1; refine Z1r rr3 Z9i ?_; intro b3; refine Z03 ?_; refine Z01 ?_; refine Z0b ?_; obtain ⟨r5, e6, H⟩ := Z0m H; obtain ⟨f7, h7, H⟩ := Z0m H; obtain ⟨i5, h8, H⟩ := Z0m H; apply Z9q [⟨[], false, [], Z2h _⟩, ⟨[0], false, [], Z2h _⟩, ⟨[1], false, [], fun _ v e => ∃ (b8 : Option Nat) (n8 c9 : Nat) (d0 : List Value), v = .slice (sb b8) n8 c9 ∧ e = [(b8, .cells (arr (intC .i64) r5 d0).toArray 2 (0, 0))] ∧ r5.length = n8 ∧ n8 ≤ c9 ∧ d0.length = (c9 - n8) * 1 ∧ (b8 = none → c9 = 0)⟩, ⟨[], false, [], Z2h _⟩, ⟨[3], false, [], Z2h _⟩, ⟨[4], false, [], fun _ v e => ∃ (b7 : Option Nat) (b9 c3 : Nat) (d1 : List Value), v = .slice (sb b7) b9 c3 ∧ e = [(b7, .cells (arr (intC .i64) f7 d1).toArray 2 (0, 0))] ∧ f7.length = b9 ∧ b9 ≤ c3 ∧ d1.length = (c3 - b9) * 1 ∧ (b7 = none → c3 = 0)⟩, ⟨[], false, [], Z2h _⟩, ⟨[6], false, [], Z2h _⟩] [3, 4, 5, 6, 7, 8, 9, 10] 8 (HRk [[]]) [[]] [] [(some b3, .cells #[.slice none 0 0, .slice none 0 0, .slice none 0 0] 77 (0, 0)), (some b1, .cells #[.slice b0 a9 b6, .slice a4 a5 a7, .slice b5 a6 a8] 77 (0, 0))]
 · exact Z5i
 · exact rfl
 · kernel_rfl
 · kernel_rfl
 · kernel_rfl
 · exact rfl
 · exact rfl
 · exact rfl
 · exact rfl
 · exact (by repeat (first | exact Z07 _ | exact Z08 | apply Pick.none | refine Z02 (by repeat (first | exact Take.head _ _ | apply Take.tail)) ?_))
 ·
  refine ⟨?_, ?_, ?_, ?_, ?_, ?_, ?_, ?_, trivial⟩
  · rintro vs es Es Hx -; refine Z0d (D := []) rfl ?_; refine Z0a rr4 Z6a ?_; refine Z03 ?_; exact Z10 rfl ⟨rfl, rfl⟩ (Z07 _) rfl
  · rintro vs es Es Hx ⟨⟨e4, f8⟩, -⟩; refine Z0d (D := [(3, vs 0)]) rfl ?_; rw [e4]; refine Z0e rr4 Z2e mm1 rfl ?_; refine Z03 ?_; exact Z10 rfl ⟨rfl, rfl⟩ (Z07 _) (by show [(3, vs 0)] = _; rw [e4])
  · rintro vs es Es Hx ⟨⟨e5, f9⟩, -⟩; refine Z0d (D := [(4, vs 1)]) rfl ?_; rw [e5]; refine Z0o Zcz rr4 (fun wc hwc => Z5l (s0 := p0.Res) wc (e1.mono hwc) e6) ?_; rintro _ _ ⟨b8, n8, c9, d0, rfl, rfl, d2, d4, d5, d6⟩; refine Z03 ?_; exact Z10 rfl ⟨b8, n8, c9, d0, rfl, rfl, d2, d4, d5, d6⟩ (by repeat (first | exact Z07 _ | exact Z08 | apply Pick.none | refine Z02 (by repeat (first | exact Take.head _ _ | apply Take.tail)) ?_)) (by show [(4, vs 1)] = _; rw [e5])
  · rintro vs es Es Hx -; refine Z0d (D := []) rfl ?_; refine Z0a rr4 Zaq ?_; refine Z03 ?_; exact Z10 rfl ⟨rfl, rfl⟩ (Z07 _) rfl
  · rintro vs es Es Hx ⟨⟨e7, g0⟩, -⟩; refine Z0d (D := [(6, vs 3)]) rfl ?_; rw [e7]; refine Z0e rr4 Z2e mm1 rfl ?_; refine Z03 ?_; exact Z10 rfl ⟨rfl, rfl⟩ (Z07 _) (by show [(6, vs 3)] = _; rw [e7])
  · rintro vs es Es Hx ⟨⟨e8, g1⟩, -⟩; refine Z0d (D := [(7, vs 4)]) rfl ?_; rw [e8]; refine Z0o Zcz rr4 (fun wc hwc => Z5l (s0 := p0.Ex) wc (e2.mono hwc) h7) ?_; rintro _ _ ⟨b7, b9, c3, d1, rfl, rfl, d7, d8, d9, e0⟩; refine Z03 ?_; exact Z10 rfl ⟨b7, b9, c3, d1, rfl, rfl, d7, d8, d9, e0⟩ (by repeat (first | exact Z07 _ | exact Z08 | apply Pick.none | refine Z02 (by repeat (first | exact Take.head _ _ | apply Take.tail)) ?_)) (by show [(7, vs 4)] = _; rw [e8])
  · rintro vs es Es Hx -; refine Z0d (D := []) rfl ?_; refine Z0a rr4 Z92 ?_; refine Z03 ?_; exact Z10 rfl ⟨rfl, rfl⟩ (Z07 _) rfl
  · rintro vs es Es Hx ⟨⟨e9, g2⟩, -⟩; refine Z0d (D := [(9, vs 6)]) rfl ?_; rw [e9]; refine Z0e rr4 Z18 mm1 rfl ?_; refine Z03 ?_; exact Z10 rfl ⟨rfl, rfl⟩ (Z07 _) (by show [(9, vs 6)] = _; rw [e9])
 · rintro vs es hb ⟨⟨e4, f8⟩, ⟨e5, f9⟩, ⟨b8, n8, c9, d0, h1, h2, d2, d4, d5, d6⟩, ⟨e7, g0⟩, ⟨e8, g1⟩, ⟨b7, b9, c3, d1, h3, h4, d7, d8, d9, e0⟩, ⟨e9, g2⟩, ⟨h5, h6⟩, -⟩ hHR; obtain rfl : hb = [] := hHR; refine Z0d (D := [(3, vs 0), (4, vs 1), (5, vs 2), (6, vs 3), (7, vs 4), (8, vs 5), (9, vs 6), (10, vs 7)]) rfl ?_; refine Z12 (H := [(some b3, .cells #[.slice none 0 0, .slice none 0 0, .slice none 0 0] 77 (0, 0)), (some b1, .cells #[.slice b0 a9 b6, .slice a4 a5 a7, .slice b5 a6 a8] 77 (0, 0)), (b8, .cells (arr (intC .i64) r5 d0).toArray 2 (0, 0)), (b7, .cells (arr (intC .i64) f7 d1).toArray 2 (0, 0))]) (by show _ ++ (_ ++ (es 0 ++ (es 1 ++ (es 2 ++ (es 3 ++ (es 4 ++ (es 5 ++ (es 6 ++ (es 7 ++ ([])))))))))) = _; rw [f8, f9, h2, g0, g1, h4, g2, h6]; rfl) ?_; rw [e4, e5, h1, e7, e8, h3, e9, h5]; clear h5 e9 h3 e8 e7 h1 e5 e4 f8 f9 h2 g0 g1 h4 g2 h6; refine Z0o Zg3 rr4 (fun wc hwc => Z8d (s0 := p0.H) wc (e3.mono hwc) h8) ?_; rintro _ _ ⟨g3, h9, i2, i4, rfl, rfl, g4, g5, g6, g7⟩; refine Z36 (t := 77) [.slice none 0 0, .slice none 0 0, .slice none 0 0] [0, 1, 2] rr4 (by simp only [Z3h, setCells, Value.cells, List.toList_toArray, List.getD_cons_zero, List.getD_cons_succ, List.set_cons_zero, List.set_cons_succ]; rfl) (by kernel_rfl) ?_; refine Z1f rr4 tk1 Z5f rr3 ?_; refine Z03 ?_; refine Z01 ?_; refine Z0p (Z00 (t := 2) rfl Z09) ?_; refine T.ret ?_; obtain rfl := ret1 H; exact Z16 rr4 (Z4k rfl Z2d mm0 rfl) (Z02 tk3 (Z02 tk3 (Z02 tk1 Z08))) ⟨b8, n8, c9, d0, b7, b9, c3, d1, g3, h9, i2, i4, rfl, rfl, d2, d4, d5, d6, d7, d8, d9, e0, g4, g5, g6, g7⟩
theorem Zl2 {c0 : Csr} {p1 : Pre} {a2 : Int} {d9 d7 d6 d5 e6 d1 e8 e3 d0 : Option Addr} {d4 c7 e0 e2 e4 d2 e1 e5 e7 b8 b9 b7 f0 c9 c3 c8 f2 c4 : Nat} (w : World) (b0 : RS w [] (intC .i64) 1 d9 d4 c7 c0.First) (a8 : RS w [] (intC .i64) 1 d7 e0 e2 c0.Head) (a6 : RS w [] (intC .i64) 1 d6 e4 d2 c0.Rev) (a9 : RS w [] (intC .i64) 1 d5 e1 e5 c0.Cap) (a7 : RS w [] (intC .i64) 1 e6 e7 b8 c0.Arc) (b6 : RS w [] boolC 1 d1 b9 b7 c0.Back) (a4 : RS w [] (intC .i64) 1 e8 f0 c9 p1.Res) (a5 : RS w [] (intC .i64) 1 e3 c3 c8 p1.Ex) (d8 : RS w [] (intC .i64) 1 d0 f2 c4 p1.H) {r0 : Pre} {r1 : Int} {r2 : Int} (H : Zaa c0 p1 a2 = some (r0, r1, r2)) : Fnc Try.prog 104 #[.agg #[.int .i64 c0.N, .int .i64 c0.S, .int .i64 c0.T, .slice d9 d4 c7, .slice d7 e0 e2, .slice d6 e4 d2, .slice d5 e1 e5, .slice e6 e7 b8, .slice d1 b9 b7], .agg #[.slice e8 f0 c9, .slice e3 c3 c8, .slice d0 f2 c4], .int .i64 a2] w [] (fun v N => ∃ (f3 : Option Nat) (g6 g7 : Nat) (i6 : List Value) (f4 : Option Nat) (g8 g9 : Nat) (i7 : List Value) (f5 : Option Nat) (h0 h1 : Nat) (i8 : List Value), v = .tuple #[.agg #[.slice (sb f3) g6 g7, .slice (sb f4) g8 g9, .slice (sb f5) h0 h1], .int .i64 r1, .int .i64 r2] ∧ N = [(f3, .cells (arr (intC .i64) r0.Res i6).toArray 2 (0, 0)), (f4, .cells (arr (intC .i64) r0.Ex i7).toArray 2 (0, 0)), (f5, .cells (arr (intC .i64) r0.H i8).toArray 3 (0, 0))] ∧ r0.Res.length = g6 ∧ g6 ≤ g7 ∧ i6.length = (g7 - g6) * 1 ∧ (f3 = none → g7 = 0) ∧ r0.Ex.length = g8 ∧ g8 ≤ g9 ∧ i7.length = (g9 - g8) * 1 ∧ (f4 = none → g9 = 0) ∧ r0.H.length = h0 ∧ h0 ≤ h1 ∧ i8.length = (h1 - h0) * 1 ∧ (f5 = none → h1 = 0)) := by
 unfold Zaa at H; refine Fnc.enter (vs := [.agg #[.int .i64 c0.N, .int .i64 c0.S, .int .i64 c0.T, .slice d9 d4 c7, .slice d7 e0 e2, .slice d6 e4 d2, .slice d5 e1 e5, .slice e6 e7 b8, .slice d1 b9 b7], .agg #[.slice e8 f0 c9, .slice e3 c3 c8, .slice d0 f2 c4], .int .i64 a2]) Try.func104 rfl rfl (Inv.refl w) ?_; refine Z0b ?_; refine Z04 (ll := [0, 1, 2, 3, 4]) rfl ?_; refine Z1h rr4 ?_; intro b1; refine Z1h rr4 ?_; intro b3; refine Z1r rr3 Z9i ?_; intro b5; refine Z06 rr4 ?_; refine Z06 rr4 ?_; refine Z03 ?_; refine Z01 ?_; refine Z0b ?_; obtain ⟨⟨r7, r8⟩, e9, H⟩ := Z0m H; refine Z04 (ll := [0, 1, 2, 3, 4, 5, 6, 7]) rfl ?_; refine Z0u rr4 Z1q mm2 rfl ?_; refine Z05 rr4 ?_; refine Z0o Zll rr4 (fun wc hwc => Zl4 (c0 := c0) (a1 := a2) wc (b0.mono hwc) (a8.mono hwc) (a6.mono hwc) (a9.mono hwc) (a7.mono hwc) (b6.mono hwc) e9) ?_; rintro _ _ ⟨rfl, rfl⟩; refine Z05 rr4 ?_; refine TO.extract rr5 ?_; refine TO.extract rr5 ?_; refine Z06 rr4 ?_; refine Z06 rr4 ?_; refine Z03 ?_; refine Z01 ?_; refine Z0p (Z00 (t := 2) rfl (Z00 (t := 3) rfl (Z00 (t := 4) rfl (Z00 (t := 6) rfl (Z00 (t := 9) rfl (Z00 (t := 10) rfl Z09)))))) ?_; refine Z0b ?_; refine T.block ?_; refine Z0b ?_; refine Z04 (ll := [0, 1, 2]) rfl ?_; refine Z05 rr4 ?_; refine TO.not rr4 ?_; refine Z06 rr4 ?_; refine Z03 ?_; refine Z01 ?_; rcases Z0j H with ⟨h2, H⟩ | ⟨h2, H⟩
 · refine Z1j rfl h2 ?_; refine Z0b ?_; refine Z04 (ll := [0, 1, 2, 3]) rfl ?_; refine Z36 (t := 77) [.slice none 0 0, .slice none 0 0, .slice none 0 0] [0, 1, 2] rr4 (by simp only [Z3h, setCells, Value.cells, List.toList_toArray, List.getD_cons_zero, List.getD_cons_succ, List.set_cons_zero, List.set_cons_succ]; rfl) (by kernel_rfl) ?_; refine Z1f rr4 tk0 Z5f rr3 ?_; refine Z06 rr4 ?_; refine Z06 rr4 ?_; refine Z03 ?_; refine Z01 ?_; refine Z0p (Z00 (t := 6) rfl (Z00 (t := 7) rfl (Z00 (t := 8) rfl Z09))) ?_; refine T.ret ?_; refine Z0r ?_; refine Z0k ?_; obtain ⟨rfl, rfl, rfl⟩ := ret3 H; exact Zdz rr4 (Z4k rfl Z2d mm0 rfl) (Res.tmp rfl) (Res.tmp rfl) (Pick.none (Pick.none (Pick.none Z08))) ⟨none, 0, 0, ([]), none, 0, 0, ([]), none, 0, 0, ([]), rfl, rfl, rfl, (Nat.le_refl _), (Z38 0 _), (fun _ => rfl), rfl, (Nat.le_refl _), (Z38 0 _), (fun _ => rfl), rfl, (Nat.le_refl _), (Z38 0 _), (fun _ => rfl)⟩
 ·
  refine Z1s rfl (Bool.eq_false_iff.2 h2) ?_; refine Z0b ?_; refine Z1m (fun (f6 : Bool) => Z56 c0 p1 a2 r7 f6 = some (r0, r1, r2)) (fun (f6 : Bool) => [(2, .int .i64 a2), (3, .pointer (some ⟨b1, 0, none⟩)), (4, .pointer (some ⟨b3, 0, none⟩)), (6, .pointer (some ⟨b5, 0, none⟩)), (9, .int .i64 r7), (23, .bool f6)]) (fun (f6 : Bool) => [(some b1, .cells #[.int .i64 c0.N, .int .i64 c0.S, .int .i64 c0.T, .slice d9 d4 c7, .slice d7 e0 e2, .slice d6 e4 d2, .slice d5 e1 e5, .slice e6 e7 b8, .slice d1 b9 b7] 64 (0, 0)), (some b3, .cells #[.slice e8 f0 c9, .slice e3 c3 c8, .slice d0 f2 c4] 77 (0, 0)), (some b5, .cells #[.slice none 0 0, .slice none 0 0, .slice none 0 0] 77 (0, 0))]) ?_ ?_
  ·
   obtain ⟨k4, i9, H⟩ := Z0m H; rcases Z0j H with ⟨h3, H⟩ | ⟨h3, H⟩
   · refine Z04 (ll := [0, 1, 2, 3, 4, 5, 6, 7, 8, 9, 10, 11, 12, 13]) rfl ?_; refine Z0u rr4 Z1q mm2 rfl ?_; refine Z0u rr4 Z2d mm1 rfl ?_; refine Z05 rr4 ?_; refine Z0o Zbk rr4 (fun wc hwc => Z99 (c0 := c0) (p1 := p1) (u2 := r7) wc (b0.mono hwc) (a8.mono hwc) (a6.mono hwc) (a9.mono hwc) (a7.mono hwc) (b6.mono hwc) (a4.mono hwc) (a5.mono hwc) (d8.mono hwc) i9) ?_; rintro _ _ ⟨rfl, rfl⟩; refine TO.not rr4 ?_; refine Z05 rr4 ?_; refine Z0y (t := 29) (b' := true) rfl h3 ?_; refine Z0g rr4 ?_; refine Z0g rr4 ?_; refine Z0g rr4 ?_; refine Z0g rr4 ?_; refine Z0g rr4 ?_; refine Z0g rr4 ?_; refine Z1a rr5 ?_; refine Z06 rr4 ?_; refine Z03 ?_; exact Z1o true H (Z00 rfl (Z00 rfl (Z00 rfl (Z00 rfl (Z00 rfl (Z00 rfl Z09)))))) (Z02 tk2 (Z02 tk1 (Z02 tk0 Z08)))
   · obtain ⟨j4, j5, H⟩ := Z0m H; refine Z04 (ll := [0, 1, 2, 3, 4, 5, 6, 7, 8, 9, 10, 11, 12, 13]) rfl ?_; refine Z0u rr4 Z1q mm2 rfl ?_; refine Z0u rr4 Z2d mm1 rfl ?_; refine Z05 rr4 ?_; refine Z0o Zbk rr4 (fun wc hwc => Z99 (c0 := c0) (p1 := p1) (u2 := r7) wc (b0.mono hwc) (a8.mono hwc) (a6.mono hwc) (a9.mono hwc) (a7.mono hwc) (b6.mono hwc) (a4.mono hwc) (a5.mono hwc) (d8.mono hwc) i9) ?_; rintro _ _ ⟨rfl, rfl⟩; refine TO.not rr4 ?_; refine Z05 rr4 ?_; refine Z0y (t := 29) (b' := false) rfl (Bool.eq_false_iff.2 h3) ?_; refine Z0u rr4 Z1q mm2 rfl ?_; refine Z0u rr4 Z2d mm1 rfl ?_; refine Z05 rr4 ?_; refine Z05 rr4 ?_; refine Z0o Zel rr4 (fun wc hwc => Z9m (c0 := c0) (p1 := p1) (u2 := r7) (a3 := a2) wc (b0.mono hwc) (a8.mono hwc) (a6.mono hwc) (a9.mono hwc) (a7.mono hwc) (b6.mono hwc) (a4.mono hwc) (a5.mono hwc) (d8.mono hwc) j5) ?_; rintro _ _ ⟨rfl, rfl⟩; refine TO.not rr4 ?_; refine Z1c rr5 ?_; refine Z06 rr4 ?_; refine Z03 ?_; exact Z1o (!j4) H (Z00 rfl (Z00 rfl (Z00 rfl (Z00 rfl (Z00 rfl (Z00 rfl Z09)))))) (Z02 tk2 (Z02 tk1 (Z02 tk0 Z08)))
  ·
   rintro f6 H; unfold Z56 at H; rcases Z0j H with ⟨h4, H⟩ | ⟨h4, H⟩
   · refine Z1j rfl h4 ?_; refine Z0b ?_; refine Z04 (ll := [0, 1, 2, 3]) rfl ?_; refine Z36 (t := 77) [.slice none 0 0, .slice none 0 0, .slice none 0 0] [0, 1, 2] rr4 (by simp only [Z3h, setCells, Value.cells, List.toList_toArray, List.getD_cons_zero, List.getD_cons_succ, List.set_cons_zero, List.set_cons_succ]; rfl) (by kernel_rfl) ?_; refine Z1f rr4 tk2 Z5f rr3 ?_; refine Z06 rr4 ?_; refine Z06 rr4 ?_; refine Z03 ?_; refine Z01 ?_; refine T.ret ?_; refine Z0r ?_; refine Z0k ?_; obtain ⟨rfl, rfl, rfl⟩ := ret3 H; exact Zdz rr4 (Z4k rfl Z2d mm0 rfl) (Res.tmp rfl) (Res.tmp rfl) (Pick.none (Pick.none (Pick.none Z08))) ⟨none, 0, 0, ([]), none, 0, 0, ([]), none, 0, 0, ([]), rfl, rfl, rfl, (Nat.le_refl _), (Z38 0 _), (fun _ => rfl), rfl, (Nat.le_refl _), (Z38 0 _), (fun _ => rfl), rfl, (Nat.le_refl _), (Z38 0 _), (fun _ => rfl)⟩
   · refine Z1s rfl (Bool.eq_false_iff.2 h4) ?_; refine T.skip ?_; refine Z0f ?_; refine Z01 ?_; refine Z0b ?_; obtain ⟨j0, j6, H⟩ := Z0m H; refine Z04 (ll := [0, 1, 2, 3]) rfl ?_; refine Z0u rr4 Z2d mm1 rfl ?_; refine Z0o Zj7 rr4 (fun wc hwc => Zgl (p0 := p1) wc (a4.mono hwc) (a5.mono hwc) (d8.mono hwc) j6) ?_; rintro _ _ ⟨h5, j7, c22, j8, h6, j9, c26, k1, h7, n29, k2, j1, rfl, rfl, h8, f7, f8, f9, h9, g0, g1, g2, g3, g4, i2, g5⟩; refine Z1r rr3 Z9i ?_; intro k5; refine Z1f rr4 tk0 Z5f rr3 ?_; refine Z03 ?_; refine Z01 ?_; refine Z0b ?_; obtain ⟨j2, H⟩ := Z0c H; obtain ⟨j3, H⟩ := Z0c H; refine Z6o 10 [0, 1, 2, 3, 4, 5, 6, 7, 8, 9] rfl Z5i (by kernel_rfl) (by kernel_rfl) rfl (by kernel_rfl) ?_; refine Z17 rr4 Zaq ?_; refine Z1u rr4 Z2e mm5 rfl ?_; refine TQ.move rr4 ?_; refine Z9u a5 j2 rr5 Z0s Z0z ?_; refine Z9o a5 j2 rr4 Z1d ?_; refine Z17 rr4 Z6a ?_; refine Z1u rr4 Z2e mm5 rfl ?_; refine TQ.move rr4 ?_; refine Z9u a4 j3 rr5 Z0s Z0z ?_; refine Z9o a4 j3 rr4 Z1d ?_; refine TQ.tail [10, 11] rr2 ?_; refine TO.min2 rr5 ?_; refine Z06 rr4 ?_; refine Z03 ?_; refine Z01 ?_; refine Z0p (Z00 (t := 2) rfl (Z00 (t := 3) rfl (Z00 (t := 6) rfl (Z00 (t := 11) rfl (Z00 (t := 12) rfl Z09))))) ?_; refine Z0b ?_; obtain ⟨k6, k3, H⟩ := Z0m H; refine Z04 (ll := [0, 1, 2, 3]) rfl ?_; refine Z0u rr4 Z1q mm4 rfl ?_; refine Z05 rr4 ?_; refine Z05 rr4 ?_; refine Ze6 Zj6 rr4 (Z0i tk0 (Z0i tk0 (Z0i tk0 (Gone.refl _)))) rfl (fun wc hwc => Zgk (c0 := c0) (p1 := j0) (a2 := a2) (d3 := (min (p1.Ex.getD r7.toNat 0) (p1.Res.getD a2.toNat 0))) wc (hwc.self (Z02 tk0 (Z02 tk0 (Z02 tk0 Z08))) rfl) (b0.monoM (by decide) hwc (Z0i tk0 (Z0i tk0 (Z0i tk0 (Gone.refl _)))) rfl) (a8.monoM (by decide) hwc (Z0i tk0 (Z0i tk0 (Z0i tk0 (Gone.refl _)))) rfl) (a6.monoM (by decide) hwc (Z0i tk0 (Z0i tk0 (Z0i tk0 (Gone.refl _)))) rfl) (a9.monoM (by decide) hwc (Z0i tk0 (Z0i tk0 (Z0i tk0 (Gone.refl _)))) rfl) (a7.monoM (by decide) hwc (Z0i tk0 (Z0i tk0 (Z0i tk0 (Gone.refl _)))) rfl) (b6.monoM (by decide) hwc (Z0i tk0 (Z0i tk0 (Z0i tk0 (Gone.refl _)))) rfl) h8 f7 f8 f9 h9 g0 g1 g2 (hwc.rsM (f := (intC .i64)) (s := 1) (xs := j0.H) (j := j1) (fun _ => rfl) (Z0i tk0 (Z0i tk0 (Z0i tk0 (Gone.refl _)))) rfl mm0 g3 g4 g5) k3) ?_; rintro _ _ ⟨rfl, rfl, i4, i5⟩; refine Z03 ?_; refine Z01 ?_; refine Z0b ?_; refine Z04 (ll := [0, 1, 2, 3, 4]) rfl ?_; refine Z0u rr4 Z2d mm0 rfl ?_; refine Z05 rr4 ?_; refine Z1f rr4 tk6 Z5f rr3 ?_; refine Z06 rr4 ?_; refine Z06 rr4 ?_; refine Z03 ?_; refine Z01 ?_; refine Z0p (Z00 (t := 6) rfl (Z00 (t := 7) rfl (Z00 (t := 8) rfl Z09))) ?_; refine T.ret ?_; obtain ⟨rfl, rfl, rfl⟩ := ret3 H; exact Zdz rr4 (Z4k rfl Z2d mm0 rfl) (Res.tmp rfl) (Res.tmp rfl) (Z02 tk2 (Z02 tk2 (Z02 tk2 Z08))) ⟨h5, j7, c22, j8, h6, j9, c26, k1, h7, n29, k2, j1, rfl, rfl, i4, f7, f8, f9, i5, g0, g1, g2, g3, g4, i2, g5⟩
theorem Zf7 {c0 : Csr} {p1 : Pre} {u2 : Int} {a4 d2 d1 d0 c3 c4 e0 d6 d9 : Option Addr} {c8 b6 a6 b0 b8 c7 a9 b9 c9 a7 a8 a5 e1 d8 d4 d7 e2 d5 : Nat} (w : World) (e5 : RS w [] (intC .i64) 1 a4 c8 b6 c0.First) (e3 : RS w [] (intC .i64) 1 d2 a6 b0 c0.Head) (e6 : RS w [] (intC .i64) 1 d1 b8 c7 c0.Rev) (e4 : RS w [] (intC .i64) 1 d0 a9 b9 c0.Cap) (e8 : RS w [] (intC .i64) 1 c3 c9 a7 c0.Arc) (e7 : RS w [] boolC 1 c4 a8 a5 c0.Back) (f0 : RS w [] (intC .i64) 1 e0 e1 d8 p1.Res) (f2 : RS w [] (intC .i64) 1 d6 d4 d7 p1.Ex) (f3 : RS w [] (intC .i64) 1 d9 e2 d5 p1.H) {r0 : Bool} (H : Z8w c0 p1 u2 = some r0) : Fnc Try.prog 122 #[.agg #[.int .i64 c0.N, .int .i64 c0.S, .int .i64 c0.T, .slice a4 c8 b6, .slice d2 a6 b0, .slice d1 b8 c7, .slice d0 a9 b9, .slice c3 c9 a7, .slice c4 a8 a5], .agg #[.slice e0 e1 d8, .slice d6 d4 d7, .slice d9 e2 d5], .int .i64 u2] w [] (fun v N => v = .bool r0 ∧ N = []) := by
 unfold Z8w at H; refine Zbr (vs := [.agg #[.int .i64 c0.N, .int .i64 c0.S, .int .i64 c0.T, .slice a4 c8 b6, .slice d2 a6 b0, .slice d1 b8 c7, .slice d0 a9 b9, .slice c3 c9 a7, .slice c4 a8 a5], .agg #[.slice e0 e1 d8, .slice d6 d4 d7, .slice d9 e2 d5], .int .i64 u2]) Try.func122 rfl rfl (Inv.refl w) ?_; refine Z0b ?_; refine Z04 (ll := [0, 1, 2, 3]) rfl ?_; refine Z1h rr4 ?_; intro b1; refine Z1h rr4 ?_; intro b3; refine TO.box rr4 ?_; intro b5; refine TO.alloc rr3 Zf4 ?_; intro b7; refine Z03 ?_; refine Z01 ?_; refine Z0b ?_; refine Z0b ?_; obtain ⟨⟨⟩, e9, H⟩ := Z0m H; refine Z04 (ll := [0, 1, 2]) rfl ?_; refine Z0u rr4 Z1q mm3 rfl ?_; refine Z0e rr4 Z0h mm1 rfl ?_; refine Z0o Ze0 rr4 (fun wc hwc => Zct (c0 := c0) (u1 := u2) wc (e5.mono hwc) (e3.mono hwc) (e6.mono hwc) (e4.mono hwc) (e8.mono hwc) (e7.mono hwc) e9) ?_; rintro _ _ ⟨g0, g1, rfl, rfl⟩; refine Z03 ?_; refine Z01 ?_; refine T.block ?_; obtain ⟨g5, g6, g4⟩ := Z0m H; refine T.rangeFunc (S := (Unit)) (X := (Unit)) (V := Int) rfl Zcx rr2 (fun v => [.int .i64 v]) (fun _ => rfl) (fun s v => Z6j c0 p1 u2 v) (fun t Hq => match t with | .inl _ => ∃ (f8 : Unit), Hq = [(some b7, .cells #[.bool false] 4 (0, 0))] | .inr _ => ∃ (f8 : Unit), Hq = [(some b7, .cells #[.bool false] 4 (0, 0))]) (fun _ => .ret) () g5 [(some b7, .cells #[.bool false] 4 (0, 0))] [(some g0, .cells #[.int .i64 c0.N, .int .i64 c0.S, .int .i64 c0.T, .slice a4 c8 b6, .slice d2 a6 b0, .slice d1 b8 c7, .slice d0 a9 b9, .slice c3 c9 a7, .slice c4 a8 a5] 64 (0, 0)), (some g1, .cells #[.int .i64 u2] 3 (0, 0)), (some b5, .cells #[.int .i64 u2] 3 (0, 0)), (some b3, .cells #[.slice e0 e1 d8, .slice d6 d4 d7, .slice d9 e2 d5] 77 (0, 0)), (some b1, .cells #[.int .i64 c0.N, .int .i64 c0.S, .int .i64 c0.T, .slice a4 c8 b6, .slice d2 a6 b0, .slice d1 b8 c7, .slice d0 a9 b9, .slice c3 c9 a7, .slice c4 a8 a5] 64 (0, 0))] ⟨(), rfl⟩ (Z02 tk2 (Z07 _)) ?_ ?_ ?_ ?_
 · intro lp wc J_ H0_ hJ_ hin_ hY_ lo_ hwc g7; subst g7; exact Zax (yy_ := (fun s v => Z6j c0 p1 u2 v)) (c1 := c0) (c2 := u2) (tt_ := .inl ()) (J_ := J_) wc hin_ hJ_ hY_ (e5.monoM (by decide) hwc (List.Perm.refl _) rfl) (e3.monoM (by decide) hwc (List.Perm.refl _) rfl) (e6.monoM (by decide) hwc (List.Perm.refl _) rfl) (e4.monoM (by decide) hwc (List.Perm.refl _) rfl) (e8.monoM (by decide) hwc (List.Perm.refl _) rfl) (e7.monoM (by decide) hwc (List.Perm.refl _) rfl) (hwc.hbM (cs := [.int .i64 c0.N, .int .i64 c0.S, .int .i64 c0.T, .slice a4 c8 b6, .slice d2 a6 b0, .slice d1 b8 c7, .slice d0 a9 b9, .slice c3 c9 a7, .slice c4 a8 a5]) (List.Perm.refl _) rfl mm0) (hwc.hbM (cs := [.int .i64 u2]) (List.Perm.refl _) rfl mm1) g6
 ·
  rintro lp h4 _ f9 g8 _ hy ⟨f8, rfl⟩ g9 h0; refine ⟨[(3, .pointer (some ⟨b1, 0, none⟩)), (4, .pointer (some ⟨b3, 0, none⟩)), (5, .pointer (some ⟨b5, 0, none⟩)), (6, .pointer (some ⟨b7, 0, none⟩)), (11, .int .i64 f9), (7, .int .i64 f9)], [(some b7, .cells #[.bool false] 4 (0, 0))], ?_, ?_⟩
  · refine Z04 (ll := [0]) rfl ?_; refine Z06 rr4 ?_; refine Z03 ?_; exact Znk (Z00 rfl (Z00 rfl (Z00 rfl (Z00 rfl (Z00 rfl (Z00 rfl Z09)))))) (Z07 _)
  ·
   intro h5 h1 hwc; have e5 := e5.monoM (by decide) hwc (List.Perm.refl _) rfl; have e3 := e3.monoM (by decide) hwc (List.Perm.refl _) rfl; have e6 := e6.monoM (by decide) hwc (List.Perm.refl _) rfl; have e4 := e4.monoM (by decide) hwc (List.Perm.refl _) rfl; have e8 := e8.monoM (by decide) hwc (List.Perm.refl _) rfl; have e7 := e7.monoM (by decide) hwc (List.Perm.refl _) rfl; have f0 := f0.monoM (by decide) hwc (List.Perm.refl _) rfl; have f2 := f2.monoM (by decide) hwc (List.Perm.refl _) rfl; have f3 := f3.monoM (by decide) hwc (List.Perm.refl _) rfl; have f5 := hwc.hbM (cs := [.int .i64 c0.N, .int .i64 c0.S, .int .i64 c0.T, .slice a4 c8 b6, .slice d2 a6 b0, .slice d1 b8 c7, .slice d0 a9 b9, .slice c3 c9 a7, .slice c4 a8 a5]) (List.Perm.refl _) rfl mm4; have f6 := hwc.hbM (cs := [.slice e0 e1 d8, .slice d6 d4 d7, .slice d9 e2 d5]) (List.Perm.refl _) rfl mm3; have f7 := hwc.hbM (cs := [.int .i64 u2]) (List.Perm.refl _) rfl mm2; have H : Z6j c0 p1 u2 f9 = some g8 := hy; unfold Z6j at H; refine T.block ?_; refine Z0b ?_; obtain ⟨h6, h2, H⟩ := Z0m H; refine Z04 (ll := [0, 1, 2, 3, 4]) rfl ?_; refine Z7y f5 rr5 Z1q ?_; refine Z7y f6 rr5 Z2d ?_; refine Z4x f7 rr5 Z0h ?_; refine Z05 rr4 ?_; refine Z0o Zel rr4 (fun wc hwc => Z9m (c0 := c0) (p1 := p1) (u2 := u2) (a3 := f9) wc (e5.mono hwc) (e3.mono hwc) (e6.mono hwc) (e4.mono hwc) (e8.mono hwc) (e7.mono hwc) (f0.mono hwc) (f2.mono hwc) (f3.mono hwc) h2) ?_; rintro _ _ ⟨rfl, rfl⟩; refine Z03 ?_; refine Z01 ?_; rcases Z0j H with ⟨g2, H⟩ | ⟨g2, H⟩
   · refine Z1j rfl g2 ?_; refine Z0b ?_; refine Z04 (ll := [0]) rfl ?_; refine Z2j (cs' := [.bool false]) rr4 tk0 Z4p rr3 ?_; refine Z03 ?_; refine Z01 ?_; refine Z0p (Z00 (t := 6) rfl Z09) ?_; refine T.ret ?_; refine Z0r ?_; exact X.rfRet H rfl ⟨(), rfl⟩ (Z02 tk0 Z08)
   · refine Z1s rfl (Bool.eq_false_iff.2 g2) ?_; refine T.skip ?_; refine Z0f ?_; exact Za6 H ⟨(), rfl⟩ (Z02 tk0 Z08)
 · rintro _ ht f4 _ ⟨f8, rfl⟩; subst ht; have H : (Option.bind (Z62 c0 p1 u2) fun g3 => some g3) = some r0 := g4; refine Za7 (H := [(some b7, .cells #[.bool false] 4 (0, 0)), (some f4, mkO), (some g0, .cells #[.int .i64 c0.N, .int .i64 c0.S, .int .i64 c0.T, .slice a4 c8 b6, .slice d2 a6 b0, .slice d1 b8 c7, .slice d0 a9 b9, .slice c3 c9 a7, .slice c4 a8 a5] 64 (0, 0)), (some g1, .cells #[.int .i64 u2] 3 (0, 0)), (some b5, .cells #[.int .i64 u2] 3 (0, 0)), (some b3, .cells #[.slice e0 e1 d8, .slice d6 d4 d7, .slice d9 e2 d5] 77 (0, 0)), (some b1, .cells #[.int .i64 c0.N, .int .i64 c0.S, .int .i64 c0.T, .slice a4 c8 b6, .slice d2 a6 b0, .slice d1 b8 c7, .slice d0 a9 b9, .slice c3 c9 a7, .slice c4 a8 a5] 64 (0, 0))]) rfl ?_; refine Z0f ?_; refine Z01 ?_; refine Z0b ?_; obtain ⟨g3, h3, H⟩ := Z0m H; refine Z04 (ll := [0, 1, 2, 3, 4]) rfl ?_; refine Z0u rr4 Z1q mm6 rfl ?_; refine Z0u rr4 Z2d mm5 rfl ?_; refine Z0e rr4 Z0h mm4 rfl ?_; refine Z0o Zbk rr4 (fun wc hwc => Z99 (c0 := c0) (p1 := p1) (u2 := u2) wc (e5.mono hwc) (e3.mono hwc) (e6.mono hwc) (e4.mono hwc) (e8.mono hwc) (e7.mono hwc) (f0.mono hwc) (f2.mono hwc) (f3.mono hwc) h3) ?_; rintro _ _ ⟨rfl, rfl⟩; refine Z2j (cs' := [.bool g3]) rr4 tk0 Z4p rr3 ?_; refine Z03 ?_; refine Z01 ?_; refine Z0p (Z00 (t := 6) rfl Z09) ?_; refine T.ret ?_; obtain rfl := ret1 H; exact Zk2 [f4] rr5 (Z02 tk1 (Z07 _)) (Zjo rfl Zbl mm0 rfl) Z08 ⟨rfl, rfl⟩
 · rintro _ ht f4 _ ⟨f8, rfl⟩; subst ht; have H : (some false) = some r0 := g4; refine Zid (H := [(some b7, .cells #[.bool false] 4 (0, 0)), (some f4, mkO), (some g0, .cells #[.int .i64 c0.N, .int .i64 c0.S, .int .i64 c0.T, .slice a4 c8 b6, .slice d2 a6 b0, .slice d1 b8 c7, .slice d0 a9 b9, .slice c3 c9 a7, .slice c4 a8 a5] 64 (0, 0)), (some g1, .cells #[.int .i64 u2] 3 (0, 0)), (some b5, .cells #[.int .i64 u2] 3 (0, 0)), (some b3, .cells #[.slice e0 e1 d8, .slice d6 d4 d7, .slice d9 e2 d5] 77 (0, 0)), (some b1, .cells #[.int .i64 c0.N, .int .i64 c0.S, .int .i64 c0.T, .slice a4 c8 b6, .slice d2 a6 b0, .slice d1 b8 c7, .slice d0 a9 b9, .slice c3 c9 a7, .slice c4 a8 a5] 64 (0, 0))]) rfl ?_; refine T.ret ?_; refine Z0r ?_; refine Z0k ?_; obtain rfl := ret1 H; exact Zk2 [f4] rr5 (Z02 tk1 (Z07 _)) (Zjo rfl Zbl mm0 rfl) Z08 ⟨rfl, rfl⟩
theorem Zl3 {c0 : Csr} {p1 : Pre} {u2 : Int} {c3 b9 b8 b7 d1 a9 e1 e0 d8 : Option Addr} {b6 a8 c4 c8 c9 b0 c7 d0 d2 a6 a7 a5 e2 d7 d4 d6 e3 d5 : Nat} (w : World) (e9 : RS w [] (intC .i64) 1 c3 b6 a8 c0.First) (d9 : RS w [] (intC .i64) 1 b9 c4 c8 c0.Head) (e6 : RS w [] (intC .i64) 1 b8 c9 b0 c0.Rev) (e8 : RS w [] (intC .i64) 1 b7 c7 d0 c0.Cap) (e7 : RS w [] (intC .i64) 1 d1 d2 a6 c0.Arc) (f0 : RS w [] boolC 1 a9 a7 a5 c0.Back) (e4 : RS w [] (intC .i64) 1 e1 e2 d7 p1.Res) (f2 : RS w [] (intC .i64) 1 e0 d4 d6 p1.Ex) (e5 : RS w [] (intC .i64) 1 d8 e3 d5 p1.H) {r0 : Pre} {r1 : Int} (H : Zab c0 p1 u2 = some (r0, r1)) : Fnc Try.prog 105 #[.agg #[.int .i64 c0.N, .int .i64 c0.S, .int .i64 c0.T, .slice c3 b6 a8, .slice b9 c4 c8, .slice b8 c9 b0, .slice b7 c7 d0, .slice d1 d2 a6, .slice a9 a7 a5], .agg #[.slice e1 e2 d7, .slice e0 d4 d6, .slice d8 e3 d5], .int .i64 u2] w [] (fun v N => ∃ (f4 : Option Nat) (g4 g5 : Nat) (j0 : List Value) (f5 : Option Nat) (g6 g8 : Nat) (j1 : List Value) (f6 : Option Nat) (h0 h1 : Nat) (j2 : List Value), v = .tuple #[.agg #[.slice (sb f4) g4 g5, .slice (sb f5) g6 g8, .slice (sb f6) h0 h1], .int .i64 r1] ∧ N = [(f4, .cells (arr (intC .i64) r0.Res j0).toArray 2 (0, 0)), (f5, .cells (arr (intC .i64) r0.Ex j1).toArray 2 (0, 0)), (f6, .cells (arr (intC .i64) r0.H j2).toArray 3 (0, 0))] ∧ r0.Res.length = g4 ∧ g4 ≤ g5 ∧ j0.length = (g5 - g4) * 1 ∧ (f4 = none → g5 = 0) ∧ r0.Ex.length = g6 ∧ g6 ≤ g8 ∧ j1.length = (g8 - g6) * 1 ∧ (f5 = none → g8 = 0) ∧ r0.H.length = h0 ∧ h0 ≤ h1 ∧ j2.length = (h1 - h0) * 1 ∧ (f6 = none → h1 = 0)) := by
 unfold Zab at H; refine Zbr (vs := [.agg #[.int .i64 c0.N, .int .i64 c0.S, .int .i64 c0.T, .slice c3 b6 a8, .slice b9 c4 c8, .slice b8 c9 b0, .slice b7 c7 d0, .slice d1 d2 a6, .slice a9 a7 a5], .agg #[.slice e1 e2 d7, .slice e0 d4 d6, .slice d8 e3 d5], .int .i64 u2]) Try.func105 rfl rfl (Inv.refl w) ?_; refine Z0b ?_; refine Z04 (ll := [0, 1, 2, 3]) rfl ?_; refine Z1h rr4 ?_; intro b1; refine Z1h rr4 ?_; intro b3; refine Z1r rr3 Z9i ?_; intro b5; refine Z06 rr4 ?_; refine Z03 ?_; refine Z01 ?_; refine Z0b ?_; refine T.block ?_; refine Z0b ?_; refine Z1m (fun (x8 : Bool) => Z8h c0 p1 u2 x8 = some (r0, r1)) (fun (x8 : Bool) => [(2, .int .i64 u2), (3, .pointer (some ⟨b1, 0, none⟩)), (4, .pointer (some ⟨b3, 0, none⟩)), (6, .pointer (some ⟨b5, 0, none⟩)), (11, .bool x8)]) (fun (x8 : Bool) => [(some b1, .cells #[.int .i64 c0.N, .int .i64 c0.S, .int .i64 c0.T, .slice c3 b6 a8, .slice b9 c4 c8, .slice b8 c9 b0, .slice b7 c7 d0, .slice d1 d2 a6, .slice a9 a7 a5] 64 (0, 0)), (some b3, .cells #[.slice e1 e2 d7, .slice e0 d4 d6, .slice d8 e3 d5] 77 (0, 0)), (some b5, .cells #[.slice none 0 0, .slice none 0 0, .slice none 0 0] 77 (0, 0))]) ?_ ?_
 ·
  rcases Z0j H with ⟨g7, H⟩ | ⟨g7, H⟩
  · refine Z04 (ll := [0, 1, 2, 3, 4, 5, 6, 7, 8]) rfl ?_; refine Z05 rr4 ?_; refine Z0t rr6 ?_; refine Z05 rr4 ?_; refine Z0y (t := 14) (b' := true) rfl (decide_eq_true g7) ?_; refine Z0g rr4 ?_; refine Z0g rr4 ?_; refine Z0g rr4 ?_; refine Z0g rr4 ?_; refine Z1a rr5 ?_; refine Z06 rr4 ?_; refine Z03 ?_; exact Z1o true H (Z00 rfl (Z00 rfl (Z00 rfl (Z00 rfl (Z00 rfl Z09))))) (Z02 tk2 (Z02 tk1 (Z02 tk0 Z08)))
  · refine Z04 (ll := [0, 1, 2, 3, 4, 5, 6, 7, 8]) rfl ?_; refine Z05 rr4 ?_; refine Z0t rr6 ?_; refine Z05 rr4 ?_; refine Z0y (t := 14) (b' := false) rfl (decide_eq_false g7) ?_; refine Z05 rr4 ?_; refine Z0a rr4 Z80 ?_; refine Z0e rr4 Z0h mm2 rfl ?_; refine Z0t rr6 ?_; refine Z1c rr5 ?_; refine Z06 rr4 ?_; refine Z03 ?_; exact Z1o (decide (c0.N ≤ u2)) H (Z00 rfl (Z00 rfl (Z00 rfl (Z00 rfl (Z00 rfl Z09))))) (Z02 tk2 (Z02 tk1 (Z02 tk0 Z08)))
 ·
  rintro x8 H; unfold Z8h at H; rcases Z0j H with ⟨g9, H⟩ | ⟨g9, H⟩
  · refine Z1j rfl g9 ?_; refine Z0b ?_; refine Z04 (ll := [0, 1, 2]) rfl ?_; refine Z36 (t := 77) [.slice none 0 0, .slice none 0 0, .slice none 0 0] [0, 1, 2] rr4 (by simp only [Z3h, setCells, Value.cells, List.toList_toArray, List.getD_cons_zero, List.getD_cons_succ, List.set_cons_zero, List.set_cons_succ]; rfl) (by kernel_rfl) ?_; refine Z1f rr4 tk2 Z5f rr3 ?_; refine Z06 rr4 ?_; refine Z03 ?_; refine Z01 ?_; refine T.ret ?_; refine Z0r ?_; refine Z0k ?_; obtain ⟨rfl, rfl⟩ := ret2 H; exact Zdl [] rr5 (Z07 _) (Z4k rfl Z2d mm0 rfl) (Res.tmp rfl) (Pick.none (Pick.none (Pick.none Z08))) ⟨none, 0, 0, ([]), none, 0, 0, ([]), none, 0, 0, ([]), rfl, rfl, rfl, (Nat.le_refl _), (Z38 0 _), (fun _ => rfl), rfl, (Nat.le_refl _), (Z38 0 _), (fun _ => rfl), rfl, (Nat.le_refl _), (Z38 0 _), (fun _ => rfl)⟩
  ·
   refine Z1s rfl (Bool.eq_false_iff.2 g9) ?_; refine Z0b ?_; obtain ⟨m3, k1, H⟩ := Z0m H; refine Z04 (ll := [0, 1, 2, 3, 4, 5]) rfl ?_; refine Z0u rr4 Z1q mm0 rfl ?_; refine Z0u rr4 Z2d mm1 rfl ?_; refine Z05 rr4 ?_; refine Z0o Zh7 rr4 (fun wc hwc => Zf7 (c0 := c0) (p1 := p1) (u2 := u2) wc (e9.mono hwc) (d9.mono hwc) (e6.mono hwc) (e8.mono hwc) (e7.mono hwc) (f0.mono hwc) (e4.mono hwc) (f2.mono hwc) (e5.mono hwc) k1) ?_; rintro _ _ ⟨rfl, rfl⟩; refine TO.not rr4 ?_; refine Z06 rr4 ?_; refine Z03 ?_; refine Z01 ?_; rcases Z0j H with ⟨h3, H⟩ | ⟨h3, H⟩
   · refine Z1j rfl h3 ?_; refine Z0b ?_; refine Z04 (ll := [0, 1, 2]) rfl ?_; refine Z36 (t := 77) [.slice none 0 0, .slice none 0 0, .slice none 0 0] [0, 1, 2] rr4 (by simp only [Z3h, setCells, Value.cells, List.toList_toArray, List.getD_cons_zero, List.getD_cons_succ, List.set_cons_zero, List.set_cons_succ]; rfl) (by kernel_rfl) ?_; refine Z1f rr4 tk2 Z5f rr3 ?_; refine Z06 rr4 ?_; refine Z03 ?_; refine Z01 ?_; refine Z0p (Z00 (t := 6) rfl (Z00 (t := 7) rfl Z09)) ?_; refine T.ret ?_; refine Z0r ?_; refine Z0k ?_; obtain ⟨rfl, rfl⟩ := ret2 H; exact Zdl [] rr5 (Z07 _) (Z4k rfl Z2d mm0 rfl) (Res.tmp rfl) (Pick.none (Pick.none (Pick.none Z08))) ⟨none, 0, 0, ([]), none, 0, 0, ([]), none, 0, 0, ([]), rfl, rfl, rfl, (Nat.le_refl _), (Z38 0 _), (fun _ => rfl), rfl, (Nat.le_refl _), (Z38 0 _), (fun _ => rfl), rfl, (Nat.le_refl _), (Z38 0 _), (fun _ => rfl)⟩
   ·
    refine Z1s rfl (Bool.eq_false_iff.2 h3) ?_; refine T.skip ?_; refine Z0f ?_; refine Z01 ?_; refine Z0b ?_; obtain ⟨k2, H⟩ := Z0c H; refine Z04 (ll := [0, 1, 2, 3, 4]) rfl ?_; refine Z0a rr4 Z80 ?_; refine Z0e rr4 Z0h mm0 rfl ?_; refine TO.mulG k2 rr5 ?_; refine TO.alloc rr3 Z3m ?_; intro g0; refine Z2j (cs' := [.int .i64 (2 * c0.N)]) rr4 tk0 Z0q rr3 ?_; refine Z03 ?_; refine Z01 ?_; refine Z0p (Z00 (t := 2) rfl (Z00 (t := 3) rfl (Z00 (t := 4) rfl (Z00 (t := 6) rfl (Z00 (t := 8) rfl Z09))))) ?_; refine Z0b ?_; refine Z0b ?_; obtain ⟨⟨⟩, k3, H⟩ := Z0m H; refine Z04 (ll := [0, 1, 2]) rfl ?_; refine Z0u rr4 Z1q mm1 rfl ?_; refine Z05 rr4 ?_; refine Z0o Ze0 rr4 (fun wc hwc => Zct (c0 := c0) (u1 := u2) wc (e9.mono hwc) (d9.mono hwc) (e6.mono hwc) (e8.mono hwc) (e7.mono hwc) (f0.mono hwc) k3) ?_; rintro _ _ ⟨j3, j4, rfl, rfl⟩; refine Z03 ?_; refine Z01 ?_; refine T.block ?_; obtain ⟨k4, k5, k6⟩ := Z0m H; refine T.rangeFunc (S := (Int)) (X := (Empty)) (V := Int) rfl Zcx rr2 (fun v => [.int .i64 v]) (fun _ => rfl) (fun s v => Z79 c0 p1 s v) (fun t Hq => match t with | .inl a4 => Hq = [(some g0, .cells #[.int .i64 a4] 3 (0, 0))] | .inr x => nomatch x) (fun x => nomatch x) (2 * c0.N) k4 [(some g0, .cells #[.int .i64 (2 * c0.N)] 3 (0, 0))] [(some j3, .cells #[.int .i64 c0.N, .int .i64 c0.S, .int .i64 c0.T, .slice c3 b6 a8, .slice b9 c4 c8, .slice b8 c9 b0, .slice b7 c7 d0, .slice d1 d2 a6, .slice a9 a7 a5] 64 (0, 0)), (some j4, .cells #[.int .i64 u2] 3 (0, 0)), (some b1, .cells #[.int .i64 c0.N, .int .i64 c0.S, .int .i64 c0.T, .slice c3 b6 a8, .slice b9 c4 c8, .slice b8 c9 b0, .slice b7 c7 d0, .slice d1 d2 a6, .slice a9 a7 a5] 64 (0, 0)), (some b3, .cells #[.slice e1 e2 d7, .slice e0 d4 d6, .slice d8 e3 d5] 77 (0, 0)), (some b5, .cells #[.slice none 0 0, .slice none 0 0, .slice none 0 0] 77 (0, 0))] rfl (Z02 tk2 (Z07 _)) ?_ ?_ ?_ ?_
    · intro lp wc J_ H0_ hJ_ hin_ hY_ lo_ hwc k7; subst k7; exact Zax (yy_ := (fun s v => Z79 c0 p1 s v)) (c1 := c0) (c2 := u2) (tt_ := .inl (2 * c0.N)) (J_ := J_) wc hin_ hJ_ hY_ (e9.monoM (by decide) hwc (List.Perm.refl _) rfl) (d9.monoM (by decide) hwc (List.Perm.refl _) rfl) (e6.monoM (by decide) hwc (List.Perm.refl _) rfl) (e8.monoM (by decide) hwc (List.Perm.refl _) rfl) (e7.monoM (by decide) hwc (List.Perm.refl _) rfl) (f0.monoM (by decide) hwc (List.Perm.refl _) rfl) (hwc.hbM (cs := [.int .i64 c0.N, .int .i64 c0.S, .int .i64 c0.T, .slice c3 b6 a8, .slice b9 c4 c8, .slice b8 c9 b0, .slice b7 c7 d0, .slice d1 d2 a6, .slice a9 a7 a5]) (List.Perm.refl _) rfl mm0) (hwc.hbM (cs := [.int .i64 u2]) (List.Perm.refl _) rfl mm1) k5
    ·
     rintro lp m4 a4 h2 k8 _ hy rfl k9 l0; refine ⟨[(2, .int .i64 u2), (3, .pointer (some ⟨b1, 0, none⟩)), (4, .pointer (some ⟨b3, 0, none⟩)), (6, .pointer (some ⟨b5, 0, none⟩)), (8, .pointer (some ⟨g0, 0, none⟩)), (34, .int .i64 h2), (9, .int .i64 h2)], [(some g0, .cells #[.int .i64 a4] 3 (0, 0))], ?_, ?_⟩
     · refine Z04 (ll := [0]) rfl ?_; refine Z06 rr4 ?_; refine Z03 ?_; exact Znk (Z00 rfl (Z00 rfl (Z00 rfl (Z00 rfl (Z00 rfl (Z00 rfl (Z00 rfl Z09))))))) (Z07 _)
     ·
      intro m5 l1 hwc; have e9 := e9.monoM (by decide) hwc (List.Perm.refl _) rfl; have d9 := d9.monoM (by decide) hwc (List.Perm.refl _) rfl; have e6 := e6.monoM (by decide) hwc (List.Perm.refl _) rfl; have e8 := e8.monoM (by decide) hwc (List.Perm.refl _) rfl; have e7 := e7.monoM (by decide) hwc (List.Perm.refl _) rfl; have f0 := f0.monoM (by decide) hwc (List.Perm.refl _) rfl; have e4 := e4.monoM (by decide) hwc (List.Perm.refl _) rfl; have f2 := f2.monoM (by decide) hwc (List.Perm.refl _) rfl; have e5 := e5.monoM (by decide) hwc (List.Perm.refl _) rfl; have g1 := hwc.hbM (cs := [.int .i64 c0.N, .int .i64 c0.S, .int .i64 c0.T, .slice c3 b6 a8, .slice b9 c4 c8, .slice b8 c9 b0, .slice b7 c7 d0, .slice d1 d2 a6, .slice a9 a7 a5]) (List.Perm.refl _) rfl mm2; have f3 := hwc.hbM (cs := [.slice e1 e2 d7, .slice e0 d4 d6, .slice d8 e3 d5]) (List.Perm.refl _) rfl mm3; have j5 := hwc.hbM (cs := [.slice none 0 0, .slice none 0 0, .slice none 0 0]) (List.Perm.refl _) rfl mm4; have H : Z79 c0 p1 a4 h2 = some k8 := hy; unfold Z79 at H; refine T.block ?_; refine Z0b ?_; obtain ⟨j6, H⟩ := Z0c H; refine Z04 (ll := [0, 1, 2, 3, 4, 5]) rfl ?_; refine Z0a rr4 Z6a ?_; refine Z4x f3 rr5 Z2e ?_; refine Z05 rr4 ?_; refine Z2b e4 j6 rr5 Z0s Z0z ?_; refine Z2r e4 j6 rr4 Z1d ?_; refine Z0t rr6 ?_; refine Z03 ?_; refine Z01 ?_; rcases Z0j H with ⟨h4, H⟩ | ⟨h4, H⟩
      · refine Z13 rfl h4 ?_; obtain ⟨j7, H⟩ := Z0c H; obtain ⟨j8, H⟩ := Z0c H; refine Z6o 10 [0, 1, 2, 3, 4, 5, 6, 7, 8, 9] rfl Z5i (by kernel_rfl) (by kernel_rfl) rfl (by kernel_rfl) ?_; refine Z1u rr4 Z0h mm0 rfl ?_; refine Z17 rr4 Z92 ?_; refine Zc2 f3 rr5 Z18 ?_; refine Z17 rr4 Z82 ?_; refine Zc2 g1 rr5 Z18 ?_; refine TQ.move rr4 ?_; refine Z9u d9 j7 rr5 Z0l Z0q ?_; refine Z9o d9 j7 rr4 Z0h ?_; refine Z9u e5 j8 rr5 Z0l Z0q ?_; refine Z9o e5 j8 rr4 Z0h ?_; refine TQ.tail [10, 11] rr2 ?_; refine TO.min2 rr5 ?_; refine Z2j (cs' := [.int .i64 (min a4 (p1.H.getD (c0.Head.getD h2.toNat 0).toNat 0))]) rr4 tk0 Z0q rr3 ?_; refine Z03 ?_; refine Z0f ?_; exact Za6 H rfl (Z02 tk0 Z08)
      · refine Z14 rfl h4 ?_; refine T.skip ?_; refine Z0f ?_; exact Za6 H rfl (Z02 tk0 Z08)
    · rintro a4 ht g2 _ rfl; subst ht; have H : (Option.bind (Z8x p1) fun g3 => gd (i64ok (a4 + 1)) <| gd (inb u2 g3.H.length) <| some ((Pre.mk g3.Res g3.Ex (g3.H.set u2.toNat (a4 + 1))), 0)) = some (r0, r1) := k6; refine Za7 (H := [(some g0, .cells #[.int .i64 a4] 3 (0, 0)), (some g2, mkO), (some j3, .cells #[.int .i64 c0.N, .int .i64 c0.S, .int .i64 c0.T, .slice c3 b6 a8, .slice b9 c4 c8, .slice b8 c9 b0, .slice b7 c7 d0, .slice d1 d2 a6, .slice a9 a7 a5] 64 (0, 0)), (some j4, .cells #[.int .i64 u2] 3 (0, 0)), (some b1, .cells #[.int .i64 c0.N, .int .i64 c0.S, .int .i64 c0.T, .slice c3 b6 a8, .slice b9 c4 c8, .slice b8 c9 b0, .slice b7 c7 d0, .slice d1 d2 a6, .slice a9 a7 a5] 64 (0, 0)), (some b3, .cells #[.slice e1 e2 d7, .slice e0 d4 d6, .slice d8 e3 d5] 77 (0, 0)), (some b5, .cells #[.slice none 0 0, .slice none 0 0, .slice none 0 0] 77 (0, 0))]) rfl ?_; refine Z0f ?_; refine Z01 ?_; refine Z0b ?_; obtain ⟨g3, l3, H⟩ := Z0m H; refine Z04 (ll := [0, 1, 2, 3]) rfl ?_; refine Z0u rr4 Z2d mm5 rfl ?_; refine Z0o Zj7 rr4 (fun wc hwc => Zgl (p0 := p1) wc (e4.mono hwc) (f2.mono hwc) (e5.mono hwc) l3) ?_; rintro _ _ ⟨h5, l4, l5, l6, h6, l7, l8, l9, h7, m0, c39, m1, rfl, rfl, h8, h9, i2, i4, i5, i6, i7, i8, f7, f8, i9, f9⟩; refine Z1r rr3 Z9i ?_; intro m6; refine Z1f rr4 tk0 Z5f rr3 ?_; refine Z03 ?_; refine Z01 ?_; refine Z0b ?_; obtain ⟨m2, H⟩ := Z0c H; obtain ⟨j9, H⟩ := Z0c H; refine Z04 (ll := [0, 1, 2, 3, 4, 5, 6]) rfl ?_; refine Z0a rr4 Z92 ?_; refine Z0e rr4 Z18 mm0 rfl ?_; refine Z05 rr4 ?_; refine Z0e rr4 Z0h mm4 rfl ?_; refine Z19 m2 rr5 ?_; refine Z3n f9 f8 f7 j9 rr5 Z0l Z0q ?_; refine Z8s f9 f8 f7 j9 rr4 tk3 Z0q ?_; refine Z03 ?_; refine Z01 ?_; refine Z0p (Z00 (t := 6) rfl (Z00 (t := 10) rfl Z09)) ?_; refine Z0b ?_; refine Z04 (ll := [0, 1, 2]) rfl ?_; refine Z0u rr4 Z2d mm1 rfl ?_; refine Z1f rr4 tk10 Z5f rr3 ?_; refine Z06 rr4 ?_; refine Z03 ?_; refine Z01 ?_; refine T.ret ?_; obtain ⟨rfl, rfl⟩ := ret2 H; exact Zdl [g2] rr5 (Z02 tk6 (Z07 _)) (Z4k rfl Z2d mm0 rfl) (Res.tmp rfl) (Z02 tk3 (Z02 tk3 (Z02 tk1 Z08))) ⟨h5, l4, l5, l6, h6, l7, l8, l9, h7, m0, c39, m1, rfl, rfl, h8, h9, i2, i4, i5, i6, i7, i8, (List.length_set.trans f7), f8, i9, f9⟩
    · intro x; exact nomatch x
theorem Zjr {u0 : Int} {c1 : Csr} {c2 : Pre} {f0 b0 d2 d7 e0 d8 a9 d5 c9 d4 a7 b6 d0 e8 d6 a6 d9 a4 d1 b5 : Nat} {b9 b8 a8 c8 c4 c3 c7 a5 b7 : Option Addr} (w : World) (f3 : RS w [] (intC .i64) 1 b9 b0 d2 c1.First) (f4 : RS w [] (intC .i64) 1 b8 d7 e0 c1.Head) (e1 : RS w [] (intC .i64) 1 a8 d8 a9 c1.Rev) (e3 : RS w [] (intC .i64) 1 c8 d5 c9 c1.Cap) (e9 : RS w [] (intC .i64) 1 c4 d4 a7 c1.Arc) (f5 : RS w [] boolC 1 c3 b6 d0 c1.Back) (e6 : HB w [] f0 [.int .i64 c1.N, .int .i64 c1.S, .int .i64 c1.T, .slice b9 b0 d2, .slice b8 d7 e0, .slice a8 d8 a9, .slice c8 d5 c9, .slice c4 d4 a7, .slice c3 b6 d0]) (e5 : RS w [] (intC .i64) 1 c7 d6 a6 c2.Res) (e4 : RS w [] (intC .i64) 1 a5 d9 a4 c2.Ex) (e7 : RS w [] (intC .i64) 1 b7 d1 b5 c2.H) (f2 : HB w [] e8 [.slice c7 d6 a6, .slice a5 d9 a4, .slice b7 d1 b5]) {r0 : Bool} (H : Zby u0 c1 c2 = some r0) : Fnc Try.prog 121 #[.int .i64 u0, .pointer (some ⟨f0, 0, none⟩), .pointer (some ⟨e8, 0, none⟩)] w [] (fun v N => v = .bool r0 ∧ N = []) := by
 unfold Zby at H; refine Fnc.enter (vs := [.int .i64 u0, .pointer (some ⟨f0, 0, none⟩), .pointer (some ⟨e8, 0, none⟩)]) Try.func121 rfl rfl (Inv.refl w) ?_; refine Z0b ?_; refine Z04 (ll := [0]) rfl ?_; refine Z06 rr4 ?_; refine Z03 ?_; refine Z01 ?_; refine Z0b ?_; obtain ⟨r1, e2, H⟩ := Z0m H; refine Z04 (ll := [0, 1, 2, 3, 4]) rfl ?_; refine Z7y e6 rr5 Z1q ?_; refine Z7y f2 rr5 Z2d ?_; refine Z05 rr4 ?_; refine Z0o Zh7 rr4 (fun wc hwc => Zf7 (c0 := c1) (p1 := c2) (u2 := u0) wc (f3.mono hwc) (f4.mono hwc) (e1.mono hwc) (e3.mono hwc) (e9.mono hwc) (f5.mono hwc) (e5.mono hwc) (e4.mono hwc) (e7.mono hwc) e2) ?_; rintro _ _ ⟨rfl, rfl⟩; refine Z06 rr4 ?_; refine Z03 ?_; refine Z01 ?_; refine T.ret ?_; obtain rfl := ret1 H; exact Z16 rr4 (Res.tmp rfl) Z08 ⟨rfl, rfl⟩
theorem Zf8 {c0 so1_0 : Csr} {so1_1 : Pre} {f7 f6 f5 f4 g3 f0 e3 d6 d7 d4 d0 c3 b8 d8 b6 : Option Addr} {f3 e9 f8 g0 g1 f2 f9 g2 g4 e7 e8 e6 a5 d5 d1 c7 b0 d2 e4 c8 b9 e0 c9 b7 a9 a6 a8 e1 c4 e2 d9 b5 : Nat} (w : World) (k9 : RS w [] (intC .i64) 1 f7 f3 e9 c0.First) (k7 : RS w [] (intC .i64) 1 f6 f8 g0 c0.Head) (k5 : RS w [] (intC .i64) 1 f5 g1 f2 c0.Rev) (k8 : RS w [] (intC .i64) 1 f4 f9 g2 c0.Cap) (k6 : RS w [] (intC .i64) 1 g3 g4 e7 c0.Arc) (l0 : RS w [] boolC 1 f0 e8 e6 c0.Back) (g6 : RS w [] (intC .i64) 1 e3 d5 d1 so1_0.First) (h2 : RS w [] (intC .i64) 1 d6 c7 b0 so1_0.Head) (g7 : RS w [] (intC .i64) 1 d7 d2 e4 so1_0.Rev) (h6 : RS w [] (intC .i64) 1 d4 c8 b9 so1_0.Cap) (h5 : RS w [] (intC .i64) 1 d0 e0 c9 so1_0.Arc) (g8 : RS w [] boolC 1 c3 b7 a9 so1_0.Back) (h3 : HB w [] a5 [.int .i64 so1_0.N, .int .i64 so1_0.S, .int .i64 so1_0.T, .slice e3 d5 d1, .slice d6 c7 b0, .slice d7 d2 e4, .slice d4 c8 b9, .slice d0 e0 c9, .slice c3 b7 a9]) (h1 : RS w [] (intC .i64) 1 b8 a8 e1 so1_1.Res) (h0 : RS w [] (intC .i64) 1 d8 c4 e2 so1_1.Ex) (g9 : RS w [] (intC .i64) 1 b6 d9 b5 so1_1.H) (h4 : HB w [] a6 [.slice b8 a8 e1, .slice d8 c4 e2, .slice b6 d9 b5]) {r0 : List Int} (H : Z8g c0 so1_0 so1_1 = some r0) : Fnc Try.prog 120 #[.agg #[.int .i64 c0.N, .int .i64 c0.S, .int .i64 c0.T, .slice f7 f3 e9, .slice f6 f8 g0, .slice f5 g1 f2, .slice f4 f9 g2, .slice g3 g4 e7, .slice f0 e8 e6], .func (.func 121) #[] #[.pointer (some ⟨a5, 0, none⟩), .pointer (some ⟨a6, 0, none⟩)]] w [] (fun v N => ∃ (i2 : Option Nat) (i8 i9 : Nat) (l1 : List Value), v = .slice (sb i2) i8 i9 ∧ N = [(i2, .cells (arr (intC .i64) r0 l1).toArray 3 (0, 0))] ∧ r0.length = i8 ∧ i8 ≤ i9 ∧ l1.length = (i9 - i8) * 1 ∧ (i2 = none → i9 = 0)) := by
 unfold Z8g at H; refine Fnc.enter (vs := [.agg #[.int .i64 c0.N, .int .i64 c0.S, .int .i64 c0.T, .slice f7 f3 e9, .slice f6 f8 g0, .slice f5 g1 f2, .slice f4 f9 g2, .slice g3 g4 e7, .slice f0 e8 e6], .func (.func 121) #[] #[.pointer (some ⟨a5, 0, none⟩), .pointer (some ⟨a6, 0, none⟩)]]) Try.func120 rfl rfl (Inv.refl w) ?_; refine Z0b ?_; refine Z04 (ll := [0, 1]) rfl ?_; refine Z1h rr4 ?_; intro b1; refine Z06 rr4 ?_; refine Z03 ?_; refine Z01 ?_; refine Z0b ?_; refine Z04 (ll := [0]) rfl ?_; refine Z06 rr4 ?_; refine Z03 ?_; refine Z01 ?_; refine Z0b ?_; refine Z0b ?_; refine Z04 (ll := [0, 1, 2]) rfl ?_; refine Z0a rr4 Z80 ?_; refine Z0e rr4 Z0h mm0 rfl ?_; refine Z05 rr4 ?_; refine Z03 ?_; refine Z01 ?_; refine Zcr (fun (a7 : List Int) (h8 h9 : Nat) (e5 : Option Nat) (i6 : List Value) => Z6r a7 = some r0 ∧ a7.length = h8 ∧ h8 ≤ h9 ∧ i6.length = (h9 - h8) * 1 ∧ (e5 = none → h9 = 0)) (fun (a7 : List Int) (h8 h9 : Nat) (e5 : Option Nat) (i6 : List Value) => [(5, .slice (sb e5) h8 h9)]) (fun (a7 : List Int) (h8 h9 : Nat) (e5 : Option Nat) (i6 : List Value) => [(e5, .cells (arr (intC .i64) a7 i6).toArray 3 (0, 0))]) ?_ ?_
 ·
  refine T.block ?_; obtain ⟨l4, l5, l6⟩ := Z0m H; refine Zie (fun (i7 : Nat) (a4 : List Int) (n4 c5 : Nat) (h7 : Option Nat) (j7 : List Value) (g5 : Int) => Z1t (fun s => Z4c c0 so1_0 so1_1 s.1 s.2) i7 (a4, g5) = some l4 ∧ a4.length = n4 ∧ n4 ≤ c5 ∧ j7.length = (c5 - n4) * 1 ∧ (h7 = none → c5 = 0)) (fun (i7 : Nat) (a4 : List Int) (n4 c5 : Nat) (h7 : Option Nat) (j7 : List Value) (g5 : Int) => [(1, .func (.func 121) #[] #[.pointer (some ⟨a5, 0, none⟩), .pointer (some ⟨a6, 0, none⟩)]), (5, .slice (sb h7) n4 c5), (8, .int .i64 c0.N), (9, .int .i64 g5)]) (fun (i7 : Nat) (a4 : List Int) (n4 c5 : Nat) (h7 : Option Nat) (j7 : List Value) (g5 : Int) => [(h7, .cells (arr (intC .i64) a4 j7).toArray 3 (0, 0))]) (fun (i7 : Nat) (a4 : List Int) (n4 c5 : Nat) (h7 : Option Nat) (j7 : List Value) (g5 : Int) => i7) Z3f ([]) 0 0 none ([]) 0 ⟨l5, rfl, (Nat.le_refl _), (Z38 0 _), (fun _ => rfl)⟩ (Z00 rfl (Z00 rfl (Z00 rfl (Z00 rfl Z09)))) (Pick.none Z08) ?_; rintro i7 a4 n4 c5 h7 j7 g5 ⟨H, j0, j1, i4, i5⟩; obtain ⟨l3, l7, rfl, H, j2⟩ := Z1b H; have H : Z4c c0 so1_0 so1_1 a4 g5 = some l7 := H; unfold Z4c at H; refine Z0b ?_; refine Z04 (ll := [0]) rfl ?_; refine Z0t rr6 ?_; refine Z03 ?_; refine Z01 ?_; refine Z0b ?_; rcases Z0j H with ⟨j3, H⟩ | ⟨j3, H⟩
  ·
   refine Z13 rfl j3 ?_; refine T.skip ?_; refine Z01 ?_; refine Z0b ?_; refine T.block ?_; refine Z0b ?_; refine Z04 (ll := [0, 1]) rfl ?_; refine Z05 rr4 ?_; refine Z06 rr4 ?_; refine Z03 ?_; refine Z01 ?_; refine Z0b ?_; obtain ⟨m3, l8, H⟩ := Z0m H; refine Z04 (ll := [0, 1, 2]) rfl ?_; refine Z05 rr4 ?_; refine Z05 rr4 ?_; refine Z42 Zlm rr5 (fun wc hwc => Zjr (u0 := g5) (c1 := so1_0) (c2 := so1_1) wc (g6.mono hwc) (h2.mono hwc) (g7.mono hwc) (h6.mono hwc) (h5.mono hwc) (g8.mono hwc) (h3.mono hwc) (h1.mono hwc) (h0.mono hwc) (g9.mono hwc) (h4.mono hwc) l8) ?_; rintro _ _ ⟨rfl, rfl⟩; refine Z03 ?_; refine Z01 ?_; rcases Z0j H with ⟨j4, H⟩ | ⟨j4, H⟩
   · refine Z1j rfl j4 ?_; obtain ⟨l9, H⟩ := Z0c H; refine Z04 (ll := [0, 1, 2, 3, 4]) rfl ?_; refine Z05 rr4 ?_; refine Z05 rr4 ?_; refine Z1x [.int .i64 0] [0] rr4 Z0l Z0q Z3m rr2 (by simp only [Z3h, setCells, Value.cells, List.toList_toArray, List.getD_cons_zero, List.getD_cons_succ, List.set_cons_zero, List.set_cons_succ]; rfl) (by kernel_rfl) ?_; intro m4; refine Ze7 (f := (intC .i64)) (s := 1) (xs := a4) (ob := h7) (j := j7) (ys := [g5]) (fun _ => rfl) (fun _ => rfl) Zj5 l9 rr5 tk1 j0 j1 i4 i5 (fun wc hwc => (hwc.rs (f := (intC .i64)) (s := 1) (xs := [g5]) (j := ([])) (fun _ => rfl) mm0 rfl (Nat.le_refl _) Z51)) ?_; intro j5 c22 m0 j6 j8 j9; refine Z06 rr4 ?_; refine Z03 ?_; refine Z0f ?_; refine Z01 ?_; refine Z0p (Z00 (t := 1) rfl (Z00 (t := 5) rfl (Z00 (t := 8) rfl (Z00 (t := 9) rfl Z09)))) ?_; obtain ⟨m1, H⟩ := Z0c H; refine Z04 (ll := [0, 1]) rfl ?_; refine Z19 m1 rr5 ?_; refine Z05 rr4 ?_; refine Z03 ?_; have H := Z15 H j2; exact Zci l3 (a4 ++ ([g5])) (n4 + 1) c22 j5 m0 (g5 + 1) ⟨H, (Zb2 j0 rfl), j6, j8, j9⟩ (Nat.lt_succ_self _) (Z00 rfl (Z00 rfl (Z00 rfl (Z00 rfl Z09)))) (Z02 tk0 Z08)
   · refine Z1s rfl (Bool.eq_false_iff.2 j4) ?_; refine T.skip ?_; refine Z0f ?_; refine Z01 ?_; obtain ⟨m2, H⟩ := Z0c H; refine Z04 (ll := [0, 1]) rfl ?_; refine Z19 m2 rr5 ?_; refine Z05 rr4 ?_; refine Z03 ?_; have H := Z15 H j2; exact Zci l3 a4 n4 c5 h7 j7 (g5 + 1) ⟨H, j0, j1, i4, i5⟩ (Nat.lt_succ_self _) (Z00 rfl (Z00 rfl (Z00 rfl (Z00 rfl Z09)))) (Z02 tk0 Z08)
  · refine Z14 rfl j3 ?_; refine T.exit ?_; refine Z0n ?_; have H := Z0w H j2 ▸ l6; refine Z0n ?_; refine Z0x ?_; exact Zfu a4 n4 c5 h7 j7 ⟨H, j0, j1, i4, i5⟩ (Z00 rfl Z09) (Z02 tk0 Z08)
 · rintro a7 h8 h9 e5 i6 ⟨H, k1, k2, k3, k4⟩; unfold Z6r at H; refine Z0b ?_; refine Z04 (ll := [0, 1]) rfl ?_; refine Z05 rr4 ?_; refine Z06 rr4 ?_; refine Z03 ?_; refine Z01 ?_; refine T.ret ?_; obtain rfl := ret1 H; exact Z16 rr4 (Res.tmp rfl) (Z02 tk0 Z08) ⟨e5, h8, h9, i6, rfl, rfl, k1, k2, k3, k4⟩
theorem Zmm {c0 : Csr} {p1 : Pre} {b9 b8 b7 b6 d1 a8 e0 d9 d8 : Option Addr} {b0 a7 c3 c7 c8 a9 c4 d0 d2 a5 a6 a4 e1 d7 d4 d6 e2 d5 : Nat} (w : World) (e7 : RS w [] (intC .i64) 1 b9 b0 a7 c0.First) (e5 : RS w [] (intC .i64) 1 b8 c3 c7 c0.Head) (e3 : RS w [] (intC .i64) 1 b7 c8 a9 c0.Rev) (e6 : RS w [] (intC .i64) 1 b6 c4 d0 c0.Cap) (e4 : RS w [] (intC .i64) 1 d1 d2 a5 c0.Arc) (e8 : RS w [] boolC 1 a8 a6 a4 c0.Back) (f5 : RS w [] (intC .i64) 1 e0 e1 d7 p1.Res) (f6 : RS w [] (intC .i64) 1 d9 d4 d6 p1.Ex) (f7 : RS w [] (intC .i64) 1 d8 e2 d5 p1.H) {r0 : List Int} {r1 : List Int} (H : Zbg c0 p1 = some (r0, r1)) : Fnc Try.prog 103 #[.agg #[.int .i64 c0.N, .int .i64 c0.S, .int .i64 c0.T, .slice b9 b0 a7, .slice b8 c3 c7, .slice b7 c8 a9, .slice b6 c4 d0, .slice d1 d2 a5, .slice a8 a6 a4], .agg #[.slice e0 e1 d7, .slice d9 d4 d6, .slice d8 e2 d5]] w [] (fun v N => ∃ (h7 : Option Nat) (j9 k1 : Nat) (l7 : List Value) (h8 : Option Nat) (k2 k3 : Nat) (l8 : List Value), v = .tuple #[.slice (sb h7) j9 k1, .slice (sb h8) k2 k3] ∧ N = [(h7, .cells (arr (intC .i64) r0 l7).toArray 3 (0, 0)), (h8, .cells (arr (intC .i64) r1 l8).toArray 3 (0, 0))] ∧ r0.length = j9 ∧ j9 ≤ k1 ∧ l7.length = (k1 - j9) * 1 ∧ (h7 = none → k1 = 0) ∧ r1.length = k2 ∧ k2 ≤ k3 ∧ l8.length = (k3 - k2) * 1 ∧ (h8 = none → k3 = 0)) := by
 unfold Zbg at H; refine Zbr (vs := [.agg #[.int .i64 c0.N, .int .i64 c0.S, .int .i64 c0.T, .slice b9 b0 a7, .slice b8 c3 c7, .slice b7 c8 a9, .slice b6 c4 d0, .slice d1 d2 a5, .slice a8 a6 a4], .agg #[.slice e0 e1 d7, .slice d9 d4 d6, .slice d8 e2 d5]]) Try.func103 rfl rfl (Inv.refl w) ?_; refine Z0b ?_; refine Z04 (ll := [0, 1, 2, 3]) rfl ?_; refine Z1h rr4 ?_; intro b1; refine Z1h rr4 ?_; intro b3; refine Z06 rr4 ?_; refine Z06 rr4 ?_; refine Z03 ?_; refine Z01 ?_; refine Z0b ?_; refine Z04 (ll := [0]) rfl ?_; refine TO.alloc rr3 Ze1 ?_; intro b5; refine Z03 ?_; refine Z01 ?_; refine Z0b ?_; refine Z0b ?_; refine Z04 (ll := [0, 1, 2]) rfl ?_; refine Z0a rr4 Z80 ?_; refine Z0e rr4 Z0h mm2 rfl ?_; refine Z05 rr4 ?_; refine Z03 ?_; refine Z01 ?_; refine Zmd (fun (f0 : List Int) (g5 c58 : Nat) (f8 : Option Nat) (h1 : List Value) (g1 : List Nat) => Zay c0 p1 f0 = some (r0, r1) ∧ f0.length = g5 ∧ g5 ≤ c58 ∧ h1.length = (c58 - g5) * 1 ∧ (f8 = none → c58 = 0)) (fun (f0 : List Int) (g5 c58 : Nat) (f8 : Option Nat) (h1 : List Value) (g1 : List Nat) => [(2, .pointer (some ⟨b1, 0, none⟩)), (3, .pointer (some ⟨b3, 0, none⟩)), (6, .pointer (some ⟨b5, 0, none⟩))]) (fun (f0 : List Int) (g5 c58 : Nat) (f8 : Option Nat) (h1 : List Value) (g1 : List Nat) => ((some b1, .cells #[.int .i64 c0.N, .int .i64 c0.S, .int .i64 c0.T, .slice b9 b0 a7, .slice b8 c3 c7, .slice b7 c8 a9, .slice b6 c4 d0, .slice d1 d2 a5, .slice a8 a6 a4] 64 (0, 0)) :: (some b3, .cells #[.slice e0 e1 d7, .slice d9 d4 d6, .slice d8 e2 d5] 77 (0, 0)) :: (some b5, .cells #[.slice (sb f8) g5 c58] 40 (0, 0)) :: (f8, .cells (arr (intC .i64) f0 h1).toArray 3 (0, 0)) :: Zeg g1)) (fun (f0 : List Int) (g5 c58 : Nat) (f8 : Option Nat) (h1 : List Value) (g1 : List Nat) => g1.map mkD) ?_ ?_
 ·
  refine T.block ?_; obtain ⟨m9, i8, n6⟩ := Z0m H; refine Zom (fun (h9 : Nat) (f4 : List Int) (n8 c9 : Nat) (f9 : Option Nat) (g9 : List Value) (f3 : Int) (g0 : List Nat) => Z1t (fun s => Z9c c0 p1 s.1 s.2) h9 (f4, f3) = some m9 ∧ f4.length = n8 ∧ n8 ≤ c9 ∧ g9.length = (c9 - n8) * 1 ∧ (f9 = none → c9 = 0)) (fun (h9 : Nat) (f4 : List Int) (n8 c9 : Nat) (f9 : Option Nat) (g9 : List Value) (f3 : Int) (g0 : List Nat) => [(2, .pointer (some ⟨b1, 0, none⟩)), (3, .pointer (some ⟨b3, 0, none⟩)), (6, .pointer (some ⟨b5, 0, none⟩)), (10, .int .i64 c0.N), (11, .int .i64 f3)]) (fun (h9 : Nat) (f4 : List Int) (n8 c9 : Nat) (f9 : Option Nat) (g9 : List Value) (f3 : Int) (g0 : List Nat) => ((some b1, .cells #[.int .i64 c0.N, .int .i64 c0.S, .int .i64 c0.T, .slice b9 b0 a7, .slice b8 c3 c7, .slice b7 c8 a9, .slice b6 c4 d0, .slice d1 d2 a5, .slice a8 a6 a4] 64 (0, 0)) :: (some b3, .cells #[.slice e0 e1 d7, .slice d9 d4 d6, .slice d8 e2 d5] 77 (0, 0)) :: (some b5, .cells #[.slice (sb f9) n8 c9] 40 (0, 0)) :: (f9, .cells (arr (intC .i64) f4 g9).toArray 3 (0, 0)) :: Zeg g0)) (fun (h9 : Nat) (f4 : List Int) (n8 c9 : Nat) (f9 : Option Nat) (g9 : List Value) (f3 : Int) (g0 : List Nat) => h9) (fun (h9 : Nat) (f4 : List Int) (n8 c9 : Nat) (f9 : Option Nat) (g9 : List Value) (f3 : Int) (g0 : List Nat) => g0.map mkD) Z3f ([]) 0 0 none ([]) 0 ([]) rfl ⟨i8, rfl, (Nat.le_refl _), (Z38 0 _), (fun _ => rfl)⟩ (Z00 rfl (Z00 rfl (Z00 rfl (Z00 rfl (Z00 rfl Z09))))) (Z02 tk2 (Z02 tk1 (Z02 tk0 (Pick.none (Z07 _))))) ?_; rintro h9 f4 n8 c9 f9 g9 f3 g0 ⟨H, i9, j0, j1, j2⟩; obtain ⟨n7, l9, rfl, H, m0⟩ := Z1b H; have H : Z9c c0 p1 f4 f3 = some l9 := H; unfold Z9c at H; refine Z0b ?_; refine Z04 (ll := [0]) rfl ?_; refine Z0t rr6 ?_; refine Z03 ?_; refine Z01 ?_; refine Z0b ?_; rcases Z0j H with ⟨k5, H⟩ | ⟨k5, H⟩
  ·
   refine Z13 rfl k5 ?_; refine T.skip ?_; refine Z01 ?_; refine Z0b ?_; refine T.block ?_; refine Z0b ?_; refine Z04 (ll := [0, 1, 2]) rfl ?_; refine Z05 rr4 ?_; refine TO.alloc rr3 Z3m ?_; intro k4; refine Z2j (cs' := [.int .i64 f3]) rr4 tk0 Z0q rr3 ?_; refine Z03 ?_; refine Z01 ?_; refine Z0b ?_; obtain ⟨⟨⟩, n9, H⟩ := Z0m H; refine Z04 (ll := [0, 1, 2]) rfl ?_; refine Z0u rr4 Z1q mm1 rfl ?_; refine Z0e rr4 Z0h mm0 rfl ?_; refine Z0o Ze0 rr4 (fun wc hwc => Zct (c0 := c0) (u1 := f3) wc (e7.mono hwc) (e5.mono hwc) (e3.mono hwc) (e6.mono hwc) (e4.mono hwc) (e8.mono hwc) n9) ?_; rintro _ _ ⟨m1, m2, rfl, rfl⟩; refine Z03 ?_; refine Z01 ?_; refine T.block ?_; obtain ⟨o0, j3, o1⟩ := Z0m H; refine T.rangeFunc (S := (List Int)) (X := (Empty)) (V := Int) rfl Zcx rr2 (fun v => [.int .i64 v]) (fun _ => rfl) (fun s v => Z84 c0 p1 f3 s v) (fun t Hq => match t with | .inl e9 => ∃ (g4 c29 : Nat) (f2 : Option Nat) (h0 : List Value), Hq = [(some b5, .cells #[.slice (sb f2) g4 c29] 40 (0, 0)), (f2, .cells (arr (intC .i64) e9 h0).toArray 3 (0, 0))] ∧ e9.length = g4 ∧ g4 ≤ c29 ∧ h0.length = (c29 - g4) * 1 ∧ (f2 = none → c29 = 0) | .inr x => nomatch x) (fun x => nomatch x) f4 o0 [(some b5, .cells #[.slice (sb f9) n8 c9] 40 (0, 0)), (f9, .cells (arr (intC .i64) f4 g9).toArray 3 (0, 0))] ((some m1, .cells #[.int .i64 c0.N, .int .i64 c0.S, .int .i64 c0.T, .slice b9 b0 a7, .slice b8 c3 c7, .slice b7 c8 a9, .slice b6 c4 d0, .slice d1 d2 a5, .slice a8 a6 a4] 64 (0, 0)) :: (some m2, .cells #[.int .i64 f3] 3 (0, 0)) :: (some k4, .cells #[.int .i64 f3] 3 (0, 0)) :: (some b1, .cells #[.int .i64 c0.N, .int .i64 c0.S, .int .i64 c0.T, .slice b9 b0 a7, .slice b8 c3 c7, .slice b7 c8 a9, .slice b6 c4 d0, .slice d1 d2 a5, .slice a8 a6 a4] 64 (0, 0)) :: (some b3, .cells #[.slice e0 e1 d7, .slice d9 d4 d6, .slice d8 e2 d5] 77 (0, 0)) :: Zeg g0) ⟨n8, c9, f9, g9, rfl, i9, j0, j1, j2⟩ (Z02 tk5 (Z02 tk5 (Z07 _))) ?_ ?_ ?_ ?_
   · intro lp wc J_ H0_ hJ_ hin_ hY_ lo_ hwc o2; subst o2; exact Zax (yy_ := (fun s v => Z84 c0 p1 f3 s v)) (c1 := c0) (c2 := f3) (tt_ := .inl f4) (J_ := J_) wc hin_ hJ_ hY_ (e7.monoM (by decide) hwc (List.Perm.refl _) rfl) (e5.monoM (by decide) hwc (List.Perm.refl _) rfl) (e3.monoM (by decide) hwc (List.Perm.refl _) rfl) (e6.monoM (by decide) hwc (List.Perm.refl _) rfl) (e4.monoM (by decide) hwc (List.Perm.refl _) rfl) (e8.monoM (by decide) hwc (List.Perm.refl _) rfl) (hwc.hbM (cs := [.int .i64 c0.N, .int .i64 c0.S, .int .i64 c0.T, .slice b9 b0 a7, .slice b8 c3 c7, .slice b7 c8 a9, .slice b6 c4 d0, .slice d1 d2 a5, .slice a8 a6 a4]) (List.Perm.refl _) rfl mm0) (hwc.hbM (cs := [.int .i64 f3]) (List.Perm.refl _) rfl mm1) j3
   ·
    rintro lp p6 e9 h2 m3 _ hy ⟨g4, c29, f2, h0, rfl, g6, h3, h4, h5⟩ o4 o6; refine ⟨[(2, .pointer (some ⟨b1, 0, none⟩)), (3, .pointer (some ⟨b3, 0, none⟩)), (6, .pointer (some ⟨b5, 0, none⟩)), (7, .pointer (some ⟨k4, 0, none⟩)), (10, .int .i64 c0.N), (11, .int .i64 f3), (17, .int .i64 h2), (8, .int .i64 h2)], [(some b5, .cells #[.slice (sb f2) g4 c29] 40 (0, 0)), (f2, .cells (arr (intC .i64) e9 h0).toArray 3 (0, 0))], ?_, ?_⟩
    · refine Z04 (ll := [0]) rfl ?_; refine Z06 rr4 ?_; refine Z03 ?_; exact Znk (Z00 rfl (Z00 rfl (Z00 rfl (Z00 rfl (Z00 rfl (Z00 rfl (Z00 rfl (Z00 rfl Z09)))))))) (Z07 _)
    ·
     intro p7 o7 hwc; have e7 := e7.monoM (by decide) hwc (List.Perm.refl _) rfl; have e5 := e5.monoM (by decide) hwc (List.Perm.refl _) rfl; have e3 := e3.monoM (by decide) hwc (List.Perm.refl _) rfl; have e6 := e6.monoM (by decide) hwc (List.Perm.refl _) rfl; have e4 := e4.monoM (by decide) hwc (List.Perm.refl _) rfl; have e8 := e8.monoM (by decide) hwc (List.Perm.refl _) rfl; have f5 := f5.monoM (by decide) hwc (List.Perm.refl _) rfl; have f6 := f6.monoM (by decide) hwc (List.Perm.refl _) rfl; have f7 := f7.monoM (by decide) hwc (List.Perm.refl _) rfl; have g7 := hwc.hbM (cs := [.int .i64 c0.N, .int .i64 c0.S, .int .i64 c0.T, .slice b9 b0 a7, .slice b8 c3 c7, .slice b7 c8 a9, .slice b6 c4 d0, .slice d1 d2 a5, .slice a8 a6 a4]) (List.Perm.refl _) rfl mm3; have g3 := hwc.hbM (cs := [.int .i64 f3]) (List.Perm.refl _) rfl mm2; have g8 := hwc.hbM (cs := [.slice e0 e1 d7, .slice d9 d4 d6, .slice d8 e2 d5]) (List.Perm.refl _) rfl mm4; have H : Z84 c0 p1 f3 e9 h2 = some m3 := hy; unfold Z84 at H; refine T.block ?_; refine Z0b ?_; refine Z1m (fun (j4 : Bool) => Z85 e9 h2 j4 = some m3) (fun (j4 : Bool) => [(2, .pointer (some ⟨b1, 0, none⟩)), (3, .pointer (some ⟨b3, 0, none⟩)), (6, .pointer (some ⟨b5, 0, none⟩)), (7, .pointer (some ⟨k4, 0, none⟩)), (8, .int .i64 h2), (10, .int .i64 c0.N), (11, .int .i64 f3), (17, .int .i64 h2), (28, .bool j4)]) (fun (j4 : Bool) => [(some b5, .cells #[.slice (sb f2) g4 c29] 40 (0, 0)), (f2, .cells (arr (intC .i64) e9 h0).toArray 3 (0, 0))]) ?_ ?_
     ·
      obtain ⟨p8, m4, H⟩ := Z0m H; rcases Z0j H with ⟨k6, H⟩ | ⟨k6, H⟩
      · obtain ⟨o8, o9, H⟩ := Z0m H; refine Z04 (ll := [0, 1, 2, 3, 4, 5, 6, 7, 8, 9, 10]) rfl ?_; refine Z7y g7 rr5 Z1q ?_; refine Z7y g8 rr5 Z2d ?_; refine Z4x g3 rr5 Z0h ?_; refine Z0o Zbk rr4 (fun wc hwc => Z99 (c0 := c0) (p1 := p1) (u2 := f3) wc (e7.mono hwc) (e5.mono hwc) (e3.mono hwc) (e6.mono hwc) (e4.mono hwc) (e8.mono hwc) (f5.mono hwc) (f6.mono hwc) (f7.mono hwc) m4) ?_; rintro _ _ ⟨rfl, rfl⟩; refine Z05 rr4 ?_; refine Z0y (t := 22) (b' := true) rfl k6 ?_; refine Z7y g7 rr5 Z1q ?_; refine Z7y g8 rr5 Z2d ?_; refine Z4x g3 rr5 Z0h ?_; refine Z05 rr4 ?_; refine Z0o Zel rr4 (fun wc hwc => Z9m (c0 := c0) (p1 := p1) (u2 := f3) (a3 := h2) wc (e7.mono hwc) (e5.mono hwc) (e3.mono hwc) (e6.mono hwc) (e4.mono hwc) (e8.mono hwc) (f5.mono hwc) (f6.mono hwc) (f7.mono hwc) o9) ?_; rintro _ _ ⟨rfl, rfl⟩; refine Z1a rr5 ?_; refine Z03 ?_; exact Z1o o8 H (Z00 rfl (Z00 rfl (Z00 rfl (Z00 rfl (Z00 rfl (Z00 rfl (Z00 rfl (Z00 rfl (Z00 rfl Z09))))))))) (Z02 tk0 (Z02 tk0 Z08))
      · refine Z04 (ll := [0, 1, 2, 3, 4, 5, 6, 7, 8, 9, 10]) rfl ?_; refine Z7y g7 rr5 Z1q ?_; refine Z7y g8 rr5 Z2d ?_; refine Z4x g3 rr5 Z0h ?_; refine Z0o Zbk rr4 (fun wc hwc => Z99 (c0 := c0) (p1 := p1) (u2 := f3) wc (e7.mono hwc) (e5.mono hwc) (e3.mono hwc) (e6.mono hwc) (e4.mono hwc) (e8.mono hwc) (f5.mono hwc) (f6.mono hwc) (f7.mono hwc) m4) ?_; rintro _ _ ⟨rfl, rfl⟩; refine Z05 rr4 ?_; refine Z0y (t := 22) (b' := false) rfl (Bool.eq_false_iff.2 k6) ?_; refine Z0g rr4 ?_; refine Z0g rr4 ?_; refine Z0g rr4 ?_; refine Z0g rr4 ?_; refine Z0g rr4 ?_; refine Z1c rr5 ?_; refine Z03 ?_; exact Z1o false H (Z00 rfl (Z00 rfl (Z00 rfl (Z00 rfl (Z00 rfl (Z00 rfl (Z00 rfl (Z00 rfl (Z00 rfl Z09))))))))) (Z02 tk0 (Z02 tk0 Z08))
     ·
      rintro j4 H; unfold Z85 at H; rcases Z0j H with ⟨k7, H⟩ | ⟨k7, H⟩
      · refine Z1j rfl k7 ?_; obtain ⟨p2, H⟩ := Z0c H; refine Z04 (ll := [0, 1, 2, 3, 4]) rfl ?_; refine Z0e rr4 Z18 mm0 rfl ?_; refine Z05 rr4 ?_; refine Z1x [.int .i64 0] [0] rr4 Z0l Z0q Z3m rr2 (by simp only [Z3h, setCells, Value.cells, List.toList_toArray, List.getD_cons_zero, List.getD_cons_succ, List.set_cons_zero, List.set_cons_succ]; rfl) (by kernel_rfl) ?_; intro p9; refine Ze7 (f := (intC .i64)) (s := 1) (xs := e9) (ob := f2) (j := h0) (ys := [h2]) (fun _ => rfl) (fun _ => rfl) Zj5 p2 rr5 tk2 g6 h3 h4 h5 (fun wc hwc => (hwc.rs (f := (intC .i64)) (s := 1) (xs := [h2]) (j := ([])) (fun _ => rfl) mm0 rfl (Nat.le_refl _) Z51)) ?_; intro j5 c49 p3 k8 k9 l0; refine Z2j (cs' := [.slice (sb j5) (g4 + 1) c49]) rr4 tk2 Z3k rr3 ?_; refine Z03 ?_; refine Z0f ?_; exact Za6 H ⟨(g4 + 1), c49, j5, p3, rfl, (Zb2 g6 rfl), k8, k9, l0⟩ (Z02 tk0 (Z02 tk0 Z08))
      · refine Z1s rfl (Bool.eq_false_iff.2 k7) ?_; refine T.skip ?_; refine Z0f ?_; exact Za6 H ⟨g4, c29, f2, h0, rfl, g6, h3, h4, h5⟩ (Z02 tk0 (Z02 tk0 Z08))
   · rintro e9 ht j6 _ ⟨g4, c29, f2, h0, rfl, g6, h3, h4, h5⟩; subst ht; have H : (gd (i64ok (f3 + 1)) <| some (.inl (e9, (f3 + 1)))) = some l9 := o1; refine Za7 (H := ((some b5, .cells #[.slice (sb f2) g4 c29] 40 (0, 0)) :: (f2, .cells (arr (intC .i64) e9 h0).toArray 3 (0, 0)) :: (some j6, mkO) :: (some m1, .cells #[.int .i64 c0.N, .int .i64 c0.S, .int .i64 c0.T, .slice b9 b0 a7, .slice b8 c3 c7, .slice b7 c8 a9, .slice b6 c4 d0, .slice d1 d2 a5, .slice a8 a6 a4] 64 (0, 0)) :: (some m2, .cells #[.int .i64 f3] 3 (0, 0)) :: (some k4, .cells #[.int .i64 f3] 3 (0, 0)) :: (some b1, .cells #[.int .i64 c0.N, .int .i64 c0.S, .int .i64 c0.T, .slice b9 b0 a7, .slice b8 c3 c7, .slice b7 c8 a9, .slice b6 c4 d0, .slice d1 d2 a5, .slice a8 a6 a4] 64 (0, 0)) :: (some b3, .cells #[.slice e0 e1 d7, .slice d9 d4 d6, .slice d8 e2 d5] 77 (0, 0)) :: Zeg g0)) rfl ?_; refine Z0f ?_; refine Z0f ?_; refine Z01 ?_; obtain ⟨p4, H⟩ := Z0c H; refine Z04 (ll := [0, 1]) rfl ?_; refine Z19 p4 rr5 ?_; refine Z05 rr4 ?_; refine Z03 ?_; have H := Z15 H m0; exact Zli n7 e9 g4 c29 f2 h0 (f3 + 1) (j6 :: g0) ⟨H, g6, h3, h4, h5⟩ (Nat.lt_succ_self _) rr4 (Z00 rfl (Z00 rfl (Z00 rfl (Z00 rfl (Z00 rfl Z09))))) (Z02 tk6 (Z02 tk6 (Z02 tk0 (Z02 tk0 (Z02 tk0 (Pick.skip (Pick.skip (Pick.skip (Z07 _)))))))))
   · intro x; exact nomatch x
  · refine Z14 rfl k5 ?_; refine T.exit ?_; refine Z0n ?_; have H := Z0w H m0 ▸ n6; refine Z0n ?_; refine Z0x ?_; exact X.metEM6 f4 n8 c9 f9 g9 (g0) ⟨H, i9, j0, j1, j2⟩ rr4 (Z00 rfl (Z00 rfl (Z00 rfl Z09))) (Z02 tk0 (Z02 tk0 (Z02 tk0 (Z02 tk0 (Z07 _)))))
 ·
  rintro f0 g5 c58 f8 h1 g1 ⟨H, l1, l3, l4, l5⟩; unfold Zay at H; refine Z0b ?_; obtain ⟨l6, p5, H⟩ := Z0m H; apply T.drawLT [⟨[], false, [], Z2h _⟩, ⟨[], false, [], Z2h _⟩, ⟨[], false, [], Z2h _⟩, ⟨[1, 2], false, [], fun _ v e => ∃ (g2 : Option Nat) (h6 c71 : Nat) (i2 : List Value), v = .slice (sb g2) h6 c71 ∧ e = [(g2, .cells (arr (intC .i64) l6 i2).toArray 3 (0, 0))] ∧ l6.length = h6 ∧ h6 ≤ c71 ∧ i2.length = (c71 - h6) * 1 ∧ (g2 = none → c71 = 0)⟩] [34, 35, 36, 37] 4 (HRk [[]]) [[]] [] [(some b1, .cells #[.int .i64 c0.N, .int .i64 c0.S, .int .i64 c0.T, .slice b9 b0 a7, .slice b8 c3 c7, .slice b7 c8 a9, .slice b6 c4 d0, .slice d1 d2 a5, .slice a8 a6 a4] 64 (0, 0)), (some b3, .cells #[.slice e0 e1 d7, .slice d9 d4 d6, .slice d8 e2 d5] 77 (0, 0)), (some b5, .cells #[.slice (sb f8) g5 c58] 40 (0, 0)), (f8, .cells (arr (intC .i64) f0 h1).toArray 3 (0, 0))] (Zeg g1)
  · exact Z5i
  · exact rfl
  · kernel_rfl
  · kernel_rfl
  · kernel_rfl
  · exact rfl
  · exact rfl
  · exact rfl
  · exact rfl
  · exact (by repeat (first | exact Z07 _ | exact Z08 | apply Pick.none | refine Z02 (by repeat (first | exact Take.head _ _ | apply Take.tail)) ?_))
  ·
   refine ⟨?_, ?_, ?_, ?_, trivial⟩
   · rintro vs es Es Hx -; refine Z0d (D := []) rfl ?_; refine Z0e rr4 Z18 mm2 rfl ?_; refine Z03 ?_; exact Z10 rfl ⟨rfl, rfl⟩ (Z07 _) rfl
   · rintro vs es Es Hx -; refine Z0d (D := []) rfl ?_; refine Z0u rr4 Z1q mm0 rfl ?_; refine Z03 ?_; exact Z10 rfl ⟨rfl, rfl⟩ (Z07 _) rfl
   · rintro vs es Es Hx -; refine Z0d (D := []) rfl ?_; refine TO.makeFunc rr5 ?_; refine Z03 ?_; exact Z10 rfl ⟨rfl, rfl⟩ (Z07 _) rfl
   · rintro vs es Es Hx ⟨⟨j7, i8⟩, ⟨j8, j3⟩, -⟩; refine Z0d (D := [(35, vs 1), (36, vs 2)]) rfl ?_; rw [j7, j8]; refine Z0o Zln rr4 (fun wc hwc => Zf8 (c0 := c0) (so1_0 := c0) (so1_1 := p1) wc (e7.mono hwc) (e5.mono hwc) (e3.mono hwc) (e6.mono hwc) (e4.mono hwc) (e8.mono hwc) (e7.mono hwc) (e5.mono hwc) (e3.mono hwc) (e6.mono hwc) (e4.mono hwc) (e8.mono hwc) (hwc.hb (cs := [.int .i64 c0.N, .int .i64 c0.S, .int .i64 c0.T, .slice b9 b0 a7, .slice b8 c3 c7, .slice b7 c8 a9, .slice b6 c4 d0, .slice d1 d2 a5, .slice a8 a6 a4]) mm0) (f5.mono hwc) (f6.mono hwc) (f7.mono hwc) (hwc.hb (cs := [.slice e0 e1 d7, .slice d9 d4 d6, .slice d8 e2 d5]) mm1) p5) ?_; rintro _ _ ⟨g2, h6, c71, i2, rfl, rfl, i4, i5, i6, i7⟩; refine Z03 ?_; exact Z10 rfl ⟨g2, h6, c71, i2, rfl, rfl, i4, i5, i6, i7⟩ (by repeat (first | exact Z07 _ | exact Z08 | apply Pick.none | refine Z02 (by repeat (first | exact Take.head _ _ | apply Take.tail)) ?_)) (by show [(35, vs 1), (36, vs 2)] = _; rw [j7, j8])
  · rintro vs es hb ⟨⟨m5, m6⟩, ⟨j7, i8⟩, ⟨j8, j3⟩, ⟨g2, h6, c71, i2, m7, m8, i4, i5, i6, i7⟩, -⟩ hHR; obtain rfl : hb = [] := hHR; refine Z0d (D := [(34, vs 0), (35, vs 1), (36, vs 2), (37, vs 3)]) rfl ?_; refine Z12 (H := [(some b1, .cells #[.int .i64 c0.N, .int .i64 c0.S, .int .i64 c0.T, .slice b9 b0 a7, .slice b8 c3 c7, .slice b7 c8 a9, .slice b6 c4 d0, .slice d1 d2 a5, .slice a8 a6 a4] 64 (0, 0)), (some b3, .cells #[.slice e0 e1 d7, .slice d9 d4 d6, .slice d8 e2 d5] 77 (0, 0)), (some b5, .cells #[.slice (sb f8) g5 c58] 40 (0, 0)), (f8, .cells (arr (intC .i64) f0 h1).toArray 3 (0, 0)), (g2, .cells (arr (intC .i64) l6 i2).toArray 3 (0, 0))] ++ (Zeg g1)) (by show (_ ++ (_ ++ (es 0 ++ (es 1 ++ (es 2 ++ (es 3 ++ ([]))))))) ++ _ = _; rw [m6, i8, j3, m8]; rfl) ?_; rw [m5, j7, j8, m7]; clear m7 j8 j7 m5 m6 i8 j3 m8; refine Z06 rr4 ?_; refine Z06 rr4 ?_; refine Z03 ?_; refine Z01 ?_; refine T.ret ?_; obtain ⟨rfl, rfl⟩ := ret2 H; exact Zdl (g1) rr5 (Pick.tailM (Es := [_, _, _, _, _]) (Z07 _)) (Res.tmp rfl) (Res.tmp rfl) (Z02 tk3 (Z02 tk3 Z08)) ⟨f8, g5, c58, h1, g2, h6, c71, i2, rfl, rfl, l1, l3, l4, l5, i4, i5, i6, i7⟩
end Go.Proofs.Ytfdhelnfgfaeaaa.Ax
namespace Go.Proofs.Ytfdhelnfgfaeaaa.Ax
open Go Go.Acq Go.RowKit Go.Proofs
set_option linter.unusedVariables false
set_option linter.unusedSimpArgs false
set_option maxHeartbeats 8000000
set_option maxRecDepth 20000
theorem Zm3 : Z0v Try.prog 103 = true := by kernel_rfl
theorem Zm2 : Z0v Try.prog 104 = true := by kernel_rfl
theorem Zm1 : Z0v Try.prog 105 = true := by kernel_rfl
theorem Znv : Z0v Try.prog 15 = true := by kernel_rfl
theorem Znu : Z0v Try.prog 42 = true := by kernel_rfl
theorem Znt : Z0v Try.prog 44 = true := by kernel_rfl
theorem Zns : Z0v Try.prog 45 = true := by kernel_rfl
theorem Znr : Z0v Try.prog 68 = true := by kernel_rfl
theorem Ze4 : Z39 Try.prog 70 = some 5 := by kernel_rfl
theorem Zkv : Z3g Try.prog 5 = some 1 := by kernel_rfl
theorem TWZMV.o5 : (Try.prog.underlying 5).isSome = true := by kernel_rfl
theorem TWZMV.s5 : Z5q Try.prog 5 = true := by kernel_rfl
theorem Zd4 {n0 : Net} {moves1 : List Int} {b5 g5 : Option Addr} {a9 b0 m4 g6 : Nat} (w : World) (x6 : RS w [] Z73 3 b5 a9 b0 n0.Arcs) (f8 : RS w [] (intC .u8) 1 g5 m4 g6 moves1) {r0 : Net} {r1 : List Int} {r2 : Bool} (H : Z4j n0 moves1 = some (r0, r1, r2)) : Fnc Try.prog 68 #[.agg #[.int .i64 n0.N, .int .i64 n0.S, .int .i64 n0.T, .slice b5 a9 b0], .slice g5 m4 g6] w [] (fun v N => ∃ (z0 : Option Nat) (D3 D4 : Nat) (H0 : List Value), v = .tuple #[.agg #[.int .i64 r0.N, .int .i64 r0.S, .int .i64 r0.T, .slice b5 a9 b0], .slice (sb z0) D3 D4, .bool r2] ∧ N = [(z0, .cells (arr (intC .i64) r1 H0).toArray 2 (0, 0))] ∧ r1.length = D3 ∧ D3 ≤ D4 ∧ H0.length = (D4 - D3) * 1 ∧ (z0 = none → D4 = 0)) := by
 unfold Z4j at H; refine Fnc.enter (vs := [.agg #[.int .i64 n0.N, .int .i64 n0.S, .int .i64 n0.T, .slice b5 a9 b0], .slice g5 m4 g6]) Try.func68 rfl rfl (Inv.refl w) ?_; refine Z0b ?_; refine Z04 (ll := [0, 1, 2, 3]) rfl ?_; refine Z1h rr4 ?_; intro b1; refine Z1r rr3 Zcj ?_; intro b3; refine Z06 rr4 ?_; refine Z06 rr4 ?_; refine Z03 ?_; refine Z01 ?_; refine Z0b ?_; obtain ⟨⟨r5, r6⟩, e7, H⟩ := Z0m H; refine Z04 (ll := [0, 1, 2, 3, 4, 5, 6, 7]) rfl ?_; refine Z0u rr4 Z11 mm1 rfl ?_; refine Z0o Znu rr4 (fun wc hwc => Zl5 (n0 := n0) wc (x6.mono hwc) e7) ?_; rintro _ _ ⟨g8, n9, n6, j8, c3, n7, n8, j9, c4, o0, o1, k1, c7, o2, c22, k2, c8, o4, c26, k3, c9, n29, o6, k4, rfl, rfl, t5, t6, I3, t7, t8, t9, I4, u3, u5, u6, I5, u7, u9, v2, I6, v3, v4, v5, I7, v6, v7, v8, I8, v9⟩; refine Z05 rr4 ?_; refine TO.extract rr5 ?_; refine TO.extract rr5 ?_; refine Z1r rr3 Zg1 ?_; intro k5; refine Z1f rr4 tk0 Ze2 rr3 ?_; refine Z06 rr4 ?_; refine Z03 ?_; refine Z01 ?_; refine Z0p (Z00 (t := 1) rfl (Z00 (t := 2) rfl (Z00 (t := 4) rfl (Z00 (t := 7) rfl (Z00 (t := 8) rfl Z09))))) ?_; refine Z0b ?_; refine Z0b ?_; refine Z04 (ll := [0, 1]) rfl ?_; refine Z05 rr4 ?_; refine Z0t rr6 ?_; refine Z03 ?_; refine Z01 ?_; rcases Z0j H with ⟨D6, H⟩ | ⟨D6, H⟩
 · refine Z13 rfl D6 ?_; refine Z0b ?_; refine Z04 (ll := [0, 1, 2, 3]) rfl ?_; refine Z0u rr4 Z11 mm8 rfl ?_; refine Z1f rr4 tk7 Z9j rr3 ?_; refine Z06 rr4 ?_; refine Z06 rr4 ?_; refine Z03 ?_; refine Z01 ?_; refine T.ret ?_; refine Z0k ?_; obtain ⟨rfl, rfl, rfl⟩ := ret3 H; exact Zdz rr4 (Z4k rfl Z11 mm0 rfl) (Res.tmp rfl) (Res.tmp rfl) (Pick.none Z08) ⟨none, 0, 0, ([]), rfl, rfl, rfl, (Nat.le_refl _), (Z38 0 _), (fun _ => rfl)⟩
 ·
  refine Z14 rfl D6 ?_; refine T.skip ?_; refine Z01 ?_; refine Z0b ?_; obtain ⟨D7, I9, H⟩ := Z0m H; refine Z04 (ll := [0, 1, 2, 3]) rfl ?_; refine Z0u rr4 Z1q mm0 rfl ?_; refine Z0o Znt rr4 (fun wc hwc => Zjs (c0 := r5) wc (hwc.rs (f := (intC .i64)) (s := 1) (xs := r5.First) (j := j8) (fun _ => rfl) mm1 t5 t6 t7) (hwc.rs (f := (intC .i64)) (s := 1) (xs := r5.Head) (j := j9) (fun _ => rfl) mm2 t8 t9 u3) (hwc.rs (f := (intC .i64)) (s := 1) (xs := r5.Rev) (j := k1) (fun _ => rfl) mm3 u5 u6 u7) (hwc.rs (f := (intC .i64)) (s := 1) (xs := r5.Cap) (j := k2) (fun _ => rfl) mm4 u9 v2 v3) (hwc.rs (f := (intC .i64)) (s := 1) (xs := r5.Arc) (j := k3) (fun _ => rfl) mm5 v4 v5 v6) (hwc.rs (f := boolC) (s := 1) (xs := r5.Back) (j := k4) (fun _ => rfl) mm6 v7 v8 v9) I9) ?_; rintro _ _ ⟨D8, J0, c69, J1, D9, J2, c73, J3, E0, J4, J5, J6, rfl, rfl, E1, E2, E3, E4, E5, E6, E7, E8, E9, F0, F1, F2⟩; refine Z1r rr3 Z9i ?_; intro h9; refine Z1f rr4 tk0 Z5f rr3 ?_; refine Z03 ?_; refine Z01 ?_; refine Z0b ?_; refine Z0b ?_; obtain ⟨D5, H⟩ := Z0c H; refine Z04 (ll := [0, 1, 2, 3, 4, 5, 6]) rfl ?_; refine Z05 rr4 ?_; refine Z05 rr4 ?_; refine Z1i (xs := moves1) f8.len rr5 Ze4 ?_; refine TO.min2 rr5 ?_; refine TO.slH (xs := moves1) f8.len f8.cap D5 rr5 Ze4 Zkv ?_; refine Z1i (xs := (moves1.take (min (moves1.length : Int) 80).toNat)) ((RS.take f8 D5).len) rr5 Ze4 ?_; refine Z05 rr4 ?_; refine Z03 ?_; refine Z01 ?_; refine Z0p (Z00 (t := 2) rfl (Z00 (t := 4) rfl (Z00 (t := 7) rfl (Z00 (t := 8) rfl (Z00 (t := 9) rfl (Z00 (t := 30) rfl (Z00 (t := 31) rfl (Z00 (t := 32) rfl Z09)))))))) ?_; refine Zmf (fun (h2 : List Int) (q8 q9 : Nat) (m5 : Option Nat) (s7 : List Value) (m6 : List Int) (r3 r4 : Nat) (m7 : Option Nat) (w0 : List Value) (s8 : List Int) (r7 r8 : Nat) (m8 : Option Nat) (w1 : List Value) => Z4n n0 r5 h2 m6 s8 = some (r0, r1, r2) ∧ h2.length = q8 ∧ q8 ≤ q9 ∧ s7.length = (q9 - q8) * 1 ∧ (m5 = none → q9 = 0) ∧ m6.length = r3 ∧ r3 ≤ r4 ∧ w0.length = (r4 - r3) * 1 ∧ (m7 = none → r4 = 0) ∧ s8.length = r7 ∧ r7 ≤ r8 ∧ w1.length = (r8 - r7) * 1 ∧ (m8 = none → r8 = 0)) (fun (h2 : List Int) (q8 q9 : Nat) (m5 : Option Nat) (s7 : List Value) (m6 : List Int) (r3 r4 : Nat) (m7 : Option Nat) (w0 : List Value) (s8 : List Int) (r7 r8 : Nat) (m8 : Option Nat) (w1 : List Value) => [(2, .pointer (some ⟨b1, 0, none⟩)), (4, .pointer (some ⟨b3, 0, none⟩)), (7, .pointer (some ⟨k5, 0, none⟩)), (9, .pointer (some ⟨h9, 0, none⟩))]) (fun (h2 : List Int) (q8 q9 : Nat) (m5 : Option Nat) (s7 : List Value) (m6 : List Int) (r3 r4 : Nat) (m7 : Option Nat) (w0 : List Value) (s8 : List Int) (r7 r8 : Nat) (m8 : Option Nat) (w1 : List Value) => [(some b1, .cells #[.int .i64 n0.N, .int .i64 n0.S, .int .i64 n0.T, .slice b5 a9 b0] 24 (0, 0)), (some b3, .cells #[.int .i64 0, .int .i64 0, .int .i64 0, .slice none 0 0] 24 (0, 0)), (some k5, .cells #[.int .i64 r5.N, .int .i64 r5.S, .int .i64 r5.T, .slice (sb g8) n9 n6, .slice (sb c3) n7 n8, .slice (sb c4) o0 o1, .slice (sb c7) o2 c22, .slice (sb c8) o4 c26, .slice (sb c9) n29 o6] 64 (0, 0)), (g8, .cells (arr (intC .i64) r5.First j8).toArray 3 (0, 0)), (c3, .cells (arr (intC .i64) r5.Head j9).toArray 3 (0, 0)), (c4, .cells (arr (intC .i64) r5.Rev k1).toArray 3 (0, 0)), (c7, .cells (arr (intC .i64) r5.Cap k2).toArray 2 (0, 0)), (c8, .cells (arr (intC .i64) r5.Arc k3).toArray 3 (0, 0)), (c9, .cells (arr boolC r5.Back k4).toArray 4 (0, 0)), (some h9, .cells #[.slice (sb m5) q8 q9, .slice (sb m7) r3 r4, .slice (sb m8) r7 r8] 77 (0, 0)), (m5, .cells (arr (intC .i64) h2 s7).toArray 2 (0, 0)), (m7, .cells (arr (intC .i64) m6 w0).toArray 2 (0, 0)), (m8, .cells (arr (intC .i64) s8 w1).toArray 3 (0, 0))]) ?_ ?_
  ·
   refine T.block ?_; obtain ⟨J7, x8, H1⟩ := Z0m H; refine Zon (fun (A6 : Nat) (x7 : Int) (a7 : List Int) (j7 e5 : Nat) (a4 : Option Nat) (d8 : List Value) (a8 : List Int) (e6 c110 : Nat) (a5 : Option Nat) (d9 : List Value) (d4 : List Int) (e8 c120 : Nat) (a6 : Option Nat) (e0 : List Value) (i2 : Int) => Z1t (fun s => Z3q n0 moves1 r5 s.1 s.2.1 s.2.2.1 s.2.2.2.1 s.2.2.2.2) A6 (x7, a7, a8, d4, i2) = some J7 ∧ a7.length = j7 ∧ j7 ≤ e5 ∧ d8.length = (e5 - j7) * 1 ∧ (a4 = none → e5 = 0) ∧ a8.length = e6 ∧ e6 ≤ c110 ∧ d9.length = (c110 - e6) * 1 ∧ (a5 = none → c110 = 0) ∧ d4.length = e8 ∧ e8 ≤ c120 ∧ e0.length = (c120 - e8) * 1 ∧ (a6 = none → c120 = 0)) (fun (A6 : Nat) (x7 : Int) (a7 : List Int) (j7 e5 : Nat) (a4 : Option Nat) (d8 : List Value) (a8 : List Int) (e6 c110 : Nat) (a5 : Option Nat) (d9 : List Value) (d4 : List Int) (e8 c120 : Nat) (a6 : Option Nat) (e0 : List Value) (i2 : Int) => [(2, .pointer (some ⟨b1, 0, none⟩)), (4, .pointer (some ⟨b3, 0, none⟩)), (7, .pointer (some ⟨k5, 0, none⟩)), (8, .int .i64 x7), (9, .pointer (some ⟨h9, 0, none⟩)), (30, .slice g5 ((min (moves1.length : Int) 80).toNat) g6), (31, .int .i64 ((moves1.take (min (moves1.length : Int) 80).toNat).length : Int)), (32, .int .i64 i2)]) (fun (A6 : Nat) (x7 : Int) (a7 : List Int) (j7 e5 : Nat) (a4 : Option Nat) (d8 : List Value) (a8 : List Int) (e6 c110 : Nat) (a5 : Option Nat) (d9 : List Value) (d4 : List Int) (e8 c120 : Nat) (a6 : Option Nat) (e0 : List Value) (i2 : Int) => [(some b1, .cells #[.int .i64 n0.N, .int .i64 n0.S, .int .i64 n0.T, .slice b5 a9 b0] 24 (0, 0)), (some b3, .cells #[.int .i64 0, .int .i64 0, .int .i64 0, .slice none 0 0] 24 (0, 0)), (some k5, .cells #[.int .i64 r5.N, .int .i64 r5.S, .int .i64 r5.T, .slice (sb g8) n9 n6, .slice (sb c3) n7 n8, .slice (sb c4) o0 o1, .slice (sb c7) o2 c22, .slice (sb c8) o4 c26, .slice (sb c9) n29 o6] 64 (0, 0)), (g8, .cells (arr (intC .i64) r5.First j8).toArray 3 (0, 0)), (c3, .cells (arr (intC .i64) r5.Head j9).toArray 3 (0, 0)), (c4, .cells (arr (intC .i64) r5.Rev k1).toArray 3 (0, 0)), (c7, .cells (arr (intC .i64) r5.Cap k2).toArray 2 (0, 0)), (c8, .cells (arr (intC .i64) r5.Arc k3).toArray 3 (0, 0)), (c9, .cells (arr boolC r5.Back k4).toArray 4 (0, 0)), (some h9, .cells #[.slice (sb a4) j7 e5, .slice (sb a5) e6 c110, .slice (sb a6) e8 c120] 77 (0, 0)), (a4, .cells (arr (intC .i64) a7 d8).toArray 2 (0, 0)), (a5, .cells (arr (intC .i64) a8 d9).toArray 2 (0, 0)), (a6, .cells (arr (intC .i64) d4 e0).toArray 3 (0, 0))]) (fun (A6 : Nat) (x7 : Int) (a7 : List Int) (j7 e5 : Nat) (a4 : Option Nat) (d8 : List Value) (a8 : List Int) (e6 c110 : Nat) (a5 : Option Nat) (d9 : List Value) (d4 : List Int) (e8 c120 : Nat) (a6 : Option Nat) (e0 : List Value) (i2 : Int) => A6) Z3f r6 D7.Res J0 c69 D8 J1 D7.Ex J2 c73 D9 J3 D7.H J4 J5 E0 J6 0 ⟨x8, E1, E2, E3, E4, E5, E6, E7, E8, E9, F0, F1, F2⟩ (Z00 rfl (Z00 rfl (Z00 rfl (Z00 rfl (Z00 rfl (Z00 rfl (Z00 rfl (Z00 rfl Z09)))))))) (Z02 tk12 (Z02 tk11 (Z02 tk4 (Z02 tk4 (Z02 tk4 (Z02 tk4 (Z02 tk4 (Z02 tk4 (Z02 tk4 (Z02 tk0 (Z02 tk0 (Z02 tk0 (Z02 tk0 Z08))))))))))))) ?_; rintro A6 x7 a7 j7 e5 a4 d8 a8 e6 c110 a5 d9 d4 e8 c120 a6 e0 i2 ⟨H, o8, o9, y3, p2, p3, p4, y4, p5, p6, p7, y5, p8⟩; obtain ⟨J8, F3, rfl, H, F4⟩ := Z1b H; have H : Z3q n0 moves1 r5 x7 a7 a8 d4 i2 = some F3 := H; unfold Z3q at H; refine Z0b ?_; refine Z04 (ll := [0]) rfl ?_; refine Z0t rr6 ?_; refine Z03 ?_; refine Z01 ?_; refine Z0b ?_; rcases Z0j H with ⟨z1, H⟩ | ⟨z1, H⟩
   ·
    refine Z13 rfl z1 ?_; refine T.skip ?_; refine Z01 ?_; refine Z0b ?_; refine T.block ?_; refine Z0b ?_; obtain ⟨A7, H⟩ := Z0c H; refine Z04 (ll := [0, 1, 2]) rfl ?_; refine Z2b (RS.take f8 D5) A7 rr5 Ze4 Zkv ?_; refine Z2r (RS.take f8 D5) A7 rr4 TWZMV.s5 ?_; refine Z06 rr4 ?_; refine Z03 ?_; refine Z01 ?_; refine Z0b ?_; obtain ⟨⟨e9, f0⟩, F5, H⟩ := Z0m H; refine Z04 (ll := [0, 1, 2, 3, 4, 5, 6, 7]) rfl ?_; refine Z0u rr4 Z1q mm2 rfl ?_; refine Z0u rr4 Z2d mm9 rfl ?_; refine Z0o Zm3 rr4 (fun wc hwc => Zmm (c0 := r5) (p1 := (Pre.mk a7 a8 d4)) wc (hwc.rs (f := (intC .i64)) (s := 1) (xs := r5.First) (j := j8) (fun _ => rfl) mm3 t5 t6 t7) (hwc.rs (f := (intC .i64)) (s := 1) (xs := r5.Head) (j := j9) (fun _ => rfl) mm4 t8 t9 u3) (hwc.rs (f := (intC .i64)) (s := 1) (xs := r5.Rev) (j := k1) (fun _ => rfl) mm5 u5 u6 u7) (hwc.rs (f := (intC .i64)) (s := 1) (xs := r5.Cap) (j := k2) (fun _ => rfl) mm6 u9 v2 v3) (hwc.rs (f := (intC .i64)) (s := 1) (xs := r5.Arc) (j := k3) (fun _ => rfl) mm7 v4 v5 v6) (hwc.rs (f := boolC) (s := 1) (xs := r5.Back) (j := k4) (fun _ => rfl) mm8 v7 v8 v9) (hwc.rs (f := (intC .i64)) (s := 1) (xs := a7) (j := d8) (fun _ => rfl) mm10 o8 o9 p2) (hwc.rs (f := (intC .i64)) (s := 1) (xs := a8) (j := d9) (fun _ => rfl) mm11 p3 p4 p5) (hwc.rs (f := (intC .i64)) (s := 1) (xs := d4) (j := e0) (fun _ => rfl) mm12 p6 p7 p8) F5) ?_; rintro _ _ ⟨e2, F6, F7, h4, e3, F8, c140, h5, rfl, rfl, m9, y6, H2, y7, p9, y8, H3, y9⟩; refine Z05 rr4 ?_; refine TO.extract rr5 ?_; refine TO.extract rr5 ?_; refine Z06 rr4 ?_; refine Z06 rr4 ?_; refine Z03 ?_; refine Z01 ?_; refine Z0p (Z00 (t := 2) rfl (Z00 (t := 4) rfl (Z00 (t := 7) rfl (Z00 (t := 8) rfl (Z00 (t := 9) rfl (Z00 (t := 30) rfl (Z00 (t := 31) rfl (Z00 (t := 32) rfl (Z00 (t := 11) rfl (Z00 (t := 12) rfl (Z00 (t := 13) rfl Z09))))))))))) ?_; refine Z0b ?_; obtain ⟨A8, H⟩ := Z0c H; refine Z04 (ll := [0, 1, 2]) rfl ?_; refine Z05 rr4 ?_; refine Zcq rr4 TWZMV.o5 Zfx (Z5h A8.1 A8.2) ?_; refine Z06 rr4 ?_; refine Z03 ?_; refine Z01 ?_; refine Z0b ?_; refine Zme (fun (s9 : Int) (i4 : List Int) (q0 q1 : Nat) (k6 : Option Nat) (t0 : List Value) (k7 : List Int) (q2 q3 : Nat) (k8 : Option Nat) (t1 : List Value) (r9 : List Int) (q4 q5 : Nat) (k9 : Option Nat) (t2 : List Value) => Z2f n0 i2 s9 i4 k7 r9 = some F3 ∧ i4.length = q0 ∧ q0 ≤ q1 ∧ t0.length = (q1 - q0) * 1 ∧ (k6 = none → q1 = 0) ∧ k7.length = q2 ∧ q2 ≤ q3 ∧ t1.length = (q3 - q2) * 1 ∧ (k8 = none → q3 = 0) ∧ r9.length = q4 ∧ q4 ≤ q5 ∧ t2.length = (q5 - q4) * 1 ∧ (k9 = none → q5 = 0)) (fun (s9 : Int) (i4 : List Int) (q0 q1 : Nat) (k6 : Option Nat) (t0 : List Value) (k7 : List Int) (q2 q3 : Nat) (k8 : Option Nat) (t1 : List Value) (r9 : List Int) (q4 q5 : Nat) (k9 : Option Nat) (t2 : List Value) => [(2, .pointer (some ⟨b1, 0, none⟩)), (4, .pointer (some ⟨b3, 0, none⟩)), (7, .pointer (some ⟨k5, 0, none⟩)), (8, .int .i64 s9), (9, .pointer (some ⟨h9, 0, none⟩)), (30, .slice g5 ((min (moves1.length : Int) 80).toNat) g6), (31, .int .i64 ((moves1.take (min (moves1.length : Int) 80).toNat).length : Int)), (32, .int .i64 i2)]) (fun (s9 : Int) (i4 : List Int) (q0 q1 : Nat) (k6 : Option Nat) (t0 : List Value) (k7 : List Int) (q2 q3 : Nat) (k8 : Option Nat) (t1 : List Value) (r9 : List Int) (q4 q5 : Nat) (k9 : Option Nat) (t2 : List Value) => [(some b1, .cells #[.int .i64 n0.N, .int .i64 n0.S, .int .i64 n0.T, .slice b5 a9 b0] 24 (0, 0)), (some b3, .cells #[.int .i64 0, .int .i64 0, .int .i64 0, .slice none 0 0] 24 (0, 0)), (some k5, .cells #[.int .i64 r5.N, .int .i64 r5.S, .int .i64 r5.T, .slice (sb g8) n9 n6, .slice (sb c3) n7 n8, .slice (sb c4) o0 o1, .slice (sb c7) o2 c22, .slice (sb c8) o4 c26, .slice (sb c9) n29 o6] 64 (0, 0)), (g8, .cells (arr (intC .i64) r5.First j8).toArray 3 (0, 0)), (c3, .cells (arr (intC .i64) r5.Head j9).toArray 3 (0, 0)), (c4, .cells (arr (intC .i64) r5.Rev k1).toArray 3 (0, 0)), (c7, .cells (arr (intC .i64) r5.Cap k2).toArray 2 (0, 0)), (c8, .cells (arr (intC .i64) r5.Arc k3).toArray 3 (0, 0)), (c9, .cells (arr boolC r5.Back k4).toArray 4 (0, 0)), (some h9, .cells #[.slice (sb k6) q0 q1, .slice (sb k8) q2 q3, .slice (sb k9) q4 q5] 77 (0, 0)), (k6, .cells (arr (intC .i64) i4 t0).toArray 2 (0, 0)), (k8, .cells (arr (intC .i64) k7 t1).toArray 2 (0, 0)), (k9, .cells (arr (intC .i64) r9 t2).toArray 3 (0, 0))]) ?_ ?_
    ·
     refine T.block ?_; refine Z0b ?_; refine Z1m (fun (w2 : Bool) => Z2g n0 moves1 r5 x7 a7 a8 d4 i2 e9 f0 w2 = some F3) (fun (w2 : Bool) => [(2, .pointer (some ⟨b1, 0, none⟩)), (4, .pointer (some ⟨b3, 0, none⟩)), (7, .pointer (some ⟨k5, 0, none⟩)), (8, .int .i64 x7), (9, .pointer (some ⟨h9, 0, none⟩)), (12, .slice (sb e2) F6 F7), (13, .slice (sb e3) F8 c140), (14, .int .i64 ((moves1.take (min (moves1.length : Int) 80).toNat).getD i2.toNat 0)), (30, .slice g5 ((min (moves1.length : Int) 80).toNat) g6), (31, .int .i64 ((moves1.take (min (moves1.length : Int) 80).toNat).length : Int)), (32, .int .i64 i2), (44, .bool w2)]) (fun (w2 : Bool) => [(some b1, .cells #[.int .i64 n0.N, .int .i64 n0.S, .int .i64 n0.T, .slice b5 a9 b0] 24 (0, 0)), (some b3, .cells #[.int .i64 0, .int .i64 0, .int .i64 0, .slice none 0 0] 24 (0, 0)), (some k5, .cells #[.int .i64 r5.N, .int .i64 r5.S, .int .i64 r5.T, .slice (sb g8) n9 n6, .slice (sb c3) n7 n8, .slice (sb c4) o0 o1, .slice (sb c7) o2 c22, .slice (sb c8) o4 c26, .slice (sb c9) n29 o6] 64 (0, 0)), (g8, .cells (arr (intC .i64) r5.First j8).toArray 3 (0, 0)), (c3, .cells (arr (intC .i64) r5.Head j9).toArray 3 (0, 0)), (c4, .cells (arr (intC .i64) r5.Rev k1).toArray 3 (0, 0)), (c7, .cells (arr (intC .i64) r5.Cap k2).toArray 2 (0, 0)), (c8, .cells (arr (intC .i64) r5.Arc k3).toArray 3 (0, 0)), (c9, .cells (arr boolC r5.Back k4).toArray 4 (0, 0)), (some h9, .cells #[.slice (sb a4) j7 e5, .slice (sb a5) e6 c110, .slice (sb a6) e8 c120] 77 (0, 0)), (a4, .cells (arr (intC .i64) a7 d8).toArray 2 (0, 0)), (a5, .cells (arr (intC .i64) a8 d9).toArray 2 (0, 0)), (a6, .cells (arr (intC .i64) d4 e0).toArray 3 (0, 0)), (e2, .cells (arr (intC .i64) e9 h4).toArray 3 (0, 0)), (e3, .cells (arr (intC .i64) f0 h5).toArray 3 (0, 0))]) ?_ ?_
     ·
      rcases Z0j H with ⟨x9, H⟩ | ⟨x9, H⟩
      ·
       rcases Z0j H with ⟨z5, H⟩ | ⟨z5, H⟩
       · refine Z04 (ll := [0, 1, 2, 3, 4, 5, 6, 7, 8, 9, 10, 11, 12, 13]) rfl ?_; refine Z05 rr4 ?_; refine Z1i (xs := e9) m9 rr5 Z0l ?_; refine Z0t rr6 ?_; refine Z05 rr4 ?_; refine Z0y (t := 48) (b' := true) rfl (decide_eq_true x9) ?_; refine Z05 rr4 ?_; refine TO.rem rr5 (by decide) ?_; refine Z0t rr6 ?_; refine Z05 rr4 ?_; refine Z0y (t := 52) (b' := true) rfl (decide_eq_true z5) ?_; refine Z0g rr4 ?_; refine Z0g rr4 ?_; refine Z0g rr4 ?_; refine Z1a rr5 ?_; refine Z1a rr5 ?_; refine Z06 rr4 ?_; refine Z03 ?_; exact Z1o true H (Z00 rfl (Z00 rfl (Z00 rfl (Z00 rfl (Z00 rfl (Z00 rfl (Z00 rfl (Z00 rfl (Z00 rfl (Z00 rfl (Z00 rfl (Z00 rfl Z09)))))))))))) (Z02 tk2 (Z02 tk2 (Z02 tk2 (Z02 tk2 (Z02 tk2 (Z02 tk2 (Z02 tk2 (Z02 tk2 (Z02 tk2 (Z02 tk2 (Z02 tk2 (Z02 tk2 (Z02 tk2 (Z02 tk0 (Z02 tk0 Z08)))))))))))))))
       · refine Z04 (ll := [0, 1, 2, 3, 4, 5, 6, 7, 8, 9, 10, 11, 12, 13]) rfl ?_; refine Z05 rr4 ?_; refine Z1i (xs := e9) m9 rr5 Z0l ?_; refine Z0t rr6 ?_; refine Z05 rr4 ?_; refine Z0y (t := 48) (b' := true) rfl (decide_eq_true x9) ?_; refine Z05 rr4 ?_; refine TO.rem rr5 (by decide) ?_; refine Z0t rr6 ?_; refine Z05 rr4 ?_; refine Z0y (t := 52) (b' := false) rfl (decide_eq_false z5) ?_; refine Z05 rr4 ?_; refine Z1i (xs := f0) p9 rr5 Z0l ?_; refine Z0t rr6 ?_; refine Z1c rr5 ?_; refine Z1a rr5 ?_; refine Z06 rr4 ?_; refine Z03 ?_; exact Z1o (decide ((f0.length : Int) = 0)) H (Z00 rfl (Z00 rfl (Z00 rfl (Z00 rfl (Z00 rfl (Z00 rfl (Z00 rfl (Z00 rfl (Z00 rfl (Z00 rfl (Z00 rfl (Z00 rfl Z09)))))))))))) (Z02 tk2 (Z02 tk2 (Z02 tk2 (Z02 tk2 (Z02 tk2 (Z02 tk2 (Z02 tk2 (Z02 tk2 (Z02 tk2 (Z02 tk2 (Z02 tk2 (Z02 tk2 (Z02 tk2 (Z02 tk0 (Z02 tk0 Z08)))))))))))))))
      · refine Z04 (ll := [0, 1, 2, 3, 4, 5, 6, 7, 8, 9, 10, 11, 12, 13]) rfl ?_; refine Z05 rr4 ?_; refine Z1i (xs := e9) m9 rr5 Z0l ?_; refine Z0t rr6 ?_; refine Z05 rr4 ?_; refine Z0y (t := 48) (b' := false) rfl (decide_eq_false x9) ?_; refine Z0g rr4 ?_; refine Z0g rr4 ?_; refine Z0g rr4 ?_; refine Z0g rr4 ?_; refine Z6v rr4 ?_; refine Z6v rr4 ?_; refine Z6v rr4 ?_; refine Z0g rr4 ?_; refine Z1c rr5 ?_; refine Z06 rr4 ?_; refine Z03 ?_; exact Z1o false H (Z00 rfl (Z00 rfl (Z00 rfl (Z00 rfl (Z00 rfl (Z00 rfl (Z00 rfl (Z00 rfl (Z00 rfl (Z00 rfl (Z00 rfl (Z00 rfl Z09)))))))))))) (Z02 tk2 (Z02 tk2 (Z02 tk2 (Z02 tk2 (Z02 tk2 (Z02 tk2 (Z02 tk2 (Z02 tk2 (Z02 tk2 (Z02 tk2 (Z02 tk2 (Z02 tk2 (Z02 tk2 (Z02 tk0 (Z02 tk0 Z08)))))))))))))))
     ·
      rintro w2 H; unfold Z2g at H; rcases Z0j H with ⟨z6, H⟩ | ⟨z6, H⟩
      ·
       refine Z1j rfl z6 ?_; obtain ⟨F9, H⟩ := Z0c H; obtain ⟨G0, H⟩ := Z0c H; obtain ⟨A9, H⟩ := Z0c H; obtain ⟨⟨d7, t3, s6⟩, G1, H⟩ := Z0m H; apply Z9q [⟨[], false, [], Z2h _⟩, ⟨[], true, [], Z2h _⟩, ⟨[], false, [], Z2h _⟩, ⟨[], false, [], Z2h _⟩, ⟨[3], false, [], Z2h _⟩, ⟨[], false, [], Z2h _⟩, ⟨[5], false, [], Z2h _⟩, ⟨[4, 6], false, [], Z2h _⟩, ⟨[2, 7], false, [], Z2h _⟩, ⟨[2, 7, 8], false, [], Z2h _⟩, ⟨[0, 1, 9], false, [], fun _ v e => ∃ (b7 : Option Nat) (f2 f3 : Nat) (g9 : List Value) (b8 : Option Nat) (f4 f5 : Nat) (h0 : List Value) (b9 : Option Nat) (f6 f7 : Nat) (h1 : List Value), v = .tuple #[.agg #[.slice (sb b7) f2 f3, .slice (sb b8) f4 f5, .slice (sb b9) f6 f7], .int .i64 t3, .int .i64 s6] ∧ e = [(b7, .cells (arr (intC .i64) d7.Res g9).toArray 2 (0, 0)), (b8, .cells (arr (intC .i64) d7.Ex h0).toArray 2 (0, 0)), (b9, .cells (arr (intC .i64) d7.H h1).toArray 3 (0, 0))] ∧ d7.Res.length = f2 ∧ f2 ≤ f3 ∧ g9.length = (f3 - f2) * 1 ∧ (b7 = none → f3 = 0) ∧ d7.Ex.length = f4 ∧ f4 ≤ f5 ∧ h0.length = (f5 - f4) * 1 ∧ (b8 = none → f5 = 0) ∧ d7.H.length = f6 ∧ f6 ≤ f7 ∧ h1.length = (f7 - f6) * 1 ∧ (b9 = none → f7 = 0)⟩, ⟨[10], false, [], fun vl v e => v = (vl.getD 0 undef) ∧ e = []⟩, ⟨[10, 11], false, [], fun vl v e => v = (Zij (vl.getD 1 undef) 0) ∧ e = []⟩, ⟨[10, 11], false, [], Z2h _⟩, ⟨[10, 11], false, [], Z2h _⟩, ⟨[10, 11, 12], true, [], Zlb⟩] [59, 60, 61, 62, 63, 64, 65, 66, 67, 68, 69, 58, 70, 71, 72] 16 (HRv [fun vl => [(some h9, .cells #[.slice (sb a4) j7 e5, .slice (sb a5) e6 c110, .slice (sb a6) e8 c120] 77 (0, 0))], fun vl => [(some h9, .cells #[.slice (sb a4) j7 e5, .slice (sb a5) e6 c110, .slice (sb a6) e8 c120] 77 (0, 0))], fun vl => [(some h9, .cells #[(Z8b (vl.getD 0 undef) 0), (Z8b (vl.getD 0 undef) 1), (Z8b (vl.getD 0 undef) 2)] 77 (0, 0))]]) [[], [], [12]] [(some h9, .cells #[.slice (sb a4) j7 e5, .slice (sb a5) e6 c110, .slice (sb a6) e8 c120] 77 (0, 0))] [(some b1, .cells #[.int .i64 n0.N, .int .i64 n0.S, .int .i64 n0.T, .slice b5 a9 b0] 24 (0, 0)), (some b3, .cells #[.int .i64 0, .int .i64 0, .int .i64 0, .slice none 0 0] 24 (0, 0)), (some k5, .cells #[.int .i64 r5.N, .int .i64 r5.S, .int .i64 r5.T, .slice (sb g8) n9 n6, .slice (sb c3) n7 n8, .slice (sb c4) o0 o1, .slice (sb c7) o2 c22, .slice (sb c8) o4 c26, .slice (sb c9) n29 o6] 64 (0, 0)), (g8, .cells (arr (intC .i64) r5.First j8).toArray 3 (0, 0)), (c3, .cells (arr (intC .i64) r5.Head j9).toArray 3 (0, 0)), (c4, .cells (arr (intC .i64) r5.Rev k1).toArray 3 (0, 0)), (c7, .cells (arr (intC .i64) r5.Cap k2).toArray 2 (0, 0)), (c8, .cells (arr (intC .i64) r5.Arc k3).toArray 3 (0, 0)), (c9, .cells (arr boolC r5.Back k4).toArray 4 (0, 0)), (a4, .cells (arr (intC .i64) a7 d8).toArray 2 (0, 0)), (a5, .cells (arr (intC .i64) a8 d9).toArray 2 (0, 0)), (a6, .cells (arr (intC .i64) d4 e0).toArray 3 (0, 0)), (e2, .cells (arr (intC .i64) e9 h4).toArray 3 (0, 0)), (e3, .cells (arr (intC .i64) f0 h5).toArray 3 (0, 0))]
       · exact Z5i
       · exact rfl
       · kernel_rfl
       · kernel_rfl
       · kernel_rfl
       · exact rfl
       · exact rfl
       · exact rfl
       · exact rfl
       · exact (by repeat (first | exact Z07 _ | exact Z08 | apply Pick.none | refine Z02 (by repeat (first | exact Take.head _ _ | apply Take.tail)) ?_))
       ·
        refine ⟨?_, ?_, ?_, ?_, ?_, ?_, ?_, ?_, ?_, ?_, ?_, ?_, ?_, ?_, ?_, ?_, trivial⟩
        · rintro vs es Es Hx -; refine Z0d (D := []) rfl ?_; refine Z0u rr4 Z1q mm2 rfl ?_; refine Z03 ?_; exact Z10 rfl ⟨rfl, rfl⟩ (Z07 _) rfl
        · rintro vs es Es Hx hb - hHR; obtain rfl : hb = [(some h9, .cells #[.slice (sb a4) j7 e5, .slice (sb a5) e6 c110, .slice (sb a6) e8 c120] 77 (0, 0))] := hHR; refine Z0d (D := []) rfl ?_; refine Z0u rr4 Z2d mm0 rfl ?_; refine Z03 ?_; exact X.obEd (hb' := [(some h9, .cells #[.slice (sb a4) j7 e5, .slice (sb a5) e6 c110, .slice (sb a6) e8 c120] 77 (0, 0))]) rfl ⟨rfl, rfl⟩ rfl (by repeat (first | exact Z07 _ | exact Z08 | apply Pick.none | refine Z02 (by repeat (first | exact Take.head _ _ | apply Take.tail)) ?_)) rfl
        · rintro vs es Es Hx -; refine Z0d (D := []) rfl ?_; refine Z05 rr4 ?_; refine Z03 ?_; exact Z10 rfl ⟨rfl, rfl⟩ (Z07 _) rfl
        · rintro vs es Es Hx -; refine Z0d (D := []) rfl ?_; refine Z05 rr4 ?_; refine Z03 ?_; exact Z10 rfl ⟨rfl, rfl⟩ (Z07 _) rfl
        · rintro vs es Es Hx ⟨⟨w3, z7⟩, -⟩; refine Z0d (D := [(62, vs 3)]) rfl ?_; rw [w3]; refine Zof F9 rr5 ?_; refine Z03 ?_; exact Z10 rfl ⟨rfl, rfl⟩ (Z07 _) (by show [(62, vs 3)] = _; rw [w3])
        · rintro vs es Es Hx -; refine Z0d (D := []) rfl ?_; refine Z05 rr4 ?_; refine Z03 ?_; exact Z10 rfl ⟨rfl, rfl⟩ (Z07 _) rfl
        · rintro vs es Es Hx ⟨⟨w4, z8⟩, -⟩; refine Z0d (D := [(64, vs 5)]) rfl ?_; rw [w4]; refine Z1i (xs := e9) m9 rr5 Z0l ?_; refine Z03 ?_; exact Z10 rfl ⟨rfl, rfl⟩ (Z07 _) (by show [(64, vs 5)] = _; rw [w4])
        · rintro vs es Es Hx ⟨⟨w5, z9⟩, ⟨w6, A0⟩, -⟩; refine Z0d (D := [(63, vs 4), (65, vs 6)]) rfl ?_; rw [w5, w6]; refine TO.rem rr5 G0 ?_; refine Z03 ?_; exact Z10 rfl ⟨rfl, rfl⟩ (Z07 _) (by show [(63, vs 4), (65, vs 6)] = _; rw [w5, w6])
        · rintro vs es Es Hx ⟨⟨q6, y0⟩, ⟨q7, y2⟩, -⟩; refine Z0d (D := [(61, vs 2), (66, vs 7)]) rfl ?_; rw [q6, q7]; refine Z3n y7 y6 m9 A9 rr5 Z0l Z0q ?_; refine Z03 ?_; exact Z10 rfl ⟨rfl, rfl⟩ (Z07 _) (by show [(61, vs 2), (66, vs 7)] = _; rw [q6, q7])
        · rintro vs es Es Hx ⟨⟨q6, y0⟩, ⟨q7, y2⟩, ⟨w7, A1⟩, -⟩; refine Z0d (D := [(61, vs 2), (66, vs 7), (67, vs 8)]) rfl ?_; rw [q6, q7, w7]; refine Z6n y7 y6 m9 A9 rr4 Z0h mm12 ?_; refine Z03 ?_; exact Z10 rfl ⟨rfl, rfl⟩ (Z07 _) (by show [(61, vs 2), (66, vs 7), (67, vs 8)] = _; rw [q6, q7, w7])
        · rintro vs es Es Hx ⟨⟨w8, A2⟩, ⟨w9, x8⟩, ⟨x2, A3⟩, -⟩; refine Z0d (D := [(59, vs 0), (60, vs 1), (68, vs 9)]) rfl ?_; rw [w8, w9, x2]; refine Z0o Zm2 rr4 (fun wc hwc => Zl2 (c0 := r5) (p1 := (Pre.mk a7 a8 d4)) (a2 := (e9.getD ((((moves1.take (min (moves1.length : Int) 80).toNat).getD i2.toNat 0).tdiv 2).tmod (e9.length : Int)).toNat 0)) wc (hwc.rs (f := (intC .i64)) (s := 1) (xs := r5.First) (j := j8) (fun _ => rfl) mm3 t5 t6 t7) (hwc.rs (f := (intC .i64)) (s := 1) (xs := r5.Head) (j := j9) (fun _ => rfl) mm4 t8 t9 u3) (hwc.rs (f := (intC .i64)) (s := 1) (xs := r5.Rev) (j := k1) (fun _ => rfl) mm5 u5 u6 u7) (hwc.rs (f := (intC .i64)) (s := 1) (xs := r5.Cap) (j := k2) (fun _ => rfl) mm6 u9 v2 v3) (hwc.rs (f := (intC .i64)) (s := 1) (xs := r5.Arc) (j := k3) (fun _ => rfl) mm7 v4 v5 v6) (hwc.rs (f := boolC) (s := 1) (xs := r5.Back) (j := k4) (fun _ => rfl) mm8 v7 v8 v9) (hwc.rs (f := (intC .i64)) (s := 1) (xs := a7) (j := d8) (fun _ => rfl) mm9 o8 o9 p2) (hwc.rs (f := (intC .i64)) (s := 1) (xs := a8) (j := d9) (fun _ => rfl) mm10 p3 p4 p5) (hwc.rs (f := (intC .i64)) (s := 1) (xs := d4) (j := e0) (fun _ => rfl) mm11 p6 p7 p8) G1) ?_; rintro _ _ ⟨b7, f2, f3, g9, b8, f4, f5, h0, b9, f6, f7, h1, rfl, rfl, i5, i6, i7, i8, i9, j0, j1, j2, j3, j4, j5, j6⟩; refine Z03 ?_; exact Z10 rfl ⟨b7, f2, f3, g9, b8, f4, f5, h0, b9, f6, f7, h1, rfl, rfl, i5, i6, i7, i8, i9, j0, j1, j2, j3, j4, j5, j6⟩ (by repeat (first | exact Z07 _ | exact Z08 | apply Pick.none | refine Z02 (by repeat (first | exact Take.head _ _ | apply Take.tail)) ?_)) (by show [(59, vs 0), (60, vs 1), (68, vs 9)] = _; rw [w8, w9, x2])
        · rintro vs es Es Hx ⟨⟨b7, f2, f3, g9, b8, f4, f5, h0, b9, f6, f7, h1, b6, d5, i5, i6, i7, i8, i9, j0, j1, j2, j3, j4, j5, j6⟩, -⟩; refine Z0d (D := [(69, vs 10)]) rfl ?_; rw [b6]; refine Z12 (H := [(some b1, .cells #[.int .i64 n0.N, .int .i64 n0.S, .int .i64 n0.T, .slice b5 a9 b0] 24 (0, 0)), (some b3, .cells #[.int .i64 0, .int .i64 0, .int .i64 0, .slice none 0 0] 24 (0, 0)), (some k5, .cells #[.int .i64 r5.N, .int .i64 r5.S, .int .i64 r5.T, .slice (sb g8) n9 n6, .slice (sb c3) n7 n8, .slice (sb c4) o0 o1, .slice (sb c7) o2 c22, .slice (sb c8) o4 c26, .slice (sb c9) n29 o6] 64 (0, 0)), (g8, .cells (arr (intC .i64) r5.First j8).toArray 3 (0, 0)), (c3, .cells (arr (intC .i64) r5.Head j9).toArray 3 (0, 0)), (c4, .cells (arr (intC .i64) r5.Rev k1).toArray 3 (0, 0)), (c7, .cells (arr (intC .i64) r5.Cap k2).toArray 2 (0, 0)), (c8, .cells (arr (intC .i64) r5.Arc k3).toArray 3 (0, 0)), (c9, .cells (arr boolC r5.Back k4).toArray 4 (0, 0)), (a4, .cells (arr (intC .i64) a7 d8).toArray 2 (0, 0)), (a5, .cells (arr (intC .i64) a8 d9).toArray 2 (0, 0)), (a6, .cells (arr (intC .i64) d4 e0).toArray 3 (0, 0)), (e2, .cells (arr (intC .i64) e9 h4).toArray 3 (0, 0)), (e3, .cells (arr (intC .i64) f0 h5).toArray 3 (0, 0))] ++ ([(b7, .cells (arr (intC .i64) d7.Res g9).toArray 2 (0, 0)), (b8, .cells (arr (intC .i64) d7.Ex h0).toArray 2 (0, 0)), (b9, .cells (arr (intC .i64) d7.H h1).toArray 3 (0, 0))] ++ Hx)) (by show _ ++ ((es 10 ++ ([])) ++ _) = _; rw [d5]; rfl) ?_; refine Z05 rr4 ?_; refine Z03 ?_; exact Z10 rfl ⟨by show _ = vs 10; rw [b6] <;> rfl, rfl⟩ (by show Pick (_ ++ (_ ++ ((es 10 ++ ([])) ++ _))) _; rw [d5]; exact (by repeat (first | exact Z07 _ | exact Z08 | apply Pick.none | refine Z02 (by repeat (first | exact Take.head _ _ | apply Take.tail)) ?_))) (by show [(69, vs 10)] = _; rw [b6])
        ·
         rintro vs es Es Hx ⟨⟨b7, f2, f3, g9, b8, f4, f5, h0, b9, f6, f7, h1, b6, d5, i5, i6, i7, i8, i9, j0, j1, j2, j3, j4, j5, j6⟩, ⟨g7, e4⟩, -⟩; have d6 : vs 11 = .tuple #[.agg #[.slice (sb b7) f2 f3, .slice (sb b8) f4 f5, .slice (sb b9) f6 f7], .int .i64 t3, .int .i64 s6] := by refine Eq.trans g7 ?_; show vs 10 = _; rw [b6] <;> rfl
         refine Z0d (D := [(69, vs 10), (58, vs 11)]) rfl ?_; rw [b6, d6]; refine Z12 (H := [(some b1, .cells #[.int .i64 n0.N, .int .i64 n0.S, .int .i64 n0.T, .slice b5 a9 b0] 24 (0, 0)), (some b3, .cells #[.int .i64 0, .int .i64 0, .int .i64 0, .slice none 0 0] 24 (0, 0)), (some k5, .cells #[.int .i64 r5.N, .int .i64 r5.S, .int .i64 r5.T, .slice (sb g8) n9 n6, .slice (sb c3) n7 n8, .slice (sb c4) o0 o1, .slice (sb c7) o2 c22, .slice (sb c8) o4 c26, .slice (sb c9) n29 o6] 64 (0, 0)), (g8, .cells (arr (intC .i64) r5.First j8).toArray 3 (0, 0)), (c3, .cells (arr (intC .i64) r5.Head j9).toArray 3 (0, 0)), (c4, .cells (arr (intC .i64) r5.Rev k1).toArray 3 (0, 0)), (c7, .cells (arr (intC .i64) r5.Cap k2).toArray 2 (0, 0)), (c8, .cells (arr (intC .i64) r5.Arc k3).toArray 3 (0, 0)), (c9, .cells (arr boolC r5.Back k4).toArray 4 (0, 0)), (a4, .cells (arr (intC .i64) a7 d8).toArray 2 (0, 0)), (a5, .cells (arr (intC .i64) a8 d9).toArray 2 (0, 0)), (a6, .cells (arr (intC .i64) d4 e0).toArray 3 (0, 0)), (e2, .cells (arr (intC .i64) e9 h4).toArray 3 (0, 0)), (e3, .cells (arr (intC .i64) f0 h5).toArray 3 (0, 0))] ++ ([(b7, .cells (arr (intC .i64) d7.Res g9).toArray 2 (0, 0)), (b8, .cells (arr (intC .i64) d7.Ex h0).toArray 2 (0, 0)), (b9, .cells (arr (intC .i64) d7.H h1).toArray 3 (0, 0))] ++ Hx)) (by show _ ++ ((es 10 ++ (es 11 ++ ([]))) ++ _) = _; rw [d5, e4]; rfl) ?_; refine TO.extract rr5 ?_; refine Z03 ?_; exact Z10 rfl ⟨by show _ = (Zij (vs 11) 0); rw [d6] <;> rfl, rfl⟩ (by show Pick (_ ++ (_ ++ ((es 10 ++ (es 11 ++ ([]))) ++ _))) _; rw [d5, e4]; exact (by repeat (first | exact Z07 _ | exact Z08 | apply Pick.none | refine Z02 (by repeat (first | exact Take.head _ _ | apply Take.tail)) ?_))) (by show [(69, vs 10), (58, vs 11)] = _; rw [b6, d6])
        ·
         rintro vs es Es Hx ⟨⟨b7, f2, f3, g9, b8, f4, f5, h0, b9, f6, f7, h1, b6, d5, i5, i6, i7, i8, i9, j0, j1, j2, j3, j4, j5, j6⟩, ⟨g7, e4⟩, -⟩; have d6 : vs 11 = .tuple #[.agg #[.slice (sb b7) f2 f3, .slice (sb b8) f4 f5, .slice (sb b9) f6 f7], .int .i64 t3, .int .i64 s6] := by refine Eq.trans g7 ?_; show vs 10 = _; rw [b6] <;> rfl
         refine Z0d (D := [(69, vs 10), (58, vs 11)]) rfl ?_; rw [b6, d6]; refine Z12 (H := [(some b1, .cells #[.int .i64 n0.N, .int .i64 n0.S, .int .i64 n0.T, .slice b5 a9 b0] 24 (0, 0)), (some b3, .cells #[.int .i64 0, .int .i64 0, .int .i64 0, .slice none 0 0] 24 (0, 0)), (some k5, .cells #[.int .i64 r5.N, .int .i64 r5.S, .int .i64 r5.T, .slice (sb g8) n9 n6, .slice (sb c3) n7 n8, .slice (sb c4) o0 o1, .slice (sb c7) o2 c22, .slice (sb c8) o4 c26, .slice (sb c9) n29 o6] 64 (0, 0)), (g8, .cells (arr (intC .i64) r5.First j8).toArray 3 (0, 0)), (c3, .cells (arr (intC .i64) r5.Head j9).toArray 3 (0, 0)), (c4, .cells (arr (intC .i64) r5.Rev k1).toArray 3 (0, 0)), (c7, .cells (arr (intC .i64) r5.Cap k2).toArray 2 (0, 0)), (c8, .cells (arr (intC .i64) r5.Arc k3).toArray 3 (0, 0)), (c9, .cells (arr boolC r5.Back k4).toArray 4 (0, 0)), (a4, .cells (arr (intC .i64) a7 d8).toArray 2 (0, 0)), (a5, .cells (arr (intC .i64) a8 d9).toArray 2 (0, 0)), (a6, .cells (arr (intC .i64) d4 e0).toArray 3 (0, 0)), (e2, .cells (arr (intC .i64) e9 h4).toArray 3 (0, 0)), (e3, .cells (arr (intC .i64) f0 h5).toArray 3 (0, 0))] ++ ([(b7, .cells (arr (intC .i64) d7.Res g9).toArray 2 (0, 0)), (b8, .cells (arr (intC .i64) d7.Ex h0).toArray 2 (0, 0)), (b9, .cells (arr (intC .i64) d7.H h1).toArray 3 (0, 0))] ++ Hx)) (by show _ ++ ((es 10 ++ (es 11 ++ ([]))) ++ _) = _; rw [d5, e4]; rfl) ?_; refine TO.extract rr5 ?_; refine Z03 ?_; exact Z10 rfl ⟨rfl, rfl⟩ (by show Pick (_ ++ (_ ++ ((es 10 ++ (es 11 ++ ([]))) ++ _))) _; rw [d5, e4]; exact (by repeat (first | exact Z07 _ | exact Z08 | apply Pick.none | refine Z02 (by repeat (first | exact Take.head _ _ | apply Take.tail)) ?_))) (by show [(69, vs 10), (58, vs 11)] = _; rw [b6, d6])
        ·
         rintro vs es Es Hx ⟨⟨b7, f2, f3, g9, b8, f4, f5, h0, b9, f6, f7, h1, b6, d5, i5, i6, i7, i8, i9, j0, j1, j2, j3, j4, j5, j6⟩, ⟨g7, e4⟩, -⟩; have d6 : vs 11 = .tuple #[.agg #[.slice (sb b7) f2 f3, .slice (sb b8) f4 f5, .slice (sb b9) f6 f7], .int .i64 t3, .int .i64 s6] := by refine Eq.trans g7 ?_; show vs 10 = _; rw [b6] <;> rfl
         refine Z0d (D := [(69, vs 10), (58, vs 11)]) rfl ?_; rw [b6, d6]; refine Z12 (H := [(some b1, .cells #[.int .i64 n0.N, .int .i64 n0.S, .int .i64 n0.T, .slice b5 a9 b0] 24 (0, 0)), (some b3, .cells #[.int .i64 0, .int .i64 0, .int .i64 0, .slice none 0 0] 24 (0, 0)), (some k5, .cells #[.int .i64 r5.N, .int .i64 r5.S, .int .i64 r5.T, .slice (sb g8) n9 n6, .slice (sb c3) n7 n8, .slice (sb c4) o0 o1, .slice (sb c7) o2 c22, .slice (sb c8) o4 c26, .slice (sb c9) n29 o6] 64 (0, 0)), (g8, .cells (arr (intC .i64) r5.First j8).toArray 3 (0, 0)), (c3, .cells (arr (intC .i64) r5.Head j9).toArray 3 (0, 0)), (c4, .cells (arr (intC .i64) r5.Rev k1).toArray 3 (0, 0)), (c7, .cells (arr (intC .i64) r5.Cap k2).toArray 2 (0, 0)), (c8, .cells (arr (intC .i64) r5.Arc k3).toArray 3 (0, 0)), (c9, .cells (arr boolC r5.Back k4).toArray 4 (0, 0)), (a4, .cells (arr (intC .i64) a7 d8).toArray 2 (0, 0)), (a5, .cells (arr (intC .i64) a8 d9).toArray 2 (0, 0)), (a6, .cells (arr (intC .i64) d4 e0).toArray 3 (0, 0)), (e2, .cells (arr (intC .i64) e9 h4).toArray 3 (0, 0)), (e3, .cells (arr (intC .i64) f0 h5).toArray 3 (0, 0))] ++ ([(b7, .cells (arr (intC .i64) d7.Res g9).toArray 2 (0, 0)), (b8, .cells (arr (intC .i64) d7.Ex h0).toArray 2 (0, 0)), (b9, .cells (arr (intC .i64) d7.H h1).toArray 3 (0, 0))] ++ Hx)) (by show _ ++ ((es 10 ++ (es 11 ++ ([]))) ++ _) = _; rw [d5, e4]; rfl) ?_; refine TO.extract rr5 ?_; refine Z03 ?_; exact Z10 rfl ⟨rfl, rfl⟩ (by show Pick (_ ++ (_ ++ ((es 10 ++ (es 11 ++ ([]))) ++ _))) _; rw [d5, e4]; exact (by repeat (first | exact Z07 _ | exact Z08 | apply Pick.none | refine Z02 (by repeat (first | exact Take.head _ _ | apply Take.tail)) ?_))) (by show [(69, vs 10), (58, vs 11)] = _; rw [b6, d6])
        ·
         rintro vs es Es Hx hb ⟨⟨b7, f2, f3, g9, b8, f4, f5, h0, b9, f6, f7, h1, b6, d5, i5, i6, i7, i8, i9, j0, j1, j2, j3, j4, j5, j6⟩, ⟨g7, e4⟩, ⟨o7, l0⟩, -⟩ hHR; obtain rfl : hb = [(some h9, .cells #[.slice (sb a4) j7 e5, .slice (sb a5) e6 c110, .slice (sb a6) e8 c120] 77 (0, 0))] := hHR; have d6 : vs 11 = .tuple #[.agg #[.slice (sb b7) f2 f3, .slice (sb b8) f4 f5, .slice (sb b9) f6 f7], .int .i64 t3, .int .i64 s6] := by refine Eq.trans g7 ?_; show vs 10 = _; rw [b6] <;> rfl
         have h3 : vs 12 = .agg #[.slice (sb b7) f2 f3, .slice (sb b8) f4 f5, .slice (sb b9) f6 f7] := by refine Eq.trans o7 ?_; show (Zij (vs 11) 0) = _; rw [d6] <;> rfl
         refine Z0d (D := [(69, vs 10), (58, vs 11), (70, vs 12)]) rfl ?_; rw [b6, d6, h3]; refine Z12 (H := [(some h9, .cells #[.slice (sb a4) j7 e5, .slice (sb a5) e6 c110, .slice (sb a6) e8 c120] 77 (0, 0))] ++ ([(some b1, .cells #[.int .i64 n0.N, .int .i64 n0.S, .int .i64 n0.T, .slice b5 a9 b0] 24 (0, 0)), (some b3, .cells #[.int .i64 0, .int .i64 0, .int .i64 0, .slice none 0 0] 24 (0, 0)), (some k5, .cells #[.int .i64 r5.N, .int .i64 r5.S, .int .i64 r5.T, .slice (sb g8) n9 n6, .slice (sb c3) n7 n8, .slice (sb c4) o0 o1, .slice (sb c7) o2 c22, .slice (sb c8) o4 c26, .slice (sb c9) n29 o6] 64 (0, 0)), (g8, .cells (arr (intC .i64) r5.First j8).toArray 3 (0, 0)), (c3, .cells (arr (intC .i64) r5.Head j9).toArray 3 (0, 0)), (c4, .cells (arr (intC .i64) r5.Rev k1).toArray 3 (0, 0)), (c7, .cells (arr (intC .i64) r5.Cap k2).toArray 2 (0, 0)), (c8, .cells (arr (intC .i64) r5.Arc k3).toArray 3 (0, 0)), (c9, .cells (arr boolC r5.Back k4).toArray 4 (0, 0)), (a4, .cells (arr (intC .i64) a7 d8).toArray 2 (0, 0)), (a5, .cells (arr (intC .i64) a8 d9).toArray 2 (0, 0)), (a6, .cells (arr (intC .i64) d4 e0).toArray 3 (0, 0)), (e2, .cells (arr (intC .i64) e9 h4).toArray 3 (0, 0)), (e3, .cells (arr (intC .i64) f0 h5).toArray 3 (0, 0))] ++ ([(b7, .cells (arr (intC .i64) d7.Res g9).toArray 2 (0, 0)), (b8, .cells (arr (intC .i64) d7.Ex h0).toArray 2 (0, 0)), (b9, .cells (arr (intC .i64) d7.H h1).toArray 3 (0, 0))] ++ Hx))) (by show _ ++ (_ ++ ((es 10 ++ (es 11 ++ (es 12 ++ ([])))) ++ _)) = _; rw [d5, e4, l0]; rfl) ?_; refine Z1f rr4 tk0 Z5f rr3 ?_; rw [show (.slice (sb b7) f2 f3 : Value) = Z8b (vs 12) 0 from (by rw [h3] <;> rfl)]; rw [show (.slice (sb b8) f4 f5 : Value) = Z8b (vs 12) 1 from (by rw [h3] <;> rfl)]; rw [show (.slice (sb b9) f6 f7 : Value) = Z8b (vs 12) 2 from (by rw [h3] <;> rfl)]; refine Z03 ?_; exact Zft (hb' := [(some h9, .cells #[(Z8b (vs 12) 0), (Z8b (vs 12) 1), (Z8b (vs 12) 2)] 77 (0, 0))]) rfl rfl rfl (by show Pick (_ ++ (_ ++ ((es 10 ++ (es 11 ++ (es 12 ++ ([])))) ++ _))) _; rw [d5, e4, l0]; exact (by repeat (first | exact Z07 _ | exact Z08 | apply Pick.none | refine Z02 (by repeat (first | exact Take.head _ _ | apply Take.tail)) ?_))) (by show [(69, vs 10), (58, vs 11), (70, vs 12)] = _; rw [b6, d6, h3] <;> rfl)
       ·
        rintro vs es hb ⟨⟨w8, A2⟩, ⟨w9, x8⟩, ⟨q6, y0⟩, ⟨w3, z7⟩, ⟨w5, z9⟩, ⟨w4, z8⟩, ⟨w6, A0⟩, ⟨q7, y2⟩, ⟨w7, A1⟩, ⟨x2, A3⟩, ⟨b7, f2, f3, g9, b8, f4, f5, h0, b9, f6, f7, h1, b6, d5, i5, i6, i7, i8, i9, j0, j1, j2, j3, j4, j5, j6⟩, ⟨g7, e4⟩, ⟨o7, l0⟩, ⟨x3, x4⟩, ⟨B0, x5⟩, B1, -⟩ hHR; obtain rfl : hb = [(some h9, .cells #[(Z8b (vs 12) 0), (Z8b (vs 12) 1), (Z8b (vs 12) 2)] 77 (0, 0))] := hHR; have d6 : vs 11 = .tuple #[.agg #[.slice (sb b7) f2 f3, .slice (sb b8) f4 f5, .slice (sb b9) f6 f7], .int .i64 t3, .int .i64 s6] := by refine Eq.trans g7 ?_; show vs 10 = _; rw [b6] <;> rfl
        have h3 : vs 12 = .agg #[.slice (sb b7) f2 f3, .slice (sb b8) f4 f5, .slice (sb b9) f6 f7] := by refine Eq.trans o7 ?_; show (Zij (vs 11) 0) = _; rw [d6] <;> rfl
        refine Z0d (D := [(59, vs 0), (60, vs 1), (61, vs 2), (62, vs 3), (63, vs 4), (64, vs 5), (65, vs 6), (66, vs 7), (67, vs 8), (68, vs 9), (69, vs 10), (58, vs 11), (70, vs 12), (71, vs 13), (72, vs 14)]) rfl ?_; refine Z12 (H := [(some h9, .cells #[(Z8b (vs 12) 0), (Z8b (vs 12) 1), (Z8b (vs 12) 2)] 77 (0, 0)), (some b1, .cells #[.int .i64 n0.N, .int .i64 n0.S, .int .i64 n0.T, .slice b5 a9 b0] 24 (0, 0)), (some b3, .cells #[.int .i64 0, .int .i64 0, .int .i64 0, .slice none 0 0] 24 (0, 0)), (some k5, .cells #[.int .i64 r5.N, .int .i64 r5.S, .int .i64 r5.T, .slice (sb g8) n9 n6, .slice (sb c3) n7 n8, .slice (sb c4) o0 o1, .slice (sb c7) o2 c22, .slice (sb c8) o4 c26, .slice (sb c9) n29 o6] 64 (0, 0)), (g8, .cells (arr (intC .i64) r5.First j8).toArray 3 (0, 0)), (c3, .cells (arr (intC .i64) r5.Head j9).toArray 3 (0, 0)), (c4, .cells (arr (intC .i64) r5.Rev k1).toArray 3 (0, 0)), (c7, .cells (arr (intC .i64) r5.Cap k2).toArray 2 (0, 0)), (c8, .cells (arr (intC .i64) r5.Arc k3).toArray 3 (0, 0)), (c9, .cells (arr boolC r5.Back k4).toArray 4 (0, 0)), (a4, .cells (arr (intC .i64) a7 d8).toArray 2 (0, 0)), (a5, .cells (arr (intC .i64) a8 d9).toArray 2 (0, 0)), (a6, .cells (arr (intC .i64) d4 e0).toArray 3 (0, 0)), (e2, .cells (arr (intC .i64) e9 h4).toArray 3 (0, 0)), (e3, .cells (arr (intC .i64) f0 h5).toArray 3 (0, 0)), (b7, .cells (arr (intC .i64) d7.Res g9).toArray 2 (0, 0)), (b8, .cells (arr (intC .i64) d7.Ex h0).toArray 2 (0, 0)), (b9, .cells (arr (intC .i64) d7.H h1).toArray 3 (0, 0))]) (by show _ ++ (_ ++ (es 0 ++ (es 1 ++ (es 2 ++ (es 3 ++ (es 4 ++ (es 5 ++ (es 6 ++ (es 7 ++ (es 8 ++ (es 9 ++ (es 10 ++ (es 11 ++ (es 12 ++ (es 13 ++ (es 14 ++ (es 15 ++ ([])))))))))))))))))) = _; rw [A2, x8, y0, z7, z9, z8, A0, y2, A1, A3, d5, e4, l0, x4, x5, B1]; rfl) ?_; rw [w8, w9, q6, w3, w5, w4, w6, q7, w7, x2, b6, d6, h3, x3, B0]; refine Z12 (H := [(some h9, .cells #[.slice (sb b7) f2 f3, .slice (sb b8) f4 f5, .slice (sb b9) f6 f7] 77 (0, 0)), (some b1, .cells #[.int .i64 n0.N, .int .i64 n0.S, .int .i64 n0.T, .slice b5 a9 b0] 24 (0, 0)), (some b3, .cells #[.int .i64 0, .int .i64 0, .int .i64 0, .slice none 0 0] 24 (0, 0)), (some k5, .cells #[.int .i64 r5.N, .int .i64 r5.S, .int .i64 r5.T, .slice (sb g8) n9 n6, .slice (sb c3) n7 n8, .slice (sb c4) o0 o1, .slice (sb c7) o2 c22, .slice (sb c8) o4 c26, .slice (sb c9) n29 o6] 64 (0, 0)), (g8, .cells (arr (intC .i64) r5.First j8).toArray 3 (0, 0)), (c3, .cells (arr (intC .i64) r5.Head j9).toArray 3 (0, 0)), (c4, .cells (arr (intC .i64) r5.Rev k1).toArray 3 (0, 0)), (c7, .cells (arr (intC .i64) r5.Cap k2).toArray 2 (0, 0)), (c8, .cells (arr (intC .i64) r5.Arc k3).toArray 3 (0, 0)), (c9, .cells (arr boolC r5.Back k4).toArray 4 (0, 0)), (a4, .cells (arr (intC .i64) a7 d8).toArray 2 (0, 0)), (a5, .cells (arr (intC .i64) a8 d9).toArray 2 (0, 0)), (a6, .cells (arr (intC .i64) d4 e0).toArray 3 (0, 0)), (e2, .cells (arr (intC .i64) e9 h4).toArray 3 (0, 0)), (e3, .cells (arr (intC .i64) f0 h5).toArray 3 (0, 0)), (b7, .cells (arr (intC .i64) d7.Res g9).toArray 2 (0, 0)), (b8, .cells (arr (intC .i64) d7.Ex h0).toArray 2 (0, 0)), (b9, .cells (arr (intC .i64) d7.H h1).toArray 3 (0, 0))]) rfl ?_; clear B0 x3 h3 d6 b6 x2 w7 q7 w6 w4 w5 w3 q6 w9 w8 g7 o7 A2 x8 y0 z7 z9 z8 A0 y2 A1 A3 d5 e4 l0 x4 x5 B1; refine Z06 rr4 ?_; refine Z03 ?_; refine Z0f ?_; exact Zi7 s6 d7.Res f2 f3 b7 g9 d7.Ex f4 f5 b8 h0 d7.H f6 f7 b9 h1 ⟨H, i5, i6, i7, i8, i9, j0, j1, j2, j3, j4, j5, j6⟩ (Z00 rfl (Z00 rfl (Z00 rfl (Z00 rfl (Z00 rfl (Z00 rfl (Z00 rfl (Z00 rfl Z09)))))))) (Z02 tk1 (Z02 tk1 (Z02 tk1 (Z02 tk1 (Z02 tk1 (Z02 tk1 (Z02 tk1 (Z02 tk1 (Z02 tk1 (Z02 tk0 (Z02 tk5 (Z02 tk5 (Z02 tk5 Z08)))))))))))))
      ·
       refine Z1s rfl (Bool.eq_false_iff.2 z6) ?_; refine Z0b ?_; refine Z04 (ll := [0, 1, 2, 3]) rfl ?_; refine Z05 rr4 ?_; refine Z1i (xs := f0) p9 rr5 Z0l ?_; refine Z0t rr6 ?_; refine Z06 rr4 ?_; refine Z03 ?_; refine Z01 ?_; rcases Z0j H with ⟨A4, H⟩ | ⟨A4, H⟩
       ·
        refine Z13 rfl A4 ?_; obtain ⟨G2, H⟩ := Z0c H; obtain ⟨G3, H⟩ := Z0c H; obtain ⟨B2, H⟩ := Z0c H; obtain ⟨⟨e1, t4⟩, G4, H⟩ := Z0m H; apply Z9q [⟨[], false, [], Z2h _⟩, ⟨[], true, [], Z2h _⟩, ⟨[], false, [], Z2h _⟩, ⟨[], false, [], Z2h _⟩, ⟨[3], false, [], Z2h _⟩, ⟨[], false, [], Z2h _⟩, ⟨[5], false, [], Z2h _⟩, ⟨[4, 6], false, [], Z2h _⟩, ⟨[2, 7], false, [], Z2h _⟩, ⟨[2, 7, 8], false, [], Z2h _⟩, ⟨[0, 1, 9], false, [], fun _ v e => ∃ (d0 : Option Nat) (f9 g0 : Nat) (h6 : List Value) (d1 : Option Nat) (g1 g2 : Nat) (h7 : List Value) (d2 : Option Nat) (g3 g4 : Nat) (h8 : List Value), v = .tuple #[.agg #[.slice (sb d0) f9 g0, .slice (sb d1) g1 g2, .slice (sb d2) g3 g4], .int .i64 t4] ∧ e = [(d0, .cells (arr (intC .i64) e1.Res h6).toArray 2 (0, 0)), (d1, .cells (arr (intC .i64) e1.Ex h7).toArray 2 (0, 0)), (d2, .cells (arr (intC .i64) e1.H h8).toArray 3 (0, 0))] ∧ e1.Res.length = f9 ∧ f9 ≤ g0 ∧ h6.length = (g0 - f9) * 1 ∧ (d0 = none → g0 = 0) ∧ e1.Ex.length = g1 ∧ g1 ≤ g2 ∧ h7.length = (g2 - g1) * 1 ∧ (d1 = none → g2 = 0) ∧ e1.H.length = g3 ∧ g3 ≤ g4 ∧ h8.length = (g4 - g3) * 1 ∧ (d2 = none → g4 = 0)⟩, ⟨[10], false, [], fun vl v e => v = (vl.getD 0 undef) ∧ e = []⟩, ⟨[10, 11], false, [], fun vl v e => v = (Zij (vl.getD 1 undef) 0) ∧ e = []⟩, ⟨[10, 11], false, [], Z2h _⟩, ⟨[10, 11, 12], true, [], Zlb⟩] [78, 79, 80, 81, 82, 83, 84, 85, 86, 87, 88, 77, 89, 90] 15 (HRv [fun vl => [(some h9, .cells #[.slice (sb a4) j7 e5, .slice (sb a5) e6 c110, .slice (sb a6) e8 c120] 77 (0, 0))], fun vl => [(some h9, .cells #[.slice (sb a4) j7 e5, .slice (sb a5) e6 c110, .slice (sb a6) e8 c120] 77 (0, 0))], fun vl => [(some h9, .cells #[(Z8b (vl.getD 0 undef) 0), (Z8b (vl.getD 0 undef) 1), (Z8b (vl.getD 0 undef) 2)] 77 (0, 0))]]) [[], [], [12]] [(some h9, .cells #[.slice (sb a4) j7 e5, .slice (sb a5) e6 c110, .slice (sb a6) e8 c120] 77 (0, 0))] [(some b1, .cells #[.int .i64 n0.N, .int .i64 n0.S, .int .i64 n0.T, .slice b5 a9 b0] 24 (0, 0)), (some b3, .cells #[.int .i64 0, .int .i64 0, .int .i64 0, .slice none 0 0] 24 (0, 0)), (some k5, .cells #[.int .i64 r5.N, .int .i64 r5.S, .int .i64 r5.T, .slice (sb g8) n9 n6, .slice (sb c3) n7 n8, .slice (sb c4) o0 o1, .slice (sb c7) o2 c22, .slice (sb c8) o4 c26, .slice (sb c9) n29 o6] 64 (0, 0)), (g8, .cells (arr (intC .i64) r5.First j8).toArray 3 (0, 0)), (c3, .cells (arr (intC .i64) r5.Head j9).toArray 3 (0, 0)), (c4, .cells (arr (intC .i64) r5.Rev k1).toArray 3 (0, 0)), (c7, .cells (arr (intC .i64) r5.Cap k2).toArray 2 (0, 0)), (c8, .cells (arr (intC .i64) r5.Arc k3).toArray 3 (0, 0)), (c9, .cells (arr boolC r5.Back k4).toArray 4 (0, 0)), (a4, .cells (arr (intC .i64) a7 d8).toArray 2 (0, 0)), (a5, .cells (arr (intC .i64) a8 d9).toArray 2 (0, 0)), (a6, .cells (arr (intC .i64) d4 e0).toArray 3 (0, 0)), (e2, .cells (arr (intC .i64) e9 h4).toArray 3 (0, 0)), (e3, .cells (arr (intC .i64) f0 h5).toArray 3 (0, 0))]
        · exact Z5i
        · exact rfl
        · kernel_rfl
        · kernel_rfl
        · kernel_rfl
        · exact rfl
        · exact rfl
        · exact rfl
        · exact rfl
        · exact (by repeat (first | exact Z07 _ | exact Z08 | apply Pick.none | refine Z02 (by repeat (first | exact Take.head _ _ | apply Take.tail)) ?_))
        ·
         refine ⟨?_, ?_, ?_, ?_, ?_, ?_, ?_, ?_, ?_, ?_, ?_, ?_, ?_, ?_, ?_, trivial⟩
         · rintro vs es Es Hx -; refine Z0d (D := []) rfl ?_; refine Z0u rr4 Z1q mm2 rfl ?_; refine Z03 ?_; exact Z10 rfl ⟨rfl, rfl⟩ (Z07 _) rfl
         · rintro vs es Es Hx hb - hHR; obtain rfl : hb = [(some h9, .cells #[.slice (sb a4) j7 e5, .slice (sb a5) e6 c110, .slice (sb a6) e8 c120] 77 (0, 0))] := hHR; refine Z0d (D := []) rfl ?_; refine Z0u rr4 Z2d mm0 rfl ?_; refine Z03 ?_; exact X.obEd (hb' := [(some h9, .cells #[.slice (sb a4) j7 e5, .slice (sb a5) e6 c110, .slice (sb a6) e8 c120] 77 (0, 0))]) rfl ⟨rfl, rfl⟩ rfl (by repeat (first | exact Z07 _ | exact Z08 | apply Pick.none | refine Z02 (by repeat (first | exact Take.head _ _ | apply Take.tail)) ?_)) rfl
         · rintro vs es Es Hx -; refine Z0d (D := []) rfl ?_; refine Z05 rr4 ?_; refine Z03 ?_; exact Z10 rfl ⟨rfl, rfl⟩ (Z07 _) rfl
         · rintro vs es Es Hx -; refine Z0d (D := []) rfl ?_; refine Z05 rr4 ?_; refine Z03 ?_; exact Z10 rfl ⟨rfl, rfl⟩ (Z07 _) rfl
         · rintro vs es Es Hx ⟨⟨w3, z7⟩, -⟩; refine Z0d (D := [(81, vs 3)]) rfl ?_; rw [w3]; refine Zof G2 rr5 ?_; refine Z03 ?_; exact Z10 rfl ⟨rfl, rfl⟩ (Z07 _) (by show [(81, vs 3)] = _; rw [w3])
         · rintro vs es Es Hx -; refine Z0d (D := []) rfl ?_; refine Z05 rr4 ?_; refine Z03 ?_; exact Z10 rfl ⟨rfl, rfl⟩ (Z07 _) rfl
         · rintro vs es Es Hx ⟨⟨w4, z8⟩, -⟩; refine Z0d (D := [(83, vs 5)]) rfl ?_; rw [w4]; refine Z1i (xs := f0) p9 rr5 Z0l ?_; refine Z03 ?_; exact Z10 rfl ⟨rfl, rfl⟩ (Z07 _) (by show [(83, vs 5)] = _; rw [w4])
         · rintro vs es Es Hx ⟨⟨w5, z9⟩, ⟨w6, A0⟩, -⟩; refine Z0d (D := [(82, vs 4), (84, vs 6)]) rfl ?_; rw [w5, w6]; refine TO.rem rr5 G3 ?_; refine Z03 ?_; exact Z10 rfl ⟨rfl, rfl⟩ (Z07 _) (by show [(82, vs 4), (84, vs 6)] = _; rw [w5, w6])
         · rintro vs es Es Hx ⟨⟨q6, y0⟩, ⟨q7, y2⟩, -⟩; refine Z0d (D := [(80, vs 2), (85, vs 7)]) rfl ?_; rw [q6, q7]; refine Z3n y9 y8 p9 B2 rr5 Z0l Z0q ?_; refine Z03 ?_; exact Z10 rfl ⟨rfl, rfl⟩ (Z07 _) (by show [(80, vs 2), (85, vs 7)] = _; rw [q6, q7])
         · rintro vs es Es Hx ⟨⟨q6, y0⟩, ⟨q7, y2⟩, ⟨w7, A1⟩, -⟩; refine Z0d (D := [(80, vs 2), (85, vs 7), (86, vs 8)]) rfl ?_; rw [q6, q7, w7]; refine Z6n y9 y8 p9 B2 rr4 Z0h mm13 ?_; refine Z03 ?_; exact Z10 rfl ⟨rfl, rfl⟩ (Z07 _) (by show [(80, vs 2), (85, vs 7), (86, vs 8)] = _; rw [q6, q7, w7])
         · rintro vs es Es Hx ⟨⟨w8, A2⟩, ⟨w9, x8⟩, ⟨x2, A3⟩, -⟩; refine Z0d (D := [(78, vs 0), (79, vs 1), (87, vs 9)]) rfl ?_; rw [w8, w9, x2]; refine Z0o Zm1 rr4 (fun wc hwc => Zl3 (c0 := r5) (p1 := (Pre.mk a7 a8 d4)) (u2 := (f0.getD ((((moves1.take (min (moves1.length : Int) 80).toNat).getD i2.toNat 0).tdiv 2).tmod (f0.length : Int)).toNat 0)) wc (hwc.rs (f := (intC .i64)) (s := 1) (xs := r5.First) (j := j8) (fun _ => rfl) mm3 t5 t6 t7) (hwc.rs (f := (intC .i64)) (s := 1) (xs := r5.Head) (j := j9) (fun _ => rfl) mm4 t8 t9 u3) (hwc.rs (f := (intC .i64)) (s := 1) (xs := r5.Rev) (j := k1) (fun _ => rfl) mm5 u5 u6 u7) (hwc.rs (f := (intC .i64)) (s := 1) (xs := r5.Cap) (j := k2) (fun _ => rfl) mm6 u9 v2 v3) (hwc.rs (f := (intC .i64)) (s := 1) (xs := r5.Arc) (j := k3) (fun _ => rfl) mm7 v4 v5 v6) (hwc.rs (f := boolC) (s := 1) (xs := r5.Back) (j := k4) (fun _ => rfl) mm8 v7 v8 v9) (hwc.rs (f := (intC .i64)) (s := 1) (xs := a7) (j := d8) (fun _ => rfl) mm9 o8 o9 p2) (hwc.rs (f := (intC .i64)) (s := 1) (xs := a8) (j := d9) (fun _ => rfl) mm10 p3 p4 p5) (hwc.rs (f := (intC .i64)) (s := 1) (xs := d4) (j := e0) (fun _ => rfl) mm11 p6 p7 p8) G4) ?_; rintro _ _ ⟨d0, f9, g0, h6, d1, g1, g2, h7, d2, g3, g4, h8, rfl, rfl, l1, l3, l4, l5, l6, l7, l8, l9, m0, m1, m2, m3⟩; refine Z03 ?_; exact Z10 rfl ⟨d0, f9, g0, h6, d1, g1, g2, h7, d2, g3, g4, h8, rfl, rfl, l1, l3, l4, l5, l6, l7, l8, l9, m0, m1, m2, m3⟩ (by repeat (first | exact Z07 _ | exact Z08 | apply Pick.none | refine Z02 (by repeat (first | exact Take.head _ _ | apply Take.tail)) ?_)) (by show [(78, vs 0), (79, vs 1), (87, vs 9)] = _; rw [w8, w9, x2])
         · rintro vs es Es Hx ⟨⟨d0, f9, g0, h6, d1, g1, g2, h7, d2, g3, g4, h8, b6, d5, l1, l3, l4, l5, l6, l7, l8, l9, m0, m1, m2, m3⟩, -⟩; refine Z0d (D := [(88, vs 10)]) rfl ?_; rw [b6]; refine Z12 (H := [(some b1, .cells #[.int .i64 n0.N, .int .i64 n0.S, .int .i64 n0.T, .slice b5 a9 b0] 24 (0, 0)), (some b3, .cells #[.int .i64 0, .int .i64 0, .int .i64 0, .slice none 0 0] 24 (0, 0)), (some k5, .cells #[.int .i64 r5.N, .int .i64 r5.S, .int .i64 r5.T, .slice (sb g8) n9 n6, .slice (sb c3) n7 n8, .slice (sb c4) o0 o1, .slice (sb c7) o2 c22, .slice (sb c8) o4 c26, .slice (sb c9) n29 o6] 64 (0, 0)), (g8, .cells (arr (intC .i64) r5.First j8).toArray 3 (0, 0)), (c3, .cells (arr (intC .i64) r5.Head j9).toArray 3 (0, 0)), (c4, .cells (arr (intC .i64) r5.Rev k1).toArray 3 (0, 0)), (c7, .cells (arr (intC .i64) r5.Cap k2).toArray 2 (0, 0)), (c8, .cells (arr (intC .i64) r5.Arc k3).toArray 3 (0, 0)), (c9, .cells (arr boolC r5.Back k4).toArray 4 (0, 0)), (a4, .cells (arr (intC .i64) a7 d8).toArray 2 (0, 0)), (a5, .cells (arr (intC .i64) a8 d9).toArray 2 (0, 0)), (a6, .cells (arr (intC .i64) d4 e0).toArray 3 (0, 0)), (e2, .cells (arr (intC .i64) e9 h4).toArray 3 (0, 0)), (e3, .cells (arr (intC .i64) f0 h5).toArray 3 (0, 0))] ++ ([(d0, .cells (arr (intC .i64) e1.Res h6).toArray 2 (0, 0)), (d1, .cells (arr (intC .i64) e1.Ex h7).toArray 2 (0, 0)), (d2, .cells (arr (intC .i64) e1.H h8).toArray 3 (0, 0))] ++ Hx)) (by show _ ++ ((es 10 ++ ([])) ++ _) = _; rw [d5]; rfl) ?_; refine Z05 rr4 ?_; refine Z03 ?_; exact Z10 rfl ⟨by show _ = vs 10; rw [b6] <;> rfl, rfl⟩ (by show Pick (_ ++ (_ ++ ((es 10 ++ ([])) ++ _))) _; rw [d5]; exact (by repeat (first | exact Z07 _ | exact Z08 | apply Pick.none | refine Z02 (by repeat (first | exact Take.head _ _ | apply Take.tail)) ?_))) (by show [(88, vs 10)] = _; rw [b6])
         ·
          rintro vs es Es Hx ⟨⟨d0, f9, g0, h6, d1, g1, g2, h7, d2, g3, g4, h8, b6, d5, l1, l3, l4, l5, l6, l7, l8, l9, m0, m1, m2, m3⟩, ⟨g7, e4⟩, -⟩; have d6 : vs 11 = .tuple #[.agg #[.slice (sb d0) f9 g0, .slice (sb d1) g1 g2, .slice (sb d2) g3 g4], .int .i64 t4] := by refine Eq.trans g7 ?_; show vs 10 = _; rw [b6] <;> rfl
          refine Z0d (D := [(88, vs 10), (77, vs 11)]) rfl ?_; rw [b6, d6]; refine Z12 (H := [(some b1, .cells #[.int .i64 n0.N, .int .i64 n0.S, .int .i64 n0.T, .slice b5 a9 b0] 24 (0, 0)), (some b3, .cells #[.int .i64 0, .int .i64 0, .int .i64 0, .slice none 0 0] 24 (0, 0)), (some k5, .cells #[.int .i64 r5.N, .int .i64 r5.S, .int .i64 r5.T, .slice (sb g8) n9 n6, .slice (sb c3) n7 n8, .slice (sb c4) o0 o1, .slice (sb c7) o2 c22, .slice (sb c8) o4 c26, .slice (sb c9) n29 o6] 64 (0, 0)), (g8, .cells (arr (intC .i64) r5.First j8).toArray 3 (0, 0)), (c3, .cells (arr (intC .i64) r5.Head j9).toArray 3 (0, 0)), (c4, .cells (arr (intC .i64) r5.Rev k1).toArray 3 (0, 0)), (c7, .cells (arr (intC .i64) r5.Cap k2).toArray 2 (0, 0)), (c8, .cells (arr (intC .i64) r5.Arc k3).toArray 3 (0, 0)), (c9, .cells (arr boolC r5.Back k4).toArray 4 (0, 0)), (a4, .cells (arr (intC .i64) a7 d8).toArray 2 (0, 0)), (a5, .cells (arr (intC .i64) a8 d9).toArray 2 (0, 0)), (a6, .cells (arr (intC .i64) d4 e0).toArray 3 (0, 0)), (e2, .cells (arr (intC .i64) e9 h4).toArray 3 (0, 0)), (e3, .cells (arr (intC .i64) f0 h5).toArray 3 (0, 0))] ++ ([(d0, .cells (arr (intC .i64) e1.Res h6).toArray 2 (0, 0)), (d1, .cells (arr (intC .i64) e1.Ex h7).toArray 2 (0, 0)), (d2, .cells (arr (intC .i64) e1.H h8).toArray 3 (0, 0))] ++ Hx)) (by show _ ++ ((es 10 ++ (es 11 ++ ([]))) ++ _) = _; rw [d5, e4]; rfl) ?_; refine TO.extract rr5 ?_; refine Z03 ?_; exact Z10 rfl ⟨by show _ = (Zij (vs 11) 0); rw [d6] <;> rfl, rfl⟩ (by show Pick (_ ++ (_ ++ ((es 10 ++ (es 11 ++ ([]))) ++ _))) _; rw [d5, e4]; exact (by repeat (first | exact Z07 _ | exact Z08 | apply Pick.none | refine Z02 (by repeat (first | exact Take.head _ _ | apply Take.tail)) ?_))) (by show [(88, vs 10), (77, vs 11)] = _; rw [b6, d6])
         ·
          rintro vs es Es Hx ⟨⟨d0, f9, g0, h6, d1, g1, g2, h7, d2, g3, g4, h8, b6, d5, l1, l3, l4, l5, l6, l7, l8, l9, m0, m1, m2, m3⟩, ⟨g7, e4⟩, -⟩; have d6 : vs 11 = .tuple #[.agg #[.slice (sb d0) f9 g0, .slice (sb d1) g1 g2, .slice (sb d2) g3 g4], .int .i64 t4] := by refine Eq.trans g7 ?_; show vs 10 = _; rw [b6] <;> rfl
          refine Z0d (D := [(88, vs 10), (77, vs 11)]) rfl ?_; rw [b6, d6]; refine Z12 (H := [(some b1, .cells #[.int .i64 n0.N, .int .i64 n0.S, .int .i64 n0.T, .slice b5 a9 b0] 24 (0, 0)), (some b3, .cells #[.int .i64 0, .int .i64 0, .int .i64 0, .slice none 0 0] 24 (0, 0)), (some k5, .cells #[.int .i64 r5.N, .int .i64 r5.S, .int .i64 r5.T, .slice (sb g8) n9 n6, .slice (sb c3) n7 n8, .slice (sb c4) o0 o1, .slice (sb c7) o2 c22, .slice (sb c8) o4 c26, .slice (sb c9) n29 o6] 64 (0, 0)), (g8, .cells (arr (intC .i64) r5.First j8).toArray 3 (0, 0)), (c3, .cells (arr (intC .i64) r5.Head j9).toArray 3 (0, 0)), (c4, .cells (arr (intC .i64) r5.Rev k1).toArray 3 (0, 0)), (c7, .cells (arr (intC .i64) r5.Cap k2).toArray 2 (0, 0)), (c8, .cells (arr (intC .i64) r5.Arc k3).toArray 3 (0, 0)), (c9, .cells (arr boolC r5.Back k4).toArray 4 (0, 0)), (a4, .cells (arr (intC .i64) a7 d8).toArray 2 (0, 0)), (a5, .cells (arr (intC .i64) a8 d9).toArray 2 (0, 0)), (a6, .cells (arr (intC .i64) d4 e0).toArray 3 (0, 0)), (e2, .cells (arr (intC .i64) e9 h4).toArray 3 (0, 0)), (e3, .cells (arr (intC .i64) f0 h5).toArray 3 (0, 0))] ++ ([(d0, .cells (arr (intC .i64) e1.Res h6).toArray 2 (0, 0)), (d1, .cells (arr (intC .i64) e1.Ex h7).toArray 2 (0, 0)), (d2, .cells (arr (intC .i64) e1.H h8).toArray 3 (0, 0))] ++ Hx)) (by show _ ++ ((es 10 ++ (es 11 ++ ([]))) ++ _) = _; rw [d5, e4]; rfl) ?_; refine TO.extract rr5 ?_; refine Z03 ?_; exact Z10 rfl ⟨rfl, rfl⟩ (by show Pick (_ ++ (_ ++ ((es 10 ++ (es 11 ++ ([]))) ++ _))) _; rw [d5, e4]; exact (by repeat (first | exact Z07 _ | exact Z08 | apply Pick.none | refine Z02 (by repeat (first | exact Take.head _ _ | apply Take.tail)) ?_))) (by show [(88, vs 10), (77, vs 11)] = _; rw [b6, d6])
         ·
          rintro vs es Es Hx hb ⟨⟨d0, f9, g0, h6, d1, g1, g2, h7, d2, g3, g4, h8, b6, d5, l1, l3, l4, l5, l6, l7, l8, l9, m0, m1, m2, m3⟩, ⟨g7, e4⟩, ⟨o7, l0⟩, -⟩ hHR; obtain rfl : hb = [(some h9, .cells #[.slice (sb a4) j7 e5, .slice (sb a5) e6 c110, .slice (sb a6) e8 c120] 77 (0, 0))] := hHR; have d6 : vs 11 = .tuple #[.agg #[.slice (sb d0) f9 g0, .slice (sb d1) g1 g2, .slice (sb d2) g3 g4], .int .i64 t4] := by refine Eq.trans g7 ?_; show vs 10 = _; rw [b6] <;> rfl
          have h3 : vs 12 = .agg #[.slice (sb d0) f9 g0, .slice (sb d1) g1 g2, .slice (sb d2) g3 g4] := by refine Eq.trans o7 ?_; show (Zij (vs 11) 0) = _; rw [d6] <;> rfl
          refine Z0d (D := [(88, vs 10), (77, vs 11), (89, vs 12)]) rfl ?_; rw [b6, d6, h3]; refine Z12 (H := [(some h9, .cells #[.slice (sb a4) j7 e5, .slice (sb a5) e6 c110, .slice (sb a6) e8 c120] 77 (0, 0))] ++ ([(some b1, .cells #[.int .i64 n0.N, .int .i64 n0.S, .int .i64 n0.T, .slice b5 a9 b0] 24 (0, 0)), (some b3, .cells #[.int .i64 0, .int .i64 0, .int .i64 0, .slice none 0 0] 24 (0, 0)), (some k5, .cells #[.int .i64 r5.N, .int .i64 r5.S, .int .i64 r5.T, .slice (sb g8) n9 n6, .slice (sb c3) n7 n8, .slice (sb c4) o0 o1, .slice (sb c7) o2 c22, .slice (sb c8) o4 c26, .slice (sb c9) n29 o6] 64 (0, 0)), (g8, .cells (arr (intC .i64) r5.First j8).toArray 3 (0, 0)), (c3, .cells (arr (intC .i64) r5.Head j9).toArray 3 (0, 0)), (c4, .cells (arr (intC .i64) r5.Rev k1).toArray 3 (0, 0)), (c7, .cells (arr (intC .i64) r5.Cap k2).toArray 2 (0, 0)), (c8, .cells (arr (intC .i64) r5.Arc k3).toArray 3 (0, 0)), (c9, .cells (arr boolC r5.Back k4).toArray 4 (0, 0)), (a4, .cells (arr (intC .i64) a7 d8).toArray 2 (0, 0)), (a5, .cells (arr (intC .i64) a8 d9).toArray 2 (0, 0)), (a6, .cells (arr (intC .i64) d4 e0).toArray 3 (0, 0)), (e2, .cells (arr (intC .i64) e9 h4).toArray 3 (0, 0)), (e3, .cells (arr (intC .i64) f0 h5).toArray 3 (0, 0))] ++ ([(d0, .cells (arr (intC .i64) e1.Res h6).toArray 2 (0, 0)), (d1, .cells (arr (intC .i64) e1.Ex h7).toArray 2 (0, 0)), (d2, .cells (arr (intC .i64) e1.H h8).toArray 3 (0, 0))] ++ Hx))) (by show _ ++ (_ ++ ((es 10 ++ (es 11 ++ (es 12 ++ ([])))) ++ _)) = _; rw [d5, e4, l0]; rfl) ?_; refine Z1f rr4 tk0 Z5f rr3 ?_; rw [show (.slice (sb d0) f9 g0 : Value) = Z8b (vs 12) 0 from (by rw [h3] <;> rfl)]; rw [show (.slice (sb d1) g1 g2 : Value) = Z8b (vs 12) 1 from (by rw [h3] <;> rfl)]; rw [show (.slice (sb d2) g3 g4 : Value) = Z8b (vs 12) 2 from (by rw [h3] <;> rfl)]; refine Z03 ?_; exact Zft (hb' := [(some h9, .cells #[(Z8b (vs 12) 0), (Z8b (vs 12) 1), (Z8b (vs 12) 2)] 77 (0, 0))]) rfl rfl rfl (by show Pick (_ ++ (_ ++ ((es 10 ++ (es 11 ++ (es 12 ++ ([])))) ++ _))) _; rw [d5, e4, l0]; exact (by repeat (first | exact Z07 _ | exact Z08 | apply Pick.none | refine Z02 (by repeat (first | exact Take.head _ _ | apply Take.tail)) ?_))) (by show [(88, vs 10), (77, vs 11), (89, vs 12)] = _; rw [b6, d6, h3] <;> rfl)
        ·
         rintro vs es hb ⟨⟨w8, A2⟩, ⟨w9, x8⟩, ⟨q6, y0⟩, ⟨w3, z7⟩, ⟨w5, z9⟩, ⟨w4, z8⟩, ⟨w6, A0⟩, ⟨q7, y2⟩, ⟨w7, A1⟩, ⟨x2, A3⟩, ⟨d0, f9, g0, h6, d1, g1, g2, h7, d2, g3, g4, h8, b6, d5, l1, l3, l4, l5, l6, l7, l8, l9, m0, m1, m2, m3⟩, ⟨g7, e4⟩, ⟨o7, l0⟩, ⟨x3, x4⟩, x5, -⟩ hHR; obtain rfl : hb = [(some h9, .cells #[(Z8b (vs 12) 0), (Z8b (vs 12) 1), (Z8b (vs 12) 2)] 77 (0, 0))] := hHR; have d6 : vs 11 = .tuple #[.agg #[.slice (sb d0) f9 g0, .slice (sb d1) g1 g2, .slice (sb d2) g3 g4], .int .i64 t4] := by refine Eq.trans g7 ?_; show vs 10 = _; rw [b6] <;> rfl
         have h3 : vs 12 = .agg #[.slice (sb d0) f9 g0, .slice (sb d1) g1 g2, .slice (sb d2) g3 g4] := by refine Eq.trans o7 ?_; show (Zij (vs 11) 0) = _; rw [d6] <;> rfl
         refine Z0d (D := [(78, vs 0), (79, vs 1), (80, vs 2), (81, vs 3), (82, vs 4), (83, vs 5), (84, vs 6), (85, vs 7), (86, vs 8), (87, vs 9), (88, vs 10), (77, vs 11), (89, vs 12), (90, vs 13)]) rfl ?_; refine Z12 (H := [(some h9, .cells #[(Z8b (vs 12) 0), (Z8b (vs 12) 1), (Z8b (vs 12) 2)] 77 (0, 0)), (some b1, .cells #[.int .i64 n0.N, .int .i64 n0.S, .int .i64 n0.T, .slice b5 a9 b0] 24 (0, 0)), (some b3, .cells #[.int .i64 0, .int .i64 0, .int .i64 0, .slice none 0 0] 24 (0, 0)), (some k5, .cells #[.int .i64 r5.N, .int .i64 r5.S, .int .i64 r5.T, .slice (sb g8) n9 n6, .slice (sb c3) n7 n8, .slice (sb c4) o0 o1, .slice (sb c7) o2 c22, .slice (sb c8) o4 c26, .slice (sb c9) n29 o6] 64 (0, 0)), (g8, .cells (arr (intC .i64) r5.First j8).toArray 3 (0, 0)), (c3, .cells (arr (intC .i64) r5.Head j9).toArray 3 (0, 0)), (c4, .cells (arr (intC .i64) r5.Rev k1).toArray 3 (0, 0)), (c7, .cells (arr (intC .i64) r5.Cap k2).toArray 2 (0, 0)), (c8, .cells (arr (intC .i64) r5.Arc k3).toArray 3 (0, 0)), (c9, .cells (arr boolC r5.Back k4).toArray 4 (0, 0)), (a4, .cells (arr (intC .i64) a7 d8).toArray 2 (0, 0)), (a5, .cells (arr (intC .i64) a8 d9).toArray 2 (0, 0)), (a6, .cells (arr (intC .i64) d4 e0).toArray 3 (0, 0)), (e2, .cells (arr (intC .i64) e9 h4).toArray 3 (0, 0)), (e3, .cells (arr (intC .i64) f0 h5).toArray 3 (0, 0)), (d0, .cells (arr (intC .i64) e1.Res h6).toArray 2 (0, 0)), (d1, .cells (arr (intC .i64) e1.Ex h7).toArray 2 (0, 0)), (d2, .cells (arr (intC .i64) e1.H h8).toArray 3 (0, 0))]) (by show _ ++ (_ ++ (es 0 ++ (es 1 ++ (es 2 ++ (es 3 ++ (es 4 ++ (es 5 ++ (es 6 ++ (es 7 ++ (es 8 ++ (es 9 ++ (es 10 ++ (es 11 ++ (es 12 ++ (es 13 ++ (es 14 ++ ([]))))))))))))))))) = _; rw [A2, x8, y0, z7, z9, z8, A0, y2, A1, A3, d5, e4, l0, x4, x5]; rfl) ?_; rw [w8, w9, q6, w3, w5, w4, w6, q7, w7, x2, b6, d6, h3, x3]; refine Z12 (H := [(some h9, .cells #[.slice (sb d0) f9 g0, .slice (sb d1) g1 g2, .slice (sb d2) g3 g4] 77 (0, 0)), (some b1, .cells #[.int .i64 n0.N, .int .i64 n0.S, .int .i64 n0.T, .slice b5 a9 b0] 24 (0, 0)), (some b3, .cells #[.int .i64 0, .int .i64 0, .int .i64 0, .slice none 0 0] 24 (0, 0)), (some k5, .cells #[.int .i64 r5.N, .int .i64 r5.S, .int .i64 r5.T, .slice (sb g8) n9 n6, .slice (sb c3) n7 n8, .slice (sb c4) o0 o1, .slice (sb c7) o2 c22, .slice (sb c8) o4 c26, .slice (sb c9) n29 o6] 64 (0, 0)), (g8, .cells (arr (intC .i64) r5.First j8).toArray 3 (0, 0)), (c3, .cells (arr (intC .i64) r5.Head j9).toArray 3 (0, 0)), (c4, .cells (arr (intC .i64) r5.Rev k1).toArray 3 (0, 0)), (c7, .cells (arr (intC .i64) r5.Cap k2).toArray 2 (0, 0)), (c8, .cells (arr (intC .i64) r5.Arc k3).toArray 3 (0, 0)), (c9, .cells (arr boolC r5.Back k4).toArray 4 (0, 0)), (a4, .cells (arr (intC .i64) a7 d8).toArray 2 (0, 0)), (a5, .cells (arr (intC .i64) a8 d9).toArray 2 (0, 0)), (a6, .cells (arr (intC .i64) d4 e0).toArray 3 (0, 0)), (e2, .cells (arr (intC .i64) e9 h4).toArray 3 (0, 0)), (e3, .cells (arr (intC .i64) f0 h5).toArray 3 (0, 0)), (d0, .cells (arr (intC .i64) e1.Res h6).toArray 2 (0, 0)), (d1, .cells (arr (intC .i64) e1.Ex h7).toArray 2 (0, 0)), (d2, .cells (arr (intC .i64) e1.H h8).toArray 3 (0, 0))]) rfl ?_; clear x3 h3 d6 b6 x2 w7 q7 w6 w4 w5 w3 q6 w9 w8 g7 o7 A2 x8 y0 z7 z9 z8 A0 y2 A1 A3 d5 e4 l0 x4 x5; refine Z06 rr4 ?_; refine Z03 ?_; refine Z0f ?_; exact Zi7 t4 e1.Res f9 g0 d0 h6 e1.Ex g1 g2 d1 h7 e1.H g3 g4 d2 h8 ⟨H, l1, l3, l4, l5, l6, l7, l8, l9, m0, m1, m2, m3⟩ (Z00 rfl (Z00 rfl (Z00 rfl (Z00 rfl (Z00 rfl (Z00 rfl (Z00 rfl (Z00 rfl Z09)))))))) (Z02 tk1 (Z02 tk1 (Z02 tk1 (Z02 tk1 (Z02 tk1 (Z02 tk1 (Z02 tk1 (Z02 tk1 (Z02 tk1 (Z02 tk0 (Z02 tk5 (Z02 tk5 (Z02 tk5 Z08)))))))))))))
       · refine Z14 rfl A4 ?_; refine T.skip ?_; refine Z0f ?_; exact Zi7 x7 a7 j7 e5 a4 d8 a8 e6 c110 a5 d9 d4 e8 c120 a6 e0 ⟨H, o8, o9, y3, p2, p3, p4, y4, p5, p6, p7, y5, p8⟩ (Z00 rfl (Z00 rfl (Z00 rfl (Z00 rfl (Z00 rfl (Z00 rfl (Z00 rfl (Z00 rfl Z09)))))))) (Z02 tk0 (Z02 tk0 (Z02 tk0 (Z02 tk0 (Z02 tk0 (Z02 tk0 (Z02 tk0 (Z02 tk0 (Z02 tk0 (Z02 tk0 (Z02 tk0 (Z02 tk0 (Z02 tk0 Z08)))))))))))))
    ·
     rintro s9 i4 q0 q1 k6 t0 k7 q2 q3 k8 t1 r9 q4 q5 k9 t2 ⟨H, B3, B4, B5, B6, B7, B8, B9, C0, C1, C2, C3, C4⟩; unfold Z2f at H; refine Z0b ?_; refine Z04 (ll := [0, 1]) rfl ?_; refine Z05 rr4 ?_; refine Z0t rr6 ?_; refine Z03 ?_; refine Z01 ?_; rcases Z0j H with ⟨A5, H⟩ | ⟨A5, H⟩
     · refine Z13 rfl A5 ?_; refine Z0b ?_; refine Z04 (ll := [0, 1, 2, 3]) rfl ?_; refine Z0u rr4 Z11 mm0 rfl ?_; refine Z1f rr4 tk1 Z9j rr3 ?_; refine Z06 rr4 ?_; refine Z06 rr4 ?_; refine Z03 ?_; refine Z01 ?_; refine Z0p (Z00 (t := 4) rfl (Z00 (t := 5) rfl (Z00 (t := 6) rfl Z09))) ?_; refine T.ret ?_; refine Z0r ?_; refine Z0k ?_; have H := Z0w H F4 ▸ H1; refine Z0k ?_; refine Z0r ?_; refine Z0k ?_; obtain ⟨rfl, rfl, rfl⟩ := ret3 H; exact Zdz rr4 (Z4k rfl Z11 mm0 rfl) (Res.tmp rfl) (Res.tmp rfl) (Pick.none Z08) ⟨none, 0, 0, ([]), rfl, rfl, rfl, (Nat.le_refl _), (Z38 0 _), (fun _ => rfl)⟩
     · refine Z14 rfl A5 ?_; refine T.skip ?_; refine Z0f ?_; refine Z01 ?_; obtain ⟨G5, H⟩ := Z0c H; refine Z04 (ll := [0, 1]) rfl ?_; refine Z19 G5 rr5 ?_; refine Z05 rr4 ?_; refine Z03 ?_; have H := Z15 H F4; exact Zlj J8 s9 i4 q0 q1 k6 t0 k7 q2 q3 k8 t1 r9 q4 q5 k9 t2 (i2 + 1) ⟨H, B3, B4, B5, B6, B7, B8, B9, C0, C1, C2, C3, C4⟩ (Nat.lt_succ_self _) (Z00 rfl (Z00 rfl (Z00 rfl (Z00 rfl (Z00 rfl (Z00 rfl (Z00 rfl (Z00 rfl Z09)))))))) (Z02 tk0 (Z02 tk0 (Z02 tk0 (Z02 tk0 (Z02 tk0 (Z02 tk0 (Z02 tk0 (Z02 tk0 (Z02 tk0 (Z02 tk0 (Z02 tk0 (Z02 tk0 (Z02 tk0 Z08)))))))))))))
   · refine Z14 rfl z1 ?_; refine T.exit ?_; refine Z0n ?_; have H := Z0w H F4 ▸ H1; refine Z0n ?_; refine Z0x ?_; exact X.metE15 a7 j7 e5 a4 d8 a8 e6 c110 a5 d9 d4 e8 c120 a6 e0 ⟨H, o8, o9, y3, p2, p3, p4, y4, p5, p6, p7, y5, p8⟩ (Z00 rfl (Z00 rfl (Z00 rfl (Z00 rfl Z09)))) (Z02 tk0 (Z02 tk0 (Z02 tk0 (Z02 tk0 (Z02 tk0 (Z02 tk0 (Z02 tk0 (Z02 tk0 (Z02 tk0 (Z02 tk0 (Z02 tk0 (Z02 tk0 (Z02 tk0 Z08)))))))))))))
  · rintro h2 q8 q9 m5 s7 m6 r3 r4 m7 w0 s8 r7 r8 m8 w1 ⟨H, C5, C6, H4, C7, H5, H6, H7, H8, H9, I0, I1, I2⟩; unfold Z4n at H; refine Z0b ?_; obtain ⟨⟨J9, K0⟩, G6, H⟩ := Z0m H; refine Z04 (ll := [0, 1, 2, 3, 4, 5, 6, 7, 8, 9, 10, 11]) rfl ?_; refine Z0u rr4 Z1q mm2 rfl ?_; refine Z0a rr4 Z6a ?_; refine Z0e rr4 Z2e mm9 rfl ?_; refine Z0a rr4 Z21 ?_; refine Z0e rr4 Z3c mm0 rfl ?_; refine Z1i (xs := n0.Arcs) x6.len rr5 Z1n ?_; refine Z0o Zns rr4 (fun wc hwc => Zl6 (c0 := r5) (res1 := h2) (arcs2 := (n0.Arcs.length : Int)) wc (hwc.rs (f := (intC .i64)) (s := 1) (xs := r5.First) (j := j8) (fun _ => rfl) mm3 t5 t6 t7) (hwc.rs (f := (intC .i64)) (s := 1) (xs := r5.Head) (j := j9) (fun _ => rfl) mm4 t8 t9 u3) (hwc.rs (f := (intC .i64)) (s := 1) (xs := r5.Rev) (j := k1) (fun _ => rfl) mm5 u5 u6 u7) (hwc.rs (f := (intC .i64)) (s := 1) (xs := r5.Cap) (j := k2) (fun _ => rfl) mm6 u9 v2 v3) (hwc.rs (f := (intC .i64)) (s := 1) (xs := r5.Arc) (j := k3) (fun _ => rfl) mm7 v4 v5 v6) (hwc.rs (f := boolC) (s := 1) (xs := r5.Back) (j := k4) (fun _ => rfl) mm8 v7 v8 v9) (hwc.rs (f := (intC .i64)) (s := 1) (xs := h2) (j := s7) (fun _ => rfl) mm10 C5 C6 C7) G6) ?_; rintro _ _ ⟨C8, G7, G8, G9, rfl, rfl, C9, D0, D1, D2⟩; refine Z05 rr4 ?_; refine TO.extract rr5 ?_; refine TO.extract rr5 ?_; refine Z06 rr4 ?_; refine Z06 rr4 ?_; refine Z03 ?_; refine Z01 ?_; refine Z0p (Z00 (t := 2) rfl (Z00 (t := 4) rfl (Z00 (t := 15) rfl (Z00 (t := 8) rfl Z09)))) ?_; refine Z0b ?_; refine Z04 (ll := [0, 1, 2, 3, 4, 5, 6]) rfl ?_; refine Z0u rr4 Z11 mm1 rfl ?_; refine Z05 rr4 ?_; refine Z05 rr4 ?_; refine Z0t rr6 ?_; refine Z1f rr4 tk2 Z9j rr3 ?_; refine Z06 rr4 ?_; refine Z06 rr4 ?_; refine Z03 ?_; refine Z01 ?_; refine T.ret ?_; obtain ⟨rfl, rfl, rfl⟩ := ret3 H; exact Zdz rr4 (Z4k rfl Z11 mm0 rfl) (Res.tmp rfl) (Res.tmp rfl) (Z02 tk1 Z08) ⟨C8, G7, G8, G9, rfl, rfl, C9, D0, D1, D2⟩
theorem Zdg {n0 : Net} {moves1 : List Int} {a9 a4 : Option Addr} {a7 a8 a6 a5 : Nat} (w : World) (b7 : RS w [] Z73 3 a9 a7 a8 n0.Arcs) (b0 : RS w [] (intC .u8) 1 a4 a6 a5 moves1) {r0 : Net} {r1 : List Int} {r2 : Bool} (H : Z4w n0 moves1 = some (r0, r1, r2)) : Fnc Try.prog 39 #[.agg #[.int .i64 n0.N, .int .i64 n0.S, .int .i64 n0.T, .slice a9 a7 a8], .slice a4 a6 a5] w [] (fun v N => ∃ (b5 : Option Nat) (c4 c7 : Nat) (d8 : List Value) (b6 : Option Nat) (c8 d0 : Nat) (d9 : List Value), v = .tuple #[.agg #[.int .i64 r0.N, .int .i64 r0.S, .int .i64 r0.T, .slice (sb b5) c4 c7], .slice (sb b6) c8 d0, .bool r2] ∧ N = [(b5, .cells (arr Z73 r0.Arcs d8).toArray 35 (0, 0)), (b6, .cells (arr (intC .i64) r1 d9).toArray 2 (0, 0))] ∧ r0.Arcs.length = c4 ∧ c4 ≤ c7 ∧ d8.length = (c7 - c4) * 3 ∧ (b5 = none → c7 = 0) ∧ r1.length = c8 ∧ c8 ≤ d0 ∧ d9.length = (d0 - c8) * 1 ∧ (b6 = none → d0 = 0)) := by
 unfold Z4w at H; refine Fnc.enter (vs := [.agg #[.int .i64 n0.N, .int .i64 n0.S, .int .i64 n0.T, .slice a9 a7 a8], .slice a4 a6 a5]) Try.func39 rfl rfl (Inv.refl w) ?_; refine Z0b ?_; refine Z04 (ll := [0, 1, 2, 3]) rfl ?_; refine Z1h rr4 ?_; intro b1; refine Z1r rr3 Zcj ?_; intro b3; refine Z06 rr4 ?_; refine Z06 rr4 ?_; refine Z03 ?_; refine Z01 ?_; refine Z0b ?_; obtain ⟨r5, e6, H⟩ := Z0m H; obtain ⟨⟨e5, e7, e8⟩, e1, H⟩ := Z0m H; refine Z04 (ll := [0, 1, 2, 3, 4, 5, 6, 7, 8, 9]) rfl ?_; refine Z0u rr4 Z11 mm1 rfl ?_; refine Z0o Znv rr4 (fun wc hwc => Zeb (n0 := n0) (verts1 := 12) (arcs2 := 30) wc (b7.mono hwc) e6) ?_; rintro _ _ ⟨e2, n8, c9, e0, rfl, rfl, b8, b9, d1, c3⟩; refine Z05 rr4 ?_; refine Z0o Znr rr4 (fun wc hwc => Zd4 (n0 := r5) (moves1 := moves1) wc (hwc.rs (f := Z73) (s := 3) (xs := r5.Arcs) (j := e0) (fun _ => rfl) mm0 b8 b9 c3) (b0.mono hwc) e1) ?_; rintro _ _ ⟨d2, e3, c22, e4, rfl, rfl, d4, d5, d6, d7⟩; refine TO.extract rr5 ?_; refine TO.extract rr5 ?_; refine TO.extract rr5 ?_; refine Z1f rr4 tk2 Z9j rr3 ?_; refine Z06 rr4 ?_; refine Z06 rr4 ?_; refine Z03 ?_; refine Z01 ?_; refine Z0p (Z00 (t := 4) rfl (Z00 (t := 5) rfl (Z00 (t := 6) rfl Z09))) ?_; refine T.ret ?_; obtain ⟨rfl, rfl, rfl⟩ := ret3 H; exact Zdz rr4 (Z4k rfl Z11 mm0 rfl) (Res.tmp rfl) (Res.tmp rfl) (Z02 tk2 (Z02 tk1 Z08)) ⟨e2, n8, c9, e0, d2, e3, c22, e4, rfl, rfl, b8, b9, d1, c3, d4, d5, d6, d7⟩
end Go.Proofs.Ytfdhelnfgfaeaaa.Ax
namespace Go.Proofs.Ytfdhelnfgfaeaaa.Ax
open Go Go.Acq Go.RowKit Go.Proofs
set_option linter.unusedVariables false
set_option linter.unusedSimpArgs false
set_option maxHeartbeats 8000000
set_option maxRecDepth 20000
theorem Zez : Z0v Try.prog 22 = true := by kernel_rfl
theorem Zey : Z0v Try.prog 38 = true := by kernel_rfl
theorem Zex : Z0v Try.prog 39 = true := by kernel_rfl
theorem Zew : Z0v Try.prog 41 = true := by kernel_rfl
theorem w_acequialaw23_BackFlow {n0 : Net} {moves1 : List Int} {d4 a6 : Option Addr} {d5 d2 a8 a7 : Nat} (w : World) (f8 : RS w [] Z73 3 d4 d5 d2 n0.Arcs) (d6 : RS w [] (intC .u8) 1 a6 a8 a7 moves1) {r0 : Bool} (H : Z4o n0 moves1 = some r0) : Fnc Try.prog 13 #[.agg #[.int .i64 n0.N, .int .i64 n0.S, .int .i64 n0.T, .slice d4 d5 d2], .slice a6 a8 a7] w [] (fun v N => v = .bool r0 ∧ N = []) := by
 unfold Z4o at H; refine Fnc.enter (vs := [.agg #[.int .i64 n0.N, .int .i64 n0.S, .int .i64 n0.T, .slice d4 d5 d2], .slice a6 a8 a7]) Try.func13 rfl rfl (Inv.refl w) ?_; refine Z0b ?_; refine Z04 (ll := [0, 1]) rfl ?_; refine Z1h rr4 ?_; intro b1; refine Z06 rr4 ?_; refine Z03 ?_; refine Z01 ?_; refine Z0b ?_; obtain ⟨⟨r3, r4, r5⟩, e6, H⟩ := Z0m H; refine Z04 (ll := [0, 1, 2, 3, 4, 5, 6, 7, 8, 9]) rfl ?_; refine Z0u rr4 Z11 mm0 rfl ?_; refine Z05 rr4 ?_; refine Z0o Zex rr4 (fun wc hwc => Zdg (n0 := n0) (moves1 := moves1) wc (f8.mono hwc) (d6.mono hwc) e6) ?_; rintro _ _ ⟨h4, n8, c9, d9, c7, f9, g0, g2, rfl, rfl, c8, d0, l1, d1, b9, c3, l3, c4⟩; refine Z05 rr4 ?_; refine TO.extract rr5 ?_; refine TO.extract rr5 ?_; refine TO.extract rr5 ?_; refine Z1f rr4 tk2 Z9j rr3 ?_; refine Z06 rr4 ?_; refine Z06 rr4 ?_; refine Z03 ?_; refine Z01 ?_; refine Z0p (Z00 (t := 2) rfl (Z00 (t := 5) rfl (Z00 (t := 6) rfl Z09))) ?_; refine Z0b ?_; refine Z0b ?_; rcases Z0j H with ⟨h8, H⟩ | ⟨h8, H⟩
 · refine Z04 (ll := [0, 1, 2, 3, 4, 5, 6, 7]) rfl ?_; refine Z05 rr4 ?_; refine TO.not rr4 ?_; refine Z05 rr4 ?_; refine Z0y (t := 27) (b' := true) rfl h8 ?_; refine Z0g rr4 ?_; refine Z0g rr4 ?_; refine Z0g rr4 ?_; refine Z0g rr4 ?_; refine Z1a rr5 ?_; refine Z03 ?_; refine Z01 ?_; refine Z0p (Z00 (t := 2) rfl (Z00 (t := 5) rfl (Z00 (t := 32) rfl Z09))) ?_; refine Z1j rfl rfl ?_; refine Z0b ?_; refine Z04 (ll := [0]) rfl ?_; refine Z06 rr4 ?_; refine Z03 ?_; refine Z01 ?_; refine T.ret ?_; refine Z0k ?_; obtain rfl := ret1 H; exact Z16 rr4 (Res.tmp rfl) Z08 ⟨rfl, rfl⟩
 ·
  obtain ⟨o2, l4, H⟩ := Z0m H; refine Z04 (ll := [0, 1, 2, 3, 4, 5, 6, 7]) rfl ?_; refine Z05 rr4 ?_; refine TO.not rr4 ?_; refine Z05 rr4 ?_; refine Z0y (t := 27) (b' := false) rfl (Bool.eq_false_iff.2 h8) ?_; refine Z0u rr4 Z11 mm0 rfl ?_; refine Z05 rr4 ?_; refine Z0o Zg6 rr4 (fun wc hwc => Zea (n0 := r3) (f1 := r4) wc (hwc.rs (f := Z73) (s := 3) (xs := r3.Arcs) (j := d9) (fun _ => rfl) mm1 c8 d0 d1) (hwc.rs (f := (intC .i64)) (s := 1) (xs := r4) (j := g2) (fun _ => rfl) mm2 b9 c3 c4) l4) ?_; rintro _ _ ⟨rfl, rfl⟩; refine TO.not rr4 ?_; refine Z1c rr5 ?_; refine Z03 ?_; refine Z01 ?_; refine Z0p (Z00 (t := 2) rfl (Z00 (t := 5) rfl (Z00 (t := 32) rfl Z09))) ?_; rcases Z0j H with ⟨h9, H⟩ | ⟨h9, H⟩
  · refine Z1j rfl h9 ?_; refine Z0b ?_; refine Z04 (ll := [0]) rfl ?_; refine Z06 rr4 ?_; refine Z03 ?_; refine Z01 ?_; refine T.ret ?_; refine Z0k ?_; obtain rfl := ret1 H; exact Z16 rr4 (Res.tmp rfl) Z08 ⟨rfl, rfl⟩
  ·
   refine Z1s rfl (Bool.eq_false_iff.2 h9) ?_; refine T.skip ?_; refine Z01 ?_; refine Z0b ?_; obtain ⟨⟨b7, o4⟩, l5, H⟩ := Z0m H; refine Z04 (ll := [0, 1, 2, 3, 4, 5, 6, 7]) rfl ?_; refine Z0u rr4 Z11 mm0 rfl ?_; refine Z05 rr4 ?_; refine Z0o Zjg rr4 (fun wc hwc => Zfb (n0 := r3) (f1 := r4) wc (hwc.rs (f := Z73) (s := 3) (xs := r3.Arcs) (j := d9) (fun _ => rfl) mm1 c8 d0 d1) (hwc.rs (f := (intC .i64)) (s := 1) (xs := r4) (j := g2) (fun _ => rfl) mm2 b9 c3 c4) l5) ?_; rintro _ _ ⟨b0, f2, f3, g3, rfl, rfl, a9, b5, l6, b6⟩; refine Z05 rr4 ?_; refine TO.extract rr5 ?_; refine TO.extract rr5 ?_; refine Z06 rr4 ?_; refine Z06 rr4 ?_; refine Z03 ?_; refine Z01 ?_; refine Z0b ?_; obtain ⟨⟨b8, l7⟩, l8, H⟩ := Z0m H; refine Z04 (ll := [0, 1, 2, 3, 4, 5, 6, 7]) rfl ?_; refine Z0u rr4 Z11 mm1 rfl ?_; refine Z05 rr4 ?_; refine Z0o Zjf rr4 (fun wc hwc => Zfa (n0 := r3) (f1 := r4) wc (hwc.rs (f := Z73) (s := 3) (xs := r3.Arcs) (j := d9) (fun _ => rfl) mm2 c8 d0 d1) (hwc.rs (f := (intC .i64)) (s := 1) (xs := r4) (j := g2) (fun _ => rfl) mm3 b9 c3 c4) l8) ?_; rintro _ _ ⟨rfl, rfl⟩; refine Z05 rr4 ?_; refine TO.extract rr5 ?_; refine TO.extract rr5 ?_; refine Z06 rr4 ?_; refine Z06 rr4 ?_; refine Z03 ?_; refine Z01 ?_; refine Z0p (Z00 (t := 2) rfl (Z00 (t := 5) rfl (Z00 (t := 7) rfl (Z00 (t := 8) rfl (Z00 (t := 9) rfl (Z00 (t := 10) rfl Z09)))))) ?_; refine Z0b ?_; obtain ⟨⟨d7, i2⟩, l9, H⟩ := Z0m H; refine Z04 (ll := [0, 1, 2, 3, 4, 5, 6, 7]) rfl ?_; refine Z0u rr4 Z11 mm1 rfl ?_; refine Z05 rr4 ?_; refine Z0o Zae rr4 (fun wc hwc => Z78 (n0 := r3) (f1 := r4) wc (hwc.rs (f := Z73) (s := 3) (xs := r3.Arcs) (j := d9) (fun _ => rfl) mm2 c8 d0 d1) (hwc.rs (f := (intC .i64)) (s := 1) (xs := r4) (j := g2) (fun _ => rfl) mm3 b9 c3 c4) l9) ?_; rintro _ _ ⟨a4, e0, c49, j8, rfl, rfl, e1, e2, m0, e3⟩; refine Z05 rr4 ?_; refine TO.extract rr5 ?_; refine TO.extract rr5 ?_; refine Z06 rr4 ?_; refine Z06 rr4 ?_; refine Z03 ?_; refine Z01 ?_; refine Z0b ?_; obtain ⟨⟨d8, g4⟩, m1, H⟩ := Z0m H; refine Z04 (ll := [0, 1, 2, 3, 4, 5, 6, 7]) rfl ?_; refine Z0u rr4 Z11 mm2 rfl ?_; refine Z05 rr4 ?_; refine Z0o Zae rr4 (fun wc hwc => Z78 (n0 := r3) (f1 := b7) wc (hwc.rs (f := Z73) (s := 3) (xs := r3.Arcs) (j := d9) (fun _ => rfl) mm3 c8 d0 d1) (hwc.rs (f := (intC .i64)) (s := 1) (xs := b7) (j := g3) (fun _ => rfl) mm1 a9 b5 b6) m1) ?_; rintro _ _ ⟨a5, e4, e5, j9, rfl, rfl, e7, e8, m2, e9⟩; refine Z05 rr4 ?_; refine TO.extract rr5 ?_; refine TO.extract rr5 ?_; refine Z06 rr4 ?_; refine Z06 rr4 ?_; refine Z03 ?_; refine Z01 ?_; refine Z0p (Z00 (t := 2) rfl (Z00 (t := 5) rfl (Z00 (t := 7) rfl (Z00 (t := 8) rfl (Z00 (t := 9) rfl (Z00 (t := 10) rfl (Z00 (t := 11) rfl (Z00 (t := 12) rfl (Z00 (t := 13) rfl (Z00 (t := 14) rfl Z09)))))))))) ?_; refine Z0b ?_; refine Z0b ?_; refine Z04 (ll := [0, 1, 2, 3, 4, 5, 6, 7, 8, 9, 10, 11, 12, 13, 14, 15, 16, 17, 18, 19, 20, 21, 22, 23]) rfl ?_; refine Z05 rr4 ?_; refine Z0t rr6 ?_; refine Z05 rr4 ?_; refine TO.join [3, 4, 5] [6, 7, 8, 9, 10, 11, 12, 13, 14, 15, 16, 17, 18, 19, 20, 21, 22, 23] rfl 62 (fun k1 => Z35 r3 r4 b7 b8 d7 i2 d8 g4 k1 = some r0) [(2, .pointer (some ⟨b1, 0, none⟩)), (5, .slice (sb c7) f9 g0), (7, .slice (sb b0) f2 f3), (9, .int .i64 b8), (11, .slice (sb a4) e0 c49), (12, .int .i64 i2), (13, .slice (sb a5) e4 e5), (14, .int .i64 g4)] ?_ ?_
   ·
    rcases Z0j H with ⟨i4, H⟩ | ⟨i4, H⟩
    · refine Z0y (t := 59) (b' := true) rfl (decide_eq_true i4) ?_; refine Z0g rr4 ?_; refine Z0g rr4 ?_; refine Z1a rr5 ?_; refine Z03 ?_; exact Zmj (b := true) H (Z00 rfl (Z00 rfl (Z00 rfl (Z00 rfl (Z00 rfl (Z00 rfl (Z00 rfl (Z00 rfl (Z00 rfl Z09)))))))))
    · refine Z0y (t := 59) (b' := false) rfl (decide_eq_false i4) ?_; refine Z05 rr4 ?_; refine Z0t rr6 ?_; refine Z1c rr5 ?_; refine Z03 ?_; exact Zmj (b := (decide (l7 ≠ 0))) H (Z00 rfl (Z00 rfl (Z00 rfl (Z00 rfl (Z00 rfl (Z00 rfl (Z00 rfl (Z00 rfl (Z00 rfl Z09)))))))))
   ·
    rintro k1 H; unfold Z35 at H; refine Z05 rr4 ?_; refine TO.join [7, 8, 9] [10, 11, 12, 13, 14, 15, 16, 17, 18, 19, 20, 21, 22, 23] rfl 66 (fun k2 => Z34 r3 r4 b7 b8 d7 d8 g4 k2 = some r0) [(2, .pointer (some ⟨b1, 0, none⟩)), (5, .slice (sb c7) f9 g0), (7, .slice (sb b0) f2 f3), (9, .int .i64 b8), (11, .slice (sb a4) e0 c49), (13, .slice (sb a5) e4 e5), (14, .int .i64 g4)] ?_ ?_
    ·
     rcases Z0j H with ⟨i5, H⟩ | ⟨i5, H⟩
     · refine Z0y (t := 63) (b' := true) rfl i5 ?_; refine Z0g rr4 ?_; refine Z0g rr4 ?_; refine Z1a rr5 ?_; refine Z03 ?_; exact Zmj (b := true) H (Z00 rfl (Z00 rfl (Z00 rfl (Z00 rfl (Z00 rfl (Z00 rfl (Z00 rfl (Z00 rfl Z09))))))))
     · refine Z0y (t := 63) (b' := false) rfl (Bool.eq_false_iff.2 i5) ?_; refine Z05 rr4 ?_; refine Z0t rr6 ?_; refine Z1c rr5 ?_; refine Z03 ?_; exact Zmj (b := (decide (i2 ≠ 0))) H (Z00 rfl (Z00 rfl (Z00 rfl (Z00 rfl (Z00 rfl (Z00 rfl (Z00 rfl (Z00 rfl Z09))))))))
    ·
     rintro k2 H; unfold Z34 at H; refine Z05 rr4 ?_; refine TO.join [11, 12, 13] [14, 15, 16, 17, 18, 19, 20, 21, 22, 23] rfl 70 (fun k3 => Z33 r3 r4 b7 b8 d7 d8 k3 = some r0) [(2, .pointer (some ⟨b1, 0, none⟩)), (5, .slice (sb c7) f9 g0), (7, .slice (sb b0) f2 f3), (9, .int .i64 b8), (11, .slice (sb a4) e0 c49), (13, .slice (sb a5) e4 e5)] ?_ ?_
     ·
      rcases Z0j H with ⟨i6, H⟩ | ⟨i6, H⟩
      · refine Z0y (t := 67) (b' := true) rfl i6 ?_; refine Z0g rr4 ?_; refine Z0g rr4 ?_; refine Z1a rr5 ?_; refine Z03 ?_; exact Zmj (b := true) H (Z00 rfl (Z00 rfl (Z00 rfl (Z00 rfl (Z00 rfl (Z00 rfl (Z00 rfl Z09)))))))
      · refine Z0y (t := 67) (b' := false) rfl (Bool.eq_false_iff.2 i6) ?_; refine Z05 rr4 ?_; refine Z0t rr6 ?_; refine Z1c rr5 ?_; refine Z03 ?_; exact Zmj (b := (decide (g4 ≠ 0))) H (Z00 rfl (Z00 rfl (Z00 rfl (Z00 rfl (Z00 rfl (Z00 rfl (Z00 rfl Z09)))))))
     ·
      rintro k3 H; unfold Z33 at H; refine Z05 rr4 ?_; refine TO.join [15, 16, 17, 18, 19] [20, 21, 22, 23] rfl 76 (fun k4 => Z32 r3 r4 b7 b8 d7 d8 k4 = some r0) [(2, .pointer (some ⟨b1, 0, none⟩)), (5, .slice (sb c7) f9 g0), (7, .slice (sb b0) f2 f3), (9, .int .i64 b8), (11, .slice (sb a4) e0 c49), (13, .slice (sb a5) e4 e5)] ?_ ?_
      ·
       rcases Z0j H with ⟨i7, H⟩ | ⟨i7, H⟩
       · refine Z0y (t := 71) (b' := true) rfl i7 ?_; refine Z0g rr4 ?_; refine Z0g rr4 ?_; refine Z0g rr4 ?_; refine Z0g rr4 ?_; refine Z1a rr5 ?_; refine Z03 ?_; exact Zmj (b := true) H (Z00 rfl (Z00 rfl (Z00 rfl (Z00 rfl (Z00 rfl (Z00 rfl (Z00 rfl Z09)))))))
       · obtain ⟨m3, m4, H⟩ := Z0m H; refine Z0y (t := 71) (b' := false) rfl (Bool.eq_false_iff.2 i7) ?_; refine Z0u rr4 Z11 mm3 rfl ?_; refine Z05 rr4 ?_; refine Z0o Zew rr4 (fun wc hwc => Zih (n0 := r3) (f1 := b7) wc (hwc.rs (f := Z73) (s := 3) (xs := r3.Arcs) (j := d9) (fun _ => rfl) mm4 c8 d0 d1) (hwc.rs (f := (intC .i64)) (s := 1) (xs := b7) (j := g3) (fun _ => rfl) mm2 a9 b5 b6) m4) ?_; rintro _ _ ⟨rfl, rfl⟩; refine TO.not rr4 ?_; refine Z1c rr5 ?_; refine Z03 ?_; exact Zmj (b := (!m3)) H (Z00 rfl (Z00 rfl (Z00 rfl (Z00 rfl (Z00 rfl (Z00 rfl (Z00 rfl Z09)))))))
      ·
       rintro k4 H; unfold Z32 at H; refine Z05 rr4 ?_; refine TO.join [21, 22, 23] [] rfl 80 (fun k5 => Z31 r3 r4 b7 b8 d7 d8 k5 = some r0) [(2, .pointer (some ⟨b1, 0, none⟩)), (5, .slice (sb c7) f9 g0), (7, .slice (sb b0) f2 f3), (9, .int .i64 b8), (11, .slice (sb a4) e0 c49), (13, .slice (sb a5) e4 e5)] ?_ ?_
       ·
        rcases Z0j H with ⟨i8, H⟩ | ⟨i8, H⟩
        · refine Z0y (t := 77) (b' := true) rfl i8 ?_; refine Z0g rr4 ?_; refine Z0g rr4 ?_; refine Z1a rr5 ?_; refine Z03 ?_; exact Zmj (b := true) H (Z00 rfl (Z00 rfl (Z00 rfl (Z00 rfl (Z00 rfl (Z00 rfl (Z00 rfl Z09)))))))
        · refine Z0y (t := 77) (b' := false) rfl (Bool.eq_false_iff.2 i8) ?_; refine Z05 rr4 ?_; refine Z0t rr6 ?_; refine Z1c rr5 ?_; refine Z03 ?_; exact Zmj (b := (decide (b8 < 0))) H (Z00 rfl (Z00 rfl (Z00 rfl (Z00 rfl (Z00 rfl (Z00 rfl (Z00 rfl Z09)))))))
       ·
        rintro k5 H; unfold Z31 at H; refine Z03 ?_; refine Z01 ?_; rcases Z0j H with ⟨i9, H⟩ | ⟨i9, H⟩
        · refine Z1j rfl i9 ?_; refine Z0b ?_; refine Z04 (ll := [0]) rfl ?_; refine Z06 rr4 ?_; refine Z03 ?_; refine Z01 ?_; refine T.ret ?_; refine Z0k ?_; obtain rfl := ret1 H; exact Z16 rr4 (Res.tmp rfl) Z08 ⟨rfl, rfl⟩
        ·
         refine Z1s rfl (Bool.eq_false_iff.2 i9) ?_; refine T.skip ?_; refine Z01 ?_; refine Z0b ?_; refine Z0b ?_; refine Z04 (ll := [0, 1, 2]) rfl ?_; refine Z05 rr4 ?_; refine Z1i (xs := b7) a9 rr5 Z0s ?_; refine Z05 rr4 ?_; refine Z03 ?_; refine Z01 ?_; refine Z1m (fun (j0 : Unit) => Z3y r3 b7 b8 d7 d8 = some r0) (fun (j0 : Unit) => [(2, .pointer (some ⟨b1, 0, none⟩)), (7, .slice (sb b0) f2 f3), (9, .int .i64 b8), (11, .slice (sb a4) e0 c49), (13, .slice (sb a5) e4 e5)]) (fun (j0 : Unit) => [(some b1, .cells #[.int .i64 r3.N, .int .i64 r3.S, .int .i64 r3.T, .slice (sb h4) n8 c9] 24 (0, 0)), (h4, .cells (arr Z73 r3.Arcs d9).toArray 35 (0, 0)), (b0, .cells (arr (intC .i64) b7 g3).toArray 2 (0, 0)), (a4, .cells (arr (intC .i64) d7 j8).toArray 2 (0, 0)), (a5, .cells (arr (intC .i64) d8 j9).toArray 2 (0, 0))]) ?_ ?_
         ·
          refine T.block ?_; obtain ⟨m5, m6, j1⟩ := Z0m H; refine Z8t (fun (g1 : Nat) (f0 : Int) => Z1t (fun s => Z2y r4 b7 s) g1 f0 = some m5) (fun (g1 : Nat) (f0 : Int) => [(2, .pointer (some ⟨b1, 0, none⟩)), (5, .slice (sb c7) f9 g0), (7, .slice (sb b0) f2 f3), (9, .int .i64 b8), (11, .slice (sb a4) e0 c49), (13, .slice (sb a5) e4 e5), (82, .int .i64 (b7.length : Int)), (83, .int .i64 f0)]) (fun (g1 : Nat) (f0 : Int) => [(some b1, .cells #[.int .i64 r3.N, .int .i64 r3.S, .int .i64 r3.T, .slice (sb h4) n8 c9] 24 (0, 0)), (h4, .cells (arr Z73 r3.Arcs d9).toArray 35 (0, 0)), (c7, .cells (arr (intC .i64) r4 g2).toArray 2 (0, 0)), (b0, .cells (arr (intC .i64) b7 g3).toArray 2 (0, 0)), (a4, .cells (arr (intC .i64) d7 j8).toArray 2 (0, 0)), (a5, .cells (arr (intC .i64) d8 j9).toArray 2 (0, 0))]) (fun (g1 : Nat) (f0 : Int) => g1) Z3f 0 m6 (Z00 rfl (Z00 rfl (Z00 rfl (Z00 rfl (Z00 rfl (Z00 rfl (Z00 rfl (Z00 rfl Z09)))))))) (Z02 tk3 (Z02 tk3 (Z02 tk3 (Z02 tk2 (Z02 tk1 (Z02 tk0 Z08)))))) ?_; rintro g1 f0 H; obtain ⟨m7, m8, rfl, H, h5⟩ := Z1b H; have H : Z2y r4 b7 f0 = some m8 := H; unfold Z2y at H; refine Z0b ?_; refine Z04 (ll := [0]) rfl ?_; refine Z0t rr6 ?_; refine Z03 ?_; refine Z01 ?_; refine Z0b ?_; rcases Z0j H with ⟨j2, H⟩ | ⟨j2, H⟩
          ·
           refine Z13 rfl j2 ?_; refine T.skip ?_; refine Z01 ?_; refine Z0b ?_; refine T.block ?_; refine Z0b ?_; refine Z04 (ll := [0, 1]) rfl ?_; refine Z05 rr4 ?_; refine Z06 rr4 ?_; refine Z03 ?_; refine Z01 ?_; refine Z0b ?_; obtain ⟨h6, H⟩ := Z0c H; obtain ⟨h7, H⟩ := Z0c H; rcases Z0j H with ⟨j3, H⟩ | ⟨j3, H⟩
           · refine Z6o 12 [0, 1, 2, 3, 4, 5, 6, 7, 8, 9, 10, 11] rfl Z5i (by kernel_rfl) (by kernel_rfl) rfl (by kernel_rfl) ?_; refine TQ.move rr4 ?_; refine TQ.move rr4 ?_; refine Z9t b6 b5 a9 h6 rr5 Z0s Z0z ?_; refine Z7m b6 b5 a9 h6 rr4 Z1d mm3 ?_; refine TQ.move rr4 ?_; refine TQ.move rr4 ?_; refine Z9t c4 c3 b9 h7 rr5 Z0s Z0z ?_; refine Z7m c4 c3 b9 h7 rr4 Z1d mm2 ?_; refine Ze5 rr6 ?_; refine TQ.move rr4 ?_; refine Zb9 (t := 95) (b' := true) rfl (decide_eq_true j3) ?_; refine Z22 rr4 ?_; refine Z22 rr4 ?_; refine TQ.tail [12, 13, 14, 15] rr2 ?_; refine Z0g rr4 ?_; refine Z0g rr4 ?_; refine Z0g rr4 ?_; refine Z1a rr5 ?_; refine Z03 ?_; refine Z01 ?_; refine Z0p (Z00 (t := 2) rfl (Z00 (t := 5) rfl (Z00 (t := 7) rfl (Z00 (t := 9) rfl (Z00 (t := 11) rfl (Z00 (t := 13) rfl (Z00 (t := 82) rfl (Z00 (t := 83) rfl (Z00 (t := 96) rfl (Z00 (t := 97) rfl (Z00 (t := 98) rfl (Z00 (t := 99) rfl (Z00 (t := 100) rfl (Z00 (t := 101) rfl Z09)))))))))))))) ?_; refine Z1j rfl rfl ?_; refine Z0b ?_; refine Z04 (ll := [0]) rfl ?_; refine Z06 rr4 ?_; refine Z03 ?_; refine Z01 ?_; refine Z0p (Z00 (t := 4) rfl Z09) ?_; refine T.ret ?_; refine Z0r ?_; refine Z0k ?_; have H := Z0w H h5 ▸ j1; refine Z0k ?_; refine Z0r ?_; refine Z0k ?_; obtain rfl := ret1 H; exact Z16 rr4 (Res.tmp rfl) Z08 ⟨rfl, rfl⟩
           ·
            obtain ⟨k6, H⟩ := Z0c H; refine Z6o 12 [0, 1, 2, 3, 4, 5, 6, 7, 8, 9, 10, 11] rfl Z5i (by kernel_rfl) (by kernel_rfl) rfl (by kernel_rfl) ?_; refine TQ.move rr4 ?_; refine TQ.move rr4 ?_; refine Z9t b6 b5 a9 h6 rr5 Z0s Z0z ?_; refine Z7m b6 b5 a9 h6 rr4 Z1d mm3 ?_; refine TQ.move rr4 ?_; refine TQ.move rr4 ?_; refine Z9t c4 c3 b9 h7 rr5 Z0s Z0z ?_; refine Z7m c4 c3 b9 h7 rr4 Z1d mm2 ?_; refine Ze5 rr6 ?_; refine TQ.move rr4 ?_; refine Zb9 (t := 95) (b' := false) rfl (decide_eq_false j3) ?_; refine TQ.move rr4 ?_; refine TQ.move rr4 ?_; refine TQ.tail [12, 13, 14, 15] rr2 ?_; refine Z3n b6 b5 a9 k6 rr5 Z0s Z0z ?_; refine Z6n b6 b5 a9 k6 rr4 Z1d mm3 ?_; refine Z0t rr6 ?_; refine Z1c rr5 ?_; refine Z03 ?_; refine Z01 ?_; refine Z0p (Z00 (t := 2) rfl (Z00 (t := 5) rfl (Z00 (t := 7) rfl (Z00 (t := 9) rfl (Z00 (t := 11) rfl (Z00 (t := 13) rfl (Z00 (t := 82) rfl (Z00 (t := 83) rfl (Z00 (t := 96) rfl (Z00 (t := 97) rfl (Z00 (t := 98) rfl (Z00 (t := 99) rfl (Z00 (t := 100) rfl (Z00 (t := 101) rfl Z09)))))))))))))) ?_; rcases Z0j H with ⟨j4, H⟩ | ⟨j4, H⟩
            · refine Z13 rfl j4 ?_; refine Z0b ?_; refine Z04 (ll := [0]) rfl ?_; refine Z06 rr4 ?_; refine Z03 ?_; refine Z01 ?_; refine Z0p (Z00 (t := 4) rfl Z09) ?_; refine T.ret ?_; refine Z0r ?_; refine Z0k ?_; have H := Z0w H h5 ▸ j1; refine Z0k ?_; refine Z0r ?_; refine Z0k ?_; obtain rfl := ret1 H; exact Z16 rr4 (Res.tmp rfl) Z08 ⟨rfl, rfl⟩
            · refine Z14 rfl j4 ?_; refine T.skip ?_; refine Z0f ?_; refine Z01 ?_; obtain ⟨m9, H⟩ := Z0c H; refine Z04 (ll := [0, 1]) rfl ?_; refine Z19 m9 rr5 ?_; refine Z05 rr4 ?_; refine Z03 ?_; have H := Z15 H h5; exact Z5y m7 (f0 + 1) H (Nat.lt_succ_self _) (Z00 rfl (Z00 rfl (Z00 rfl (Z00 rfl (Z00 rfl (Z00 rfl (Z00 rfl (Z00 rfl Z09)))))))) (Z02 tk0 (Z02 tk0 (Z02 tk0 (Z02 tk0 (Z02 tk0 (Z02 tk0 Z08))))))
          · refine Z14 rfl j2 ?_; refine T.exit ?_; refine Z0n ?_; have H := Z0w H h5 ▸ j1; refine Z0n ?_; refine Z0x ?_; exact Z1o () H (Z00 rfl (Z00 rfl (Z00 rfl (Z00 rfl (Z00 rfl Z09))))) (Z02 tk0 (Z02 tk0 (Z02 tk1 (Z02 tk1 (Z02 tk1 Z08)))))
         ·
          rintro j0 H; unfold Z3y at H; refine Z0b ?_; obtain ⟨⟨k7, o6⟩, n6, H⟩ := Z0m H; refine Z04 (ll := [0, 1, 2, 3, 4, 5, 6, 7]) rfl ?_; refine Z0u rr4 Z11 mm0 rfl ?_; refine Z05 rr4 ?_; refine Z0o Zez rr4 (fun wc hwc => Zho (n0 := r3) (f1 := b7) wc (hwc.rs (f := Z73) (s := 3) (xs := r3.Arcs) (j := d9) (fun _ => rfl) mm1 c8 d0 d1) (hwc.rs (f := (intC .i64)) (s := 1) (xs := b7) (j := g3) (fun _ => rfl) mm2 a9 b5 b6) n6) ?_; rintro _ _ ⟨n7, o7, o8, n9, o0, o9, p2, o1, rfl, rfl, g5, g6, k8, k9, l0⟩; refine Z05 rr4 ?_; refine TO.extract rr5 ?_; refine TO.extract rr5 ?_; refine Z06 rr4 ?_; refine Z06 rr4 ?_; refine Z03 ?_; refine Z01 ?_; refine Z0b ?_; refine Z6o 33 [0, 1, 2, 3, 4, 5, 6, 7, 8, 9, 10, 11, 12, 13, 14, 15, 16, 17, 18, 19, 20, 21, 22, 23, 24, 25, 26, 27, 28, 29, 30, 31, 32] rfl Z5i (by kernel_rfl) (by kernel_rfl) rfl (by kernel_rfl) ?_; refine TQ.move rr4 ?_; refine Ze5 rr6 ?_; refine TQ.move rr4 ?_; refine TQ.join [3, 4, 5, 6] [7, 8, 9, 10, 11, 12, 13, 14, 15, 16, 17, 18, 19, 20, 21, 22, 23, 24, 25, 26, 27, 28, 29, 30, 31, 32] rfl 115 (fun g7 => Z30 r3 b8 d7 d8 g7 = some r0) [(2, .pointer (some ⟨b1, 0, none⟩)), (9, .int .i64 b8), (11, .slice (sb a4) e0 c49), (13, .slice (sb a5) e4 e5)] ?_ ?_
          ·
           rcases Z0j H with ⟨f4, H⟩ | ⟨f4, H⟩
           · refine Zb9 (t := 111) (b' := true) rfl (decide_eq_true f4) ?_; refine TQ.move rr4 ?_; refine Zi9 (xs := k7) (g5.len g6) rr5 Z0l ?_; refine Ze5 rr6 ?_; refine Zkw rr5 ?_; exact TQ.jn (b := (decide ((k7.length : Int) = 0))) H (Z00 rfl (Z00 rfl (Z00 rfl (Z00 rfl (Z00 rfl Z09)))))
           · refine Zb9 (t := 111) (b' := false) rfl (decide_eq_false f4) ?_; refine Z22 rr4 ?_; refine Z22 rr4 ?_; refine Z22 rr4 ?_; refine Zkx rr5 ?_; exact TQ.jn (b := false) H (Z00 rfl (Z00 rfl (Z00 rfl (Z00 rfl (Z00 rfl Z09)))))
          ·
           rintro g7 H; unfold Z30 at H; refine TQ.move rr4 ?_; refine TQ.join [8, 9, 10, 11, 12, 13, 14, 15, 16, 17, 18, 19] [20, 21, 22, 23, 24, 25, 26, 27, 28, 29, 30, 31, 32] rfl 128 (fun g8 => Z2z r3 b8 d7 d8 g8 = some r0) [(2, .pointer (some ⟨b1, 0, none⟩)), (9, .int .i64 b8), (11, .slice (sb a4) e0 c49), (13, .slice (sb a5) e4 e5)] ?_ ?_
           ·
            rcases Z0j H with ⟨f5, H⟩ | ⟨f5, H⟩
            · obtain ⟨g9, H⟩ := Z0c H; obtain ⟨h0, H⟩ := Z0c H; refine Zb9 (t := 116) (b' := true) rfl f5 ?_; refine TQ.move rr4 ?_; refine Z17 rr4 Z46 ?_; refine Z1u rr4 Z0h mm1 rfl ?_; refine Z9t e9 e8 e7 g9 rr5 Z0s Z0z ?_; refine Z7m e9 e8 e7 g9 rr4 Z1d mm5 ?_; refine TQ.move rr4 ?_; refine Z17 rr4 Z46 ?_; refine Z1u rr4 Z0h mm1 rfl ?_; refine Z9t e3 e2 e1 h0 rr5 Z0s Z0z ?_; refine Z7m e3 e2 e1 h0 rr4 Z1d mm4 ?_; refine Ze5 rr6 ?_; refine Zkw rr5 ?_; exact TQ.jn (b := (decide ((d8.getD r3.T.toNat 0) = (d7.getD r3.T.toNat 0)))) H (Z00 rfl (Z00 rfl (Z00 rfl (Z00 rfl (Z00 rfl Z09)))))
            · refine Zb9 (t := 116) (b' := false) rfl (Bool.eq_false_iff.2 f5) ?_; refine Z22 rr4 ?_; refine Z22 rr4 ?_; refine Z22 rr4 ?_; refine Z22 rr4 ?_; refine Z22 rr4 ?_; refine Z22 rr4 ?_; refine Z22 rr4 ?_; refine Z22 rr4 ?_; refine Z22 rr4 ?_; refine Z22 rr4 ?_; refine Z22 rr4 ?_; refine Zkx rr5 ?_; exact TQ.jn (b := false) H (Z00 rfl (Z00 rfl (Z00 rfl (Z00 rfl (Z00 rfl Z09)))))
           ·
            rintro g8 H; unfold Z2z at H; rcases Z0j H with ⟨f6, H⟩ | ⟨f6, H⟩
            ·
             obtain ⟨h1, H⟩ := Z0c H; obtain ⟨h2, H⟩ := Z0c H; obtain ⟨j5, H⟩ := Z0c H; refine TQ.move rr4 ?_; refine Zb9 (t := 129) (b' := true) rfl f6 ?_; refine TQ.move rr4 ?_; refine Z17 rr4 Z2v ?_; refine Z1u rr4 Z0h mm1 rfl ?_; refine Z9t e9 e8 e7 h1 rr5 Z0s Z0z ?_; refine Z7m e9 e8 e7 h1 rr4 Z1d mm5 ?_; refine TQ.move rr4 ?_; refine Z17 rr4 Z2v ?_; refine Z1u rr4 Z0h mm1 rfl ?_; refine Z9t e3 e2 e1 h2 rr5 Z0s Z0z ?_; refine Z7m e3 e2 e1 h2 rr4 Z1d mm4 ?_; refine TQ.move rr4 ?_; refine Zob j5 rr5 ?_; refine TQ.tail [33, 34, 35, 36, 37, 38] rr2 ?_; refine Z0t rr6 ?_; refine Z1a rr5 ?_; refine Z05 rr4 ?_; refine TO.join [36, 37] [38] rfl 146 (fun h3 => Z2t h3 = some r0) [] ?_ ?_
             ·
              rcases Z0j H with ⟨f7, H⟩ | ⟨f7, H⟩
              · obtain ⟨j6, j7, H⟩ := Z0m H; refine Z0y (t := 144) (b' := true) rfl (decide_eq_true f7) ?_; refine Z0o Zey rr4 (fun wc hwc => Zd5  wc  j7) ?_; rintro _ _ ⟨rfl, rfl⟩; refine Z1a rr5 ?_; refine Z03 ?_; exact Zmj (b := j6) H (Z00 rfl Z09)
              · refine Z0y (t := 144) (b' := false) rfl (decide_eq_false f7) ?_; refine Z0g rr4 ?_; refine Z1c rr5 ?_; refine Z03 ?_; exact Zmj (b := false) H (Z00 rfl Z09)
             · rintro h3 H; unfold Z2t at H; refine Z06 rr4 ?_; refine Z03 ?_; refine Z01 ?_; refine T.ret ?_; obtain rfl := ret1 H; exact Z16 rr4 (Res.tmp rfl) Z08 ⟨rfl, rfl⟩
            · refine TQ.move rr4 ?_; refine Zb9 (t := 129) (b' := false) rfl (Bool.eq_false_iff.2 f6) ?_; refine Z22 rr4 ?_; refine Z22 rr4 ?_; refine Z22 rr4 ?_; refine Z22 rr4 ?_; refine Z22 rr4 ?_; refine Z22 rr4 ?_; refine Z22 rr4 ?_; refine Z22 rr4 ?_; refine Z22 rr4 ?_; refine Z22 rr4 ?_; refine Z22 rr4 ?_; refine Z22 rr4 ?_; refine TQ.tail [33, 34, 35, 36, 37, 38] rr2 ?_; refine Z0g rr4 ?_; refine Z1c rr5 ?_; refine Z05 rr4 ?_; refine Z0g rr4 ?_; refine Z1c rr5 ?_; refine Z06 rr4 ?_; refine Z03 ?_; refine Z01 ?_; refine Z0p (Z00 (t := 4) rfl Z09) ?_; refine T.ret ?_; obtain rfl := ret1 H; exact Z16 rr4 (Res.tmp rfl) Z08 ⟨rfl, rfl⟩
end Go.Proofs.Ytfdhelnfgfaeaaa.Ax
namespace Go.Acq
open Go
def hit (a : Arc) (v : Nat) : Nat := if a.fr = a.to then 0 else if a.fr = v ∨ a.to = v then 1 else 0
def cnt (al : List Arc) (v : Nat) : Nat → Nat
  | 0 => 0
  | k + 1 => cnt al v k + hit (al.getD k default) v
def Z1e (al : List Arc) : Nat → Nat
  | 0 => 0
  | v + 1 => Z1e al v + cnt al v al.length
def vtx (a : Arc) (s : Bool) : Int := if s then a.to else a.fr
def pos (al : List Arc) (i : Nat) (s : Bool) : Nat := Z1e al (vtx (al.getD i default) s).toNat + cnt al (vtx (al.getD i default) s).toNat i
def Z5e (n : Nat) (al : List Arc) : Prop := ∀ i, i < al.length → ∀ s, 0 ≤ vtx (al.getD i default) s ∧ vtx (al.getD i default) s < n
theorem Zcf {α : Type} (xs : List α) (i j : Nat) (v d : α) : (xs.set i v).getD j d = if i = j ∧ i < xs.length then v else xs.getD j d := by
 rw [List.getD_eq_getElem?_getD, List.getD_eq_getElem?_getD, List.getElem?_set]
 split
 ·
  rename_i h; subst h
  split
  · rename_i h2; simp [h2]
  · rename_i h2; simp [h2]
 · rename_i h; simp [h]
theorem Z4b {α : Type} {xs : List α} {i j : Nat} {v d : α} (h : i ≠ j) : (xs.set i v).getD j d = xs.getD j d := by
 rw [Zcf, if_neg (fun e => h e.1)]
theorem Z7l {α : Type} {xs : List α} {i : Nat} {v d : α} (h : i < xs.length) : (xs.set i v).getD i d = v := by
 rw [Zcf, if_pos ⟨rfl, h⟩]
theorem Z1w {α : Type} (n j : Nat) (v : α) : (List.replicate n v).getD j v = v := by
 rw [List.getD_eq_getElem?_getD, List.getElem?_replicate]; split <;> simp
theorem hit_le (a : Arc) (v : Nat) : hit a v ≤ 1 := by unfold hit; split; omega; split <;> omega
theorem cnt_mono {al : List Arc} {v i j : Nat} (h : i ≤ j) : cnt al v i ≤ cnt al v j := by
 induction h with
 | refl => exact Nat.le_refl _
 | step _ ih => exact Nat.le_trans ih (Nat.le_add_right _ _)
theorem Zkp (al : List Arc) (v k : Nat) : cnt al v k ≤ k := by
 induction k with
 | zero => exact Nat.le_refl _
 | succ k ih => have := hit_le (al.getD k default) v; simp only [cnt]; omega
theorem Z69 {al : List Arc} {u v : Nat} (h : u ≤ v) : Z1e al u ≤ Z1e al v := by
 induction h with
 | refl => exact Nat.le_refl _
 | step _ ih => exact Nat.le_trans ih (Nat.le_add_right _ _)
theorem Zng (al : List Arc) (v : Nat) : Z1e al v ≤ v * al.length := by
 induction v with
 | zero => exact Nat.zero_le _
 | succ v ih => have := Zkp al v al.length; simp only [Z1e, Nat.succ_mul]; omega
theorem hit_vtx {a : Arc} {s : Bool} (h : a.fr ≠ a.to) (h0 : 0 ≤ vtx a s) : hit a (vtx a s).toNat = 1 := by
 unfold hit; rw [if_neg h, if_pos]
 cases s
 · left; simp only [vtx] at h0 ⊢; simp only [Bool.false_eq_true, if_false] at h0 ⊢; omega
 · right; simp only [vtx] at h0 ⊢; simp only [if_true] at h0 ⊢; omega
theorem Zer {al : List Arc} {i j : Nat} {s : Bool} (hij : i < j) (h : (al.getD i default).fr ≠ (al.getD i default).to) (h0 : 0 ≤ vtx (al.getD i default) s) :
    cnt al (vtx (al.getD i default) s).toNat i < cnt al (vtx (al.getD i default) s).toNat j := by
  have h1 := cnt_mono (al := al) (v := (vtx (al.getD i default) s).toNat) (i := i + 1) (j := j) hij
  have h2 := hit_vtx h h0
  simp only [cnt] at h1
  omega
theorem Zda {al : List Arc} {n i : Nat} {s : Bool} (hi : i < al.length) (h : (al.getD i default).fr ≠ (al.getD i default).to) (he : Z5e n al) : pos al i s < Z1e al n := by
 have h1 := Zer (s := s) hi h (he i hi s).1
 have h2 := Z69 (al := al) (u := (vtx (al.getD i default) s).toNat + 1) (v := n) (by have := he i hi s; omega)
 simp only [Z1e] at h2
 unfold pos; omega
theorem Zbv {al : List Arc} {n i j : Nat} {s t : Bool} (he : Z5e n al) (hi : i < al.length) (hj : j < al.length) (h : (al.getD i default).fr ≠ (al.getD i default).to) (g : (al.getD j default).fr ≠ (al.getD j default).to)
    (e : pos al i s = pos al j t) : i = j ∧ s = t := by
  have hi1 := Zer (s := s) hi h (he i hi s).1
  have hj1 := Zer (s := t) hj g (he j hj t).1
  have hv : (vtx (al.getD i default) s).toNat = (vtx (al.getD j default) t).toNat := by
    rcases Nat.lt_trichotomy (vtx (al.getD i default) s).toNat (vtx (al.getD j default) t).toNat with h1 | h1 | h1
    · have := Z69 (al := al) (u := (vtx (al.getD i default) s).toNat + 1) h1
      simp only [Z1e] at this
      unfold pos at e; omega
    · exact h1
    · have := Z69 (al := al) (u := (vtx (al.getD j default) t).toNat + 1) h1
      simp only [Z1e] at this
      unfold pos at e; omega
  have hij : i = j := by
    rcases Nat.lt_trichotomy i j with h1 | h1 | h1
    · have h2 := Zer (s := s) h1 h (he i hi s).1
      unfold pos at e; rw [hv] at e h2; omega
    · exact h1
    · have h2 := Zer (s := t) h1 g (he j hj t).1
      unfold pos at e; rw [hv] at e; omega
  refine ⟨hij, ?_⟩
  subst hij
  have h1 := (he i hi s).1
  have h2 := (he i hi t).1
  cases s <;> cases t <;> first | rfl | (simp only [vtx, Bool.false_eq_true, if_false, if_true] at hv h1 h2; omega)
theorem Zkq {al : List Arc} {v r : Nat} : ∀ {k : Nat}, r < cnt al v k → ∃ i, i < k ∧ cnt al v i = r ∧ hit (al.getD i default) v = 1
 | 0, h => by simp [cnt] at h
 | k + 1, h => by
  by_cases h1 : r < cnt al v k
  · obtain ⟨i, h2, h3⟩ := Zkq h1; exact ⟨i, by omega, h3⟩
  ·
   have := hit_le (al.getD k default) v
   simp only [cnt] at h
   exact ⟨k, by omega, by omega, by omega⟩
theorem Zfp {al : List Arc} {p : Nat} : ∀ {n : Nat}, p < Z1e al n → ∃ v, v < n ∧ Z1e al v ≤ p ∧ p < Z1e al (v + 1)
 | 0, h => by simp [Z1e] at h
 | n + 1, h => by
  by_cases h1 : p < Z1e al n
  · obtain ⟨v, h2, h3⟩ := Zfp h1; exact ⟨v, by omega, h3⟩
  · exact ⟨n, by omega, by omega, h⟩
theorem pos_surj {al : List Arc} {n p : Nat} (h : p < Z1e al n) : ∃ i s, i < al.length ∧ (al.getD i default).fr ≠ (al.getD i default).to ∧ pos al i s = p ∧ 0 ≤ vtx (al.getD i default) s ∧ vtx (al.getD i default) s < n ∧
    Z1e al (vtx (al.getD i default) s).toNat ≤ p ∧ p < Z1e al ((vtx (al.getD i default) s).toNat + 1) := by
  obtain ⟨v, hv, h1, h2⟩ := Zfp h
  simp only [Z1e] at h2
  obtain ⟨i, hi, h3, h4⟩ := Zkq (al := al) (v := v) (r := p - Z1e al v) (k := al.length) (by omega)
  unfold hit at h4
  split at h4
  · omega
  · rename_i hne
    split at h4
    · rename_i ho
      rcases ho with ho | ho
      · refine ⟨i, false, hi, hne, ?_, ?_, ?_, ?_, ?_⟩ <;> simp only [pos, vtx, Bool.false_eq_true, if_false, ho, Int.toNat_natCast, Z1e] <;> omega
      · refine ⟨i, true, hi, hne, ?_, ?_, ?_, ?_, ?_⟩ <;> simp only [pos, vtx, if_true, ho, Int.toNat_natCast, Z1e] <;> omega
    · omega
def CsrAt (al : List Arc) (hs rs cs aa : List Int) (bs : List Bool) (k : Nat) : Prop :=
  ∀ i, i < k → (al.getD i default).fr ≠ (al.getD i default).to → ∀ s,
    hs.getD (pos al i s) 0 = vtx (al.getD i default) (!s) ∧ rs.getD (pos al i s) 0 = pos al i (!s) ∧ cs.getD (pos al i s) 0 = (if s then 0 else (al.getD i default).cap) ∧
    aa.getD (pos al i s) 0 = i ∧ bs.getD (pos al i s) false = s
structure CsrOK (al : List Arc) (n : Nat) (fs hs rs cs aa : List Int) (bs : List Bool) : Prop where
  lf : fs.length = n + 1
  lh : hs.length = Z1e al n
  lr : rs.length = Z1e al n
  lc : cs.length = Z1e al n
  la : aa.length = Z1e al n
  lb : bs.length = Z1e al n
  hf : ∀ v, v ≤ n → fs.getD v 0 = Z1e al v
  hat : CsrAt al hs rs cs aa bs al.length
theorem CsrAt.skip {al : List Arc} {hs rs cs aa : List Int} {bs : List Bool} {k : Nat} (h : CsrAt al hs rs cs aa bs k) (e : (al.getD k default).fr = (al.getD k default).to) : CsrAt al hs rs cs aa bs (k + 1) := by
 intro i hi hne s
 rcases Nat.lt_succ_iff_lt_or_eq.1 hi with h1 | h1
 · exact h i h1 hne s
 · subst h1; exact absurd e hne
theorem set2 {α : Type} {xs : List α} {p q j : Nat} {u v d : α} (hp : p < xs.length) (hq : q < xs.length) (hpq : p ≠ q) :
    ((xs.set p u).set q v).getD j d = if j = p then u else if j = q then v else xs.getD j d := by
  rw [Zcf, Zcf]
  by_cases h1 : j = p
  · subst h1; rw [if_pos rfl, if_neg (fun e => hpq e.1.symm), if_pos ⟨rfl, hp⟩]
  · rw [if_neg h1]
    by_cases h2 : j = q
    · subst h2; rw [if_pos rfl, if_pos ⟨rfl, by simpa using hq⟩]
    · rw [if_neg h2, if_neg (fun e => h2 e.1.symm), if_neg (fun e => h1 e.1.symm)]
theorem CsrAt.put {al : List Arc} {n : Nat} {hs rs cs aa : List Int} {bs : List Bool} {k : Nat} (h : CsrAt al hs rs cs aa bs k) (he : Z5e n al) (hk : k < al.length) (hne : (al.getD k default).fr ≠ (al.getD k default).to)
    (lh : hs.length = Z1e al n) (lr : rs.length = Z1e al n) (lc : cs.length = Z1e al n) (la : aa.length = Z1e al n) (lb : bs.length = Z1e al n) :
    CsrAt al ((hs.set (pos al k false) (al.getD k default).to).set (pos al k true) (al.getD k default).fr) ((rs.set (pos al k false) (pos al k true)).set (pos al k true) (pos al k false))
      ((cs.set (pos al k false) (al.getD k default).cap).set (pos al k true) 0) ((aa.set (pos al k false) k).set (pos al k true) k) ((bs.set (pos al k false) false).set (pos al k true) true) (k + 1) := by
  have hp : pos al k false < Z1e al n := Zda hk hne he
  have hq : pos al k true < Z1e al n := Zda hk hne he
  have hpq : pos al k false ≠ pos al k true := fun e => by have := (Zbv he hk hk hne hne e).2; cases this
  intro i hi hni s
  have hil : i < al.length := by omega
  rw [set2 (by omega) (by omega) hpq, set2 (by omega) (by omega) hpq, set2 (by omega) (by omega) hpq, set2 (by omega) (by omega) hpq, set2 (by omega) (by omega) hpq]
  by_cases hik : i = k
  · subst hik
    cases s
    · simp [vtx]
    · simp [vtx, hpq.symm]
  · have h1 : pos al i s ≠ pos al k false := fun e => hik (Zbv he hil hk hni hne e).1
    have h2 : pos al i s ≠ pos al k true := fun e => hik (Zbv he hil hk hni hne e).1
    simp only [if_neg h1, if_neg h2]
    exact h i (by omega) hni s
def Counted (al : List Arc) (m k : Nat) (fs : List Int) : Prop := fs.length = m + 1 ∧ fs.getD 0 0 = 0 ∧ ∀ v : Int, 0 ≤ v → v < m → fs.getD (v + 1).toNat 0 = cnt al v.toNat k
def Summed (al : List Arc) (m k : Nat) (fs : List Int) : Prop := fs.length = m + 1 ∧ (∀ u, u ≤ k → fs.getD u 0 = Z1e al u) ∧ ∀ u, k ≤ u → u < m → fs.getD (u + 1) 0 = cnt al u al.length
theorem Z9h {al : List Arc} {v : Nat} (hv : v ≤ 4096) (hl : al.length ≤ 16384) : Z1e al v ≤ 67108864 :=
 Nat.le_trans (Zng al v) (Nat.mul_le_mul hv hl)
theorem Counted.start (al : List Arc) (m : Nat) {p : Nat} (h : p = m + 1) : Counted al m 0 (List.replicate p 0) :=
 ⟨by simp [h], Z1w _ _ _, fun v _ _ => by rw [Z1w]; rfl⟩
theorem Counted.skip {al : List Arc} {m k : Nat} {fs : List Int} (h : Counted al m k fs) (e : (al.getD k default).fr = (al.getD k default).to) : Counted al m (k + 1) fs :=
 ⟨h.1, h.2.1, fun v h0 h1 => by rw [h.2.2 v h0 h1]; simp only [cnt, hit, if_pos e, Nat.add_zero]⟩
theorem Counted.put {al : List Arc} {m k : Nat} {fs : List Int} (h : Counted al m k fs) (he : Z5e m al) (hk : k < al.length) (hne : (al.getD k default).fr ≠ (al.getD k default).to) :
    Counted al m (k + 1) ((fs.set ((al.getD k default).fr + 1).toNat (fs.getD ((al.getD k default).fr + 1).toNat 0 + 1)).set ((al.getD k default).to + 1).toNat
      ((fs.set ((al.getD k default).fr + 1).toNat (fs.getD ((al.getD k default).fr + 1).toNat 0 + 1)).getD ((al.getD k default).to + 1).toNat 0 + 1)) := by
  have e0 := he k hk false
  have e1 := he k hk true
  simp only [vtx, Bool.false_eq_true, if_false, if_true] at e0 e1
  obtain ⟨hl, hz, hv⟩ := h
  refine ⟨by simpa using hl, ?_, ?_⟩
  · rw [Z4b (by omega), Z4b (by omega)]; exact hz
  · intro v h0 h1
    have hvv := hv v h0 h1
    rw [Z4b (i := ((al.getD k default).fr + 1).toNat) (j := ((al.getD k default).to + 1).toNat) (by omega), set2 (by omega) (by omega) (by omega)]
    simp only [cnt, hit, if_neg hne]
    by_cases a1 : v = (al.getD k default).fr
    · rw [if_pos (by omega), if_pos (by omega), ← a1, hvv]; omega
    · rw [if_neg (by omega)]
      by_cases a2 : v = (al.getD k default).to
      · rw [if_pos (by omega), if_pos (by omega), ← a2, hvv]; omega
      · rw [if_neg (by omega), if_neg (by omega), hvv]; omega
theorem Counted.summed {al : List Arc} {m : Nat} {fs : List Int} (h : Counted al m al.length fs) : Summed al m 0 fs :=
 ⟨h.1, fun u hu => by rw [Nat.le_zero.1 hu]; exact h.2.1, fun u _ hu => by have := h.2.2 u (by omega) (by omega); rw [show ((u : Int) + 1).toNat = u + 1 by omega] at this; simpa using this⟩
theorem Summed.put {al : List Arc} {m k : Nat} {fs : List Int} (h : Summed al m k fs) (hk : k < m) {i : Nat} (hi : i = k + 1) : Summed al m (k + 1) (fs.set i (fs.getD i 0 + fs.getD k 0)) := by
 subst hi
 obtain ⟨hl, h1, h2⟩ := h
 refine ⟨by simpa using hl, fun u hu => ?_, fun u h3 h4 => ?_⟩
 ·
  by_cases e : u = k + 1
  · subst e; rw [Z7l (by omega), h1 k (Nat.le_refl _), h2 k (Nat.le_refl _) hk]; simp [Z1e]; omega
  · rw [Z4b (by omega)]; exact h1 u (by omega)
 · rw [Z4b (by omega)]; exact h2 u (by omega) h4
theorem Z2u {N S T : Int} {al : List Arc} (h : Zan N S T al = 0) : (2 ≤ N ∧ N ≤ 4096) ∧ (al.length : Int) ≤ 16384 ∧ (Z4u N S = true ∧ Z4u N T = true ∧ S ≠ T) ∧ al.all (Zeh N) = true ∧ al.all Znf = true ∧ (Zig 4611686018427387904 al).isSome = true := by
 unfold Zan at h
 split at h
 · omega
 ·
  rename_i h1
  split at h
  · omega
  ·
   rename_i h2
   split at h
   · omega
   ·
    rename_i h3
    split at h
    · omega
    ·
     rename_i h4
     split at h
     · omega
     ·
      rename_i h5
      split at h
      · omega
      ·
       rename_i h6
       refine ⟨Classical.not_not.1 h1, Classical.not_not.1 h2, Classical.not_not.1 h3, by simpa using h4, by simpa using h5, ?_⟩
       cases e : Zig 4611686018427387904 al <;> simp_all
theorem Zdx {m : Nat} {al : List Arc} (h : al.all (Zeh (m : Int)) = true) : Z5e m al := by
 intro i hi s
 have h1 := List.all_eq_true.1 h _ (Z5d hi default)
 simp only [Zeh, Z4u, Bool.and_eq_true, decide_eq_true_eq] at h1
 cases s
 · simp only [vtx, Bool.false_eq_true, if_false]; exact h1.1
 · simp only [vtx, if_true]; exact h1.2
def MakeAt (al : List Arc) (m k : Nat) (nx hs rs cs aa : List Int) (bs : List Bool) : Prop :=
  (nx.length = m + 1 ∧ hs.length = Z1e al m ∧ rs.length = Z1e al m ∧ cs.length = Z1e al m ∧ aa.length = Z1e al m ∧ bs.length = Z1e al m) ∧
  CsrAt al hs rs cs aa bs k ∧ ∀ v : Int, 0 ≤ v → v < m → nx.getD v.toNat 0 = Z1e al v.toNat + cnt al v.toNat k
theorem MakeAt.start {al : List Arc} {m : Nat} {fs : List Int} (hl : fs.length = m + 1) (hf : ∀ u, u ≤ m → fs.getD u 0 = Z1e al u) :
    MakeAt al m 0 fs (List.replicate (Z1e al m) 0) (List.replicate (Z1e al m) 0) (List.replicate (Z1e al m) 0) (List.replicate (Z1e al m) 0) (List.replicate (Z1e al m) false) := by
  refine ⟨⟨hl, by simp, by simp, by simp, by simp, by simp⟩, fun i hi => by omega, fun v h0 h1 => ?_⟩
  rw [hf _ (by omega)]; simp [cnt]
theorem MakeAt.skip {al : List Arc} {m k : Nat} {nx hs rs cs aa : List Int} {bs : List Bool} (h : MakeAt al m k nx hs rs cs aa bs) (e : (al.getD k default).fr = (al.getD k default).to) : MakeAt al m (k + 1) nx hs rs cs aa bs :=
 ⟨h.1, h.2.1.skip e, fun v h0 h1 => by rw [h.2.2 v h0 h1]; simp only [cnt, hit, if_pos e, Nat.add_zero]⟩
theorem MakeAt.at {al : List Arc} {m k : Nat} {nx hs rs cs aa : List Int} {bs : List Bool} (h : MakeAt al m k nx hs rs cs aa bs) (he : Z5e m al) (hk : k < al.length) (s : Bool) : nx.getD (vtx (al.getD k default) s).toNat 0 = (pos al k s : Nat) := by
 rw [h.2.2 _ (he k hk s).1 (he k hk s).2]; simp only [pos]; omega
theorem MakeAt.put {al : List Arc} {m k : Nat} {nx hs rs cs aa : List Int} {bs : List Bool} (h : MakeAt al m k nx hs rs cs aa bs) (he : Z5e m al) (hk : k < al.length) (hne : (al.getD k default).fr ≠ (al.getD k default).to) :
    MakeAt al m (k + 1) ((nx.set (al.getD k default).fr.toNat ((pos al k false : Nat) + 1)).set (al.getD k default).to.toNat ((pos al k true : Nat) + 1))
      ((hs.set (pos al k false) (al.getD k default).to).set (pos al k true) (al.getD k default).fr) ((rs.set (pos al k false) (pos al k true)).set (pos al k true) (pos al k false))
      ((cs.set (pos al k false) (al.getD k default).cap).set (pos al k true) 0) ((aa.set (pos al k false) k).set (pos al k true) k) ((bs.set (pos al k false) false).set (pos al k true) true) := by
  have g0 := h.at he hk false
  have g1 := h.at he hk true
  obtain ⟨⟨l0, l1, l2, l3, l4, l5⟩, hA, hv⟩ := h
  have e0 := he k hk false
  have e1 := he k hk true
  simp only [vtx, Bool.false_eq_true, if_false, if_true] at e0 e1 g0 g1
  refine ⟨⟨by simpa using l0, by simpa using l1, by simpa using l2, by simpa using l3, by simpa using l4, by simpa using l5⟩, hA.put he hk hne l1 l2 l3 l4 l5, fun v h0 h1 => ?_⟩
  have hvv := hv v h0 h1
  rw [set2 (by omega) (by omega) (by omega)]
  simp only [cnt, hit, if_neg hne]
  by_cases a1 : v = (al.getD k default).fr
  · rw [if_pos (by omega), if_pos (by omega), ← g0, ← a1, hvv]; omega
  · rw [if_neg (by omega)]
    by_cases a2 : v = (al.getD k default).to
    · rw [if_pos (by omega), if_pos (by omega), ← g1, ← a2, hvv]; omega
    · rw [if_neg (by omega), if_neg (by omega), hvv]; omega
theorem MakeAt.done {al : List Arc} {m : Nat} {fs nx hs rs cs aa : List Int} {bs : List Bool} (h : MakeAt al m al.length nx hs rs cs aa bs) (hl : fs.length = m + 1) (hf : ∀ u, u ≤ m → fs.getD u 0 = Z1e al u) : CsrOK al m fs hs rs cs aa bs :=
 ⟨hl, h.1.2.1, h.1.2.2.1, h.1.2.2.2.1, h.1.2.2.2.2.1, h.1.2.2.2.2.2, hf, h.2.1⟩
end Go.Acq
namespace Go.Acq
open Go
theorem next_ne {S m : Int} (h0 : 0 ≤ S) (h1 : S < m) (h2 : 2 ≤ m) : 0 ≤ (S + 1).tmod m ∧ (S + 1).tmod m < m ∧ (S + 1).tmod m ≠ S := by
 rw [Int.tmod_eq_emod_of_nonneg (by omega)]
 refine ⟨Int.emod_nonneg _ (by omega), Int.emod_lt_of_pos _ (by omega), ?_⟩
 by_cases h : S + 1 < m
 · rw [Int.emod_eq_of_lt (by omega) h]; omega
 · rw [show S + 1 = m by omega, Int.emod_self]; omega
theorem Zgm {x n : Int} (h : 0 ≤ x) (hn : 0 < n) : 0 ≤ x.tmod n ∧ x.tmod n < n := by
 rw [Int.tmod_eq_emod_of_nonneg h]
 exact ⟨Int.emod_nonneg _ (by omega), Int.emod_lt_of_pos _ hn⟩
def SomeAt (m : Nat) (ol : List Arc) : Prop := ∀ a, a ∈ ol → Zeh m a = true ∧ 0 ≤ a.cap ∧ a.cap < 1125899906842624
theorem SomeAt.put {m : Nat} {ol : List Arc} {a : Arc} (h : SomeAt m ol) (h1 : 0 ≤ a.fr ∧ a.fr < m) (h2 : 0 ≤ a.to ∧ a.to < m) (h3 : 0 ≤ a.cap ∧ a.cap < 1125899906842624) : SomeAt m (ol ++ [a]) := by
 intro b hb
 rcases List.mem_append.1 hb with hb | hb
 · exact h b hb
 ·
  simp only [List.mem_singleton] at hb
  subst hb
  exact ⟨by simp [Zeh, Z4u, h1, h2], h3⟩
theorem Zmq {m : Nat} {ol : List Arc} {left : Int} (h : SomeAt m ol) (hl : (ol.length : Int) * 1125899906842624 ≤ left) : (Zig left ol).isSome = true := by
 induction ol generalizing left with
 | nil => simp [Zig]
 | cons a ol ih =>
  have ha := (h a (.head _)).2
  simp only [List.length_cons] at hl
  have h2 : (0 : Int) ≤ (ol.length : Int) * 1125899906842624 := by omega
  simp only [Zig]
  rw [if_neg (by omega)]
  exact ih (fun b hb => h b (.tail _ hb)) (by omega)
theorem Zl8 {m : Nat} {S T : Int} {ol : List Arc} (hm : 2 ≤ m) (hm2 : m ≤ 4096) (hS : 0 ≤ S ∧ S < m) (hT : 0 ≤ T ∧ T < m) (hST : T ≠ S) (h : SomeAt m ol) (hl : ol.length ≤ 4096) : Zan m S T ol = 0 := by
 have h1 : ol.all (Zeh m) = true := List.all_eq_true.2 fun a ha => (h a ha).1
 have h2 : ol.all Znf = true := List.all_eq_true.2 fun a ha => by simp [Znf, (h a ha).2.1]
 have h3 : (Zig 4611686018427387904 ol).isSome = true := Zmq h (by omega)
 unfold Zan
 rw [if_neg (by omega), if_neg (by omega), if_neg (by simp [Z4u, hS, hT, Ne.symm hST]), if_neg (by simp [h1]), if_neg (by simp [h2]), if_neg (by
  cases e : Zig 4611686018427387904 ol with
  | none => rw [e] at h3; cases h3
  | some x => simp)]
def WithinAt (al : List Arc) (n k : Nat) (fl : List Int) : Prop := fl.length = n ∧
  (∀ i, i < k → 0 ≤ fl.getD i 0 ∧ fl.getD i 0 ≤ (al.getD i default).cap ∧ ((al.getD i default).fr = (al.getD i default).to → fl.getD i 0 = 0)) ∧ ∀ i, k ≤ i → fl.getD i 0 = 0
theorem WithinAt.start (al : List Arc) (n : Nat) : WithinAt al n 0 (List.replicate n 0) := ⟨by simp, fun i h => by omega, fun i _ => Z1w _ _ _⟩
theorem WithinAt.skip {al : List Arc} {n k : Nat} {fl : List Int} (h : WithinAt al n k fl) (hc : 0 ≤ (al.getD k default).cap) : WithinAt al n (k + 1) fl := by
 refine ⟨h.1, fun i hi => ?_, fun i hi => h.2.2 i (by omega)⟩
 rcases Nat.lt_succ_iff_lt_or_eq.1 hi with h1 | h1
 · exact h.2.1 i h1
 · subst h1; have := h.2.2 i (Nat.le_refl _); rw [this]; exact ⟨Int.le_refl _, hc, fun _ => rfl⟩
theorem WithinAt.put {al : List Arc} {n k : Nat} {fl : List Int} {v : Int} (h : WithinAt al n k fl) (hk : k < n) (h0 : 0 ≤ v) (h1 : v ≤ (al.getD k default).cap) (hne : (al.getD k default).fr ≠ (al.getD k default).to) : WithinAt al n (k + 1) (fl.set k v) := by
 refine ⟨by simpa using h.1, fun i hi => ?_, fun i hi => by rw [Z4b (by omega)]; exact h.2.2 i (by omega)⟩
 by_cases e : i = k
 · subst e; rw [Z7l (by rw [h.1]; exact hk)]; exact ⟨h0, h1, fun e => absurd e hne⟩
 · rw [Z4b (by omega)]; exact h.2.1 i (by omega)
def resOK (aa cs : List Int) (bs : List Bool) (fl : List Int) (j : Nat) : Prop := aa.getD j 0 < fl.length ∧ (bs.getD j false = true ∨ (0 ≤ fl.getD (aa.getD j 0).toNat 0 ∧ fl.getD (aa.getD j 0).toNat 0 ≤ cs.getD j 0))
def resV (aa cs : List Int) (bs : List Bool) (fl : List Int) (j : Nat) : Int := if bs.getD j false = true then fl.getD (aa.getD j 0).toNat 0 else cs.getD j 0 - fl.getD (aa.getD j 0).toNat 0
def ResAt (aa cs : List Int) (bs : List Bool) (fl : List Int) (L k : Nat) (rl : List Int) : Prop := rl.length = L ∧ ∀ j, j < k → resOK aa cs bs fl j ∧ rl.getD j 0 = resV aa cs bs fl j
theorem ResAt.put {aa cs : List Int} {bs : List Bool} {fl : List Int} {L k : Nat} {rl : List Int} {v : Int} (h : ResAt aa cs bs fl L k rl) (hk : k < L) (h1 : resOK aa cs bs fl k) (h2 : v = resV aa cs bs fl k) : ResAt aa cs bs fl L (k + 1) (rl.set k v) := by
 refine ⟨by simpa using h.1, fun j hj => ?_⟩
 by_cases e : j = k
 · subst e; rw [Z7l (by rw [h.1]; exact hk)]; exact ⟨h1, h2⟩
 · rw [Z4b (by omega)]; exact h.2 j (by omega)
end Go.Acq
namespace Go.Acq
open Go
theorem CsrOK.place {al : List Arc} {m : Nat} {fs hs rs cs aa : List Int} {bs : List Bool} (h : CsrOK al m fs hs rs cs aa bs) {j : Nat} (hj : j < Z1e al m) :
    ∃ i s, i < al.length ∧ (al.getD i default).fr ≠ (al.getD i default).to ∧ pos al i s = j ∧ hs.getD j 0 = vtx (al.getD i default) (!s) ∧ rs.getD j 0 = pos al i (!s) ∧ cs.getD j 0 = (if s then 0 else (al.getD i default).cap) ∧ aa.getD j 0 = i ∧ bs.getD j false = s := by
  obtain ⟨i, s, hi, hne, hp, _⟩ := pos_surj hj
  have := h.hat i hi hne s
  rw [hp] at this
  exact ⟨i, s, hi, hne, hp, this⟩
end Go.Acq
namespace Go.Acq
open Go
theorem Zef {α : Type} {m : Option α} {v : α} (h : Ok m (fun a => a = v)) : m = some v := by obtain ⟨a, h1, h2⟩ := h; rw [h1, h2]
theorem Z8v {α : Type} {m : Option α} {v : α} {Q : α → Prop} (h : m = some v) (q : Q v) : Ok m Q := ⟨v, h, q⟩
abbrev lenok (n : Nat) : Prop := n ≤ 9223372036854775807
theorem Zfd {x n : Int} (h1 : n ≤ 4611686018427387904) : Z2m x n = some (Zfq x n) := by
 unfold Z2m Zfq
 by_cases h : n < 1
 · rw [if_pos h, if_pos h]
 ·
  have a1 := Int.tmod_lt_of_pos x (show 0 < n by omega)
  have a2 := Zfi x (show 0 < n by omega)
  rw [if_neg h, if_neg h, Zam (by omega), Zam (by constructor <;> omega), Zam (by omega)]
theorem Zf1 (n : Net) (v : Int) : Z63 n v = some (Z4u n.N v) := by
 unfold Z63 Z4u
 by_cases h : 0 ≤ v <;> simp [h]
theorem s_rules4 (n : Net) (a : Arc) : Z8i n a = some (Zeh n.N a) := by
 unfold Z8i Zeh
 rw [Zf1, Zf1]
 simp only [Option.bind_some]
 cases Z4u n.N a.fr <;> simp
theorem s_of4 (n : Net) (h : lenok n.Arcs.length) : Z58 n = some (n.Arcs.all (Zeh n.N)) := by
 refine Zef ?_
 unfold Z58 Z1z Z28
 refine Ok.bind.2 (Ok.bind.2 (Ok.bind.2 (Zif (fun x => 0 ≤ x ∧ x ≤ n.Arcs.length ∧ ∀ i, i < x.toNat → Zeh n.N (n.Arcs.getD i default) = true) (fun x => (n.Arcs.length - x).toNat) ⟨by omega, by omega, fun i hi => by omega⟩ (by unfold Z3f; omega) ?_)))
 rintro x ⟨h0, h1, h2⟩
 unfold Z1l Z5n
 refine Ok.ite.2 ⟨fun hx => ?_, fun hx => ?_⟩
 ·
  refine Ok.gd.2 ⟨(by omega), Ok.bind.2 (Ok.bind.2 (Z8v (s_rules4 _ _) (Ok.some.2 (Ok.ite.2 ⟨fun hb => ?_, fun hb => ?_⟩))))⟩
  ·
   refine Ok.some.2 (Ok.some.2 (Ok.some.2 (Ok.some.2 ?_)))
   simp only [h0, decide_true, Bool.not_true]
   refine Eq.symm (Bool.eq_false_iff.2 fun hall => ?_)
   have := List.all_eq_true.1 hall _ (Z5d (show x.toNat < n.Arcs.length by omega) default)
   rw [this] at hb; cases hb
  ·
   refine Ok.gd.2 ⟨(by omega), Ok.some.2 ⟨⟨by omega, by omega, fun i hi => ?_⟩, by omega⟩⟩
   rcases Nat.lt_or_ge i x.toNat with h3 | h3
   · exact h2 i h3
   · rw [show i = x.toNat by omega]; simpa using hb
 ·
  refine Ok.some.2 (Ok.some.2 (Ok.some.2 (Ok.some.2 ?_)))
  refine Eq.symm (List.all_eq_true.2 fun a ha => ?_)
  obtain ⟨i, hi, rfl⟩ := List.getElem_of_mem ha
  have := h2 i (by omega)
  rwa [List.getD_eq_getElem?_getD, List.getElem?_eq_getElem hi] at this
theorem s_of5 (n : Net) (h : lenok n.Arcs.length) : Z57 n = some (n.Arcs.all Znf) := by
 refine Zef ?_
 unfold Z57 Z1y Z27
 refine Ok.bind.2 (Ok.bind.2 (Ok.bind.2 (Zif (fun x => 0 ≤ x ∧ x ≤ n.Arcs.length ∧ ∀ i, i < x.toNat → Znf (n.Arcs.getD i default) = true) (fun x => (n.Arcs.length - x).toNat) ⟨by omega, by omega, fun i hi => by omega⟩ (by unfold Z3f; omega) ?_)))
 rintro x ⟨h0, h1, h2⟩
 unfold Z1k Z5m Z9x
 refine Ok.ite.2 ⟨fun hx => ?_, fun hx => ?_⟩
 ·
  refine Ok.gd.2 ⟨(by omega), Ok.bind.2 (Ok.bind.2 (Ok.some.2 (Ok.some.2 (Ok.ite.2 ⟨fun hb => ?_, fun hb => ?_⟩))))⟩
  ·
   refine Ok.some.2 (Ok.some.2 (Ok.some.2 (Ok.some.2 ?_)))
   simp only [h0, decide_true, Bool.not_true]
   refine Eq.symm (Bool.eq_false_iff.2 fun hall => ?_)
   have := List.all_eq_true.1 hall _ (Z5d (show x.toNat < n.Arcs.length by omega) default)
   simp only [Znf] at this
   rw [this] at hb; cases hb
  ·
   refine Ok.gd.2 ⟨(by omega), Ok.some.2 ⟨⟨by omega, by omega, fun i hi => ?_⟩, by omega⟩⟩
   rcases Nat.lt_or_ge i x.toNat with h3 | h3
   · exact h2 i h3
   · rw [show i = x.toNat by omega]; simpa [Znf] using hb
 ·
  refine Ok.some.2 (Ok.some.2 (Ok.some.2 (Ok.some.2 ?_)))
  refine Eq.symm (List.all_eq_true.2 fun a ha => ?_)
  obtain ⟨i, hi, rfl⟩ := List.getElem_of_mem ha
  have := h2 i (by omega)
  rwa [List.getD_eq_getElem?_getD, List.getElem?_eq_getElem hi] at this
theorem s_Sum (n : Net) (h : lenok n.Arcs.length) : Zce n = some (match Zig 4611686018427387904 n.Arcs with | some l => (4611686018427387904 - l, true) | none => (0, false)) := by
 refine Zef ?_
 unfold Zce
 refine Ok.bind.2 (Zif (fun s => 0 ≤ s.2 ∧ s.2 ≤ n.Arcs.length ∧ 0 ≤ s.1 ∧ s.1 ≤ 4611686018427387904 ∧ Zig 4611686018427387904 n.Arcs = Zig s.1 (n.Arcs.drop s.2.toNat)) (fun s => (n.Arcs.length - s.2).toNat) ⟨by simp, by simp, by simp, by simp, by simp⟩ (by unfold Z3f; simp; omega) ?_)
 rintro ⟨left, x⟩ ⟨h0, h1, h2, h3, h4⟩
 simp only at h0 h1 h2 h3 h4 ⊢
 unfold Z9d Z9e
 refine Ok.ite.2 ⟨fun hx => ?_, fun hx => ?_⟩
 ·
  rw [Zik (by omega)] at h4
  refine Ok.gd.2 ⟨(by omega), Ok.ite.2 ⟨fun hb => ?_, fun hb => ?_⟩⟩
  ·
   rw [if_pos rfl]
   refine Ok.some.2 (Ok.some.2 ?_)
   rw [h4, if_pos (.inl hb)]
  ·
   by_cases hc : left < (n.Arcs.getD x.toNat default).cap
   ·
    rw [if_pos (decide_eq_true hc)]
    refine Ok.some.2 (Ok.some.2 ?_)
    rw [h4, if_pos (.inr hc)]
   ·
    rw [if_neg (by simpa using hc)]
    refine Ok.gd.2 ⟨(by omega), Ok.gd.2 ⟨(by omega), Ok.some.2 ⟨⟨by simp only; omega, by simp only; omega, by simp only; omega, by simp only; omega, ?_⟩, by simp only; omega⟩⟩⟩
    rw [h4, if_neg (by omega)]
    simp only
    rw [show (x + 1).toNat = x.toNat + 1 by omega]
 ·
  unfold Zaz
  refine Ok.some.2 (Ok.gd.2 ⟨(by omega), Ok.some.2 ?_⟩)
  rw [h4, List.drop_eq_nil_of_le (by omega)]
  rfl
theorem Zmx (n : Net) (h : lenok n.Arcs.length) : Z8y n = some (Zan n.N n.S n.T n.Arcs) := by
 unfold Z8y Zbz Z7s Z7r Za0 Z9z Z9y Z9w Z94
 rw [Zf1, Zf1, s_of4 n h, s_of5 n h, s_Sum n h]
 unfold Zan
 simp only [Option.bind_some]
 by_cases h1 : 2 ≤ n.N ∧ n.N ≤ 4096
 ·
  rw [if_pos h1.1, if_neg (not_not_intro h1)]
  simp only [Option.bind_some, decide_eq_true h1.2, Bool.not_true, Bool.false_eq_true, if_false]
  by_cases h2 : (n.Arcs.length : Int) ≤ 16384
  ·
   rw [if_neg (by simp [h2]), if_neg (not_not_intro h2)]
   by_cases h3 : Z4u n.N n.S = true ∧ Z4u n.N n.T = true ∧ n.S ≠ n.T
   ·
    rw [if_pos h3.1, if_pos h3.2.1, if_neg (not_not_intro h3)]
    simp only [Option.bind_some, decide_eq_true h3.2.2, Bool.not_true, Bool.false_eq_true, if_false]
    cases h4 : n.Arcs.all (Zeh n.N)
    · simp
    ·
     cases h5 : n.Arcs.all Znf
     · simp
     · cases h6 : Zig 4611686018427387904 n.Arcs <;> simp
   ·
    rw [if_pos h3]
    by_cases a1 : Z4u n.N n.S = true
    ·
     by_cases a2 : Z4u n.N n.T = true
     ·
      have a3 : ¬ n.S ≠ n.T := fun e => h3 ⟨a1, a2, e⟩
      simp [a1, a2, a3]
     · simp [a1, a2]
    · simp [a1]
  · rw [if_pos (by simp [h2]), if_pos h2]
 ·
  rw [if_pos h1]
  by_cases a1 : 2 ≤ n.N
  ·
   have a2 : ¬ n.N ≤ 4096 := fun e => h1 ⟨a1, e⟩
   simp [a1, a2]
  · simp [a1]
end Go.Acq
namespace Go.Acq
open Go
set_option linter.unusedSimpArgs false
structure NetIn (n : Net) : Prop where
  nN : i64ok n.N
  nS : i64ok n.S
  nT : i64ok n.T
  arcs : ∀ a, a ∈ n.Arcs → i64ok a.fr ∧ i64ok a.to ∧ i64ok a.cap
  len : n.Arcs.length ≤ 9223372036854775807
structure Made (n : Net) (v a : Int) : Prop where
  check : Zan n.N n.S n.T n.Arcs = 0
  rows : SomeAt n.N.toNat n.Arcs
  verts : n.N ≤ v
  arcs : (n.Arcs.length : Int) ≤ a
  ends : 2 ≤ n.N ∧ 0 ≤ n.S ∧ n.S < n.N ∧ 0 ≤ n.T ∧ n.T < n.N ∧ n.S ≠ n.T
theorem Made.nat {n : Net} {v a : Int} (h : Made n v a) : ∃ m : Nat, n.N = m ∧ SomeAt m n.Arcs := ⟨n.N.toNat, by have := h.ends.1; omega, h.rows⟩
theorem Made.caps {n : Net} {m : Nat} (h : SomeAt m n.Arcs) : ∀ i, i < n.Arcs.length → 0 ≤ (n.Arcs.getD i default).cap ∧ (n.Arcs.getD i default).cap < 1125899906842624 := fun _ hi => (h _ (Z5d hi default)).2
theorem s_Some {n : Net} {v a : Int} (h : NetIn n) (hv0 : 2 ≤ v) (hv1 : v ≤ 4096) (ha0 : 0 ≤ a) (ha1 : a ≤ 4096) : Ok (Z5x n v a) (fun r => Made r v a) := by
 have hN := Zap (x := n.N) (n := v - 1) (by omega)
 unfold Z5x
 refine Ok.gd.2 ⟨(by omega), Ok.bind.2 (Z8v (Zfd (by omega)) (Ok.gd.2 ⟨(by omega), ?_⟩))⟩
 obtain ⟨m, hm⟩ : ∃ m : Nat, 2 + Zfq n.N (v - 1) = m := ⟨(2 + Zfq n.N (v - 1)).toNat, by omega⟩
 rw [hm]
 have hS := Zap (x := n.S) (n := (m : Int)) (by omega)
 have hT := Zap (x := n.T) (n := (m : Int)) (by omega)
 refine Ok.bind.2 (Z8v (Zfd (by omega)) (Ok.bind.2 (Z8v (Zfd (by omega)) ?_)))
 have key : ∀ t : Int, 0 ≤ t → t < m → t ≠ Zfq n.S m → Ok (Z3u n a (Zfq n.N (v - 1)) (Zfq n.S m) t) (fun r => Made r v a) := by
  intro t t0 t1 t2
  unfold Z3u
  refine Ok.gd.2 ⟨(by omega), Ok.bind.2 ?_⟩
  obtain ⟨q, hq⟩ : ∃ q : Nat, min (n.Arcs.length : Int) a = q := ⟨(min (n.Arcs.length : Int) a).toNat, by omega⟩
  obtain ⟨al, hal⟩ : ∃ l, l = n.Arcs.take (q : Int).toNat := ⟨_, rfl⟩
  have hlen : al.length = q := by rw [hal, List.length_take]; omega
  have hcap : ∀ b, b ∈ al → i64ok b.cap := fun b hb => (h.arcs b (List.mem_of_mem_take (by rw [← hal]; exact hb))).2.2
  refine Z76 (fun s => ∃ k : Nat, s.2 = k ∧ k ≤ q ∧ s.1.length = k ∧ SomeAt m s.1) (fun s => (q - s.2).toNat) ⟨0, rfl, by omega, rfl, fun b hb => by cases hb⟩ (by unfold Z3f; simp only; omega) ?_
  rintro ⟨ol, x⟩ ⟨k, h1, h2, h3, h4⟩ P next exit
  simp only at h1 h2 h3 h4 next ⊢
  subst h1
  unfold Z4i
  rw [hq, ← hal]
  simp only [Int.toNat_natCast]
  refine Ok.ite.2 ⟨fun hx => ?_, fun hx => ?_⟩
  ·
   have hkl : k < al.length := by omega
   have hc := hcap _ (Z5d hkl default)
   have hj : ∀ c : Int, 0 ≤ c → Ok (Z3t n a (Zfq n.N (v - 1)) ol k c) P := by
    intro c hc0
    unfold Z3t
    rw [hq, ← hal, hm]
    refine Ok.bind.2 (Z8v (Zfd (by omega)) (Ok.bind.2 (Z8v (Zfd (by omega)) (Ok.gd.2 ⟨?_, Ok.gd.2 ⟨(by omega), Ok.some.2 (next _ ⟨k + 1, by simp, by omega, by simp [h3], ?_⟩ (by simp only; omega))⟩⟩))))
    · rw [List.length_append, h3]; simp only [List.length_cons, List.length_nil]; constructor <;> omega
    · exact h4.put (Zap (by omega)) (Zap (by omega)) (Zgm hc0 (by omega))
   refine Ok.gd.2 ⟨(by omega), Ok.ite.2 ⟨fun hn => ?_, fun hn => ?_⟩⟩
   · exact Ok.gd.2 ⟨by constructor <;> omega, Ok.gd.2 ⟨by constructor <;> omega, hj (-((al.getD k default).cap + 1)) (by omega)⟩⟩
   · exact hj (al.getD k default).cap (by omega)
  ·
   refine Ok.some.2 (exit _ ?_)
   unfold Z5o
   refine Ok.some.2 ?_
   rw [hm]
   exact ⟨Zl8 (by omega) (by omega) hS ⟨t0, t1⟩ t2 h4 (show ol.length ≤ 4096 by omega), by simpa using h4, by simp only; omega, by show (ol.length : Int) ≤ a; omega, ⟨by simp only; omega, hS.1, hS.2, t0, t1, fun e => t2 e.symm⟩⟩
 refine Ok.ite.2 ⟨fun he => ?_, fun he => ?_⟩
 ·
  refine Ok.gd.2 ⟨(by omega), Ok.gd.2 ⟨by omega, ?_⟩⟩
  obtain ⟨n1, n2, n3⟩ := next_ne hS.1 hS.2 (by omega)
  exact key _ n1 n2 n3
 · exact key _ hT.1 hT.2 (fun e => he e.symm)
theorem Zmv {n : Net} {m : Nat} (hN : n.N = m) (hm : m ≤ 4096) (hl : n.Arcs.length ≤ 16384) (he : Z5e m n.Arcs) :
    Ok (Z8k n) (fun fs => fs.length = m + 1 ∧ ∀ u, u ≤ m → fs.getD u 0 = Z1e n.Arcs u) := by
  unfold Z8k
  simp only [hN]
  refine Ok.gd.2 ⟨(by omega), Ok.gd.2 ⟨(by omega), Ok.bind.2 (Z76 (fun s => ∃ k : Nat, s.2 = k ∧ k ≤ n.Arcs.length ∧ Counted n.Arcs m k s.1) (fun s => (n.Arcs.length - s.2).toNat) ⟨0, rfl, by omega, Counted.start n.Arcs m (by omega)⟩ (by unfold Z3f; simp only; omega) ?_)⟩⟩
  rintro ⟨fs, x⟩ ⟨k, h1, h2, h3⟩ P next exit
  simp only at h1 h2 h3 next ⊢
  subst h1
  unfold Z6e
  simp only [Int.toNat_natCast]
  refine Ok.ite.2 ⟨fun hx => ?_, fun hx => ?_⟩
  · have hkl : k < n.Arcs.length := by omega
    have hfl := h3.1
    have e0 := he k hkl false
    have e1 := he k hkl true
    simp only [vtx, Bool.false_eq_true, if_false, if_true] at e0 e1
    have c0 := h3.2.2 _ e0.1 e0.2
    have c1 := h3.2.2 _ e1.1 e1.2
    have d0 := Zkp n.Arcs (n.Arcs.getD k default).fr.toNat k
    have d1 := Zkp n.Arcs (n.Arcs.getD k default).to.toNat k
    refine Ok.gd.2 ⟨(by omega), Ok.ite.2 ⟨fun hne => ?_, fun hne => ?_⟩⟩
    · have c2 : (fs.set ((n.Arcs.getD k default).fr + 1).toNat (fs.getD ((n.Arcs.getD k default).fr + 1).toNat 0 + 1)).getD ((n.Arcs.getD k default).to + 1).toNat 0 = cnt n.Arcs (n.Arcs.getD k default).to.toNat k := by rw [Z4b (by omega)]; exact c1
      refine Ok.gd.2 ⟨(by omega), Ok.gd.2 ⟨(by omega), Ok.gd.2 ⟨(by omega), Ok.gd.2 ⟨(by omega), Ok.gd.2 ⟨(by omega), Ok.gd.2 ⟨(by simp only [List.length_set, List.length_replicate]; omega), Ok.gd.2 ⟨(by omega), Ok.gd.2 ⟨(by simp only [List.length_set, List.length_replicate]; omega), Ok.gd.2 ⟨(by omega), Ok.some.2 (next _ ⟨k + 1, by simp, by omega, ?_⟩ (by simp only; omega))⟩⟩⟩⟩⟩⟩⟩⟩⟩
      exact h3.put he hkl hne
    · refine Ok.gd.2 ⟨(by omega), Ok.some.2 (next _ ⟨k + 1, by simp, by omega, h3.skip (Classical.not_not.1 hne)⟩ (by simp only; omega))⟩
  · refine Ok.some.2 (exit _ ?_)
    have hk : k = n.Arcs.length := by omega
    subst hk
    unfold Z7x
    refine Ok.bind.2 (Z76 (fun s => ∃ v : Nat, s.2 = v ∧ v ≤ m ∧ Summed n.Arcs m v s.1) (fun s => (m - s.2).toNat) ⟨0, rfl, by omega, h3.summed⟩ (by unfold Z3f; simp only; omega) ?_)
    rintro ⟨gs, y⟩ ⟨v, g1, g2, g3⟩ P2 next2 exit2
    simp only at g1 g2 g3 next2 ⊢
    subst g1
    unfold Z6d
    simp only [hN, Int.toNat_natCast]
    have hgl := g3.1
    have b0 := g3.2.1 v (Nat.le_refl _)
    refine Ok.ite.2 ⟨fun hv => ?_, fun hv => ?_⟩
    · have b1 := g3.2.2 v (Nat.le_refl _) (by omega)
      have b2 := Z9h (al := n.Arcs) (v := v) (by omega) hl
      have b3 := Zkp n.Arcs v n.Arcs.length
      have b5 : ((v : Int) + 1).toNat = v + 1 := by omega
      simp only [b5]
      refine Ok.gd.2 ⟨(by omega), Ok.gd.2 ⟨(by omega), Ok.gd.2 ⟨(by omega), Ok.gd.2 ⟨(by omega), Ok.gd.2 ⟨(by omega), Ok.gd.2 ⟨(by omega), Ok.some.2 (next2 _ ⟨v + 1, by simp, by omega, ?_⟩ (by simp only; omega))⟩⟩⟩⟩⟩⟩
      exact g3.put (by omega) rfl
    · refine Ok.some.2 (exit2 _ ?_)
      unfold Z7w
      have : v = m := by omega
      subst this
      exact Ok.some.2 ⟨hgl, g3.2.1⟩
structure CsrIs (n : Net) (m : Nat) (c : Csr) : Prop where
  hN : c.N = m
  hS : c.S = n.S
  hT : c.T = n.T
  ok : CsrOK n.Arcs m c.First c.Head c.Rev c.Cap c.Arc c.Back
theorem s_Make {n : Net} {m : Nat} (hN : n.N = m) (hc : Zan n.N n.S n.T n.Arcs = 0) (hl : lenok n.Arcs.length) :
    Ok (Zbh n) (fun r => CsrIs n m r.1 ∧ r.2 = 0) := by
  have hz := Z2u hc
  have hm : m ≤ 4096 := by omega
  have he : Z5e m n.Arcs := Zdx (by rw [← hN]; exact hz.2.2.2.1)
  unfold Zbh
  refine Ok.bind.2 (Z8v (Zmx n hl) (Ok.ite.2 ⟨fun h => absurd hc h, fun _ => Ok.bind.2 (Ok.mono (Zmv hN hm (by omega) he) ?_)⟩))
  rintro fs ⟨hfl, hfs⟩
  simp only [hN, Int.toNat_natCast, hfs m (Nat.le_refl _)]
  have hbs := Z9h (al := n.Arcs) (v := m) hm (by omega)
  unfold Z2a
  refine Ok.gd.2 ⟨(by omega), Ok.gd.2 ⟨(by omega), Ok.gd.2 ⟨(by omega), Ok.gd.2 ⟨(by omega), Ok.gd.2 ⟨(by omega), Ok.gd.2 ⟨(by omega), Ok.bind.2 (Ok.gd.2 ⟨(by omega), Ok.some.2 (Ok.bind.2 ?_)⟩)⟩⟩⟩⟩⟩⟩
  refine Z76 (fun s => ∃ k : Nat, s.2.2.2.2.2.2 = k ∧ k ≤ n.Arcs.length ∧ MakeAt n.Arcs m k s.2.2.2.2.2.1 s.1 s.2.1 s.2.2.1 s.2.2.2.1 s.2.2.2.2.1) (fun s => (n.Arcs.length - s.2.2.2.2.2.2).toNat) ⟨0, rfl, by omega, MakeAt.start hfl hfs⟩ (by unfold Z3f; simp only; omega) ?_
  rintro ⟨hs, rs, cs, aa, bs, nx, x⟩ ⟨k, h1, h2, h3⟩ P next exit
  simp only at h1 h2 h3 next ⊢
  subst h1
  unfold Z8m
  simp only [Int.toNat_natCast]
  refine Ok.ite.2 ⟨fun hx => ?_, fun hx => ?_⟩
  · have hkl : k < n.Arcs.length := by omega
    refine Ok.gd.2 ⟨(by omega), Ok.ite.2 ⟨fun heq => ?_, fun hne => ?_⟩⟩
    · exact Ok.gd.2 ⟨(by omega), Ok.some.2 (next _ ⟨k + 1, by simp, by omega, h3.skip heq⟩ (by simp only; omega))⟩
    · have e0 := he k hkl false
      have e1 := he k hkl true
      have n0 := h3.at he hkl false
      have n1 := h3.at he hkl true
      have p0 : pos n.Arcs k false < Z1e n.Arcs m := Zda hkl hne he
      have p1 : pos n.Arcs k true < Z1e n.Arcs m := Zda hkl hne he
      simp only [vtx, Bool.false_eq_true, if_false, if_true] at e0 e1 n0 n1
      have hh := h3
      obtain ⟨⟨l0, l1, l2, l3, l4, l5⟩, _, _⟩ := h3
      unfold Z9g
      simp only [n0, Int.toNat_natCast]
      have n2 : (nx.set (n.Arcs.getD k default).fr.toNat ((pos n.Arcs k false : Int) + 1)).getD (n.Arcs.getD k default).to.toNat 0 = (pos n.Arcs k true : Nat) := by rw [Z4b (by omega)]; exact n1
      refine Ok.bind.2 (Ok.gd.2 ⟨(by omega), Ok.gd.2 ⟨(by omega), Ok.gd.2 ⟨(by omega), Ok.gd.2 ⟨(by omega), Ok.gd.2 ⟨(by omega), Ok.gd.2 ⟨(by omega), Ok.gd.2 ⟨(by omega), Ok.gd.2 ⟨(by omega), Ok.some.2 (Ok.bind.2 ?_)⟩⟩⟩⟩⟩⟩⟩⟩)
      simp only [n2, Int.toNat_natCast]
      refine Ok.gd.2 ⟨(by simp only [List.length_set, List.length_replicate]; omega), Ok.gd.2 ⟨(by simp only [List.length_set, List.length_replicate]; omega), Ok.gd.2 ⟨(by omega), Ok.gd.2 ⟨(by simp only [List.length_set, List.length_replicate]; omega), Ok.gd.2 ⟨(by simp only [List.length_set, List.length_replicate]; omega), Ok.gd.2 ⟨(by simp only [List.length_set, List.length_replicate]; omega), Ok.gd.2 ⟨(by simp only [List.length_set, List.length_replicate]; omega), Ok.gd.2 ⟨(by simp only [List.length_set, List.length_replicate]; omega), Ok.some.2 (Ok.gd.2 ⟨(by omega), Ok.gd.2 ⟨(by simp only [List.length_set, List.length_replicate]; omega), Ok.gd.2 ⟨(by omega), Ok.some.2 (next _ ⟨k + 1, by simp, by omega, ?_⟩ (by simp only; omega))⟩⟩⟩)⟩⟩⟩⟩⟩⟩⟩⟩
      exact hh.put he hkl hne
  · refine Ok.some.2 (exit _ ?_)
    unfold Za1
    have hk : k = n.Arcs.length := by omega
    subst hk
    exact Ok.some.2 ⟨⟨hN, rfl, rfl, h3.done hfl hfs⟩, rfl⟩
def Zdb (rs cs : List Int) (res : List Int) (j : Nat) : Prop :=
  0 ≤ res.getD j 0 ∧ res.getD j 0 ≤ max (cs.getD j 0) (cs.getD (rs.getD j 0).toNat 0) ∧ res.getD (rs.getD j 0).toNat 0 = max (cs.getD j 0) (cs.getD (rs.getD j 0).toNat 0) - res.getD j 0
def FlowK (al : List Arc) (a : Nat) (res : List Int) (k : Nat) (fl : List Int) : Prop :=
  fl.length = a ∧ ∀ i, fl.getD i 0 = if i < al.length ∧ (al.getD i default).fr ≠ (al.getD i default).to ∧ pos al i true < k then res.getD (pos al i true) 0 else 0
theorem s_over {l : List Int} {a : Int} (hl : lenok l.length) : Ok (Z25 l a) (fun r => r = decide (∃ j, j < l.length ∧ a ≤ l.getD j 0)) := by
 unfold Z25 Z3e
 refine Ok.bind.2 (Ok.bind.2 (Z76 (fun x => ∃ k : Nat, x = k ∧ k ≤ l.length ∧ ∀ j, j < k → ¬ a ≤ l.getD j 0) (fun x => (l.length - x).toNat) ⟨0, rfl, by omega, fun j hj => by omega⟩ (by unfold Z3f; omega) ?_))
 rintro x ⟨k, rfl, g2, g3⟩ P next exit
 unfold Z24 Zb1
 simp only [Int.toNat_natCast]
 refine Ok.ite.2 ⟨fun hx => ?_, fun hx => ?_⟩
 ·
  refine Ok.gd.2 ⟨(by omega), Ok.bind.2 (Ok.some.2 (Ok.ite.2 ⟨fun hd => ?_, fun hd => ?_⟩))⟩
  ·
   have hd := of_decide_eq_true hd
   refine Ok.some.2 (exit _ (Ok.some.2 (Ok.some.2 ?_)))
   rw [decide_eq_true (show (0 : Int) ≤ k by omega)]
   exact (decide_eq_true ⟨k, by omega, hd⟩).symm
  ·
   refine Ok.gd.2 ⟨(by omega), Ok.some.2 (next _ ⟨k + 1, by simp, by omega, fun j hj => ?_⟩ (by omega))⟩
   rcases Nat.lt_or_ge j k with h | h
   · exact g3 j h
   · rw [show j = k by omega]; exact fun h => hd (decide_eq_true h)
 ·
  refine Ok.some.2 (exit _ (Ok.some.2 (Ok.some.2 ?_)))
  refine (decide_eq_false ?_).symm
  rintro ⟨j, hj, hja⟩
  exact g3 j (by omega) hja
end Go.Acq
namespace Go.Acq
open Go
set_option linter.unusedSimpArgs false
def ex (al : List Arc) (f : List Int) (v : Int) : Nat → Int
  | 0 => 0
  | k + 1 => ex al f v k - (if (al.getD k default).fr = v then f.getD k 0 else 0) + (if (al.getD k default).to = v then f.getD k 0 else 0)
def tot (f : List Int) : Nat → Int
  | 0 => 0
  | k + 1 => tot f k + f.getD k 0
def part (al : List Arc) (f : List Int) (j : Int) : Nat → Int
  | 0 => 0
  | k + 1 => part al f j k - (if (al.getD k default).fr < j then f.getD k 0 else 0) + (if (al.getD k default).to < j then f.getD k 0 else 0)
theorem ex_le {al : List Arc} {f : List Int} (v : Int) {n : Nat} (h : ∀ i, i < n → 0 ≤ f.getD i 0) : ∀ k, k ≤ n → -tot f k ≤ ex al f v k ∧ ex al f v k ≤ tot f k
 | 0, _ => by simp [ex, tot]
 | k + 1, hk => by
  have ih := ex_le (al := al) v h k (by omega)
  have := h k hk
  simp only [ex, tot]
  split <;> split <;> omega
theorem Ziq {al : List Arc} {f : List Int} (j : Int) : ∀ k, part al f (j + 1) k = part al f j k + ex al f j k
 | 0 => by simp [part, ex]
 | k + 1 => by
  have ih := Ziq (al := al) (f := f) j k
  simp only [part, ex, ih]
  have e1 : ∀ x : Int, (if x < j + 1 then f.getD k 0 else 0) = (if x < j then f.getD k 0 else 0) + (if x = j then f.getD k 0 else 0) := fun x => by
   by_cases h1 : x < j
   · rw [if_pos h1, if_pos (by omega), if_neg (by omega)]; omega
   ·
    by_cases h2 : x = j
    · rw [if_neg h1, if_pos (by omega), if_pos h2]; omega
    · rw [if_neg h1, if_neg (by omega), if_neg h2]; omega
  rw [e1, e1]; omega
theorem Zir {al : List Arc} {f : List Int} {m : Nat} (he : Z5e m al) : ∀ k, k ≤ al.length → part al f 0 k = 0
 | 0, _ => rfl
 | k + 1, hk => by
  have h0 := he k hk false
  have h1 := he k hk true
  simp only [vtx, Bool.false_eq_true, if_false, if_true] at h0 h1
  simp only [part, Zir he k (by omega)]
  rw [if_neg (by omega), if_neg (by omega)]; rfl
theorem Zhy {al : List Arc} {f : List Int} {m : Nat} (he : Z5e m al) : ∀ k, k ≤ al.length → part al f m k = 0
 | 0, _ => rfl
 | k + 1, hk => by
  have h0 := he k hk false
  have h1 := he k hk true
  simp only [vtx, Bool.false_eq_true, if_false, if_true] at h0 h1
  simp only [part, Zhy he k (by omega)]
  rw [if_pos h0.2, if_pos h1.2]; omega
theorem Zhq {f : List Int} {n : Nat} (h : ∀ i, i < n → 0 ≤ f.getD i 0) : ∀ j k, j ≤ k → k ≤ n → tot f j ≤ tot f k
  | j, 0, hj, _ => by have : j = 0 := by omega
                      subst this; exact Int.le_refl _
  | j, k + 1, hj, hk => by
    rcases Nat.lt_or_ge j (k + 1) with h1 | h1
    · have := Zhq h j k (by omega) (by omega)
      have := h k hk
      simp only [tot]; omega
    · rw [show j = k + 1 by omega]; exact Int.le_refl _
theorem sumL_tot {f : List Int} : ∀ (al : List Arc) (left : Int) (k : Nat), (Zig left (al.drop k)).isSome = true → 0 ≤ left → k ≤ al.length → (∀ i, i < al.length → 0 ≤ f.getD i 0 ∧ f.getD i 0 ≤ (al.getD i default).cap) → tot f al.length - tot f k ≤ left := by
 intro al left k
 induction hn : al.length - k generalizing left k with
 | zero =>
  intro _ h0 hk _
  rw [show k = al.length by omega]; omega
 | succ n ih =>
  intro hs h0 hk hf
  have hkl : k < al.length := by omega
  rw [Zik hkl] at hs
  by_cases hc : (al.getD k default).cap < 0 ∨ left < (al.getD k default).cap
  · rw [if_pos hc] at hs; cases hs
  ·
   rw [if_neg hc] at hs
   have := ih (left - (al.getD k default).cap) (k + 1) (by omega) hs (by omega) (by omega) hf
   have hfk := hf k hkl
   simp only [tot] at this
   omega
def FwithinP (n : Net) (f : List Int) : Prop := Zan n.N n.S n.T n.Arcs = 0 ∧ f.length = n.Arcs.length ∧ ∀ i, i < n.Arcs.length → 0 ≤ f.getD i 0 ∧ f.getD i 0 ≤ (n.Arcs.getD i default).cap
theorem FwithinP.tot {n : Net} {f : List Int} (h : FwithinP n f) : ∀ k, k ≤ n.Arcs.length → 0 ≤ tot f k ∧ tot f k ≤ 4611686018427387904 := by
 intro k hk
 have hz := Z2u h.1
 have h1 := sumL_tot (f := f) n.Arcs 4611686018427387904 0 (by simpa using hz.2.2.2.2.2) (by omega) (by omega) h.2.2
 have h2 := Zhq (fun i hi => (h.2.2 i hi).1) k n.Arcs.length hk (Nat.le_refl _)
 have h3 := Zhq (fun i hi => (h.2.2 i hi).1) 0 k (by omega) hk
 simp only [Acq.tot] at h1 h3
 omega
theorem Zdt {n : Net} {f : List Int} (hl : lenok n.Arcs.length) : Ok (Z5a n f) (fun b => b = true ↔ FwithinP n f) := by
 unfold Z5a
 refine Ok.bind.2 (Z8v (Zmx n hl) (Ok.ite.2 ⟨fun h => Ok.some.2 ⟨fun h2 => (by cases h2), fun h2 => absurd h2.1 h⟩, fun h1 => Ok.ite.2 ⟨fun h => Ok.some.2 ⟨fun h2 => (by cases h2), fun h2 => absurd h2.2.1 (by omega)⟩, fun h2 => Ok.bind.2 ?_⟩⟩))
 have hz := Z2u (Classical.not_not.1 h1)
 refine Z76 (fun x => ∃ k : Nat, x = k ∧ k ≤ n.Arcs.length ∧ ∀ i, i < k → 0 ≤ f.getD i 0 ∧ f.getD i 0 ≤ (n.Arcs.getD i default).cap) (fun x => (n.Arcs.length - x).toNat) ⟨0, rfl, by omega, fun i hi => by omega⟩ (by unfold Z3f; omega) ?_
 rintro x ⟨k, rfl, hk, h3⟩ P next exit
 unfold Z6b
 simp only [Int.toNat_natCast]
 refine Ok.ite.2 ⟨fun hx => ?_, fun hx => ?_⟩
 ·
  refine Ok.gd.2 ⟨(by omega), Ok.gd.2 ⟨(by omega), Ok.ite.2 ⟨fun h => Ok.some.2 (exit _ (Ok.some.2 ⟨fun h2 => (by cases h2), fun h2 => by have := h2.2.2 k (by omega); omega⟩)), fun h4 => Ok.gd.2 ⟨(by omega), Ok.ite.2 ⟨fun h => Ok.some.2 (exit _ (Ok.some.2 ⟨fun h2 => (by cases h2), fun h2 => by have := h2.2.2 k (by omega); omega⟩)), fun h5 => Ok.gd.2 ⟨(by omega), Ok.some.2 (next _ ⟨k + 1, by simp, by omega, fun i hi => ?_⟩ (by omega))⟩⟩⟩⟩⟩⟩
  rcases Nat.lt_or_ge i k with h | h
  · exact h3 i h
  · rw [show i = k by omega]; omega
 ·
  refine Ok.some.2 (exit _ ?_)
  unfold Z7u
  exact Ok.some.2 ⟨fun _ => ⟨Classical.not_not.1 h1, by omega, fun i hi => h3 i (by omega)⟩, fun _ => rfl⟩
theorem Zcv {n : Net} {f : List Int} (hl : lenok n.Arcs.length) : Ok (Z47 n f) (fun r => (FwithinP n f ∧ r.2 = 0 ∧ r.1.length = n.N.toNat ∧ ∀ v : Nat, v < n.N.toNat → r.1.getD v 0 = ex n.Arcs f v n.Arcs.length) ∨ (¬ FwithinP n f ∧ r = ([], 20))) := by
 unfold Z47
 refine Ok.bind.2 (Ok.mono (Zdt hl) fun b hb => Ok.ite.2 ⟨fun h => Ok.some.2 (.inr ⟨fun h2 => (by rw [hb.2 h2] at h; cases h), rfl⟩), fun h => ?_⟩)
 have hw : FwithinP n f := hb.1 (by cases b; exact absurd rfl h; rfl)
 have hz := Z2u hw.1
 obtain ⟨m, hm⟩ : ∃ m : Nat, n.N = m := ⟨n.N.toNat, by omega⟩
 have he : Z5e m n.Arcs := Zdx (by rw [← hm]; exact hz.2.2.2.1)
 have hfl := hw.2.1
 refine Ok.gd.2 ⟨(by omega), Ok.bind.2 ?_⟩
 rw [hm]
 simp only [Int.toNat_natCast]
 refine Z76 (fun s => ∃ k : Nat, s.2 = k ∧ k ≤ n.Arcs.length ∧ s.1.length = m ∧ ∀ v : Nat, v < m → s.1.getD v 0 = ex n.Arcs f v k) (fun s => (n.Arcs.length - s.2).toNat) ⟨0, rfl, by omega, List.length_replicate, fun v _ => by rw [Z1w]; rfl⟩ (by unfold Z3f; simp only; omega) ?_
 rintro ⟨xs, x⟩ ⟨k, h1, hk, h3, h4⟩ P next exit
 simp only at h1 h3 h4 next ⊢
 subst h1
 unfold Z6c
 simp only [Int.toNat_natCast]
 refine Ok.ite.2 ⟨fun hx => ?_, fun hx => ?_⟩
 ·
  have hkl : k < n.Arcs.length := by omega
  have e0 := he k hkl false
  have e1 := he k hkl true
  simp only [vtx, Bool.false_eq_true, if_false, if_true] at e0 e1
  obtain ⟨p, hp⟩ : ∃ p : Nat, (n.Arcs.getD k default).fr = p := ⟨(n.Arcs.getD k default).fr.toNat, by omega⟩
  obtain ⟨q, hq⟩ : ∃ q : Nat, (n.Arcs.getD k default).to = q := ⟨(n.Arcs.getD k default).to.toNat, by omega⟩
  have hfk := hw.2.2 k hkl
  have b0 := ex_le (al := n.Arcs) (f := f) (p : Int) (fun i hi => (hw.2.2 i hi).1) k hk
  have b1 := ex_le (al := n.Arcs) (f := f) (q : Int) (fun i hi => (hw.2.2 i hi).1) k hk
  have t0 := hw.tot k hk
  have t1 := hw.tot (k + 1) hkl
  simp only [tot] at t1
  rw [hp] at e0
  rw [hq] at e1
  have v0 := h4 p (by omega)
  have v1 := h4 q (by omega)
  simp only [hp, hq, Int.toNat_natCast, v0, Zcf, List.length_set, h3]
  refine Ok.gd.2 ⟨(by omega), Ok.gd.2 ⟨(by omega), Ok.gd.2 ⟨(by omega), Ok.gd.2 ⟨(by omega), Ok.gd.2 ⟨(by omega), Ok.gd.2 ⟨(by omega), Ok.gd.2 ⟨(by omega), Ok.gd.2 ⟨by split <;> constructor <;> omega, Ok.gd.2 ⟨(by omega), Ok.gd.2 ⟨(by omega), Ok.some.2 (next _ ⟨k + 1, by simp, by omega, by simp [h3], fun v hv => ?_⟩ (by simp only; omega))⟩⟩⟩⟩⟩⟩⟩⟩⟩⟩
  simp only [Zcf, List.length_set, h3, ex, hp, hq]
  rw [h4 v hv]
  by_cases c1 : p = v
  ·
   subst c1
   by_cases c2 : q = p
   ·
    subst c2
    simp only [true_and, if_true]
    rw [if_pos (by omega)]; simp [show q < m by omega]
   · rw [if_neg (fun h => c2 h.1), if_pos ⟨rfl, by omega⟩, if_pos rfl, if_neg (by omega)]; omega
  ·
   by_cases c2 : q = v
   ·
    subst c2
    rw [if_pos ⟨rfl, by omega⟩, if_neg (fun h => c1 h.1), if_neg (by omega), if_pos rfl, v1]; omega
   · rw [if_neg (fun h => c2 h.1), if_neg (fun h => c1 h.1), if_neg (by omega), if_neg (by omega)]; omega
 ·
  refine Ok.some.2 (exit _ ?_)
  unfold Z7v
  rw [show k = n.Arcs.length by omega] at h4
  exact Ok.some.2 (.inl ⟨hw, rfl, h3, h4⟩)
theorem Zgo {s : List Int} {v : Int} (hl : lenok s.length) : Z3i s v = some (s.contains v) := by
 refine Zef ?_
 unfold Z3i Z6q
 refine Ok.bind.2 (Ok.bind.2 (Z76 (fun x => ∃ k : Nat, x = k ∧ k ≤ s.length ∧ ∀ j, j < k → s.getD j 0 ≠ v) (fun x => (s.length - x).toNat) ⟨0, rfl, by omega, fun j hj => by omega⟩ (by unfold Z3f; omega) ?_))
 rintro x ⟨k, rfl, g2, g3⟩ P next exit
 unfold Z49
 simp only [Int.toNat_natCast]
 refine Ok.ite.2 ⟨fun hx => ?_, fun hx => ?_⟩
 ·
  refine Ok.gd.2 ⟨(by omega), Ok.ite.2 ⟨fun h => Ok.some.2 (exit _ (Ok.some.2 (Ok.some.2 ?_))), fun h => Ok.gd.2 ⟨(by omega), Ok.some.2 (next _ ⟨k + 1, by simp, by omega, fun j hj => ?_⟩ (by omega))⟩⟩⟩
  ·
   rw [show s.contains v = true from List.contains_iff_mem.2 (by rw [h]; exact Z5d (by omega) 0)]
   exact decide_eq_true (by omega)
  ·
   rcases Nat.lt_or_ge j k with h1 | h1
   · exact g3 j h1
   · rw [show j = k by omega]; exact fun e => h e.symm
 ·
  refine Ok.some.2 (exit _ ?_)
  unfold Z54
  refine Ok.some.2 (Ok.some.2 ?_)
  have : s.contains v = false := by
   rw [Bool.eq_false_iff]
   intro hc
   obtain ⟨j, hj, e⟩ := List.mem_iff_getElem.1 (List.contains_iff_mem.1 hc)
   have := g3 j (by omega)
   rw [List.getD_eq_getElem?_getD, List.getElem?_eq_getElem hj] at this
   exact this e
  rw [this]
  exact decide_eq_false (by omega)
theorem Zao {b : Bool} (h : ¬(!b) = true) : b = true := by cases b; exact absurd rfl h; rfl
theorem Zgu {l : List Int} {x : Int} (h : ¬(!l.contains x) = true) : x ∈ l := List.contains_iff_mem.1 (Zao h)
def Zka (n : Net) (f : List Int) (so : Int → Prop) (but : List Int) : Prop := FwithinP n f ∧ ∀ v : Nat, v < n.N.toNat → so (ex n.Arcs f v n.Arcs.length) ∨ (v : Int) ∈ but
theorem s_Pre {n : Net} {f : List Int} (hl : lenok n.Arcs.length) : Ok (Z8z n f) (fun b => b = true ↔ Zka n f (fun x => 0 ≤ x) [n.S]) := by
 unfold Z8z Z7t
 refine Ok.bind.2 (Ok.mono (Q := fun b => b = true ↔ Zka n f (fun x => 0 ≤ x) [n.S]) ?_ fun b hb => Ok.some.2 hb)
 refine Ok.bind.2 (Ok.mono (Zcv hl) ?_)
 rintro ⟨l, e⟩ hle
 refine Ok.bind.2 (Z76 (fun x => ∃ k : Nat, x = k ∧ k ≤ l.length ∧ ∀ v, v < k → 0 ≤ l.getD v 0 ∨ (v : Int) ∈ [n.S]) (fun x => (l.length - x).toNat) ⟨0, rfl, by omega, fun j hj => by omega⟩ ?_ ?_)
 ·
  rcases hle with ⟨hw, -, h2, -⟩ | ⟨-, h2⟩
  · have := Z2u hw.1; simp only at h2; unfold Z3f; omega
  · injection h2 with h2 h3; subst h2; unfold Z3f; simp
 rintro x ⟨k, rfl, g2, g3⟩ P next exit
 unfold Z4v Zb0
 simp only [Int.toNat_natCast]
 have hlen : l.length ≤ 4096 := by
  rcases hle with ⟨hw, -, h2, -⟩ | ⟨-, h2⟩
  · have := Z2u hw.1; simp only at h2; omega
  · injection h2 with h2 h3; subst h2; simp
 refine Ok.ite.2 ⟨fun hx => ?_, fun hx => ?_⟩
 ·
  refine Ok.gd.2 ⟨(by omega), Ok.bind.2 (Ok.some.2 (Ok.ite.2 ⟨fun h => Ok.bind.2 (Z8v (Zgo (by simp)) (Ok.ite.2 ⟨fun h2 => Ok.some.2 (exit _ (Ok.some.2 ⟨fun h3 => (by cases h3), fun h3 => ?_⟩)), fun h2 => Ok.gd.2 ⟨(by omega), Ok.some.2 (next _ ⟨k + 1, by simp, by omega, fun j hj => ?_⟩ (by omega))⟩⟩)), fun h => Ok.gd.2 ⟨(by omega), Ok.some.2 (next _ ⟨k + 1, by simp, by omega, fun j hj => ?_⟩ (by omega))⟩⟩))⟩
  ·
   exfalso
   rcases hle with ⟨hw, -, h5, h6⟩ | ⟨h5, -⟩
   ·
    simp only at h5 h6
    rcases h3.2 k (by omega) with h7 | h7
    · rw [← h6 k (by omega)] at h7; rw [decide_eq_true h7] at h; cases h
    · rw [List.contains_iff_mem.2 h7] at h2; cases h2
   · exact h5 h3.1
  ·
   rcases Nat.lt_or_ge j k with h1 | h1
   · exact g3 j h1
   · rw [show j = k by omega]; right; exact Zgu h2
  ·
   rcases Nat.lt_or_ge j k with h1 | h1
   · exact g3 j h1
   · rw [show j = k by omega]; left; exact of_decide_eq_true (Zao h)
 ·
  refine Ok.some.2 (exit _ ?_)
  unfold Z66
  refine Ok.some.2 ?_
  rcases hle with ⟨hw, h4, h5, h6⟩ | ⟨h5, h6⟩
  ·
   simp only at h4 h5 h6
   refine ⟨fun _ => ⟨hw, fun v hv => ?_⟩, fun _ => decide_eq_true h4⟩
   rw [← h6 v hv]; exact g3 v (by omega)
  ·
   injection h6 with h6 h7
   simp only [h7]
   exact ⟨fun h => (by cases h), fun h => absurd h.1 h5⟩
theorem s_Right {n : Net} {f : List Int} (hl : lenok n.Arcs.length) : Ok (Z9f n f) (fun b => b = true ↔ Zka n f (fun x => x = 0) [n.S, n.T]) := by
 unfold Z9f Z6s
 refine Ok.bind.2 (Ok.mono (Q := fun b => b = true ↔ Zka n f (fun x => x = 0) [n.S, n.T]) ?_ fun b hb => Ok.some.2 hb)
 refine Ok.bind.2 (Ok.mono (Zcv hl) ?_)
 rintro ⟨l, e⟩ hle
 refine Ok.bind.2 (Z76 (fun x => ∃ k : Nat, x = k ∧ k ≤ l.length ∧ ∀ v, v < k → l.getD v 0 = 0 ∨ (v : Int) ∈ [n.S, n.T]) (fun x => (l.length - x).toNat) ⟨0, rfl, by omega, fun j hj => by omega⟩ ?_ ?_)
 ·
  rcases hle with ⟨hw, -, h2, -⟩ | ⟨-, h2⟩
  · have := Z2u hw.1; simp only at h2; unfold Z3f; omega
  · injection h2 with h2 h3; subst h2; unfold Z3f; simp
 rintro x ⟨k, rfl, g2, g3⟩ P next exit
 unfold Z4a Z95
 simp only [Int.toNat_natCast]
 have hlen : l.length ≤ 4096 := by
  rcases hle with ⟨hw, -, h2, -⟩ | ⟨-, h2⟩
  · have := Z2u hw.1; simp only at h2; omega
  · injection h2 with h2 h3; subst h2; simp
 refine Ok.ite.2 ⟨fun hx => ?_, fun hx => ?_⟩
 ·
  refine Ok.gd.2 ⟨(by omega), Ok.bind.2 (Ok.some.2 (Ok.ite.2 ⟨fun h => Ok.bind.2 (Z8v (Zgo (by simp)) (Ok.ite.2 ⟨fun h2 => Ok.some.2 (exit _ (Ok.some.2 ⟨fun h3 => (by cases h3), fun h3 => ?_⟩)), fun h2 => Ok.gd.2 ⟨(by omega), Ok.some.2 (next _ ⟨k + 1, by simp, by omega, fun j hj => ?_⟩ (by omega))⟩⟩)), fun h => Ok.gd.2 ⟨(by omega), Ok.some.2 (next _ ⟨k + 1, by simp, by omega, fun j hj => ?_⟩ (by omega))⟩⟩))⟩
  ·
   exfalso
   rcases hle with ⟨hw, -, h5, h6⟩ | ⟨h5, -⟩
   ·
    simp only at h5 h6
    rcases h3.2 k (by omega) with h7 | h7
    · rw [← h6 k (by omega)] at h7; rw [decide_eq_true h7] at h; cases h
    · rw [List.contains_iff_mem.2 h7] at h2; cases h2
   · exact h5 h3.1
  ·
   rcases Nat.lt_or_ge j k with h1 | h1
   · exact g3 j h1
   · rw [show j = k by omega]; right; exact Zgu h2
  ·
   rcases Nat.lt_or_ge j k with h1 | h1
   · exact g3 j h1
   · rw [show j = k by omega]; left; exact of_decide_eq_true (Zao h)
 ·
  refine Ok.some.2 (exit _ ?_)
  unfold Z59
  refine Ok.some.2 ?_
  rcases hle with ⟨hw, h4, h5, h6⟩ | ⟨h5, h6⟩
  ·
   simp only at h4 h5 h6
   refine ⟨fun _ => ⟨hw, fun v hv => ?_⟩, fun _ => decide_eq_true h4⟩
   rw [← h6 v hv]; exact g3 v (by omega)
  ·
   injection h6 with h6 h7
   simp only [h7]
   exact ⟨fun h => (by cases h), fun h => absurd h.1 h5⟩
end Go.Acq
namespace Go.Acq
open Go
set_option linter.unusedSimpArgs false
set_option linter.unusedVariables false
def Zmh (al : List Arc) (f : List Int) (v : Nat) : Nat → List Int
  | 0 => []
  | k + 1 => Zmh al f v k ++ (if 0 < f.getD k 0 ∧ (al.getD k default).fr = (v : Int) then [(k : Int)] else [])
def OutIs (n : Net) (m : Nat) (f : List Int) (out : List (List Int)) : Prop := out.length = m ∧ ∀ v, v < m → out.getD v [] = Zmh n.Arcs f v n.Arcs.length
theorem outK_mem {al : List Arc} {f : List Int} {v : Nat} {x : Int} : ∀ {k : Nat}, x ∈ Zmh al f v k ↔ ∃ i : Nat, i < k ∧ x = i ∧ 0 < f.getD i 0 ∧ (al.getD i default).fr = (v : Int)
 | 0 => by simp [Zmh]
 | k + 1 => by
  rw [Zmh, List.mem_append, outK_mem (k := k)]
  constructor
  ·
   rintro (⟨i, h1, h2⟩ | h)
   · exact ⟨i, by omega, h2⟩
   ·
    split at h
    · rename_i h2; rw [List.mem_singleton] at h; exact ⟨k, by omega, h, h2⟩
    · cases h
  ·
   rintro ⟨i, h1, h2, h3⟩
   rcases Nat.lt_or_ge i k with h | h
   · exact .inl ⟨i, h, h2, h3⟩
   ·
    have e : i = k := by omega
    subst e
    exact .inr (by rw [if_pos h3, h2]; exact .head _)
theorem Zhz {al : List Arc} {f : List Int} {v : Nat} : ∀ k, (Zmh al f v k).length ≤ k
 | 0 => Nat.le_refl _
 | k + 1 => by
  have := Zhz (al := al) (f := f) (v := v) k
  rw [Zmh, List.length_append]
  split <;> simp <;> omega
theorem Zed {al : List Arc} {f : List Int} {v : Nat} : ∀ k, (Zmh al f v k).Nodup
 | 0 => List.nodup_nil
 | k + 1 => by
  rw [Zmh, List.nodup_append]
  refine ⟨Zed k, by split <;> simp, fun a ha b hb e => ?_⟩
  subst e
  split at hb
  ·
   rw [List.mem_singleton] at hb
   obtain ⟨i, h1, h2, -⟩ := outK_mem.1 ha
   omega
  · cases hb
theorem OutIs.at {n : Net} {m : Nat} {f : List Int} {out : List (List Int)} (h : OutIs n m f out) {v q : Nat} (hv : v < m) (hq : q < (out.getD v []).length) :
    ∃ k : Nat, (out.getD v []).getD q 0 = k ∧ k < n.Arcs.length ∧ 0 < f.getD k 0 ∧ (n.Arcs.getD k default).fr = (v : Int) := by
  have := Z5d hq 0
  rw [h.2 v hv] at this
  obtain ⟨i, h1, h2, h3, h4⟩ := outK_mem.1 this
  exact ⟨i, by rw [h.2 v hv]; exact h2, h1, h3, h4⟩
theorem OutIs.in {n : Net} {m : Nat} {f : List Int} {out : List (List Int)} (h : OutIs n m f out) {v k : Nat} (hv : v < m) (hk : k < n.Arcs.length) (hf : 0 < f.getD k 0) (he : (n.Arcs.getD k default).fr = (v : Int)) :
    ∃ q, q < (out.getD v []).length ∧ (out.getD v []).getD q 0 = k := by
  have : (k : Int) ∈ out.getD v [] := by rw [h.2 v hv]; exact outK_mem.2 ⟨k, hk, rfl, hf, he⟩
  obtain ⟨q, hq, e⟩ := List.getElem_of_mem this
  exact ⟨q, hq, by rw [List.getD_eq_getElem?_getD, List.getElem?_eq_getElem hq]; exact e⟩
theorem OutIs.len {n : Net} {m : Nat} {f : List Int} {out : List (List Int)} (h : OutIs n m f out) {v : Nat} (hv : v < m) : (out.getD v []).length ≤ n.Arcs.length := by
 rw [h.2 v hv]; exact Zhz _
def Acyc (n : Net) (f : List Int) : Prop := ∃ ρ : Nat → Nat, ∀ k, k < n.Arcs.length → 0 < f.getD k 0 → ρ (n.Arcs.getD k default).to.toNat < ρ (n.Arcs.getD k default).fr.toNat
def Cyc (n : Net) (f : List Int) (c : List Int) : Prop := 0 < c.length ∧
  (∀ j, j < c.length → ∃ k : Nat, c.getD j 0 = k ∧ k < n.Arcs.length ∧ 0 < f.getD k 0 ∧ (n.Arcs.getD k default).to = (n.Arcs.getD (c.getD ((j + 1) % c.length) 0).toNat default).fr) ∧
  ∀ i j, i < c.length → j < c.length → (n.Arcs.getD (c.getD i 0).toNat default).fr = (n.Arcs.getD (c.getD j 0).toNat default).fr → i = j
theorem Cyc.not {n : Net} {f c : List Int} (h : Cyc n f c) : ¬ Acyc n f := by
 rintro ⟨ρ, hρ⟩
 obtain ⟨h0, h1, -⟩ := h
 let g : Nat → Nat := fun j => ρ (n.Arcs.getD (c.getD j 0).toNat default).fr.toNat
 have hs : ∀ j, j < c.length → g ((j + 1) % c.length) < g j := by
  intro j hj
  obtain ⟨k, e1, e2, e3, e4⟩ := h1 j hj
  have := hρ k e2 e3
  rw [e4] at this
  show ρ _ < ρ (n.Arcs.getD (c.getD j 0).toNat default).fr.toNat
  rw [e1, Int.toNat_natCast]
  exact this
 have key : ∀ j, j < c.length → g j + j ≤ g 0 := by
  intro j
  induction j with
  | zero => intro _; omega
  | succ j ih =>
   intro hj
   have h2 := ih (by omega)
   have h3 := hs j (by omega)
   rw [Nat.mod_eq_of_lt hj] at h3
   omega
 have h2 := key (c.length - 1) (by omega)
 have h3 := hs (c.length - 1) (by omega)
 rw [show c.length - 1 + 1 = c.length by omega, Nat.mod_self] at h3
 omega
theorem Zmw {n : Net} {m : Nat} {f : List Int} (hm : n.N = m) (hm2 : m ≤ 4096) (he : Z5e m n.Arcs) (hl : n.Arcs.length ≤ 16384) (hf : f.length = n.Arcs.length) :
    Ok (Z6k n f) (fun s => ∃ out, s = CyclesSearch.mk n out (List.replicate m 0) (List.replicate m false) (List.replicate m false) [] ∧ OutIs n m f out) := by
  unfold Z6k
  rw [hm]
  refine Ok.gd.2 ⟨(by omega), Ok.gd.2 ⟨(by omega), Ok.gd.2 ⟨(by omega), Ok.gd.2 ⟨(by omega), Ok.bind.2 ?_⟩⟩⟩⟩
  simp only [Int.toNat_natCast]
  refine Z76 (fun s => ∃ k : Nat, s.2 = k ∧ k ≤ n.Arcs.length ∧ s.1.length = m ∧ ∀ v, v < m → s.1.getD v [] = Zmh n.Arcs f v k) (fun s => (n.Arcs.length - s.2).toNat) ⟨0, rfl, by omega, List.length_replicate, fun v _ => by rw [Z1w]; rfl⟩ (by unfold Z3f; simp only; omega) ?_
  rintro ⟨xs, x⟩ ⟨k, h1, hk, h3, h4⟩ P next exit
  simp only at h1 h3 h4 next ⊢
  subst h1
  unfold Z5u
  simp only [Int.toNat_natCast]
  refine Ok.ite.2 ⟨fun hx => ?_, fun hx => ?_⟩
  · have hkl : k < n.Arcs.length := by omega
    have e0 := he k hkl false
    simp only [vtx, Bool.false_eq_true, if_false] at e0
    obtain ⟨p, hp⟩ : ∃ p : Nat, (n.Arcs.getD k default).fr = p := ⟨(n.Arcs.getD k default).fr.toNat, by omega⟩
    rw [hp] at e0
    refine Ok.gd.2 ⟨(by constructor <;> omega), Ok.gd.2 ⟨(by constructor <;> omega), Ok.ite.2 ⟨fun hp0 => ?_, fun hp0 => Ok.gd.2 ⟨(by constructor <;> omega), Ok.some.2 (next _ ⟨k + 1, by simp, by omega, h3, fun v hv => ?_⟩ (by simp only; omega))⟩⟩⟩⟩
    · simp only [hp, Int.toNat_natCast]
      have h5 := h4 p (by omega)
      have h6 := Zhz (al := n.Arcs) (f := f) (v := p) k
      refine Ok.gd.2 ⟨(by constructor <;> omega), Ok.gd.2 ⟨?_, Ok.gd.2 ⟨(by constructor <;> omega), Ok.some.2 (next _ ⟨k + 1, by simp, by omega, by simp [h3], fun v hv => ?_⟩ (by simp only; omega))⟩⟩⟩
      · rw [List.length_append, h5]; simp only [List.length_singleton]; constructor <;> omega
      · rw [Zcf, h3, h5, Zmh]
        by_cases e : p = v
        · subst e; rw [if_pos ⟨rfl, by omega⟩, if_pos ⟨hp0, hp⟩]
        · rw [if_neg (fun h => e h.1), if_neg (fun h => by have := h.2; rw [hp] at this; omega), List.append_nil]; exact h4 v hv
    · rw [Zmh, if_neg (fun h => hp0 h.1), List.append_nil]; exact h4 v hv
  · refine Ok.some.2 (exit _ ?_)
    unfold Z7b
    simp only [hm, Int.toNat_natCast]
    exact Ok.some.2 ⟨xs, rfl, h3, fun v hv => by rw [h4 v hv, show k = n.Arcs.length by omega]⟩
end Go.Acq
