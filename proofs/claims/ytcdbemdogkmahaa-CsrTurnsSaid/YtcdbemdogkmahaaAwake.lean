/- Contracts: the net of four vertices; layer 2 is awake. -/
import Derived.Test.YtcdbemdogkmahaaRes
import Derived.Test.YtcdbemdogkmahaaAcqFourLaw
namespace Go.Proofs.Ytcdbemdogkmahaa.Acq
open Go Go.Acq Go.RowKit Go.Proofs
theorem TyAwake.a33 : aggT Try.prog 33 9 = true := by kernel_rfl
theorem TyAwake.c19 : callable Try.prog 19 = true := by kernel_rfl
theorem TyAwake.c20 : callable Try.prog 20 = true := by kernel_rfl
theorem TyAwake.c21 : callable Try.prog 21 = true := by kernel_rfl
theorem TyAwake.c22 : callable Try.prog 22 = true := by kernel_rfl
theorem TyAwake.c25 : callable Try.prog 25 = true := by kernel_rfl
theorem TyAwake.c56 : callable Try.prog 56 = true := by kernel_rfl
theorem TyAwake.f33_3 : fieldT Try.prog 33 3 = some 3 := by kernel_rfl
theorem TyAwake.f33_5 : fieldT Try.prog 33 5 = some 5 := by kernel_rfl
theorem TyAwake.n24 : sizeT Try.prog 24 = some 4 := by kernel_rfl
theorem TyAwake.n33 : sizeT Try.prog 33 = some 9 := by kernel_rfl
theorem TyAwake.z24 : zeroT Try.prog 24 = some (.agg #[.int .i64 0, .int .i64 0, .int .i64 0, .slice none 0 0]) := by kernel_rfl
theorem TyAwake.z33 : zeroT Try.prog 33 = some (.agg #[.int .i64 0, .int .i64 0, .int .i64 0, .slice none 0 0, .slice none 0 0, .slice none 0 0, .slice none 0 0, .slice none 0 0, .slice none 0 0]) := by kernel_rfl
/-- acequia/acequialaw01.Four -/
theorem c_four (w : World) : Fnc Try.prog 56 #[] w [] (fun r h => ∃ b, r = .agg #[.int .i64 4, .int .i64 0, .int .i64 3, .slice (some ⟨b, 0, none⟩) 5 5] ∧ h = [(some b, .cells (arr arcC FOUR []).toArray 28 (0, 0))]) := by
  refine Fnc.enter (vs := []) Try.func56 rfl rfl (Inv.refl w) ?_
  refine T.seq ?_
  refine T.regionL (ll := [0]) rfl ?_
  refine TO.allocA rfl rfl rfl TyAwake.z24 ?_; intro b0
  refine TO.done ?_
  refine X.seq_normal ?_
  refine T.seq ?_
  refine T.regionL (ll := [0, 1, 2, 3, 4, 5, 6, 7]) rfl ?_
  refine TO.buildS (t := 28) [.int .i64 0, .int .i64 0, .int .i64 0] [0, 1, 2] rfl rfl rfl rfl (by simp only [setAll, setCells, Value.cells, List.toList_toArray, List.getD_cons_zero, List.getD_cons_succ, List.set_cons_zero, List.set_cons_succ]; rfl) (by kernel_rfl) ?_
  refine TO.buildS (t := 28) [.int .i64 0, .int .i64 0, .int .i64 0] [0, 1, 2] rfl rfl rfl rfl (by simp only [setAll, setCells, Value.cells, List.toList_toArray, List.getD_cons_zero, List.getD_cons_succ, List.set_cons_zero, List.set_cons_succ]; rfl) (by kernel_rfl) ?_
  refine TO.buildS (t := 28) [.int .i64 0, .int .i64 0, .int .i64 0] [0, 1, 2] rfl rfl rfl rfl (by simp only [setAll, setCells, Value.cells, List.toList_toArray, List.getD_cons_zero, List.getD_cons_succ, List.set_cons_zero, List.set_cons_succ]; rfl) (by kernel_rfl) ?_
  refine TO.buildS (t := 28) [.int .i64 0, .int .i64 0, .int .i64 0] [0, 1, 2] rfl rfl rfl rfl (by simp only [setAll, setCells, Value.cells, List.toList_toArray, List.getD_cons_zero, List.getD_cons_succ, List.set_cons_zero, List.set_cons_succ]; rfl) (by kernel_rfl) ?_
  refine TO.buildS (t := 28) [.int .i64 0, .int .i64 0, .int .i64 0] [0, 1, 2] rfl rfl rfl rfl (by simp only [setAll, setCells, Value.cells, List.toList_toArray, List.getD_cons_zero, List.getD_cons_succ, List.set_cons_zero, List.set_cons_succ]; rfl) (by kernel_rfl) ?_
  refine TO.buildSliceS [.int .i64 0, .int .i64 0, .int .i64 0, .int .i64 0, .int .i64 0, .int .i64 0, .int .i64 0, .int .i64 0, .int .i64 0, .int .i64 0, .int .i64 0, .int .i64 0, .int .i64 0, .int .i64 0, .int .i64 0] [0, 3, 6, 9, 12] rfl rfl rfl rfl Ty.l22 Ty.n28 Ty.z28 rfl rfl (by simp only [setAll, setCells, Value.cells, List.toList_toArray, List.getD_cons_zero, List.getD_cons_succ, List.set_cons_zero, List.set_cons_succ]; rfl) (by kernel_rfl) ?_; intro b6
  refine TO.buildS (t := 24) [.int .i64 0, .int .i64 0, .int .i64 0, .slice none 0 0] [0, 1, 2, 3] rfl rfl rfl rfl (by simp only [setAll, setCells, Value.cells, List.toList_toArray, List.getD_cons_zero, List.getD_cons_succ, List.set_cons_zero, List.set_cons_succ]; rfl) (by kernel_rfl) ?_
  refine TO.storeA rfl rfl rfl rfl (by repeat (first | exact Take.head _ _ | apply Take.tail)) TyAwake.n24 rfl rfl rfl ?_
  refine TO.done ?_
  refine X.seq_normal ?_
  refine T.ret ?_
  exact X.ret1 rfl rfl rfl rfl (Res.cellA rfl Ty.a24 (by repeat (first | exact List.Mem.head _ | apply List.Mem.tail)) rfl) (N := [(some b6, .cells (arr arcC FOUR []).toArray 28 (0, 0))]) (by repeat (first | exact Pick.nil | apply Pick.none | refine Pick.cons (by repeat (first | exact Take.head _ _ | apply Take.tail)) ?_)) ⟨b6, rfl, rfl⟩
set_option maxHeartbeats 1000000 in
/-- acequia/acequialaw02.awake -/
theorem c_awake02 (w : World) : Fnc Try.prog 23 #[] w [] (fun r h => r = .bool true ∧ h = []) := by
  refine Fnc.enter (vs := []) Try.func23 rfl rfl (Inv.refl w) ?_
  refine T.seq ?_
  refine T.regionL (ll := [0]) rfl ?_
  refine TO.assign rfl rfl rfl rfl ?_
  refine TO.done ?_
  refine X.seq_normal ?_
  refine T.seq ?_
  refine T.regionL (ll := [0, 1, 2, 3, 4, 5, 6, 7]) rfl ?_
  refine TO.call rfl rfl rfl TyAwake.c56 rfl (fun wc hwc => c_four wc) ?_
  rintro _ _ ⟨bn, rfl, rfl⟩
  refine TO.call rfl rfl rfl TyAwake.c19 rfl (fun wc hwc => c_make 4 0 3 _ 5 _ FOUR wc (hwc.roS (xs := FOUR) (by intro _; rfl) (by repeat (first | exact List.Mem.head _ | apply List.Mem.tail)) rfl) four_check) ?_
  rintro _ _ ⟨bf, bh, br, bc, ba, bb, fs, hs, rs, cs, aa, bs, rfl, rfl, hcsr⟩
  obtain ⟨q0, q1, q2, q3, q4, q5, q6, q7⟩ := four_ok hcsr
  have lh := hcsr.lh
  have lr := hcsr.lr
  have lc := hcsr.lc
  have la := hcsr.la
  have lb := hcsr.lb
  have lf := hcsr.lf
  rw [four_begins] at lh lr lc la lb ⊢
  refine TO.move rfl rfl rfl rfl ?_
  refine TO.extract rfl rfl rfl rfl rfl ?_
  refine TO.extract rfl rfl rfl rfl rfl ?_
  refine TO.allocA rfl rfl rfl TyAwake.z33 ?_; intro b1
  refine TO.storeA rfl rfl rfl rfl (by repeat (first | exact Take.head _ _ | apply Take.tail)) TyAwake.n33 rfl rfl rfl ?_
  refine TO.assign rfl rfl rfl rfl ?_
  refine TO.done ?_
  refine X.seq_normal ?_
  refine T.seq ?_
  refine T.seq ?_
  refine T.regionL (ll := [0, 1, 2, 3, 4, 5, 6, 7, 8, 9, 10, 11, 12, 13, 14, 15, 16, 17, 18, 19, 20, 21, 22, 23, 24, 25, 26, 27, 28, 29, 30, 31, 32, 33, 34, 35, 36]) rfl ?_
  refine TO.move rfl rfl rfl rfl ?_
  refine TO.bin rfl rfl rfl rfl rfl rfl ?_
  refine TO.decB (t := 11) (b' := false) rfl (by simp) ?_
  refine TO.move rfl rfl rfl rfl ?_
  first | refine TO.loadA rfl rfl rfl rfl TyAwake.a33 (by repeat (first | exact List.Mem.head _ | apply List.Mem.tail)) rfl ?_ | refine TO.loadHA rfl rfl rfl rfl TyAwake.a33 (by assumption) rfl rfl ?_
  refine TO.call rfl rfl rfl TyAwake.c22 rfl (fun wc hwc => c_len _ _ _ _ _ _ _ _ _ _ _ wc) ?_
  rintro _ _ ⟨rfl, rfl⟩
  refine TO.bin rfl rfl rfl rfl rfl rfl ?_
  refine TO.decB (t := 15) (b' := false) rfl (by decide) ?_
  first | refine TO.pickT rfl rfl rfl rfl rfl ?_ | refine TO.pickF rfl rfl rfl rfl rfl ?_
  refine TO.move rfl rfl rfl rfl ?_
  first | refine TO.fieldAddr0 rfl rfl rfl rfl TyAwake.f33_3 ?_ | refine TO.fieldAddr rfl rfl rfl rfl TyAwake.f33_3 ?_
  first | refine TO.load1 rfl rfl rfl rfl Ty.s30 (by repeat (first | exact List.Mem.head _ | apply List.Mem.tail)) rfl ?_ | refine TO.loadH rfl rfl rfl rfl Ty.s30 (by assumption) rfl rfl ?_
  refine TO.buildSliceS [.int .i64 0, .int .i64 0, .int .i64 0, .int .i64 0, .int .i64 0] [0, 1, 2, 3, 4] rfl rfl rfl rfl Ty.l30 Ty.n3 Ty.z3 rfl rfl (by simp only [setAll, setCells, Value.cells, List.toList_toArray, List.getD_cons_zero, List.getD_cons_succ, List.set_cons_zero, List.set_cons_succ]; rfl) (by kernel_rfl) ?_; intro b20
  refine TO.call rfl rfl rfl TyAwake.c21 rfl (fun wc hwc => c_ints fs [0, 2, 5, 8, 10] _ _ _ _ _ _ wc (hwc.roS (xs := fs) (by intro _; rfl) (by repeat (first | exact List.Mem.head _ | apply List.Mem.tail)) lf) (hwc.roS (xs := ([0, 2, 5, 8, 10] : List Int)) (j := []) (by intro _; rfl) (by repeat (first | exact List.Mem.head _ | apply List.Mem.tail)) rfl) (by omega)) ?_
  rintro _ _ ⟨rfl, rfl⟩
  refine TO.decB (t := 21) (b' := true) rfl (decide_eq_true q0) ?_
  first | refine TO.notP rfl rfl rfl rfl ?_ | refine TO.not rfl rfl rfl rfl ?_
  refine TO.decB (t := 22) (b' := false) rfl rfl ?_
  first | refine TO.pickT rfl rfl rfl rfl rfl ?_ | refine TO.pickF rfl rfl rfl rfl rfl ?_
  refine TO.move rfl rfl rfl rfl ?_
  first | refine TO.fieldAddr0 rfl rfl rfl rfl Ty.f33_4 ?_ | refine TO.fieldAddr rfl rfl rfl rfl Ty.f33_4 ?_
  first | refine TO.load1 rfl rfl rfl rfl Ty.s30 (by repeat (first | exact List.Mem.head _ | apply List.Mem.tail)) rfl ?_ | refine TO.loadH rfl rfl rfl rfl Ty.s30 (by assumption) rfl rfl ?_
  refine TO.sliceTo rfl rfl rfl rfl rfl Ty.l30 Ty.n3 (by omega) (by omega) ?_
  refine TO.buildSliceS [.int .i64 0, .int .i64 0, .int .i64 0, .int .i64 0, .int .i64 0] [0, 1, 2, 3, 4] rfl rfl rfl rfl Ty.l30 Ty.n3 Ty.z3 rfl rfl (by simp only [setAll, setCells, Value.cells, List.toList_toArray, List.getD_cons_zero, List.getD_cons_succ, List.set_cons_zero, List.set_cons_succ]; rfl) (by kernel_rfl) ?_; intro b28
  refine TO.call rfl rfl rfl TyAwake.c21 rfl (fun wc hwc => c_ints (hs.take 5) [1, 2, 0, 3, 2] _ _ _ _ _ _ wc ((hwc.roS (xs := hs) (by intro _; rfl) (by repeat (first | exact List.Mem.head _ | apply List.Mem.tail)) lh).take (by omega)) (hwc.roS (xs := ([1, 2, 0, 3, 2] : List Int)) (j := []) (by intro _; rfl) (by repeat (first | exact List.Mem.head _ | apply List.Mem.tail)) rfl) (by omega)) ?_
  rintro _ _ ⟨rfl, rfl⟩
  refine TO.decB (t := 29) (b' := true) rfl (decide_eq_true q1) ?_
  first | refine TO.notP rfl rfl rfl rfl ?_ | refine TO.not rfl rfl rfl rfl ?_
  refine TO.decB (t := 30) (b' := false) rfl rfl ?_
  first | refine TO.pickT rfl rfl rfl rfl rfl ?_ | refine TO.pickF rfl rfl rfl rfl rfl ?_
  refine TO.move rfl rfl rfl rfl ?_
  first | refine TO.fieldAddr0 rfl rfl rfl rfl Ty.f33_6 ?_ | refine TO.fieldAddr rfl rfl rfl rfl Ty.f33_6 ?_
  first | refine TO.load1 rfl rfl rfl rfl Ty.s25 (by repeat (first | exact List.Mem.head _ | apply List.Mem.tail)) rfl ?_ | refine TO.loadH rfl rfl rfl rfl Ty.s25 (by assumption) rfl rfl ?_
  refine TO.sliceTo rfl rfl rfl rfl rfl Ty.l25 Ty.n2 (by omega) (by omega) ?_
  refine TO.buildSliceS [.int .i64 0, .int .i64 0, .int .i64 0, .int .i64 0, .int .i64 0] [0, 1, 2, 3, 4] rfl rfl rfl rfl Ty.l25 Ty.n2 Ty.z2 rfl rfl (by simp only [setAll, setCells, Value.cells, List.toList_toArray, List.getD_cons_zero, List.getD_cons_succ, List.set_cons_zero, List.set_cons_succ]; rfl) (by kernel_rfl) ?_; intro b36
  refine TO.call rfl rfl rfl TyAwake.c25 rfl (fun wc hwc => c_longs (cs.take 5) [5, 4, 0, 3, 2] _ _ _ _ _ _ wc ((hwc.roS (xs := cs) (by intro _; rfl) (by repeat (first | exact List.Mem.head _ | apply List.Mem.tail)) lc).take (by omega)) (hwc.roS (xs := ([5, 4, 0, 3, 2] : List Int)) (j := []) (by intro _; rfl) (by repeat (first | exact List.Mem.head _ | apply List.Mem.tail)) rfl) (by omega)) ?_
  rintro _ _ ⟨rfl, rfl⟩
  refine TO.decB (t := 37) (b' := true) rfl (decide_eq_true q2) ?_
  first | refine TO.notP rfl rfl rfl rfl ?_ | refine TO.not rfl rfl rfl rfl ?_
  refine TO.decB (t := 38) (b' := false) rfl rfl ?_
  first | refine TO.pickT rfl rfl rfl rfl rfl ?_ | refine TO.pickF rfl rfl rfl rfl rfl ?_
  refine TO.move rfl rfl rfl rfl ?_
  first | refine TO.fieldAddr0 rfl rfl rfl rfl TyAwake.f33_5 ?_ | refine TO.fieldAddr rfl rfl rfl rfl TyAwake.f33_5 ?_
  first | refine TO.load1 rfl rfl rfl rfl Ty.s30 (by repeat (first | exact List.Mem.head _ | apply List.Mem.tail)) rfl ?_ | refine TO.loadH rfl rfl rfl rfl Ty.s30 (by assumption) rfl rfl ?_
  first | refine TO.index1N rfl rfl rfl rfl rfl Ty.l30 Ty.n3 (by omega) ?_ | refine TO.index1 rfl rfl rfl rfl rfl Ty.l30 Ty.n3 (by omega) (by omega) ?_ | refine TO.indexRN rfl rfl rfl rfl rfl Ty.l30 Ty.n3 (RO.nil (by assumption)) (by omega) ?_ | refine TO.indexR rfl rfl rfl rfl rfl Ty.l30 Ty.n3 (RO.nil (by assumption)) (by omega) (by omega) ?_
  first | refine TO.ldIr rfl rfl rfl rfl Ty.s3 (by assumption) rfl (by first | omega | (simp only [List.length_set, List.length_replicate]; omega)) ?_ | refine TO.ldI rfl rfl rfl rfl Ty.s3 (by repeat (first | exact List.Mem.head _ | apply List.Mem.tail)) (by first | omega | (simp only [List.length_set, List.length_replicate]; omega)) ?_
  refine TO.bin rfl rfl rfl rfl rfl rfl ?_
  refine TO.decB (t := 45) (b' := false) rfl (decide_eq_false (fun h => h q3)) ?_
  first | refine TO.pickT rfl rfl rfl rfl rfl ?_ | refine TO.pickF rfl rfl rfl rfl rfl ?_
  refine TO.done ?_
  refine X.seq_normal ?_
  refine T.condF rfl rfl ?_
  refine T.skip ?_
  refine X.seq_normal ?_
  refine T.seq ?_
  refine T.regionL (ll := [0, 1, 2, 3, 4, 5, 6, 7]) rfl ?_
  first | refine TO.loadA rfl rfl rfl rfl TyAwake.a33 (by repeat (first | exact List.Mem.head _ | apply List.Mem.tail)) rfl ?_ | refine TO.loadHA rfl rfl rfl rfl TyAwake.a33 (by assumption) rfl rfl ?_
  refine TO.buildSliceS [.int .i64 0, .int .i64 0, .int .i64 0, .int .i64 0, .int .i64 0] [0, 1, 2, 3, 4] rfl rfl rfl rfl Ty.l25 Ty.n2 Ty.z2 rfl rfl (by simp only [setAll, setCells, Value.cells, List.toList_toArray, List.getD_cons_zero, List.getD_cons_succ, List.set_cons_zero, List.set_cons_succ]; rfl) (by kernel_rfl) ?_; intro b49
  refine TO.call rfl rfl rfl TyAwake.c20 rfl (fun wc hwc => c_res _ _ _ _ _ _ _ _ _ _ _ _ _ _ _ _ _ cs aa [3, 0, 3, 0, 0] bs wc (hwc.roS (xs := cs) (by intro _; rfl) (by repeat (first | exact List.Mem.head _ | apply List.Mem.tail)) lc) (hwc.roS (xs := aa) (by intro _; rfl) (by repeat (first | exact List.Mem.head _ | apply List.Mem.tail)) la) (hwc.roS (xs := bs) (by intro _; rfl) (by repeat (first | exact List.Mem.head _ | apply List.Mem.tail)) lb) (hwc.roS (xs := ([3, 0, 3, 0, 0] : List Int)) (j := []) (by intro _; rfl) (by repeat (first | exact List.Mem.head _ | apply List.Mem.tail)) rfl) (by omega) (by omega) q6 q7) ?_
  rintro _ _ (⟨bx, rl, rfl, rfl, hrl⟩ | ⟨⟨j, hj, hjr⟩, -, -⟩)
  rotate_left
  · exact absurd (q4 j hj) hjr
  refine TO.move rfl rfl rfl rfl ?_
  refine TO.extract rfl rfl rfl rfl rfl ?_
  refine TO.extract rfl rfl rfl rfl rfl ?_
  refine TO.assign rfl rfl rfl rfl ?_
  refine TO.assign rfl rfl rfl rfl ?_
  refine TO.done ?_
  refine X.seq_normal ?_
  refine T.seq ?_
  refine T.regionL (ll := [0, 1, 2, 3, 4, 5, 6, 7, 8, 9, 10, 11, 12, 13]) rfl ?_
  refine TO.move rfl rfl rfl rfl ?_
  refine TO.bin rfl rfl rfl rfl rfl rfl ?_
  refine TO.decB (t := 54) (b' := true) rfl (by simp) ?_
  refine TO.move rfl rfl rfl rfl ?_
  refine TO.move rfl rfl rfl rfl ?_
  refine TO.len rfl rfl rfl rfl rfl Ty.l25 ?_
  refine TO.bin rfl rfl rfl rfl rfl rfl ?_
  refine TO.decB (t := 58) (b' := true) rfl (by decide) ?_
  first | refine TO.pickT rfl rfl rfl rfl rfl ?_ | refine TO.pickF rfl rfl rfl rfl rfl ?_
  refine TO.move rfl rfl rfl rfl ?_
  refine TO.move rfl rfl rfl rfl ?_
  refine TO.sliceTo rfl rfl rfl rfl rfl Ty.l25 Ty.n2 (by omega) (by omega) ?_
  refine TO.buildSliceS [.int .i64 0, .int .i64 0, .int .i64 0, .int .i64 0, .int .i64 0] [0, 1, 2, 3, 4] rfl rfl rfl rfl Ty.l25 Ty.n2 Ty.z2 rfl rfl (by simp only [setAll, setCells, Value.cells, List.toList_toArray, List.getD_cons_zero, List.getD_cons_succ, List.set_cons_zero, List.set_cons_succ]; rfl) (by kernel_rfl) ?_; intro b63
  refine TO.call rfl rfl rfl TyAwake.c25 rfl (fun wc hwc => c_longs (rl.take 5) [2, 4, 3, 0, 2] _ _ _ _ _ _ wc ((hwc.roS (xs := rl) (by intro _; rfl) (by repeat (first | exact List.Mem.head _ | apply List.Mem.tail)) hrl.1).take (by omega)) (hwc.roS (xs := ([2, 4, 3, 0, 2] : List Int)) (j := []) (by intro _; rfl) (by repeat (first | exact List.Mem.head _ | apply List.Mem.tail)) rfl) (by omega)) ?_
  rintro _ _ ⟨rfl, rfl⟩
  refine TO.decB (t := 64) (b' := true) rfl (decide_eq_true (q5 _ hrl)) ?_
  first | refine TO.pickT rfl rfl rfl rfl rfl ?_ | refine TO.pickF rfl rfl rfl rfl rfl ?_
  refine TO.assign rfl rfl rfl rfl ?_
  refine TO.done ?_
  refine X.seq_normal ?_
  refine T.ret ?_
  refine X.ret1 rfl rfl rfl rfl (Res.tmp rfl) Pick.nil ?_
  exact ⟨rfl, rfl⟩
end Go.Proofs.Ytcdbemdogkmahaa.Acq
