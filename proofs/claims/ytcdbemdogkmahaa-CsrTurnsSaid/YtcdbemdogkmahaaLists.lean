/- Contracts: functions on lists. -/
import Derived.Test.YtcdbemdogkmahaaNet
namespace Go.Proofs.Ytcdbemdogkmahaa.Acq
open Go Go.Acq Go.RowKit Go.Proofs
/-- acequia/acequialow.Ints -/
theorem c_ints (xs ys : List Int) (bx by' : Option Addr) (n m cx cy : Nat) (w : World) (hx : RO w (intC .i64) 1 bx n xs) (hy : RO w (intC .i64) 1 by' m ys) (hn : n ≤ 4611686018427387904) : Fnc Try.prog 21 #[.slice bx n cx, .slice by' m cy] w [] (fun r h => r = .bool (decide (xs = ys)) ∧ h = []) := by
  refine Fnc.enter (vs := [.slice bx n cx, .slice by' m cy]) Try.func21 rfl rfl (Inv.refl w) ?_
  refine T.seq ?_
  refine T.regionL (ll := [0]) rfl ?_
  refine TO.assign rfl rfl rfl rfl ?_
  refine TO.done ?_
  refine X.seq_normal ?_
  refine T.seq ?_
  refine T.seq ?_
  refine T.regionL (ll := [0, 1, 2, 3, 4]) rfl ?_
  refine TO.move rfl rfl rfl rfl ?_
  refine TO.len rfl rfl rfl rfl rfl Ty.l30 ?_
  refine TO.move rfl rfl rfl rfl ?_
  refine TO.len rfl rfl rfl rfl rfl Ty.l30 ?_
  refine TO.bin rfl rfl rfl rfl rfl rfl ?_
  refine TO.done ?_
  refine X.seq_normal ?_
  first | refine T.condP rfl (fun h0 => ?_) (fun h0 => ?_) | refine T.cond rfl (fun h0 => ?_) (fun h0 => ?_)
  ·
    refine T.seq ?_
    refine T.regionL (ll := [0]) rfl ?_
    refine TO.assign rfl rfl rfl rfl ?_
    refine TO.done ?_
    refine X.seq_normal ?_
    refine T.ret ?_
    refine X.then_ret ?_
    refine X.ret1 rfl rfl rfl rfl (Res.tmp rfl) Pick.nil ?_
    refine ⟨congrArg _ (decide_eq_false ?_).symm, rfl⟩
    rintro rfl
    exact h0 (by rw [← hx.len, ← hy.len])
  ·
    refine T.skip ?_
    refine X.seq_normal ?_
    refine T.seq ?_
    refine T.seq ?_
    refine T.regionL (ll := [0, 1, 2]) rfl ?_
    refine TO.move rfl rfl rfl rfl ?_
    refine TO.len rfl rfl rfl rfl rfl Ty.l30 ?_
    refine TO.move rfl rfl rfl rfl ?_
    refine TO.done ?_
    refine X.seq_normal ?_
    refine T.block ?_
    refine T.loop1 (fun (k : Nat) => k ≤ n ∧ ∀ i, i < k → xs.getD i 0 = ys.getD i 0) (fun (k : Nat) => [(13, .int .i64 k)]) [4, 5, 13, 14, 15, 16, 17, 18, 19, 20, 21, 22, 23, 24, 25] (fun (k : Nat) => []) (fun (k : Nat) => n - k) 0 ⟨by omega, by omega⟩ (by repeat (first | exact trivial | refine ⟨rfl, ?_⟩)) (by repeat (first | exact Pick.nil | apply Pick.none | refine Pick.cons (by repeat (first | exact Take.head _ _ | apply Take.tail)) ?_)) ?_
    rintro k ⟨hk, he⟩
    refine T.seq ?_
    refine T.regionL (ll := [0]) rfl ?_
    refine TO.bin rfl rfl rfl rfl rfl rfl ?_
    refine TO.done ?_
    refine X.seq_normal ?_
    refine T.seq ?_
    first | refine T.condP rfl (fun h1 => ?_) (fun h1 => ?_) | refine T.cond rfl (fun h1 => ?_) (fun h1 => ?_)
    ·
      have hkm : k < m := by omega
      refine T.skip ?_
      refine X.seq_normal ?_
      refine T.seq ?_
      refine T.block ?_
      refine T.seq ?_
      refine T.regionL (ll := [0, 1]) rfl ?_
      refine TO.move rfl rfl rfl rfl ?_
      refine TO.assign rfl rfl rfl rfl ?_
      refine TO.done ?_
      refine X.seq_normal ?_
      refine T.seq ?_
      apply T.drawQT [(16, _), (17, _), (18, _), (19, _), (20, _), (21, _), (22, _), (23, _)]
      · exact mixed
      · kernel_rfl
      · kernel_rfl
      · exact rfl
      · exact rfl
      · refine ⟨?_, ?_, ?_, ?_, ?_, ?_, ?_, ?_, trivial⟩
        · intro Es
          refine TO.move rfl rfl rfl rfl ?_
          exact TO.done (X.ob rfl (Pick.refl _))
        · intro Es
          refine TO.move rfl rfl rfl rfl ?_
          exact TO.done (X.ob rfl (Pick.refl _))
        · intro Es
          first | refine TO.index1N rfl rfl rfl rfl rfl Ty.l30 Ty.n3 (by omega) ?_ | refine TO.index1 rfl rfl rfl rfl rfl Ty.l30 Ty.n3 (by omega) (by omega) ?_ | refine TO.indexRN rfl rfl rfl rfl rfl Ty.l30 Ty.n3 (RO.nil (by assumption)) (by omega) ?_ | refine TO.indexR rfl rfl rfl rfl rfl Ty.l30 Ty.n3 (RO.nil (by assumption)) (by omega) (by omega) ?_
          exact TO.done (X.ob rfl (Pick.refl _))
        · intro Es
          first | refine TO.ldIr rfl rfl rfl rfl Ty.s3 (by assumption) rfl (by first | omega | (simp only [List.length_set, List.length_replicate]; omega)) ?_ | refine TO.ldI rfl rfl rfl rfl Ty.s3 (by repeat (first | exact List.Mem.head _ | apply List.Mem.tail)) (by first | omega | (simp only [List.length_set, List.length_replicate]; omega)) ?_
          exact TO.done (X.ob rfl (Pick.refl _))
        · intro Es
          refine TO.move rfl rfl rfl rfl ?_
          exact TO.done (X.ob rfl (Pick.refl _))
        · intro Es
          refine TO.move rfl rfl rfl rfl ?_
          exact TO.done (X.ob rfl (Pick.refl _))
        · intro Es
          first | refine TO.index1N rfl rfl rfl rfl rfl Ty.l30 Ty.n3 (by omega) ?_ | refine TO.index1 rfl rfl rfl rfl rfl Ty.l30 Ty.n3 (by omega) (by omega) ?_ | refine TO.indexRN rfl rfl rfl rfl rfl Ty.l30 Ty.n3 (RO.nil (by assumption)) (by omega) ?_ | refine TO.indexR rfl rfl rfl rfl rfl Ty.l30 Ty.n3 (RO.nil (by assumption)) (by omega) (by omega) ?_
          exact TO.done (X.ob rfl (Pick.refl _))
        · intro Es
          first | refine TO.ldIr rfl rfl rfl rfl Ty.s3 (by assumption) rfl (by first | omega | (simp only [List.length_set, List.length_replicate]; omega)) ?_ | refine TO.ldI rfl rfl rfl rfl Ty.s3 (by repeat (first | exact List.Mem.head _ | apply List.Mem.tail)) (by first | omega | (simp only [List.length_set, List.length_replicate]; omega)) ?_
          exact TO.done (X.ob rfl (Pick.refl _))
      refine TO.bin rfl rfl rfl rfl rfl rfl ?_
      refine TO.done ?_
      refine X.seq_normal ?_
      first | refine T.condP rfl (fun h2 => ?_) (fun h2 => ?_) | refine T.cond rfl (fun h2 => ?_) (fun h2 => ?_)
      ·
        refine T.seq ?_
        refine T.regionL (ll := [0]) rfl ?_
        refine TO.assign rfl rfl rfl rfl ?_
        refine TO.done ?_
        refine X.seq_normal ?_
        refine T.ret ?_
        refine X.block_ret ?_
        refine X.then_ret ?_
        refine X.then_ret ?_
        refine X.block_ret ?_
        refine X.then_ret ?_
        refine X.ret1 rfl rfl rfl rfl (Res.tmp rfl) Pick.nil ?_
        refine ⟨congrArg _ (decide_eq_false ?_).symm, rfl⟩
        rintro rfl
        exact h2 rfl
      ·
        refine T.skip ?_
        refine X.block_normal ?_
        refine X.seq_normal ?_
        refine T.regionL (ll := [0, 1]) rfl ?_
        refine TO.add rfl rfl rfl rfl rfl (by omega) (by omega) ?_
        refine TO.move rfl rfl rfl rfl ?_
        refine TO.done ?_
        refine X.again1 (k + 1) ⟨by omega, fun i hi => by rcases Nat.lt_succ_iff_lt_or_eq.1 hi with h | h; exact he i h; subst h; exact Classical.not_not.1 h2⟩ (by omega) (by repeat (first | exact trivial | refine ⟨rfl, ?_⟩)) (by repeat (first | exact trivial | refine ⟨rfl, ?_⟩)) (by repeat (first | exact Pick.nil | apply Pick.none | refine Pick.cons (by repeat (first | exact Take.head _ _ | apply Take.tail)) ?_))
    ·
      refine T.exit ?_
      refine X.then_exit ?_
      refine X.then_exit ?_
      refine X.block_here ?_
      refine X.seq_normal ?_
      refine T.seq ?_
      refine T.regionL (ll := [0]) rfl ?_
      refine TO.assign rfl rfl rfl rfl ?_
      refine TO.done ?_
      refine X.seq_normal ?_
      refine T.ret ?_
      refine X.ret1 rfl rfl rfl rfl (Res.tmp rfl) Pick.nil ?_
      refine ⟨congrArg _ (decide_eq_true ?_).symm, rfl⟩
      exact eq_of_getD 0 (by rw [hx.len, hy.len]; omega) (fun i hi => he i (by rw [hx.len] at hi; omega))
/-- acequia/acequialow.Longs -/
theorem c_longs (xs ys : List Int) (bx by' : Option Addr) (n m cx cy : Nat) (w : World) (hx : RO w (intC .i64) 1 bx n xs) (hy : RO w (intC .i64) 1 by' m ys) (hn : n ≤ 4611686018427387904) : Fnc Try.prog 25 #[.slice bx n cx, .slice by' m cy] w [] (fun r h => r = .bool (decide (xs = ys)) ∧ h = []) := by
  refine Fnc.enter (vs := [.slice bx n cx, .slice by' m cy]) Try.func25 rfl rfl (Inv.refl w) ?_
  refine T.seq ?_
  refine T.regionL (ll := [0]) rfl ?_
  refine TO.assign rfl rfl rfl rfl ?_
  refine TO.done ?_
  refine X.seq_normal ?_
  refine T.seq ?_
  refine T.seq ?_
  refine T.regionL (ll := [0, 1, 2, 3, 4]) rfl ?_
  refine TO.move rfl rfl rfl rfl ?_
  refine TO.len rfl rfl rfl rfl rfl Ty.l25 ?_
  refine TO.move rfl rfl rfl rfl ?_
  refine TO.len rfl rfl rfl rfl rfl Ty.l25 ?_
  refine TO.bin rfl rfl rfl rfl rfl rfl ?_
  refine TO.done ?_
  refine X.seq_normal ?_
  first | refine T.condP rfl (fun h0 => ?_) (fun h0 => ?_) | refine T.cond rfl (fun h0 => ?_) (fun h0 => ?_)
  ·
    refine T.seq ?_
    refine T.regionL (ll := [0]) rfl ?_
    refine TO.assign rfl rfl rfl rfl ?_
    refine TO.done ?_
    refine X.seq_normal ?_
    refine T.ret ?_
    refine X.then_ret ?_
    refine X.ret1 rfl rfl rfl rfl (Res.tmp rfl) Pick.nil ?_
    refine ⟨congrArg _ (decide_eq_false ?_).symm, rfl⟩
    rintro rfl
    exact h0 (by rw [← hx.len, ← hy.len])
  ·
    refine T.skip ?_
    refine X.seq_normal ?_
    refine T.seq ?_
    refine T.seq ?_
    refine T.regionL (ll := [0, 1, 2]) rfl ?_
    refine TO.move rfl rfl rfl rfl ?_
    refine TO.len rfl rfl rfl rfl rfl Ty.l25 ?_
    refine TO.move rfl rfl rfl rfl ?_
    refine TO.done ?_
    refine X.seq_normal ?_
    refine T.block ?_
    refine T.loop1 (fun (k : Nat) => k ≤ n ∧ ∀ i, i < k → xs.getD i 0 = ys.getD i 0) (fun (k : Nat) => [(13, .int .i64 k)]) [4, 5, 13, 14, 15, 16, 17, 18, 19, 20, 21, 22, 23, 24, 25] (fun (k : Nat) => []) (fun (k : Nat) => n - k) 0 ⟨by omega, by omega⟩ (by repeat (first | exact trivial | refine ⟨rfl, ?_⟩)) (by repeat (first | exact Pick.nil | apply Pick.none | refine Pick.cons (by repeat (first | exact Take.head _ _ | apply Take.tail)) ?_)) ?_
    rintro k ⟨hk, he⟩
    refine T.seq ?_
    refine T.regionL (ll := [0]) rfl ?_
    refine TO.bin rfl rfl rfl rfl rfl rfl ?_
    refine TO.done ?_
    refine X.seq_normal ?_
    refine T.seq ?_
    first | refine T.condP rfl (fun h1 => ?_) (fun h1 => ?_) | refine T.cond rfl (fun h1 => ?_) (fun h1 => ?_)
    ·
      have hkm : k < m := by omega
      refine T.skip ?_
      refine X.seq_normal ?_
      refine T.seq ?_
      refine T.block ?_
      refine T.seq ?_
      refine T.regionL (ll := [0, 1]) rfl ?_
      refine TO.move rfl rfl rfl rfl ?_
      refine TO.assign rfl rfl rfl rfl ?_
      refine TO.done ?_
      refine X.seq_normal ?_
      refine T.seq ?_
      apply T.drawQT [(16, _), (17, _), (18, _), (19, _), (20, _), (21, _), (22, _), (23, _)]
      · exact mixed
      · kernel_rfl
      · kernel_rfl
      · exact rfl
      · exact rfl
      · refine ⟨?_, ?_, ?_, ?_, ?_, ?_, ?_, ?_, trivial⟩
        · intro Es
          refine TO.move rfl rfl rfl rfl ?_
          exact TO.done (X.ob rfl (Pick.refl _))
        · intro Es
          refine TO.move rfl rfl rfl rfl ?_
          exact TO.done (X.ob rfl (Pick.refl _))
        · intro Es
          first | refine TO.index1N rfl rfl rfl rfl rfl Ty.l25 Ty.n2 (by omega) ?_ | refine TO.index1 rfl rfl rfl rfl rfl Ty.l25 Ty.n2 (by omega) (by omega) ?_ | refine TO.indexRN rfl rfl rfl rfl rfl Ty.l25 Ty.n2 (RO.nil (by assumption)) (by omega) ?_ | refine TO.indexR rfl rfl rfl rfl rfl Ty.l25 Ty.n2 (RO.nil (by assumption)) (by omega) (by omega) ?_
          exact TO.done (X.ob rfl (Pick.refl _))
        · intro Es
          first | refine TO.ldIr rfl rfl rfl rfl Ty.s2 (by assumption) rfl (by first | omega | (simp only [List.length_set, List.length_replicate]; omega)) ?_ | refine TO.ldI rfl rfl rfl rfl Ty.s2 (by repeat (first | exact List.Mem.head _ | apply List.Mem.tail)) (by first | omega | (simp only [List.length_set, List.length_replicate]; omega)) ?_
          exact TO.done (X.ob rfl (Pick.refl _))
        · intro Es
          refine TO.move rfl rfl rfl rfl ?_
          exact TO.done (X.ob rfl (Pick.refl _))
        · intro Es
          refine TO.move rfl rfl rfl rfl ?_
          exact TO.done (X.ob rfl (Pick.refl _))
        · intro Es
          first | refine TO.index1N rfl rfl rfl rfl rfl Ty.l25 Ty.n2 (by omega) ?_ | refine TO.index1 rfl rfl rfl rfl rfl Ty.l25 Ty.n2 (by omega) (by omega) ?_ | refine TO.indexRN rfl rfl rfl rfl rfl Ty.l25 Ty.n2 (RO.nil (by assumption)) (by omega) ?_ | refine TO.indexR rfl rfl rfl rfl rfl Ty.l25 Ty.n2 (RO.nil (by assumption)) (by omega) (by omega) ?_
          exact TO.done (X.ob rfl (Pick.refl _))
        · intro Es
          first | refine TO.ldIr rfl rfl rfl rfl Ty.s2 (by assumption) rfl (by first | omega | (simp only [List.length_set, List.length_replicate]; omega)) ?_ | refine TO.ldI rfl rfl rfl rfl Ty.s2 (by repeat (first | exact List.Mem.head _ | apply List.Mem.tail)) (by first | omega | (simp only [List.length_set, List.length_replicate]; omega)) ?_
          exact TO.done (X.ob rfl (Pick.refl _))
      refine TO.bin rfl rfl rfl rfl rfl rfl ?_
      refine TO.done ?_
      refine X.seq_normal ?_
      first | refine T.condP rfl (fun h2 => ?_) (fun h2 => ?_) | refine T.cond rfl (fun h2 => ?_) (fun h2 => ?_)
      ·
        refine T.seq ?_
        refine T.regionL (ll := [0]) rfl ?_
        refine TO.assign rfl rfl rfl rfl ?_
        refine TO.done ?_
        refine X.seq_normal ?_
        refine T.ret ?_
        refine X.block_ret ?_
        refine X.then_ret ?_
        refine X.then_ret ?_
        refine X.block_ret ?_
        refine X.then_ret ?_
        refine X.ret1 rfl rfl rfl rfl (Res.tmp rfl) Pick.nil ?_
        refine ⟨congrArg _ (decide_eq_false ?_).symm, rfl⟩
        rintro rfl
        exact h2 rfl
      ·
        refine T.skip ?_
        refine X.block_normal ?_
        refine X.seq_normal ?_
        refine T.regionL (ll := [0, 1]) rfl ?_
        refine TO.add rfl rfl rfl rfl rfl (by omega) (by omega) ?_
        refine TO.move rfl rfl rfl rfl ?_
        refine TO.done ?_
        refine X.again1 (k + 1) ⟨by omega, fun i hi => by rcases Nat.lt_succ_iff_lt_or_eq.1 hi with h | h; exact he i h; subst h; exact Classical.not_not.1 h2⟩ (by omega) (by repeat (first | exact trivial | refine ⟨rfl, ?_⟩)) (by repeat (first | exact trivial | refine ⟨rfl, ?_⟩)) (by repeat (first | exact Pick.nil | apply Pick.none | refine Pick.cons (by repeat (first | exact Take.head _ _ | apply Take.tail)) ?_))
    ·
      refine T.exit ?_
      refine X.then_exit ?_
      refine X.then_exit ?_
      refine X.block_here ?_
      refine X.seq_normal ?_
      refine T.seq ?_
      refine T.regionL (ll := [0]) rfl ?_
      refine TO.assign rfl rfl rfl rfl ?_
      refine TO.done ?_
      refine X.seq_normal ?_
      refine T.ret ?_
      refine X.ret1 rfl rfl rfl rfl (Res.tmp rfl) Pick.nil ?_
      refine ⟨congrArg _ (decide_eq_true ?_).symm, rfl⟩
      exact eq_of_getD 0 (by rw [hx.len, hy.len]; omega) (fun i hi => he i (by rw [hx.len] at hi; omega))
/-- acequia/acequialow.Bools -/
theorem c_bools (xs ys : List Bool) (bx by' : Option Addr) (n m cx cy : Nat) (w : World) (hx : RO w boolC 1 bx n xs) (hy : RO w boolC 1 by' m ys) (hn : n ≤ 4611686018427387904) : Fnc Try.prog 49 #[.slice bx n cx, .slice by' m cy] w [] (fun r h => r = .bool (decide (xs = ys)) ∧ h = []) := by
  refine Fnc.enter (vs := [.slice bx n cx, .slice by' m cy]) Try.func49 rfl rfl (Inv.refl w) ?_
  refine T.seq ?_
  refine T.regionL (ll := [0]) rfl ?_
  refine TO.assign rfl rfl rfl rfl ?_
  refine TO.done ?_
  refine X.seq_normal ?_
  refine T.seq ?_
  refine T.seq ?_
  refine T.regionL (ll := [0, 1, 2, 3, 4]) rfl ?_
  refine TO.move rfl rfl rfl rfl ?_
  refine TO.len rfl rfl rfl rfl rfl Ty.l31 ?_
  refine TO.move rfl rfl rfl rfl ?_
  refine TO.len rfl rfl rfl rfl rfl Ty.l31 ?_
  refine TO.bin rfl rfl rfl rfl rfl rfl ?_
  refine TO.done ?_
  refine X.seq_normal ?_
  first | refine T.condP rfl (fun h0 => ?_) (fun h0 => ?_) | refine T.cond rfl (fun h0 => ?_) (fun h0 => ?_)
  ·
    refine T.seq ?_
    refine T.regionL (ll := [0]) rfl ?_
    refine TO.assign rfl rfl rfl rfl ?_
    refine TO.done ?_
    refine X.seq_normal ?_
    refine T.ret ?_
    refine X.then_ret ?_
    refine X.ret1 rfl rfl rfl rfl (Res.tmp rfl) Pick.nil ?_
    refine ⟨congrArg _ (decide_eq_false ?_).symm, rfl⟩
    rintro rfl
    exact h0 (by rw [← hx.len, ← hy.len])
  ·
    refine T.skip ?_
    refine X.seq_normal ?_
    refine T.seq ?_
    refine T.seq ?_
    refine T.regionL (ll := [0, 1, 2]) rfl ?_
    refine TO.move rfl rfl rfl rfl ?_
    refine TO.len rfl rfl rfl rfl rfl Ty.l31 ?_
    refine TO.move rfl rfl rfl rfl ?_
    refine TO.done ?_
    refine X.seq_normal ?_
    refine T.block ?_
    refine T.loop1 (fun (k : Nat) => k ≤ n ∧ ∀ i, i < k → xs.getD i false = ys.getD i false) (fun (k : Nat) => [(13, .int .i64 k)]) [4, 5, 13, 14, 15, 16, 17, 18, 19, 20, 21, 22, 23, 24, 25] (fun (k : Nat) => []) (fun (k : Nat) => n - k) 0 ⟨by omega, by omega⟩ (by repeat (first | exact trivial | refine ⟨rfl, ?_⟩)) (by repeat (first | exact Pick.nil | apply Pick.none | refine Pick.cons (by repeat (first | exact Take.head _ _ | apply Take.tail)) ?_)) ?_
    rintro k ⟨hk, he⟩
    refine T.seq ?_
    refine T.regionL (ll := [0]) rfl ?_
    refine TO.bin rfl rfl rfl rfl rfl rfl ?_
    refine TO.done ?_
    refine X.seq_normal ?_
    refine T.seq ?_
    first | refine T.condP rfl (fun h1 => ?_) (fun h1 => ?_) | refine T.cond rfl (fun h1 => ?_) (fun h1 => ?_)
    ·
      have hkm : k < m := by omega
      refine T.skip ?_
      refine X.seq_normal ?_
      refine T.seq ?_
      refine T.block ?_
      refine T.seq ?_
      refine T.regionL (ll := [0, 1]) rfl ?_
      refine TO.move rfl rfl rfl rfl ?_
      refine TO.assign rfl rfl rfl rfl ?_
      refine TO.done ?_
      refine X.seq_normal ?_
      refine T.seq ?_
      apply T.drawQT [(16, _), (17, _), (18, _), (19, _), (20, _), (21, _), (22, _), (23, _)]
      · exact mixed
      · kernel_rfl
      · kernel_rfl
      · exact rfl
      · exact rfl
      · refine ⟨?_, ?_, ?_, ?_, ?_, ?_, ?_, ?_, trivial⟩
        · intro Es
          refine TO.move rfl rfl rfl rfl ?_
          exact TO.done (X.ob rfl (Pick.refl _))
        · intro Es
          refine TO.move rfl rfl rfl rfl ?_
          exact TO.done (X.ob rfl (Pick.refl _))
        · intro Es
          first | refine TO.index1N rfl rfl rfl rfl rfl Ty.l31 Ty.n4 (by omega) ?_ | refine TO.index1 rfl rfl rfl rfl rfl Ty.l31 Ty.n4 (by omega) (by omega) ?_ | refine TO.indexRN rfl rfl rfl rfl rfl Ty.l31 Ty.n4 (RO.nil (by assumption)) (by omega) ?_ | refine TO.indexR rfl rfl rfl rfl rfl Ty.l31 Ty.n4 (RO.nil (by assumption)) (by omega) (by omega) ?_
          exact TO.done (X.ob rfl (Pick.refl _))
        · intro Es
          first | refine TO.ldBr rfl rfl rfl rfl Ty.s4 (by assumption) rfl (by first | omega | (simp only [List.length_set, List.length_replicate]; omega)) ?_ | refine TO.ldB rfl rfl rfl rfl Ty.s4 (by repeat (first | exact List.Mem.head _ | apply List.Mem.tail)) (by first | omega | (simp only [List.length_set, List.length_replicate]; omega)) ?_
          exact TO.done (X.ob rfl (Pick.refl _))
        · intro Es
          refine TO.move rfl rfl rfl rfl ?_
          exact TO.done (X.ob rfl (Pick.refl _))
        · intro Es
          refine TO.move rfl rfl rfl rfl ?_
          exact TO.done (X.ob rfl (Pick.refl _))
        · intro Es
          first | refine TO.index1N rfl rfl rfl rfl rfl Ty.l31 Ty.n4 (by omega) ?_ | refine TO.index1 rfl rfl rfl rfl rfl Ty.l31 Ty.n4 (by omega) (by omega) ?_ | refine TO.indexRN rfl rfl rfl rfl rfl Ty.l31 Ty.n4 (RO.nil (by assumption)) (by omega) ?_ | refine TO.indexR rfl rfl rfl rfl rfl Ty.l31 Ty.n4 (RO.nil (by assumption)) (by omega) (by omega) ?_
          exact TO.done (X.ob rfl (Pick.refl _))
        · intro Es
          first | refine TO.ldBr rfl rfl rfl rfl Ty.s4 (by assumption) rfl (by first | omega | (simp only [List.length_set, List.length_replicate]; omega)) ?_ | refine TO.ldB rfl rfl rfl rfl Ty.s4 (by repeat (first | exact List.Mem.head _ | apply List.Mem.tail)) (by first | omega | (simp only [List.length_set, List.length_replicate]; omega)) ?_
          exact TO.done (X.ob rfl (Pick.refl _))
      refine TO.neb rfl rfl rfl rfl rfl Ty.u4 ?_
      refine TO.done ?_
      refine X.seq_normal ?_
      first | refine T.condP rfl (fun h2 => ?_) (fun h2 => ?_) | refine T.cond rfl (fun h2 => ?_) (fun h2 => ?_)
      ·
        refine T.seq ?_
        refine T.regionL (ll := [0]) rfl ?_
        refine TO.assign rfl rfl rfl rfl ?_
        refine TO.done ?_
        refine X.seq_normal ?_
        refine T.ret ?_
        refine X.block_ret ?_
        refine X.then_ret ?_
        refine X.then_ret ?_
        refine X.block_ret ?_
        refine X.then_ret ?_
        refine X.ret1 rfl rfl rfl rfl (Res.tmp rfl) Pick.nil ?_
        refine ⟨congrArg _ (decide_eq_false ?_).symm, rfl⟩
        rintro rfl
        simp at h2
      ·
        refine T.skip ?_
        refine X.block_normal ?_
        refine X.seq_normal ?_
        refine T.regionL (ll := [0, 1]) rfl ?_
        refine TO.add rfl rfl rfl rfl rfl (by omega) (by omega) ?_
        refine TO.move rfl rfl rfl rfl ?_
        refine TO.done ?_
        refine X.again1 (k + 1) ⟨by omega, fun i hi => by rcases Nat.lt_succ_iff_lt_or_eq.1 hi with h | h; exact he i h; subst h; simpa using h2⟩ (by omega) (by repeat (first | exact trivial | refine ⟨rfl, ?_⟩)) (by repeat (first | exact trivial | refine ⟨rfl, ?_⟩)) (by repeat (first | exact Pick.nil | apply Pick.none | refine Pick.cons (by repeat (first | exact Take.head _ _ | apply Take.tail)) ?_))
    ·
      refine T.exit ?_
      refine X.then_exit ?_
      refine X.then_exit ?_
      refine X.block_here ?_
      refine X.seq_normal ?_
      refine T.seq ?_
      refine T.regionL (ll := [0]) rfl ?_
      refine TO.assign rfl rfl rfl rfl ?_
      refine TO.done ?_
      refine X.seq_normal ?_
      refine T.ret ?_
      refine X.ret1 rfl rfl rfl rfl (Res.tmp rfl) Pick.nil ?_
      refine ⟨congrArg _ (decide_eq_true ?_).symm, rfl⟩
      exact eq_of_getD false (by rw [hx.len, hy.len]; omega) (fun i hi => he i (by rw [hx.len] at hi; omega))
theorem el30 : ElemT Try.prog 30 3 1 8 (.int .i64 0) := ⟨Ty.l30, Ty.n3, Ty.b3, Ty.z3, rfl⟩
/-- slices.Clone[[]int,int] -/
theorem c_cloneI (xs : List Int) (base : Option Addr) (n c : Nat) (w : World) (hx : RO w (intC .i64) 1 base n xs) (hn : n ≤ 4294967296) : Fnc Try.prog 54 #[.slice base n c] w [] (fun r h => ∃ ob c' j, r = .slice (sb ob) n c' ∧ h = [(ob, .cells (arr (intC .i64) xs j).toArray 3 (0, 0))] ∧ n ≤ c' ∧ j.length = (c' - n) * 1 ∧ (ob = none → c' = 0)) := by
  refine Fnc.enter (vs := [.slice base n c]) Try.func54 rfl rfl (Inv.refl w) ?_
  refine T.seq ?_
  refine T.regionL (ll := [0]) rfl ?_
  refine TO.assign rfl rfl rfl rfl ?_
  refine TO.done ?_
  refine X.seq_normal ?_
  refine T.seq ?_
  refine T.seq ?_
  refine T.regionL (ll := [0, 1]) rfl ?_
  refine TO.move rfl rfl rfl rfl ?_
  refine TO.eqnil rfl rfl rfl rfl rfl Ty.l30 ?_
  refine TO.done ?_
  refine X.seq_normal ?_
  first | refine T.condP rfl (fun h0 => ?_) (fun h0 => ?_) | refine T.cond rfl (fun h0 => ?_) (fun h0 => ?_)
  ·
    have hb0 : base = none := by simpa using h0
    have hn0 := hx.nil hb0
    have hxs : xs = [] := List.eq_nil_of_length_eq_zero (by rw [hx.len]; exact hn0)
    subst hn0 hxs
    refine T.seq ?_
    refine T.regionL (ll := [0]) rfl ?_
    refine TO.assign rfl rfl rfl rfl ?_
    refine TO.done ?_
    refine X.seq_normal ?_
    refine T.ret ?_
    refine X.then_ret ?_
    refine X.ret1 rfl rfl rfl rfl (Res.tmp rfl) (N := [(none, .cells (arr (intC .i64) [] []).toArray 3 (0, 0))]) (Pick.none Pick.nil) ⟨none, 0, [], rfl, rfl, by omega, rfl, fun _ => rfl⟩
  ·
    refine T.skip ?_
    refine X.seq_normal ?_
    refine T.seq ?_
    refine T.regionL (ll := [0, 1, 2, 3]) rfl ?_
    refine TO.buildNone rfl rfl rfl Ty.l30 Ty.n3 ?_; intro b5
    refine TO.move rfl rfl rfl rfl ?_
    refine TO.append (f := (intC .i64)) (s := 1) (xs := ([] : List Int)) (ob := some b5) (j := []) (ys := xs) (fun _ => rfl) (fun _ => rfl) el30 rfl rfl rfl rfl rfl (Take.head _ _) rfl (by omega) (by simp) (by simp) (fun wc hwc => hx.mono hwc) (by omega) (by omega) ?_
    intro ob c1 j1 hc1 hj1 ho1
    rw [List.nil_append, Nat.zero_add]
    rw [Nat.zero_add] at hc1 hj1
    refine TO.assign rfl rfl rfl rfl ?_
    refine TO.done ?_
    refine X.seq_normal ?_
    refine T.ret ?_
    exact X.ret1 rfl rfl rfl rfl (Res.tmp rfl) (Pick.refl _) ⟨ob, c1, j1, rfl, rfl, hc1, hj1, ho1⟩
theorem el25 : ElemT Try.prog 25 2 1 8 (.int .i64 0) := ⟨Ty.l25, Ty.n2, Ty.b2, Ty.z2, rfl⟩
/-- slices.Clone[[]int64,int64] -/
theorem c_cloneL (xs : List Int) (base : Option Addr) (n c : Nat) (w : World) (hx : RO w (intC .i64) 1 base n xs) (hn : n ≤ 4294967296) : Fnc Try.prog 64 #[.slice base n c] w [] (fun r h => ∃ ob c' j, r = .slice (sb ob) n c' ∧ h = [(ob, .cells (arr (intC .i64) xs j).toArray 2 (0, 0))] ∧ n ≤ c' ∧ j.length = (c' - n) * 1 ∧ (ob = none → c' = 0)) := by
  refine Fnc.enter (vs := [.slice base n c]) Try.func64 rfl rfl (Inv.refl w) ?_
  refine T.seq ?_
  refine T.regionL (ll := [0]) rfl ?_
  refine TO.assign rfl rfl rfl rfl ?_
  refine TO.done ?_
  refine X.seq_normal ?_
  refine T.seq ?_
  refine T.seq ?_
  refine T.regionL (ll := [0, 1]) rfl ?_
  refine TO.move rfl rfl rfl rfl ?_
  refine TO.eqnil rfl rfl rfl rfl rfl Ty.l25 ?_
  refine TO.done ?_
  refine X.seq_normal ?_
  first | refine T.condP rfl (fun h0 => ?_) (fun h0 => ?_) | refine T.cond rfl (fun h0 => ?_) (fun h0 => ?_)
  ·
    have hb0 : base = none := by simpa using h0
    have hn0 := hx.nil hb0
    have hxs : xs = [] := List.eq_nil_of_length_eq_zero (by rw [hx.len]; exact hn0)
    subst hn0 hxs
    refine T.seq ?_
    refine T.regionL (ll := [0]) rfl ?_
    refine TO.assign rfl rfl rfl rfl ?_
    refine TO.done ?_
    refine X.seq_normal ?_
    refine T.ret ?_
    refine X.then_ret ?_
    refine X.ret1 rfl rfl rfl rfl (Res.tmp rfl) (N := [(none, .cells (arr (intC .i64) [] []).toArray 2 (0, 0))]) (Pick.none Pick.nil) ⟨none, 0, [], rfl, rfl, by omega, rfl, fun _ => rfl⟩
  ·
    refine T.skip ?_
    refine X.seq_normal ?_
    refine T.seq ?_
    refine T.regionL (ll := [0, 1, 2, 3]) rfl ?_
    refine TO.buildNone rfl rfl rfl Ty.l25 Ty.n2 ?_; intro b5
    refine TO.move rfl rfl rfl rfl ?_
    refine TO.append (f := (intC .i64)) (s := 1) (xs := ([] : List Int)) (ob := some b5) (j := []) (ys := xs) (fun _ => rfl) (fun _ => rfl) el25 rfl rfl rfl rfl rfl (Take.head _ _) rfl (by omega) (by simp) (by simp) (fun wc hwc => hx.mono hwc) (by omega) (by omega) ?_
    intro ob c1 j1 hc1 hj1 ho1
    rw [List.nil_append, Nat.zero_add]
    rw [Nat.zero_add] at hc1 hj1
    refine TO.assign rfl rfl rfl rfl ?_
    refine TO.done ?_
    refine X.seq_normal ?_
    refine T.ret ?_
    exact X.ret1 rfl rfl rfl rfl (Res.tmp rfl) (Pick.refl _) ⟨ob, c1, j1, rfl, rfl, hc1, hj1, ho1⟩
theorem el22 : ElemT Try.prog 22 28 3 24 (.agg #[.int .i64 0, .int .i64 0, .int .i64 0]) := ⟨Ty.l22, Ty.n28, Ty.b28, Ty.z28, rfl⟩
/-- slices.Clone[[]acequia/api.Arc,acequia/api.Arc] -/
theorem c_cloneA (xs : List Arc) (base : Option Addr) (n c : Nat) (w : World) (hx : RO w arcC 3 base n xs) (hn : n ≤ 4294967296) : Fnc Try.prog 65 #[.slice base n c] w [] (fun r h => ∃ ob c' j, r = .slice (sb ob) n c' ∧ h = [(ob, .cells (arr arcC xs j).toArray 28 (0, 0))] ∧ n ≤ c' ∧ j.length = (c' - n) * 3 ∧ (ob = none → c' = 0)) := by
  refine Fnc.enter (vs := [.slice base n c]) Try.func65 rfl rfl (Inv.refl w) ?_
  refine T.seq ?_
  refine T.regionL (ll := [0]) rfl ?_
  refine TO.assign rfl rfl rfl rfl ?_
  refine TO.done ?_
  refine X.seq_normal ?_
  refine T.seq ?_
  refine T.seq ?_
  refine T.regionL (ll := [0, 1]) rfl ?_
  refine TO.move rfl rfl rfl rfl ?_
  refine TO.eqnil rfl rfl rfl rfl rfl Ty.l22 ?_
  refine TO.done ?_
  refine X.seq_normal ?_
  first | refine T.condP rfl (fun h0 => ?_) (fun h0 => ?_) | refine T.cond rfl (fun h0 => ?_) (fun h0 => ?_)
  ·
    have hb0 : base = none := by simpa using h0
    have hn0 := hx.nil hb0
    have hxs : xs = [] := List.eq_nil_of_length_eq_zero (by rw [hx.len]; exact hn0)
    subst hn0 hxs
    refine T.seq ?_
    refine T.regionL (ll := [0]) rfl ?_
    refine TO.assign rfl rfl rfl rfl ?_
    refine TO.done ?_
    refine X.seq_normal ?_
    refine T.ret ?_
    refine X.then_ret ?_
    refine X.ret1 rfl rfl rfl rfl (Res.tmp rfl) (N := [(none, .cells (arr arcC [] []).toArray 28 (0, 0))]) (Pick.none Pick.nil) ⟨none, 0, [], rfl, rfl, by omega, rfl, fun _ => rfl⟩
  ·
    refine T.skip ?_
    refine X.seq_normal ?_
    refine T.seq ?_
    refine T.regionL (ll := [0, 1, 2, 3]) rfl ?_
    refine TO.buildNone rfl rfl rfl Ty.l22 Ty.n28 ?_; intro b5
    refine TO.move rfl rfl rfl rfl ?_
    refine TO.append (f := arcC) (s := 3) (xs := ([] : List Arc)) (ob := some b5) (j := []) (ys := xs) (fun _ => rfl) (fun _ => rfl) el22 rfl rfl rfl rfl rfl (Take.head _ _) rfl (by omega) (by simp) (by simp) (fun wc hwc => hx.mono hwc) (by omega) (by omega) ?_
    intro ob c1 j1 hc1 hj1 ho1
    rw [List.nil_append, Nat.zero_add]
    rw [Nat.zero_add] at hc1 hj1
    refine TO.assign rfl rfl rfl rfl ?_
    refine TO.done ?_
    refine X.seq_normal ?_
    refine T.ret ?_
    exact X.ret1 rfl rfl rfl rfl (Res.tmp rfl) (Pick.refl _) ⟨ob, c1, j1, rfl, rfl, hc1, hj1, ho1⟩
end Go.Proofs.Ytcdbemdogkmahaa.Acq
