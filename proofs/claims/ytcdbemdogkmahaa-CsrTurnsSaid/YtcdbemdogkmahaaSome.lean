/- Contracts: low.Some and low.Within. -/
import Derived.Test.YtcdbemdogkmahaaMake
import Derived.Test.YtcdbemdogkmahaaAcqNetLaw
namespace Go.Proofs.Ytcdbemdogkmahaa.Acq
open Go Go.Acq Go.RowKit Go.Proofs
theorem TySome.c51 : callable Try.prog 51 = true := by kernel_rfl
theorem TySome.n22 : sizeT Try.prog 22 = some 1 := by kernel_rfl
theorem TySome.n24 : sizeT Try.prog 24 = some 4 := by kernel_rfl
theorem TySome.z24 : zeroT Try.prog 24 = some (.agg #[.int .i64 0, .int .i64 0, .int .i64 0, .slice none 0 0]) := by kernel_rfl
theorem elA : ElemT Try.prog 22 28 3 24 (.agg #[.int .i64 0, .int .i64 0, .int .i64 0]) := ⟨Ty.l22, Ty.n28, Ty.b28, Ty.z28, rfl⟩
set_option maxHeartbeats 1000000 in
/-- acequia/acequialow.Some -/
theorem c_some (nN nS nT : Int) (base : Option Addr) (n c : Nat) (al : List Arc) (vv aa : Int) (w : World) (ha : RO w arcC 3 base n al) (hn : n ≤ 9223372036854775807) (hnc : n ≤ c) (hcap : ∀ a, a ∈ al → -9223372036854775808 ≤ a.cap ∧ a.cap ≤ 9223372036854775807) (hv0 : 2 ≤ vv) (hv1 : vv ≤ 4096) (ha0 : 0 ≤ aa) (ha1 : aa ≤ 4096) : Fnc Try.prog 17 #[.agg #[.int .i64 nN, .int .i64 nS, .int .i64 nT, .slice base n c], .int .i64 vv, .int .i64 aa] w [] (fun r h => ∃ (m : Nat) (sS tT : Int) (ob : Option Nat) (c1 : Nat) (ol : List Arc) (j : List Value), r = .agg #[.int .i64 (m : Int), .int .i64 sS, .int .i64 tT, .slice (sb ob) ol.length c1] ∧ h = [(ob, .cells (arr arcC ol j).toArray 28 (0, 0))] ∧ checkE m sS tT ol = 0 ∧ SomeAt m ol ∧ (m : Int) ≤ vv ∧ (ol.length : Int) ≤ aa ∧ ol.length ≤ c1 ∧ j.length = (c1 - ol.length) * 3 ∧ (ob = none → c1 = 0)) := by
  refine Fnc.enter (vs := [.agg #[.int .i64 nN, .int .i64 nS, .int .i64 nT, .slice base n c], .int .i64 vv, .int .i64 aa]) Try.func17 rfl rfl (Inv.refl w) ?_
  refine T.seq ?_
  refine T.regionL (ll := [0, 1]) rfl ?_
  refine TO.boxA rfl rfl rfl rfl ?_; intro b3
  refine TO.allocA rfl rfl rfl TySome.z24 ?_; intro b6
  refine TO.done ?_
  refine X.seq_normal ?_
  refine T.seq ?_
  refine T.regionL (ll := [0, 1, 2, 3, 4, 5, 6, 7, 8]) rfl ?_
  first | refine TO.fieldAddr0 rfl rfl rfl rfl Ty.f24_0 ?_ | refine TO.fieldAddr rfl rfl rfl rfl Ty.f24_0 ?_
  first | refine TO.load1 rfl rfl rfl rfl Ty.s3 (by repeat (first | exact List.Mem.head _ | apply List.Mem.tail)) rfl ?_ | refine TO.loadH rfl rfl rfl rfl Ty.s3 (by assumption) rfl rfl ?_
  refine TO.move rfl rfl rfl rfl ?_
  refine TO.sub rfl rfl rfl rfl rfl (by omega) (by omega) ?_
  refine TO.call rfl rfl rfl TySome.c51 rfl (fun wc hwc => c_among _ _ wc (by omega) (by omega)) ?_
  rintro _ _ ⟨rfl, rfl⟩
  have hr0 := among_range (x := nN) (n := vv - 1) (by omega)
  refine TO.add rfl rfl rfl rfl rfl (by omega) (by omega) ?_
  obtain ⟨m, hm⟩ : ∃ m : Nat, 2 + among nN (vv - 1) = m := ⟨(2 + among nN (vv - 1)).toNat, by omega⟩
  rw [hm]
  refine TO.buildS (t := 24) [.int .i64 0, .int .i64 0, .int .i64 0, .slice none 0 0] [0, 1, 2, 3] rfl rfl rfl rfl (by simp only [setAll, setCells, Value.cells, List.toList_toArray, List.getD_cons_zero, List.getD_cons_succ, List.set_cons_zero, List.set_cons_succ]; rfl) (by kernel_rfl) ?_
  refine TO.allocA rfl rfl rfl TySome.z24 ?_; intro b7
  refine TO.storeA rfl rfl rfl rfl (by repeat (first | exact Take.head _ _ | apply Take.tail)) TySome.n24 rfl rfl rfl ?_
  refine TO.done ?_
  refine X.seq_normal ?_
  refine T.seq ?_
  refine T.regionL (ll := [0, 1, 2, 3, 4, 5, 6]) rfl ?_
  first | refine TO.fieldAddr0 rfl rfl rfl rfl Ty.f24_1 ?_ | refine TO.fieldAddr rfl rfl rfl rfl Ty.f24_1 ?_
  first | refine TO.load1 rfl rfl rfl rfl Ty.s3 (by repeat (first | exact List.Mem.head _ | apply List.Mem.tail)) rfl ?_ | refine TO.loadH rfl rfl rfl rfl Ty.s3 (by assumption) rfl rfl ?_
  first | refine TO.fieldAddr0 rfl rfl rfl rfl Ty.f24_0 ?_ | refine TO.fieldAddr rfl rfl rfl rfl Ty.f24_0 ?_
  first | refine TO.load1 rfl rfl rfl rfl Ty.s3 (by repeat (first | exact List.Mem.head _ | apply List.Mem.tail)) rfl ?_ | refine TO.loadH rfl rfl rfl rfl Ty.s3 (by assumption) rfl rfl ?_
  refine TO.call rfl rfl rfl TySome.c51 rfl (fun wc hwc => c_among _ _ wc (by omega) (by omega)) ?_
  rintro _ _ ⟨rfl, rfl⟩
  first | refine TO.fieldAddr0 rfl rfl rfl rfl Ty.f24_1 ?_ | refine TO.fieldAddr rfl rfl rfl rfl Ty.f24_1 ?_
  have hS := among_range (x := nS) (n := (m : Int)) (by omega)
  generalize among nS (m : Int) = sS at hS ⊢
  refine TO.store1n rfl rfl rfl rfl (by repeat (first | exact Take.head _ _ | apply Take.tail)) Ty.n3 rfl rfl (by simp only [List.set_cons_zero, List.set_cons_succ]; rfl) ?_
  refine TO.done ?_
  refine X.seq_normal ?_
  refine T.seq ?_
  refine T.regionL (ll := [0, 1, 2, 3, 4, 5, 6]) rfl ?_
  first | refine TO.fieldAddr0 rfl rfl rfl rfl Ty.f24_2 ?_ | refine TO.fieldAddr rfl rfl rfl rfl Ty.f24_2 ?_
  first | refine TO.load1 rfl rfl rfl rfl Ty.s3 (by repeat (first | exact List.Mem.head _ | apply List.Mem.tail)) rfl ?_ | refine TO.loadH rfl rfl rfl rfl Ty.s3 (by assumption) rfl rfl ?_
  first | refine TO.fieldAddr0 rfl rfl rfl rfl Ty.f24_0 ?_ | refine TO.fieldAddr rfl rfl rfl rfl Ty.f24_0 ?_
  first | refine TO.load1 rfl rfl rfl rfl Ty.s3 (by repeat (first | exact List.Mem.head _ | apply List.Mem.tail)) rfl ?_ | refine TO.loadH rfl rfl rfl rfl Ty.s3 (by assumption) rfl rfl ?_
  refine TO.call rfl rfl rfl TySome.c51 rfl (fun wc hwc => c_among _ _ wc (by omega) (by omega)) ?_
  rintro _ _ ⟨rfl, rfl⟩
  first | refine TO.fieldAddr0 rfl rfl rfl rfl Ty.f24_2 ?_ | refine TO.fieldAddr rfl rfl rfl rfl Ty.f24_2 ?_
  have hT := among_range (x := nT) (n := (m : Int)) (by omega)
  generalize among nT (m : Int) = tT at hT ⊢
  refine TO.store1n rfl rfl rfl rfl (by repeat (first | exact Take.head _ _ | apply Take.tail)) Ty.n3 rfl rfl (by simp only [List.set_cons_zero, List.set_cons_succ]; rfl) ?_
  refine TO.done ?_
  refine X.seq_normal ?_
  refine T.meet1 (fun (tT : Int) => 0 ≤ tT ∧ tT < m ∧ tT ≠ sS) (fun (tT : Int) => []) [30, 31, 32, 33, 34, 35, 36, 37, 38, 39, 40, 41] (fun (tT : Int) => [(some b3, .cells #[.int .i64 nN, .int .i64 nS, .int .i64 nT, .slice base n c] 24 (0, 0)), (some b6, .cells #[.int .i64 0, .int .i64 0, .int .i64 0, .slice none 0 0] 24 (0, 0)), (some b7, .cells #[.int .i64 (m : Int), .int .i64 sS, .int .i64 tT, .slice none 0 0] 24 (0, 0))]) ?_ ?_
  ·
    refine T.seq ?_
    refine T.regionL (ll := [0, 1, 2, 3, 4]) rfl ?_
    first | refine TO.fieldAddr0 rfl rfl rfl rfl Ty.f24_1 ?_ | refine TO.fieldAddr rfl rfl rfl rfl Ty.f24_1 ?_
    first | refine TO.load1 rfl rfl rfl rfl Ty.s3 (by repeat (first | exact List.Mem.head _ | apply List.Mem.tail)) rfl ?_ | refine TO.loadH rfl rfl rfl rfl Ty.s3 (by assumption) rfl rfl ?_
    first | refine TO.fieldAddr0 rfl rfl rfl rfl Ty.f24_2 ?_ | refine TO.fieldAddr rfl rfl rfl rfl Ty.f24_2 ?_
    first | refine TO.load1 rfl rfl rfl rfl Ty.s3 (by repeat (first | exact List.Mem.head _ | apply List.Mem.tail)) rfl ?_ | refine TO.loadH rfl rfl rfl rfl Ty.s3 (by assumption) rfl rfl ?_
    refine TO.bin rfl rfl rfl rfl rfl rfl ?_
    refine TO.done ?_
    refine X.seq_normal ?_
    first | refine T.condP rfl (fun h0 => ?_) (fun h0 => ?_) | refine T.cond rfl (fun h0 => ?_) (fun h0 => ?_)
    ·
      refine T.regionL (ll := [0, 1, 2, 3, 4, 5, 6, 7]) rfl ?_
      first | refine TO.fieldAddr0 rfl rfl rfl rfl Ty.f24_1 ?_ | refine TO.fieldAddr rfl rfl rfl rfl Ty.f24_1 ?_
      first | refine TO.load1 rfl rfl rfl rfl Ty.s3 (by repeat (first | exact List.Mem.head _ | apply List.Mem.tail)) rfl ?_ | refine TO.loadH rfl rfl rfl rfl Ty.s3 (by assumption) rfl rfl ?_
      refine TO.add rfl rfl rfl rfl rfl (by omega) (by omega) ?_
      first | refine TO.fieldAddr0 rfl rfl rfl rfl Ty.f24_0 ?_ | refine TO.fieldAddr rfl rfl rfl rfl Ty.f24_0 ?_
      first | refine TO.load1 rfl rfl rfl rfl Ty.s3 (by repeat (first | exact List.Mem.head _ | apply List.Mem.tail)) rfl ?_ | refine TO.loadH rfl rfl rfl rfl Ty.s3 (by assumption) rfl rfl ?_
      refine TO.rem rfl rfl rfl rfl rfl (by omega) ?_
      first | refine TO.fieldAddr0 rfl rfl rfl rfl Ty.f24_2 ?_ | refine TO.fieldAddr rfl rfl rfl rfl Ty.f24_2 ?_
      refine TO.store1n rfl rfl rfl rfl (by repeat (first | exact Take.head _ _ | apply Take.tail)) Ty.n3 rfl rfl (by simp only [List.set_cons_zero, List.set_cons_succ]; rfl) ?_
      refine TO.done ?_
      refine X.met1 _ ⟨?_, ?_, ?_⟩ (by repeat (first | exact trivial | refine ⟨rfl, ?_⟩)) (by repeat (first | exact trivial | refine ⟨rfl, ?_⟩)) (by repeat (first | exact Pick.nil | apply Pick.none | refine Pick.cons (by repeat (first | exact Take.head _ _ | apply Take.tail)) ?_))
      all_goals first | exact (next_ne hS.1 hS.2 (by omega)).1 | exact (next_ne hS.1 hS.2 (by omega)).2.1 | exact (next_ne hS.1 hS.2 (by omega)).2.2 | omega
    ·
      refine T.skip ?_
      refine X.met1 _ ⟨?_, ?_, ?_⟩ (by repeat (first | exact trivial | refine ⟨rfl, ?_⟩)) (by repeat (first | exact trivial | refine ⟨rfl, ?_⟩)) (by repeat (first | exact Pick.nil | apply Pick.none | refine Pick.cons (by repeat (first | exact Take.head _ _ | apply Take.tail)) ?_))
      all_goals first | exact (next_ne hS.1 hS.2 (by omega)).1 | exact (next_ne hS.1 hS.2 (by omega)).2.1 | exact (next_ne hS.1 hS.2 (by omega)).2.2 | omega
  · rintro tT ⟨hT0, hT1, hTS⟩
    refine T.seq ?_
    refine T.seq ?_
    refine T.regionL (ll := [0, 1, 2, 3, 4, 5, 6, 7, 8, 9]) rfl ?_
    first | refine TO.fieldAddr0 rfl rfl rfl rfl Ty.f24_3 ?_ | refine TO.fieldAddr rfl rfl rfl rfl Ty.f24_3 ?_
    first | refine TO.load1 rfl rfl rfl rfl Ty.s22 (by repeat (first | exact List.Mem.head _ | apply List.Mem.tail)) rfl ?_ | refine TO.loadH rfl rfl rfl rfl Ty.s22 (by assumption) rfl rfl ?_
    first | refine TO.fieldAddr0 rfl rfl rfl rfl Ty.f24_3 ?_ | refine TO.fieldAddr rfl rfl rfl rfl Ty.f24_3 ?_
    first | refine TO.load1 rfl rfl rfl rfl Ty.s22 (by repeat (first | exact List.Mem.head _ | apply List.Mem.tail)) rfl ?_ | refine TO.loadH rfl rfl rfl rfl Ty.s22 (by assumption) rfl rfl ?_
    refine TO.len rfl rfl rfl rfl rfl Ty.l22 ?_
    refine TO.move rfl rfl rfl rfl ?_
    refine TO.min2 rfl rfl rfl rfl rfl ?_
    obtain ⟨q, hq⟩ : ∃ q : Nat, min (n : Int) aa = q := ⟨(min (n : Int) aa).toNat, by omega⟩
    rw [hq]
    refine TO.sliceTo rfl rfl rfl rfl rfl Ty.l22 Ty.n28 (by omega) (by omega) ?_
    rw [Int.toNat_natCast]
    have ha2 := ha.take (m := q) (by omega)
    obtain ⟨al2, hal2⟩ : ∃ l, l = al.take q := ⟨_, rfl⟩
    rw [← hal2] at ha2
    have hcap2 : ∀ a, a ∈ al2 → -9223372036854775808 ≤ a.cap ∧ a.cap ≤ 9223372036854775807 := fun a h => hcap a (List.mem_of_mem_take (by rw [← hal2]; exact h))
    refine TO.len rfl rfl rfl rfl rfl Ty.l22 ?_
    refine TO.move rfl rfl rfl rfl ?_
    refine TO.done ?_
    refine X.seq_normal ?_
    refine T.block ?_
    refine T.loop5 (fun (k : Nat) (ob : Option Nat) (c1 : Nat) (ol : List Arc) (j : List Value) => k ≤ q ∧ ol.length = k ∧ SomeAt m ol ∧ ol.length ≤ c1 ∧ j.length = (c1 - ol.length) * 3 ∧ (ob = none → c1 = 0)) (fun (k : Nat) (ob : Option Nat) (c1 : Nat) (ol : List Arc) (j : List Value) => [(51, .int .i64 k)]) [9, 10, 51, 52, 53, 54, 55, 56, 57, 58, 59, 60, 61, 62, 63, 64, 65, 66, 67, 68, 69, 70, 71, 72, 73, 74, 75, 76, 77, 78, 79, 80] (fun (k : Nat) (ob : Option Nat) (c1 : Nat) (ol : List Arc) (j : List Value) => [(some b3, .cells #[.int .i64 nN, .int .i64 nS, .int .i64 nT, .slice base n c] 24 (0, 0)), (some b6, .cells #[.int .i64 0, .int .i64 0, .int .i64 0, .slice none 0 0] 24 (0, 0)), (some b7, .cells #[.int .i64 (m : Int), .int .i64 sS, .int .i64 tT, .slice (sb ob) ol.length c1] 24 (0, 0)), (ob, .cells (arr arcC ol j).toArray 28 (0, 0))]) (fun (k : Nat) (ob : Option Nat) (c1 : Nat) (ol : List Arc) (j : List Value) => q - k) 0 none 0 [] [] ⟨by omega, rfl, (fun a h => by cases h), Nat.le_refl _, rfl, fun _ => rfl⟩ (by repeat (first | exact trivial | refine ⟨rfl, ?_⟩)) (by repeat (first | exact Pick.nil | apply Pick.none | refine Pick.cons (by repeat (first | exact Take.head _ _ | apply Take.tail)) ?_)) ?_
    rintro k ob c1 ol j ⟨hk, hol, hso, hlc, hj, hob⟩
    refine T.seq ?_
    refine T.regionL (ll := [0]) rfl ?_
    refine TO.bin rfl rfl rfl rfl rfl rfl ?_
    refine TO.done ?_
    refine X.seq_normal ?_
    refine T.seq ?_
    first | refine T.condP rfl (fun h1 => ?_) (fun h1 => ?_) | refine T.cond rfl (fun h1 => ?_) (fun h1 => ?_)
    ·
      have hkl : k < al2.length := by rw [ha2.len]; omega
      have hcp := hcap2 _ (getD_mem hkl default)
      refine T.skip ?_
      refine X.seq_normal ?_
      refine T.seq ?_
      refine T.block ?_
      refine T.seq ?_
      refine T.regionL (ll := [0, 1, 2, 3]) rfl ?_
      first | refine TO.index0N rfl rfl rfl rfl rfl Ty.l22 Ty.n28 (by omega) ?_ | refine TO.index0 rfl rfl rfl rfl rfl Ty.l22 Ty.n28 (by omega) (by omega) ?_ | refine TO.indexRN rfl rfl rfl rfl rfl Ty.l22 Ty.n28 (RO.nil (by assumption)) (by omega) ?_ | refine TO.indexR rfl rfl rfl rfl rfl Ty.l22 Ty.n28 (RO.nil (by assumption)) (by omega) (by omega) ?_
      first | refine TO.ldSr default rfl rfl rfl rfl Ty.a28 (by assumption) rfl (by first | omega | (simp only [List.length_set, List.length_replicate]; omega)) ?_ | refine TO.ldS (f := arcC) (s := 3) default arcC_len rfl rfl rfl rfl Ty.a28 (by repeat (first | exact List.Mem.head _ | apply List.Mem.tail)) (by first | omega | (simp only [List.length_set, List.length_replicate]; omega)) ?_
      refine TO.allocA rfl rfl rfl Ty.z28 ?_; intro b9
      refine TO.storeA rfl rfl rfl rfl (by repeat (first | exact Take.head _ _ | apply Take.tail)) Ty.n28 rfl rfl rfl ?_
      refine TO.done ?_
      refine X.seq_normal ?_
      refine T.seq ?_
      refine T.regionL (ll := [0, 1, 2]) rfl ?_
      first | refine TO.fieldAddr0 rfl rfl rfl rfl Ty.f28_2 ?_ | refine TO.fieldAddr rfl rfl rfl rfl Ty.f28_2 ?_
      first | refine TO.load1 rfl rfl rfl rfl Ty.s2 (by repeat (first | exact List.Mem.head _ | apply List.Mem.tail)) rfl ?_ | refine TO.loadH rfl rfl rfl rfl Ty.s2 (by assumption) rfl rfl ?_
      refine TO.assign rfl rfl rfl rfl ?_
      refine TO.done ?_
      refine X.seq_normal ?_
      refine T.meet1 (fun (x : Int) => 0 ≤ x) (fun (x : Int) => [(10, .int .i64 x)]) [10, 57, 58, 59, 60, 61] (fun (x : Int) => [(some b3, .cells #[.int .i64 nN, .int .i64 nS, .int .i64 nT, .slice base n c] 24 (0, 0)), (some b6, .cells #[.int .i64 0, .int .i64 0, .int .i64 0, .slice none 0 0] 24 (0, 0)), (some b7, .cells #[.int .i64 (m : Int), .int .i64 sS, .int .i64 tT, .slice (sb ob) ol.length c1] 24 (0, 0)), (ob, .cells (arr arcC ol j).toArray 28 (0, 0)), (some b9, .cells (arcC (al2.getD k default)).toArray 28 (0, 0))]) ?_ ?_
      ·
        refine T.seq ?_
        refine T.regionL (ll := [0, 1]) rfl ?_
        refine TO.move rfl rfl rfl rfl ?_
        refine TO.bin rfl rfl rfl rfl rfl rfl ?_
        refine TO.done ?_
        refine X.seq_normal ?_
        first | refine T.condP rfl (fun h2 => ?_) (fun h2 => ?_) | refine T.cond rfl (fun h2 => ?_) (fun h2 => ?_)
        ·
          refine T.regionL (ll := [0, 1, 2, 3]) rfl ?_
          refine TO.move rfl rfl rfl rfl ?_
          refine TO.add rfl rfl rfl rfl rfl (by omega) (by omega) ?_
          refine TO.negIn rfl rfl rfl rfl (by omega) (by omega) ?_
          refine TO.assign rfl rfl rfl rfl ?_
          refine TO.done ?_
          refine X.met1 _ ?_ (by repeat (first | exact trivial | refine ⟨rfl, ?_⟩)) (by repeat (first | exact trivial | refine ⟨rfl, ?_⟩)) (by repeat (first | exact Pick.nil | apply Pick.none | refine Pick.cons (by repeat (first | exact Take.head _ _ | apply Take.tail)) ?_))
          omega
        ·
          refine T.skip ?_
          refine X.met1 _ ?_ (by repeat (first | exact trivial | refine ⟨rfl, ?_⟩)) (by repeat (first | exact trivial | refine ⟨rfl, ?_⟩)) (by repeat (first | exact Pick.nil | apply Pick.none | refine Pick.cons (by repeat (first | exact Take.head _ _ | apply Take.tail)) ?_))
          omega
      · rintro x hx
        apply T.drawL [⟨[], false, relV _⟩, ⟨[0], false, relV _⟩, ⟨[], false, relV _⟩, ⟨[2], false, relV _⟩, ⟨[], false, relV _⟩, ⟨[4], false, relV _⟩, ⟨[3, 5], false, relV _⟩, ⟨[], false, relV _⟩, ⟨[7], false, relV _⟩, ⟨[], false, relV _⟩, ⟨[9], false, relV _⟩, ⟨[8, 10], false, relV _⟩, ⟨[], false, relV _⟩, ⟨[12], false, relV _⟩, ⟨[6, 11, 13], false, relV _⟩, ⟨[14], false, fun _ v e => ∃ b, v = .slice (some ⟨b, 0, none⟩) 1 1 ∧ e = [(some b, .cells (arr arcC [⟨among (al2.getD k default).fr m, among (al2.getD k default).to m, x.tmod 1125899906842624⟩] []).toArray 28 (0, 0))]⟩] [62, 63, 64, 65, 66, 67, 68, 69, 70, 71, 72, 73, 74, 75, 76, 77] 16 (HRk [[]]) [[]] [] [(some b3, .cells #[.int .i64 nN, .int .i64 nS, .int .i64 nT, .slice base n c] 24 (0, 0)), (some b6, .cells #[.int .i64 0, .int .i64 0, .int .i64 0, .slice none 0 0] 24 (0, 0)), (some b7, .cells #[.int .i64 (m : Int), .int .i64 sS, .int .i64 tT, .slice (sb ob) ol.length c1] 24 (0, 0)), (ob, .cells (arr arcC ol j).toArray 28 (0, 0)), (some b9, .cells (arcC (al2.getD k default)).toArray 28 (0, 0))]
        · exact mixed
        · exact rfl
        · kernel_rfl
        · kernel_rfl
        · kernel_rfl
        · exact rfl
        · exact rfl
        · exact rfl
        · exact rfl
        · exact (by repeat (first | exact Pick.refl _ | exact Pick.nil | apply Pick.none | refine Pick.cons (by repeat (first | exact Take.head _ _ | apply Take.tail)) ?_))
        · refine ⟨?_, ?_, ?_, ?_, ?_, ?_, ?_, ?_, ?_, ?_, ?_, ?_, ?_, ?_, ?_, ?_, trivial⟩
          · rintro vs es Es Hx -
            refine TO.reenv (D := []) rfl ?_
            first | refine TO.fieldAddr0 rfl rfl rfl rfl Ty.f24_3 ?_ | refine TO.fieldAddr rfl rfl rfl rfl Ty.f24_3 ?_
            refine TO.done ?_; exact X.obQ rfl ⟨rfl, rfl⟩ (Pick.refl _) rfl
          · rintro vs es Es Hx ⟨⟨h0, -⟩, -⟩
            refine TO.reenv (D := [(62, vs 0)]) rfl ?_; rw [h0]
            first | refine TO.load1 rfl rfl rfl rfl Ty.s22 (by repeat (first | exact List.Mem.head _ | apply List.Mem.tail)) rfl ?_ | refine TO.loadH rfl rfl rfl rfl Ty.s22 (by assumption) rfl rfl ?_
            refine TO.done ?_; exact X.obQ rfl ⟨rfl, rfl⟩ (Pick.refl _) (by show [(62, vs 0)] = _; rw [h0])
          · rintro vs es Es Hx -
            refine TO.reenv (D := []) rfl ?_
            first | refine TO.fieldAddr0 rfl rfl rfl rfl Ty.f28_0 ?_ | refine TO.fieldAddr rfl rfl rfl rfl Ty.f28_0 ?_
            refine TO.done ?_; exact X.obQ rfl ⟨rfl, rfl⟩ (Pick.refl _) rfl
          · rintro vs es Es Hx ⟨⟨h2, -⟩, -⟩
            refine TO.reenv (D := [(64, vs 2)]) rfl ?_; rw [h2]
            first | refine TO.load1 rfl rfl rfl rfl Ty.s3 (by repeat (first | exact List.Mem.head _ | apply List.Mem.tail)) rfl ?_ | refine TO.loadH rfl rfl rfl rfl Ty.s3 (by assumption) rfl rfl ?_
            refine TO.done ?_; exact X.obQ rfl ⟨rfl, rfl⟩ (Pick.refl _) (by show [(64, vs 2)] = _; rw [h2])
          · rintro vs es Es Hx -
            refine TO.reenv (D := []) rfl ?_
            first | refine TO.fieldAddr0 rfl rfl rfl rfl Ty.f24_0 ?_ | refine TO.fieldAddr rfl rfl rfl rfl Ty.f24_0 ?_
            refine TO.done ?_; exact X.obQ rfl ⟨rfl, rfl⟩ (Pick.refl _) rfl
          · rintro vs es Es Hx ⟨⟨h4, -⟩, -⟩
            refine TO.reenv (D := [(66, vs 4)]) rfl ?_; rw [h4]
            first | refine TO.load1 rfl rfl rfl rfl Ty.s3 (by repeat (first | exact List.Mem.head _ | apply List.Mem.tail)) rfl ?_ | refine TO.loadH rfl rfl rfl rfl Ty.s3 (by assumption) rfl rfl ?_
            refine TO.done ?_; exact X.obQ rfl ⟨rfl, rfl⟩ (Pick.refl _) (by show [(66, vs 4)] = _; rw [h4])
          · rintro vs es Es Hx ⟨⟨h3, -⟩, ⟨h5, -⟩, -⟩
            refine TO.reenv (D := [(65, vs 3), (67, vs 5)]) rfl ?_; rw [h3, h5]
            refine TO.call rfl rfl rfl TySome.c51 rfl (fun wc hwc => c_among _ _ wc (by omega) (by omega)) ?_
            rintro _ _ ⟨rfl, rfl⟩
            refine TO.done ?_; exact X.obQ rfl ⟨rfl, rfl⟩ (Pick.refl _) (by show [(65, vs 3), (67, vs 5)] = _; rw [h3, h5])
          · rintro vs es Es Hx -
            refine TO.reenv (D := []) rfl ?_
            first | refine TO.fieldAddr0 rfl rfl rfl rfl Ty.f28_1 ?_ | refine TO.fieldAddr rfl rfl rfl rfl Ty.f28_1 ?_
            refine TO.done ?_; exact X.obQ rfl ⟨rfl, rfl⟩ (Pick.refl _) rfl
          · rintro vs es Es Hx ⟨⟨h7, -⟩, -⟩
            refine TO.reenv (D := [(69, vs 7)]) rfl ?_; rw [h7]
            first | refine TO.load1 rfl rfl rfl rfl Ty.s3 (by repeat (first | exact List.Mem.head _ | apply List.Mem.tail)) rfl ?_ | refine TO.loadH rfl rfl rfl rfl Ty.s3 (by assumption) rfl rfl ?_
            refine TO.done ?_; exact X.obQ rfl ⟨rfl, rfl⟩ (Pick.refl _) (by show [(69, vs 7)] = _; rw [h7])
          · rintro vs es Es Hx -
            refine TO.reenv (D := []) rfl ?_
            first | refine TO.fieldAddr0 rfl rfl rfl rfl Ty.f24_0 ?_ | refine TO.fieldAddr rfl rfl rfl rfl Ty.f24_0 ?_
            refine TO.done ?_; exact X.obQ rfl ⟨rfl, rfl⟩ (Pick.refl _) rfl
          · rintro vs es Es Hx ⟨⟨h9, -⟩, -⟩
            refine TO.reenv (D := [(71, vs 9)]) rfl ?_; rw [h9]
            first | refine TO.load1 rfl rfl rfl rfl Ty.s3 (by repeat (first | exact List.Mem.head _ | apply List.Mem.tail)) rfl ?_ | refine TO.loadH rfl rfl rfl rfl Ty.s3 (by assumption) rfl rfl ?_
            refine TO.done ?_; exact X.obQ rfl ⟨rfl, rfl⟩ (Pick.refl _) (by show [(71, vs 9)] = _; rw [h9])
          · rintro vs es Es Hx ⟨⟨h8, -⟩, ⟨h10, -⟩, -⟩
            refine TO.reenv (D := [(70, vs 8), (72, vs 10)]) rfl ?_; rw [h8, h10]
            refine TO.call rfl rfl rfl TySome.c51 rfl (fun wc hwc => c_among _ _ wc (by omega) (by omega)) ?_
            rintro _ _ ⟨rfl, rfl⟩
            refine TO.done ?_; exact X.obQ rfl ⟨rfl, rfl⟩ (Pick.refl _) (by show [(70, vs 8), (72, vs 10)] = _; rw [h8, h10])
          · rintro vs es Es Hx -
            refine TO.reenv (D := []) rfl ?_
            refine TO.move rfl rfl rfl rfl ?_
            refine TO.done ?_; exact X.obQ rfl ⟨rfl, rfl⟩ (Pick.refl _) rfl
          · rintro vs es Es Hx ⟨⟨h12, -⟩, -⟩
            refine TO.reenv (D := [(74, vs 12)]) rfl ?_; rw [h12]
            refine TO.rem rfl rfl rfl rfl rfl (by omega) ?_
            refine TO.done ?_; exact X.obQ rfl ⟨rfl, rfl⟩ (Pick.refl _) (by show [(74, vs 12)] = _; rw [h12])
          · rintro vs es Es Hx ⟨⟨h6, -⟩, ⟨h11, -⟩, ⟨h13, -⟩, -⟩
            refine TO.reenv (D := [(68, vs 6), (73, vs 11), (75, vs 13)]) rfl ?_; rw [h6, h11, h13]
            refine TO.buildS (t := 28) [.int .i64 0, .int .i64 0, .int .i64 0] [0, 1, 2] rfl rfl rfl rfl (by simp only [setAll, setCells, Value.cells, List.toList_toArray, List.getD_cons_zero, List.getD_cons_succ, List.set_cons_zero, List.set_cons_succ]; rfl) (by kernel_rfl) ?_
            refine TO.done ?_; exact X.obQ rfl ⟨rfl, rfl⟩ (Pick.refl _) (by show [(68, vs 6), (73, vs 11), (75, vs 13)] = _; rw [h6, h11, h13])
          · rintro vs es Es Hx ⟨⟨h14, -⟩, -⟩
            refine TO.reenv (D := [(76, vs 14)]) rfl ?_; rw [h14]
            refine TO.buildSliceS [.int .i64 0, .int .i64 0, .int .i64 0] [0] rfl rfl rfl rfl Ty.l22 Ty.n28 Ty.z28 rfl rfl (by simp only [setAll, setCells, Value.cells, List.toList_toArray, List.getD_cons_zero, List.getD_cons_succ, List.set_cons_zero, List.set_cons_succ]; rfl) (by kernel_rfl) ?_; intro b77
            refine TO.done ?_; exact X.obQ rfl ⟨b77, rfl, rfl⟩ (by repeat (first | exact Pick.refl _ | exact Pick.nil | apply Pick.none | refine Pick.cons (by repeat (first | exact Take.head _ _ | apply Take.tail)) ?_)) (by show [(76, vs 14)] = _; rw [h14])
        · rintro vs es hb ⟨⟨h0, e0⟩, ⟨h1, e1⟩, ⟨h2, e2⟩, ⟨h3, e3⟩, ⟨h4, e4⟩, ⟨h5, e5⟩, ⟨h6, e6⟩, ⟨h7, e7⟩, ⟨h8, e8⟩, ⟨h9, e9⟩, ⟨h10, e10⟩, ⟨h11, e11⟩, ⟨h12, e12⟩, ⟨h13, e13⟩, ⟨h14, e14⟩, ⟨b77, h15, e15⟩, -⟩ hHR
          obtain rfl : hb = [] := hHR
          refine TO.reenv (D := [(62, vs 0), (63, vs 1), (64, vs 2), (65, vs 3), (66, vs 4), (67, vs 5), (68, vs 6), (69, vs 7), (70, vs 8), (71, vs 9), (72, vs 10), (73, vs 11), (74, vs 12), (75, vs 13), (76, vs 14), (77, vs 15)]) rfl ?_
          refine TO.reheap (H := [(some b3, .cells #[.int .i64 nN, .int .i64 nS, .int .i64 nT, .slice base n c] 24 (0, 0)), (some b6, .cells #[.int .i64 0, .int .i64 0, .int .i64 0, .slice none 0 0] 24 (0, 0)), (some b7, .cells #[.int .i64 (m : Int), .int .i64 sS, .int .i64 tT, .slice (sb ob) ol.length c1] 24 (0, 0)), (ob, .cells (arr arcC ol j).toArray 28 (0, 0)), (some b9, .cells (arcC (al2.getD k default)).toArray 28 (0, 0)), (some b77, .cells (arr arcC [⟨among (al2.getD k default).fr m, among (al2.getD k default).to m, x.tmod 1125899906842624⟩] []).toArray 28 (0, 0))]) (by show _ ++ (_ ++ (es 0 ++ (es 1 ++ (es 2 ++ (es 3 ++ (es 4 ++ (es 5 ++ (es 6 ++ (es 7 ++ (es 8 ++ (es 9 ++ (es 10 ++ (es 11 ++ (es 12 ++ (es 13 ++ (es 14 ++ (es 15 ++ ([])))))))))))))))))) = _; rw [e0, e1, e2, e3, e4, e5, e6, e7, e8, e9, e10, e11, e12, e13, e14, e15]; rfl) ?_
          rw [h0, h1, h2, h3, h4, h5, h6, h7, h8, h9, h10, h11, h12, h13, h14, h15]
          clear  h0 e0 h1 e1 h2 e2 h3 e3 h4 e4 h5 e5 h6 e6 h7 e7 h8 e8 h9 e9 h10 e10 h11 e11 h12 e12 h13 e13 h14 e14 h15 e15
          refine TO.append (f := arcC) (s := 3) (xs := ol) (ob := ob) (j := j) (ys := [⟨among (al2.getD k default).fr m, among (al2.getD k default).to m, x.tmod 1125899906842624⟩]) (fun _ => rfl) arcC_one elA rfl rfl rfl rfl rfl (by repeat (first | exact Take.head _ _ | apply Take.tail)) rfl hlc hj hob (fun wc hwc => hwc.roS (by intro _; rfl) (by repeat (first | exact List.Mem.head _ | apply List.Mem.tail)) rfl) (by omega) (by omega) ?_
          intro ob1 c2 j1 hc1 hj1 ho1
          rw [show ol.length + 1 = (ol ++ [(⟨among (al2.getD k default).fr m, among (al2.getD k default).to m, x.tmod 1125899906842624⟩ : Arc)]).length by simp]
          first | refine TO.fieldAddr0 rfl rfl rfl rfl Ty.f24_3 ?_ | refine TO.fieldAddr rfl rfl rfl rfl Ty.f24_3 ?_
          refine TO.store1n rfl rfl rfl rfl (by repeat (first | exact Take.head _ _ | apply Take.tail)) TySome.n22 rfl rfl (by simp only [List.set_cons_zero, List.set_cons_succ]; rfl) ?_
          refine TO.done ?_
          refine X.block_normal ?_
          refine X.seq_normal ?_
          refine T.regionL (ll := [0, 1]) rfl ?_
          refine TO.add rfl rfl rfl rfl rfl (by omega) (by omega) ?_
          refine TO.move rfl rfl rfl rfl ?_
          refine TO.done ?_
          refine X.again5 (k + 1) ob1 c2 (ol ++ [⟨among (al2.getD k default).fr m, among (al2.getD k default).to m, x.tmod 1125899906842624⟩]) j1 ⟨by omega, by simp [hol], ?_, by simpa using hc1, by simpa using hj1, ho1⟩ (by omega) (by repeat (first | exact trivial | refine ⟨rfl, ?_⟩)) (by repeat (first | exact trivial | refine ⟨rfl, ?_⟩)) (by repeat (first | exact Pick.nil | apply Pick.none | refine Pick.cons (by repeat (first | exact Take.head _ _ | apply Take.tail)) ?_))
          exact hso.put (among_range (by omega)) (among_range (by omega)) (tmod_range hx (by omega))
    ·
      refine T.exit ?_
      refine X.then_exit ?_
      refine X.then_exit ?_
      refine X.block_here ?_
      refine X.seq_normal ?_
      refine T.seq ?_
      refine T.regionL (ll := [0, 1]) rfl ?_
      first | refine TO.loadA rfl rfl rfl rfl Ty.a24 (by repeat (first | exact List.Mem.head _ | apply List.Mem.tail)) rfl ?_ | refine TO.loadHA rfl rfl rfl rfl Ty.a24 (by assumption) rfl rfl ?_
      refine TO.storeA rfl rfl rfl rfl (by repeat (first | exact Take.head _ _ | apply Take.tail)) TySome.n24 rfl rfl rfl ?_
      refine TO.done ?_
      refine X.seq_normal ?_
      refine T.ret ?_
      exact X.ret1 rfl rfl rfl rfl (Res.cellA rfl Ty.a24 (by repeat (first | exact List.Mem.head _ | apply List.Mem.tail)) rfl) (N := [(ob, .cells (arr arcC ol j).toArray 28 (0, 0))]) (by repeat (first | exact Pick.nil | apply Pick.none | refine Pick.cons (by repeat (first | exact Take.head _ _ | apply Take.tail)) ?_)) ⟨m, sS, tT, ob, c1, ol, j, rfl, rfl, some_check (by omega) (by omega) hS ⟨hT0, hT1⟩ hTS hso (by omega), hso, by omega, by omega, hlc, hj, hob⟩
end Go.Proofs.Ytcdbemdogkmahaa.Acq
