/- Contracts: low.Within. -/
import Derived.Test.YtcdbemdogkmahaaSome
namespace Go.Proofs.Ytcdbemdogkmahaa.Acq
open Go Go.Acq Go.RowKit Go.Proofs
set_option maxHeartbeats 1000000 in
/-- acequia/acequialow.Within -/
theorem c_within (nN nS nT : Int) (base : Option Addr) (n c : Nat) (al : List Arc) (lb : Option Addr) (ln lc : Nat) (xs : List Int) (w : World) (ha : RO w arcC 3 base n al) (hx : RO w (intC .i64) 1 lb ln xs) (hn : n ≤ 16384) (hln : ln ≤ 9223372036854775807) (hcap : ∀ i, i < n → 0 ≤ (al.getD i default).cap) (hxs : ∀ x, x ∈ xs → -9223372036854775808 ≤ x ∧ x ≤ 9223372036854775807) : Fnc Try.prog 18 #[.agg #[.int .i64 nN, .int .i64 nS, .int .i64 nT, .slice base n c], .slice lb ln lc] w [] (fun r h => ∃ b fl, r = .slice (some ⟨b, 0, none⟩) n n ∧ h = [(some b, .cells (arr (intC .i64) fl []).toArray 2 (0, 0))] ∧ WithinAt al n n fl) := by
  refine Fnc.enter (vs := [.agg #[.int .i64 nN, .int .i64 nS, .int .i64 nT, .slice base n c], .slice lb ln lc]) Try.func18 rfl rfl (Inv.refl w) ?_
  refine T.seq ?_
  refine T.regionL (ll := [0, 1]) rfl ?_
  refine TO.boxA rfl rfl rfl rfl ?_; intro b2
  refine TO.assign rfl rfl rfl rfl ?_
  refine TO.done ?_
  refine X.seq_normal ?_
  refine T.seq ?_
  refine T.regionL (ll := [0, 1, 2, 3, 4]) rfl ?_
  first | refine TO.fieldAddr0 rfl rfl rfl rfl Ty.f24_3 ?_ | refine TO.fieldAddr rfl rfl rfl rfl Ty.f24_3 ?_
  first | refine TO.load1 rfl rfl rfl rfl Ty.s22 (by repeat (first | exact List.Mem.head _ | apply List.Mem.tail)) rfl ?_ | refine TO.loadH rfl rfl rfl rfl Ty.s22 (by assumption) rfl rfl ?_
  refine TO.len rfl rfl rfl rfl rfl Ty.l22 ?_
  refine TO.makeI rfl rfl rfl rfl rfl Ty.l25 Ty.n2 Ty.z2 Ty.b2 (by omega) (by omega) (by omega) ?_; intro b12
  refine TO.assign rfl rfl rfl rfl ?_
  refine TO.done ?_
  refine X.seq_normal ?_
  refine T.seq ?_
  refine T.seq ?_
  refine T.regionL (ll := [0, 1, 2, 3]) rfl ?_
  first | refine TO.fieldAddr0 rfl rfl rfl rfl Ty.f24_3 ?_ | refine TO.fieldAddr rfl rfl rfl rfl Ty.f24_3 ?_
  first | refine TO.load1 rfl rfl rfl rfl Ty.s22 (by repeat (first | exact List.Mem.head _ | apply List.Mem.tail)) rfl ?_ | refine TO.loadH rfl rfl rfl rfl Ty.s22 (by assumption) rfl rfl ?_
  refine TO.len rfl rfl rfl rfl rfl Ty.l22 ?_
  refine TO.move rfl rfl rfl rfl ?_
  refine TO.done ?_
  refine X.seq_normal ?_
  refine T.block ?_
  refine T.loop2 (fun (k : Nat) (fl : List Int) => k ≤ n ∧ WithinAt al n k fl) (fun (k : Nat) (fl : List Int) => [(16, .int .i64 k)]) [6, 7, 8, 16, 17, 18, 19, 20, 21, 22, 23, 24, 25, 26, 27, 28, 29, 30, 31, 32, 33, 34, 35, 36, 37, 38, 39, 40, 41, 42, 43, 44, 45, 46, 47, 48, 49, 50, 51, 52, 53, 54, 55, 56] (fun (k : Nat) (fl : List Int) => [(some b2, .cells #[.int .i64 nN, .int .i64 nS, .int .i64 nT, .slice base n c] 24 (0, 0)), (some b12, .cells (arr (intC .i64) fl []).toArray 2 (0, 0))]) (fun (k : Nat) (fl : List Int) => n - k) 0 (List.replicate n 0) ⟨by omega, WithinAt.start al n⟩ (by repeat (first | exact trivial | refine ⟨rfl, ?_⟩)) (by repeat (first | exact Pick.nil | apply Pick.none | refine Pick.cons (by repeat (first | exact Take.head _ _ | apply Take.tail)) ?_)) ?_
  rintro k fl ⟨hk, hw⟩
  refine T.seq ?_
  refine T.regionL (ll := [0]) rfl ?_
  refine TO.bin rfl rfl rfl rfl rfl rfl ?_
  refine TO.done ?_
  refine X.seq_normal ?_
  refine T.seq ?_
  first | refine T.condP rfl (fun h0 => ?_) (fun h0 => ?_) | refine T.cond rfl (fun h0 => ?_) (fun h0 => ?_)
  ·
    have hkl : k < al.length := by rw [ha.len]; omega
    have hck := hcap k (by omega)
    have hfl := hw.1
    refine T.skip ?_
    refine X.seq_normal ?_
    refine T.seq ?_
    refine T.block ?_
    refine T.seq ?_
    refine T.regionL (ll := [0, 1, 2, 3, 4, 5]) rfl ?_
    refine TO.move rfl rfl rfl rfl ?_
    first | refine TO.index0N rfl rfl rfl rfl rfl Ty.l22 Ty.n28 (by omega) ?_ | refine TO.index0 rfl rfl rfl rfl rfl Ty.l22 Ty.n28 (by omega) (by omega) ?_ | refine TO.indexRN rfl rfl rfl rfl rfl Ty.l22 Ty.n28 (RO.nil (by assumption)) (by omega) ?_ | refine TO.indexR rfl rfl rfl rfl rfl Ty.l22 Ty.n28 (RO.nil (by assumption)) (by omega) (by omega) ?_
    first | refine TO.ldSr default rfl rfl rfl rfl Ty.a28 (by assumption) rfl (by first | omega | (simp only [List.length_set, List.length_replicate]; omega)) ?_ | refine TO.ldS (f := arcC) (s := 3) default arcC_len rfl rfl rfl rfl Ty.a28 (by repeat (first | exact List.Mem.head _ | apply List.Mem.tail)) (by first | omega | (simp only [List.length_set, List.length_replicate]; omega)) ?_
    refine TO.allocA rfl rfl rfl Ty.z28 ?_; intro b7
    refine TO.assign rfl rfl rfl rfl ?_
    refine TO.storeA rfl rfl rfl rfl (by repeat (first | exact Take.head _ _ | apply Take.tail)) Ty.n28 rfl rfl rfl ?_
    refine TO.done ?_
    refine X.seq_normal ?_
    refine T.seq ?_
    refine T.seq ?_
    refine T.regionL (ll := [0, 1, 2, 3, 4, 5, 6, 7, 8, 9, 10]) rfl ?_
    refine TO.move rfl rfl rfl rfl ?_
    refine TO.move rfl rfl rfl rfl ?_
    refine TO.len rfl rfl rfl rfl rfl Ty.l25 ?_
    refine TO.bin rfl rfl rfl rfl rfl rfl ?_
    refine TO.move rfl rfl rfl rfl ?_
    first | refine TO.splitP (t := 25) rfl (fun g5_4 => ?_) (fun g5_4 => ?_) | refine TO.splitB (t := 25) rfl (fun g5_4 => ?_) (fun g5_4 => ?_)
    ·
      refine TO.shut rfl rfl rfl rfl ?_
      refine TO.shut rfl rfl rfl rfl ?_
      refine TO.shut rfl rfl rfl rfl ?_
      refine TO.shut rfl rfl rfl rfl ?_
      refine TO.shut rfl rfl rfl rfl ?_
      first | refine TO.pickT rfl rfl rfl rfl rfl ?_ | refine TO.pickF rfl rfl rfl rfl rfl ?_
      refine TO.done ?_
      refine X.seq_normal ?_
      refine T.condT rfl rfl ?_
      refine T.exit ?_
      refine X.then_exit ?_
      refine X.block_here ?_
      refine X.seq_normal ?_
      refine T.regionL (ll := [0, 1]) rfl ?_
      refine TO.add rfl rfl rfl rfl rfl (by omega) (by omega) ?_
      refine TO.move rfl rfl rfl rfl ?_
      refine TO.done ?_
      refine X.again2 (k + 1) _ ⟨by omega, ?_⟩ (by omega) (by repeat (first | exact trivial | refine ⟨rfl, ?_⟩)) (by repeat (first | exact trivial | refine ⟨rfl, ?_⟩)) (by repeat (first | exact Pick.nil | apply Pick.none | refine Pick.cons (by repeat (first | exact Take.head _ _ | apply Take.tail)) ?_))
      first | exact hw.skip hck | exact hw.put (by omega) (by omega) (by omega) (by simpa using h1)
    ·
      first | refine TO.fieldAddr0 rfl rfl rfl rfl Ty.f28_0 ?_ | refine TO.fieldAddr rfl rfl rfl rfl Ty.f28_0 ?_
      first | refine TO.load1 rfl rfl rfl rfl Ty.s3 (by repeat (first | exact List.Mem.head _ | apply List.Mem.tail)) rfl ?_ | refine TO.loadH rfl rfl rfl rfl Ty.s3 (by assumption) rfl rfl ?_
      first | refine TO.fieldAddr0 rfl rfl rfl rfl Ty.f28_1 ?_ | refine TO.fieldAddr rfl rfl rfl rfl Ty.f28_1 ?_
      first | refine TO.load1 rfl rfl rfl rfl Ty.s3 (by repeat (first | exact List.Mem.head _ | apply List.Mem.tail)) rfl ?_ | refine TO.loadH rfl rfl rfl rfl Ty.s3 (by assumption) rfl rfl ?_
      refine TO.bin rfl rfl rfl rfl rfl rfl ?_
      first | refine TO.pickT rfl rfl rfl rfl rfl ?_ | refine TO.pickF rfl rfl rfl rfl rfl ?_
      refine TO.done ?_
      refine X.seq_normal ?_
      first | refine T.condP rfl (fun h1 => ?_) (fun h1 => ?_) | refine T.cond rfl (fun h1 => ?_) (fun h1 => ?_)
      ·
        refine T.exit ?_
        refine X.then_exit ?_
        refine X.block_here ?_
        refine X.seq_normal ?_
        refine T.regionL (ll := [0, 1]) rfl ?_
        refine TO.add rfl rfl rfl rfl rfl (by omega) (by omega) ?_
        refine TO.move rfl rfl rfl rfl ?_
        refine TO.done ?_
        refine X.again2 (k + 1) _ ⟨by omega, ?_⟩ (by omega) (by repeat (first | exact trivial | refine ⟨rfl, ?_⟩)) (by repeat (first | exact trivial | refine ⟨rfl, ?_⟩)) (by repeat (first | exact Pick.nil | apply Pick.none | refine Pick.cons (by repeat (first | exact Take.head _ _ | apply Take.tail)) ?_))
        first | exact hw.skip hck | exact hw.put (by omega) (by omega) (by omega) (by simpa using h1)
      ·
        have hxk := hxs _ (getD_mem (show k < xs.length by rw [hx.len]; omega) 0)
        refine T.skip ?_
        refine X.seq_normal ?_
        refine T.seq ?_
        refine T.regionL (ll := [0, 1, 2, 3, 4]) rfl ?_
        refine TO.move rfl rfl rfl rfl ?_
        refine TO.move rfl rfl rfl rfl ?_
        first | refine TO.index1N rfl rfl rfl rfl rfl Ty.l25 Ty.n2 (by omega) ?_ | refine TO.index1 rfl rfl rfl rfl rfl Ty.l25 Ty.n2 (by omega) (by omega) ?_ | refine TO.indexRN rfl rfl rfl rfl rfl Ty.l25 Ty.n2 (RO.nil (by assumption)) (by omega) ?_ | refine TO.indexR rfl rfl rfl rfl rfl Ty.l25 Ty.n2 (RO.nil (by assumption)) (by omega) (by omega) ?_
        first | refine TO.ldIr rfl rfl rfl rfl Ty.s2 (by assumption) rfl (by first | omega | (simp only [List.length_set, List.length_replicate]; omega)) ?_ | refine TO.ldI rfl rfl rfl rfl Ty.s2 (by repeat (first | exact List.Mem.head _ | apply List.Mem.tail)) (by first | omega | (simp only [List.length_set, List.length_replicate]; omega)) ?_
        refine TO.assign rfl rfl rfl rfl ?_
        refine TO.done ?_
        refine X.seq_normal ?_
        refine T.meet1 (fun (x : Int) => 0 ≤ x) (fun (x : Int) => [(8, .int .i64 x)]) [8, 36, 37, 38, 39, 40] (fun (x : Int) => [(some b2, .cells #[.int .i64 nN, .int .i64 nS, .int .i64 nT, .slice base n c] 24 (0, 0)), (some b12, .cells (arr (intC .i64) fl []).toArray 2 (0, 0)), (some b7, .cells (arcC (al.getD k default)).toArray 28 (0, 0))]) ?_ ?_
        ·
          refine T.seq ?_
          refine T.regionL (ll := [0, 1]) rfl ?_
          refine TO.move rfl rfl rfl rfl ?_
          refine TO.bin rfl rfl rfl rfl rfl rfl ?_
          refine TO.done ?_
          refine X.seq_normal ?_
          first | refine T.condP rfl (fun h2 => ?_) (fun h2 => ?_) | refine T.cond rfl (fun h2 => ?_) (fun h2 => ?_)
          ·
            refine T.regionL (ll := [0, 1, 2, 3]) rfl ?_
            refine TO.move rfl rfl rfl rfl ?_
            refine TO.add rfl rfl rfl rfl rfl (by omega) (by omega) ?_
            refine TO.negIn rfl rfl rfl rfl (by omega) (by omega) ?_
            refine TO.assign rfl rfl rfl rfl ?_
            refine TO.done ?_
            refine X.met1 _ ?_ (by repeat (first | exact trivial | refine ⟨rfl, ?_⟩)) (by repeat (first | exact trivial | refine ⟨rfl, ?_⟩)) (by repeat (first | exact Pick.nil | apply Pick.none | refine Pick.cons (by repeat (first | exact Take.head _ _ | apply Take.tail)) ?_))
            omega
          ·
            refine T.skip ?_
            refine X.met1 _ ?_ (by repeat (first | exact trivial | refine ⟨rfl, ?_⟩)) (by repeat (first | exact trivial | refine ⟨rfl, ?_⟩)) (by repeat (first | exact Pick.nil | apply Pick.none | refine Pick.cons (by repeat (first | exact Take.head _ _ | apply Take.tail)) ?_))
            omega
        · rintro x hx0
          refine T.meet1 (fun (y : Int) => 0 ≤ y) (fun (y : Int) => [(8, .int .i64 y)]) [8, 41, 42, 43, 44, 45, 46, 47, 48] (fun (y : Int) => [(some b2, .cells #[.int .i64 nN, .int .i64 nS, .int .i64 nT, .slice base n c] 24 (0, 0)), (some b12, .cells (arr (intC .i64) fl []).toArray 2 (0, 0)), (some b7, .cells (arcC (al.getD k default)).toArray 28 (0, 0))]) ?_ ?_
          ·
            refine T.seq ?_
            refine T.regionL (ll := [0, 1, 2]) rfl ?_
            first | refine TO.fieldAddr0 rfl rfl rfl rfl Ty.f28_2 ?_ | refine TO.fieldAddr rfl rfl rfl rfl Ty.f28_2 ?_
            first | refine TO.load1 rfl rfl rfl rfl Ty.s2 (by repeat (first | exact List.Mem.head _ | apply List.Mem.tail)) rfl ?_ | refine TO.loadH rfl rfl rfl rfl Ty.s2 (by assumption) rfl rfl ?_
            refine TO.bin rfl rfl rfl rfl rfl rfl ?_
            refine TO.done ?_
            refine X.seq_normal ?_
            first | refine T.condP rfl (fun h3 => ?_) (fun h3 => ?_) | refine T.cond rfl (fun h3 => ?_) (fun h3 => ?_)
            ·
              refine T.regionL (ll := [0, 1, 2, 3, 4, 5]) rfl ?_
              refine TO.move rfl rfl rfl rfl ?_
              first | refine TO.fieldAddr0 rfl rfl rfl rfl Ty.f28_2 ?_ | refine TO.fieldAddr rfl rfl rfl rfl Ty.f28_2 ?_
              first | refine TO.load1 rfl rfl rfl rfl Ty.s2 (by repeat (first | exact List.Mem.head _ | apply List.Mem.tail)) rfl ?_ | refine TO.loadH rfl rfl rfl rfl Ty.s2 (by assumption) rfl rfl ?_
              refine TO.add rfl rfl rfl rfl rfl (by omega) (by omega) ?_
              refine TO.rem rfl rfl rfl rfl rfl (by omega) ?_
              refine TO.assign rfl rfl rfl rfl ?_
              refine TO.done ?_
              refine X.met1 _ ?_ (by repeat (first | exact trivial | refine ⟨rfl, ?_⟩)) (by repeat (first | exact trivial | refine ⟨rfl, ?_⟩)) (by repeat (first | exact Pick.nil | apply Pick.none | refine Pick.cons (by repeat (first | exact Take.head _ _ | apply Take.tail)) ?_))
              first | exact (tmod_range hx0 (by omega)).1 | exact hx0
            ·
              refine T.skip ?_
              refine X.met1 _ ?_ (by repeat (first | exact trivial | refine ⟨rfl, ?_⟩)) (by repeat (first | exact trivial | refine ⟨rfl, ?_⟩)) (by repeat (first | exact Pick.nil | apply Pick.none | refine Pick.cons (by repeat (first | exact Take.head _ _ | apply Take.tail)) ?_))
              first | exact (tmod_range hx0 (by omega)).1 | exact hx0
          · rintro y hy0
            refine T.regionL (ll := [0, 1, 2, 3, 4, 5, 6, 7]) rfl ?_
            refine TO.move rfl rfl rfl rfl ?_
            refine TO.move rfl rfl rfl rfl ?_
            refine TO.move rfl rfl rfl rfl ?_
            first | refine TO.fieldAddr0 rfl rfl rfl rfl Ty.f28_2 ?_ | refine TO.fieldAddr rfl rfl rfl rfl Ty.f28_2 ?_
            first | refine TO.load1 rfl rfl rfl rfl Ty.s2 (by repeat (first | exact List.Mem.head _ | apply List.Mem.tail)) rfl ?_ | refine TO.loadH rfl rfl rfl rfl Ty.s2 (by assumption) rfl rfl ?_
            refine TO.min2 rfl rfl rfl rfl rfl ?_
            first | refine TO.index1N rfl rfl rfl rfl rfl Ty.l25 Ty.n2 (by omega) ?_ | refine TO.index1 rfl rfl rfl rfl rfl Ty.l25 Ty.n2 (by omega) (by omega) ?_ | refine TO.indexRN rfl rfl rfl rfl rfl Ty.l25 Ty.n2 (RO.nil (by assumption)) (by omega) ?_ | refine TO.indexR rfl rfl rfl rfl rfl Ty.l25 Ty.n2 (RO.nil (by assumption)) (by omega) (by omega) ?_
            refine TO.stI rfl rfl rfl rfl (by repeat (first | exact Take.head _ _ | apply Take.tail)) Ty.n2 (by first | omega | (simp only [List.length_set, List.length_replicate]; omega)) ?_
            refine TO.done ?_
            refine X.block_normal ?_
            refine X.seq_normal ?_
            refine T.regionL (ll := [0, 1]) rfl ?_
            refine TO.add rfl rfl rfl rfl rfl (by omega) (by omega) ?_
            refine TO.move rfl rfl rfl rfl ?_
            refine TO.done ?_
            refine X.again2 (k + 1) _ ⟨by omega, ?_⟩ (by omega) (by repeat (first | exact trivial | refine ⟨rfl, ?_⟩)) (by repeat (first | exact trivial | refine ⟨rfl, ?_⟩)) (by repeat (first | exact Pick.nil | apply Pick.none | refine Pick.cons (by repeat (first | exact Take.head _ _ | apply Take.tail)) ?_))
            first | exact hw.skip hck | exact hw.put (by omega) (by omega) (by omega) (by simpa using h1)
  ·
    refine T.exit ?_
    refine X.then_exit ?_
    refine X.then_exit ?_
    refine X.block_here ?_
    refine X.seq_normal ?_
    refine T.seq ?_
    refine T.regionL (ll := [0, 1]) rfl ?_
    refine TO.move rfl rfl rfl rfl ?_
    refine TO.assign rfl rfl rfl rfl ?_
    refine TO.done ?_
    refine X.seq_normal ?_
    refine T.ret ?_
    exact X.ret1 rfl rfl rfl rfl (Res.tmp rfl) (N := [(some b12, .cells (arr (intC .i64) fl []).toArray 2 (0, 0))]) (by repeat (first | exact Pick.nil | apply Pick.none | refine Pick.cons (by repeat (first | exact Take.head _ _ | apply Take.tail)) ?_)) ⟨b12, fl, rfl, rfl, by rw [show n = k by omega] at hw ⊢; exact hw⟩
end Go.Proofs.Ytcdbemdogkmahaa.Acq
