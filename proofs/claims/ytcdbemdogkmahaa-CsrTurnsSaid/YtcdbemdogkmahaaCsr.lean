/- Contracts: package csr. -/
import Derived.Test.YtcdbemdogkmahaaLists
import Derived.Test.YtcdbemdogkmahaaAcqOwn
import Derived.Test.YtcdbemdogkmahaaAcqCsrLaw
namespace Go.Proofs.Ytcdbemdogkmahaa.Acq
open Go Go.Acq Go.RowKit Go.Proofs
set_option maxHeartbeats 1000000 in
/-- acequia/csr.Make$1 -/
theorem c_put (nN nS nT : Int) (fst : Value) (b5 b6 bn bh br bc ba bb nn cn n ch cr cc ca cb : Nat) (nx hs cs aa : List Int) (bs : List Bool) (fr to most arc : Int) (back : Bool) (jx : List Value) (w : World) (hin : Inv w [b5, b6, bn, bh, bc, ba, bb] w [(some b5, .cells #[.slice (some ⟨bn, 0, none⟩) nn cn] 30 (0, 0)), (some b6, .cells #[.int .i64 nN, .int .i64 nS, .int .i64 nT, fst, .slice (some ⟨bh, 0, none⟩) n ch, .slice (some ⟨br, 0, none⟩) n cr, .slice (some ⟨bc, 0, none⟩) n cc, .slice (some ⟨ba, 0, none⟩) n ca, .slice (some ⟨bb, 0, none⟩) n cb] 33 (0, 0)), (some bn, .cells (arr (intC .i64) nx jx).toArray 3 (0, 0)), (some bh, .cells (arr (intC .i64) hs []).toArray 3 (0, 0)), (some bc, .cells (arr (intC .i64) cs []).toArray 2 (0, 0)), (some ba, .cells (arr (intC .i64) aa []).toArray 3 (0, 0)), (some bb, .cells (arr boolC bs []).toArray 4 (0, 0))]) (hnx : nx.length = nn) (hh : hs.length = n) (hc : cs.length = n) (ha : aa.length = n) (hb : bs.length = n) (hfr : 0 ≤ fr) (hfr2 : fr < nn) (hat0 : 0 ≤ (nx.getD fr.toNat 0)) (hat : (nx.getD fr.toNat 0) < n) (hnm : n ≤ 4611686018427387904) : Fnc Try.prog 55 #[.int .i64 fr, .int .i64 to, .int .i64 most, .int .i64 arc, .bool back, .pointer (some ⟨b5, 0, none⟩), .pointer (some ⟨b6, 0, none⟩)] w [b5, b6, bn, bh, bc, ba, bb] (fun r h => r = .int .i64 (nx.getD fr.toNat 0) ∧ h = [(some b5, .cells #[.slice (some ⟨bn, 0, none⟩) nn cn] 30 (0, 0)), (some b6, .cells #[.int .i64 nN, .int .i64 nS, .int .i64 nT, fst, .slice (some ⟨bh, 0, none⟩) n ch, .slice (some ⟨br, 0, none⟩) n cr, .slice (some ⟨bc, 0, none⟩) n cc, .slice (some ⟨ba, 0, none⟩) n ca, .slice (some ⟨bb, 0, none⟩) n cb] 33 (0, 0)), (some bn, .cells (arr (intC .i64) (nx.set fr.toNat ((nx.getD fr.toNat 0) + 1)) jx).toArray 3 (0, 0)), (some bh, .cells (arr (intC .i64) (hs.set (nx.getD fr.toNat 0).toNat to) []).toArray 3 (0, 0)), (some bc, .cells (arr (intC .i64) (cs.set (nx.getD fr.toNat 0).toNat most) []).toArray 2 (0, 0)), (some ba, .cells (arr (intC .i64) (aa.set (nx.getD fr.toNat 0).toNat arc) []).toArray 3 (0, 0)), (some bb, .cells (arr boolC (bs.set (nx.getD fr.toNat 0).toNat back) []).toArray 4 (0, 0))]) := by
  refine Fnc.enter (vs := [.int .i64 fr, .int .i64 to, .int .i64 most, .int .i64 arc, .bool back, .pointer (some ⟨b5, 0, none⟩), .pointer (some ⟨b6, 0, none⟩)]) Try.func55 rfl rfl hin ?_
  refine T.seq ?_
  refine T.regionL (ll := [0]) rfl ?_
  refine TO.assign rfl rfl rfl rfl ?_
  refine TO.done ?_
  refine X.seq_normal ?_
  refine T.seq ?_
  refine T.regionL (ll := [0, 1, 2, 3, 4]) rfl ?_
  first | refine TO.load1 rfl rfl rfl rfl Ty.s30 (by repeat (first | exact List.Mem.head _ | apply List.Mem.tail)) rfl ?_ | refine TO.loadH rfl rfl rfl rfl Ty.s30 (by assumption) rfl rfl ?_
  refine TO.move rfl rfl rfl rfl ?_
  first | refine TO.index1N rfl rfl rfl rfl rfl Ty.l30 Ty.n3 (by omega) ?_ | refine TO.index1 rfl rfl rfl rfl rfl Ty.l30 Ty.n3 (by omega) (by omega) ?_ | refine TO.indexRN rfl rfl rfl rfl rfl Ty.l30 Ty.n3 (RO.nil (by assumption)) (by omega) ?_ | refine TO.indexR rfl rfl rfl rfl rfl Ty.l30 Ty.n3 (RO.nil (by assumption)) (by omega) (by omega) ?_
  first | refine TO.ldIr rfl rfl rfl rfl Ty.s3 (by assumption) rfl (by first | omega | (simp only [List.length_set, List.length_replicate]; omega)) ?_ | refine TO.ldI rfl rfl rfl rfl Ty.s3 (by repeat (first | exact List.Mem.head _ | apply List.Mem.tail)) (by first | omega | (simp only [List.length_set, List.length_replicate]; omega)) ?_
  refine TO.assign rfl rfl rfl rfl ?_
  refine TO.done ?_
  refine X.seq_normal ?_
  refine T.seq ?_
  refine T.regionL (ll := [0, 1, 2, 3, 4, 5, 6]) rfl ?_
  first | refine TO.load1 rfl rfl rfl rfl Ty.s30 (by repeat (first | exact List.Mem.head _ | apply List.Mem.tail)) rfl ?_ | refine TO.loadH rfl rfl rfl rfl Ty.s30 (by assumption) rfl rfl ?_
  refine TO.move rfl rfl rfl rfl ?_
  first | refine TO.index1N rfl rfl rfl rfl rfl Ty.l30 Ty.n3 (by omega) ?_ | refine TO.index1 rfl rfl rfl rfl rfl Ty.l30 Ty.n3 (by omega) (by omega) ?_ | refine TO.indexRN rfl rfl rfl rfl rfl Ty.l30 Ty.n3 (RO.nil (by assumption)) (by omega) ?_ | refine TO.indexR rfl rfl rfl rfl rfl Ty.l30 Ty.n3 (RO.nil (by assumption)) (by omega) (by omega) ?_
  first | refine TO.ldIr rfl rfl rfl rfl Ty.s3 (by assumption) rfl (by first | omega | (simp only [List.length_set, List.length_replicate]; omega)) ?_ | refine TO.ldI rfl rfl rfl rfl Ty.s3 (by repeat (first | exact List.Mem.head _ | apply List.Mem.tail)) (by first | omega | (simp only [List.length_set, List.length_replicate]; omega)) ?_
  refine TO.add rfl rfl rfl rfl rfl (by omega) (by omega) ?_
  first | refine TO.index1N rfl rfl rfl rfl rfl Ty.l30 Ty.n3 (by omega) ?_ | refine TO.index1 rfl rfl rfl rfl rfl Ty.l30 Ty.n3 (by omega) (by omega) ?_ | refine TO.indexRN rfl rfl rfl rfl rfl Ty.l30 Ty.n3 (RO.nil (by assumption)) (by omega) ?_ | refine TO.indexR rfl rfl rfl rfl rfl Ty.l30 Ty.n3 (RO.nil (by assumption)) (by omega) (by omega) ?_
  refine TO.stI rfl rfl rfl rfl (by repeat (first | exact Take.head _ _ | apply Take.tail)) Ty.n3 (by first | omega | (simp only [List.length_set, List.length_replicate]; omega)) ?_
  refine TO.done ?_
  refine X.seq_normal ?_
  refine T.seq ?_
  apply T.drawL [⟨[], false, relV _⟩, ⟨[0], false, relV _⟩, ⟨[], false, relV _⟩, ⟨[], false, relV _⟩, ⟨[3], false, relV _⟩, ⟨[], false, relV _⟩, ⟨[], false, relV _⟩, ⟨[6], false, relV _⟩, ⟨[], false, relV _⟩, ⟨[], false, relV _⟩, ⟨[9], false, relV _⟩, ⟨[], false, relV _⟩, ⟨[], false, relV _⟩, ⟨[], false, relV _⟩, ⟨[], false, relV _⟩, ⟨[], false, relV _⟩, ⟨[1, 2], false, relV _⟩, ⟨[16, 12], true, relN⟩, ⟨[4, 5], false, relV _⟩, ⟨[18, 13], true, relN⟩, ⟨[7, 8], false, relV _⟩, ⟨[20, 14], true, relN⟩] [24, 25, 26, 27, 28, 29, 30, 31, 32, 33, 34, 35, 36, 37, 38, 39, 40, 41, 42] 22 (HRk [[(some bh, .cells (arr (intC .i64) hs []).toArray 3 (0, 0)), (some bc, .cells (arr (intC .i64) cs []).toArray 2 (0, 0)), (some ba, .cells (arr (intC .i64) aa []).toArray 3 (0, 0)), (some bb, .cells (arr boolC bs []).toArray 4 (0, 0))], [(some bh, .cells (arr (intC .i64) (hs.set (nx.getD fr.toNat 0).toNat to) []).toArray 3 (0, 0)), (some bc, .cells (arr (intC .i64) cs []).toArray 2 (0, 0)), (some ba, .cells (arr (intC .i64) aa []).toArray 3 (0, 0)), (some bb, .cells (arr boolC bs []).toArray 4 (0, 0))], [(some bh, .cells (arr (intC .i64) (hs.set (nx.getD fr.toNat 0).toNat to) []).toArray 3 (0, 0)), (some bc, .cells (arr (intC .i64) (cs.set (nx.getD fr.toNat 0).toNat most) []).toArray 2 (0, 0)), (some ba, .cells (arr (intC .i64) aa []).toArray 3 (0, 0)), (some bb, .cells (arr boolC bs []).toArray 4 (0, 0))], [(some bh, .cells (arr (intC .i64) (hs.set (nx.getD fr.toNat 0).toNat to) []).toArray 3 (0, 0)), (some bc, .cells (arr (intC .i64) (cs.set (nx.getD fr.toNat 0).toNat most) []).toArray 2 (0, 0)), (some ba, .cells (arr (intC .i64) (aa.set (nx.getD fr.toNat 0).toNat arc) []).toArray 3 (0, 0)), (some bb, .cells (arr boolC bs []).toArray 4 (0, 0))]]) [[], [], [], []] [(some bh, .cells (arr (intC .i64) hs []).toArray 3 (0, 0)), (some bc, .cells (arr (intC .i64) cs []).toArray 2 (0, 0)), (some ba, .cells (arr (intC .i64) aa []).toArray 3 (0, 0)), (some bb, .cells (arr boolC bs []).toArray 4 (0, 0))] [(some b6, .cells #[.int .i64 nN, .int .i64 nS, .int .i64 nT, fst, .slice (some ⟨bh, 0, none⟩) n ch, .slice (some ⟨br, 0, none⟩) n cr, .slice (some ⟨bc, 0, none⟩) n cc, .slice (some ⟨ba, 0, none⟩) n ca, .slice (some ⟨bb, 0, none⟩) n cb] 33 (0, 0)), (some b5, .cells #[.slice (some ⟨bn, 0, none⟩) nn cn] 30 (0, 0)), (some bn, .cells (arr (intC .i64) (nx.set fr.toNat ((nx.getD fr.toNat 0) + 1)) jx).toArray 3 (0, 0))]
  · exact mixed
  · exact rfl
  · kernel_rfl
  · kernel_rfl
  · kernel_rfl
  · exact rfl
  · exact rfl
  · exact rfl
  · exact rfl
  · exact (by repeat (first | exact Pick.refl _ | exact Pick.nil | apply Pick.none | refine Pick.cons (by repeat (first | exact Take.head _ _ | apply Take.tail)) ?_))
  · refine ⟨?_, ?_, ?_, ?_, ?_, ?_, ?_, ?_, ?_, ?_, ?_, ?_, ?_, ?_, ?_, ?_, ?_, ?_, ?_, ?_, ?_, ?_, trivial⟩
    · rintro vs es Es Hx -
      refine TO.reenv (D := []) rfl ?_
      first | refine TO.fieldAddr0 rfl rfl rfl rfl Ty.f33_4 ?_ | refine TO.fieldAddr rfl rfl rfl rfl Ty.f33_4 ?_
      refine TO.done ?_; exact X.obQ rfl ⟨rfl, rfl⟩ (Pick.refl _) rfl
    · rintro vs es Es Hx ⟨⟨h0, -⟩, -⟩
      refine TO.reenv (D := [(24, vs 0)]) rfl ?_; rw [h0]
      first | refine TO.load1 rfl rfl rfl rfl Ty.s30 (by repeat (first | exact List.Mem.head _ | apply List.Mem.tail)) rfl ?_ | refine TO.loadH rfl rfl rfl rfl Ty.s30 (by assumption) rfl rfl ?_
      refine TO.done ?_; exact X.obQ rfl ⟨rfl, rfl⟩ (Pick.refl _) (by show [(24, vs 0)] = _; rw [h0])
    · rintro vs es Es Hx -
      refine TO.reenv (D := []) rfl ?_
      refine TO.move rfl rfl rfl rfl ?_
      refine TO.done ?_; exact X.obQ rfl ⟨rfl, rfl⟩ (Pick.refl _) rfl
    · rintro vs es Es Hx -
      refine TO.reenv (D := []) rfl ?_
      first | refine TO.fieldAddr0 rfl rfl rfl rfl Ty.f33_6 ?_ | refine TO.fieldAddr rfl rfl rfl rfl Ty.f33_6 ?_
      refine TO.done ?_; exact X.obQ rfl ⟨rfl, rfl⟩ (Pick.refl _) rfl
    · rintro vs es Es Hx ⟨⟨h3, -⟩, -⟩
      refine TO.reenv (D := [(27, vs 3)]) rfl ?_; rw [h3]
      first | refine TO.load1 rfl rfl rfl rfl Ty.s25 (by repeat (first | exact List.Mem.head _ | apply List.Mem.tail)) rfl ?_ | refine TO.loadH rfl rfl rfl rfl Ty.s25 (by assumption) rfl rfl ?_
      refine TO.done ?_; exact X.obQ rfl ⟨rfl, rfl⟩ (Pick.refl _) (by show [(27, vs 3)] = _; rw [h3])
    · rintro vs es Es Hx -
      refine TO.reenv (D := []) rfl ?_
      refine TO.move rfl rfl rfl rfl ?_
      refine TO.done ?_; exact X.obQ rfl ⟨rfl, rfl⟩ (Pick.refl _) rfl
    · rintro vs es Es Hx -
      refine TO.reenv (D := []) rfl ?_
      first | refine TO.fieldAddr0 rfl rfl rfl rfl Ty.f33_7 ?_ | refine TO.fieldAddr rfl rfl rfl rfl Ty.f33_7 ?_
      refine TO.done ?_; exact X.obQ rfl ⟨rfl, rfl⟩ (Pick.refl _) rfl
    · rintro vs es Es Hx ⟨⟨h6, -⟩, -⟩
      refine TO.reenv (D := [(30, vs 6)]) rfl ?_; rw [h6]
      first | refine TO.load1 rfl rfl rfl rfl Ty.s30 (by repeat (first | exact List.Mem.head _ | apply List.Mem.tail)) rfl ?_ | refine TO.loadH rfl rfl rfl rfl Ty.s30 (by assumption) rfl rfl ?_
      refine TO.done ?_; exact X.obQ rfl ⟨rfl, rfl⟩ (Pick.refl _) (by show [(30, vs 6)] = _; rw [h6])
    · rintro vs es Es Hx -
      refine TO.reenv (D := []) rfl ?_
      refine TO.move rfl rfl rfl rfl ?_
      refine TO.done ?_; exact X.obQ rfl ⟨rfl, rfl⟩ (Pick.refl _) rfl
    · rintro vs es Es Hx -
      refine TO.reenv (D := []) rfl ?_
      first | refine TO.fieldAddr0 rfl rfl rfl rfl Ty.f33_8 ?_ | refine TO.fieldAddr rfl rfl rfl rfl Ty.f33_8 ?_
      refine TO.done ?_; exact X.obQ rfl ⟨rfl, rfl⟩ (Pick.refl _) rfl
    · rintro vs es Es Hx ⟨⟨h9, -⟩, -⟩
      refine TO.reenv (D := [(33, vs 9)]) rfl ?_; rw [h9]
      first | refine TO.load1 rfl rfl rfl rfl Ty.s31 (by repeat (first | exact List.Mem.head _ | apply List.Mem.tail)) rfl ?_ | refine TO.loadH rfl rfl rfl rfl Ty.s31 (by assumption) rfl rfl ?_
      refine TO.done ?_; exact X.obQ rfl ⟨rfl, rfl⟩ (Pick.refl _) (by show [(33, vs 9)] = _; rw [h9])
    · rintro vs es Es Hx -
      refine TO.reenv (D := []) rfl ?_
      refine TO.move rfl rfl rfl rfl ?_
      refine TO.done ?_; exact X.obQ rfl ⟨rfl, rfl⟩ (Pick.refl _) rfl
    · rintro vs es Es Hx -
      refine TO.reenv (D := []) rfl ?_
      refine TO.move rfl rfl rfl rfl ?_
      refine TO.done ?_; exact X.obQ rfl ⟨rfl, rfl⟩ (Pick.refl _) rfl
    · rintro vs es Es Hx -
      refine TO.reenv (D := []) rfl ?_
      refine TO.move rfl rfl rfl rfl ?_
      refine TO.done ?_; exact X.obQ rfl ⟨rfl, rfl⟩ (Pick.refl _) rfl
    · rintro vs es Es Hx -
      refine TO.reenv (D := []) rfl ?_
      refine TO.move rfl rfl rfl rfl ?_
      refine TO.done ?_; exact X.obQ rfl ⟨rfl, rfl⟩ (Pick.refl _) rfl
    · rintro vs es Es Hx -
      refine TO.reenv (D := []) rfl ?_
      refine TO.move rfl rfl rfl rfl ?_
      refine TO.done ?_; exact X.obQ rfl ⟨rfl, rfl⟩ (Pick.refl _) rfl
    · rintro vs es Es Hx ⟨⟨h1, -⟩, ⟨h2, -⟩, -⟩
      refine TO.reenv (D := [(25, vs 1), (26, vs 2)]) rfl ?_; rw [h1, h2]
      first | refine TO.index1N rfl rfl rfl rfl rfl Ty.l30 Ty.n3 (by omega) ?_ | refine TO.index1 rfl rfl rfl rfl rfl Ty.l30 Ty.n3 (by omega) (by omega) ?_ | refine TO.indexRN rfl rfl rfl rfl rfl Ty.l30 Ty.n3 (RO.nil (by assumption)) (by omega) ?_ | refine TO.indexR rfl rfl rfl rfl rfl Ty.l30 Ty.n3 (RO.nil (by assumption)) (by omega) (by omega) ?_
      refine TO.done ?_; exact X.obQ rfl ⟨rfl, rfl⟩ (Pick.refl _) (by show [(25, vs 1), (26, vs 2)] = _; rw [h1, h2])
    · rintro vs es Es Hx hb ⟨⟨h16, -⟩, ⟨h12, -⟩, -⟩ hHR
      obtain rfl : hb = [(some bh, .cells (arr (intC .i64) hs []).toArray 3 (0, 0)), (some bc, .cells (arr (intC .i64) cs []).toArray 2 (0, 0)), (some ba, .cells (arr (intC .i64) aa []).toArray 3 (0, 0)), (some bb, .cells (arr boolC bs []).toArray 4 (0, 0))] := hHR
      refine TO.reenv (D := [(40, vs 16), (36, vs 12)]) rfl ?_; rw [h16, h12]
      refine TO.stI rfl rfl rfl rfl (by repeat (first | exact Take.head _ _ | apply Take.tail)) Ty.n3 (by first | omega | (simp only [List.length_set, List.length_replicate]; omega)) ?_
      refine TO.done ?_; exact X.obE (hb' := [(some bh, .cells (arr (intC .i64) (hs.set (nx.getD fr.toNat 0).toNat to) []).toArray 3 (0, 0)), (some bc, .cells (arr (intC .i64) cs []).toArray 2 (0, 0)), (some ba, .cells (arr (intC .i64) aa []).toArray 3 (0, 0)), (some bb, .cells (arr boolC bs []).toArray 4 (0, 0))]) rfl rfl rfl (by repeat (first | exact Pick.refl _ | exact Pick.nil | apply Pick.none | refine Pick.cons (by repeat (first | exact Take.head _ _ | apply Take.tail)) ?_)) (by show [(40, vs 16), (36, vs 12)] = _; rw [h16, h12])
    · rintro vs es Es Hx ⟨⟨h4, -⟩, ⟨h5, -⟩, -⟩
      refine TO.reenv (D := [(28, vs 4), (29, vs 5)]) rfl ?_; rw [h4, h5]
      first | refine TO.index1N rfl rfl rfl rfl rfl Ty.l25 Ty.n2 (by omega) ?_ | refine TO.index1 rfl rfl rfl rfl rfl Ty.l25 Ty.n2 (by omega) (by omega) ?_ | refine TO.indexRN rfl rfl rfl rfl rfl Ty.l25 Ty.n2 (RO.nil (by assumption)) (by omega) ?_ | refine TO.indexR rfl rfl rfl rfl rfl Ty.l25 Ty.n2 (RO.nil (by assumption)) (by omega) (by omega) ?_
      refine TO.done ?_; exact X.obQ rfl ⟨rfl, rfl⟩ (Pick.refl _) (by show [(28, vs 4), (29, vs 5)] = _; rw [h4, h5])
    · rintro vs es Es Hx hb ⟨⟨h18, -⟩, ⟨h13, -⟩, -⟩ hHR
      obtain rfl : hb = [(some bh, .cells (arr (intC .i64) (hs.set (nx.getD fr.toNat 0).toNat to) []).toArray 3 (0, 0)), (some bc, .cells (arr (intC .i64) cs []).toArray 2 (0, 0)), (some ba, .cells (arr (intC .i64) aa []).toArray 3 (0, 0)), (some bb, .cells (arr boolC bs []).toArray 4 (0, 0))] := hHR
      refine TO.reenv (D := [(41, vs 18), (37, vs 13)]) rfl ?_; rw [h18, h13]
      refine TO.stI rfl rfl rfl rfl (by repeat (first | exact Take.head _ _ | apply Take.tail)) Ty.n2 (by first | omega | (simp only [List.length_set, List.length_replicate]; omega)) ?_
      refine TO.done ?_; exact X.obE (hb' := [(some bh, .cells (arr (intC .i64) (hs.set (nx.getD fr.toNat 0).toNat to) []).toArray 3 (0, 0)), (some bc, .cells (arr (intC .i64) (cs.set (nx.getD fr.toNat 0).toNat most) []).toArray 2 (0, 0)), (some ba, .cells (arr (intC .i64) aa []).toArray 3 (0, 0)), (some bb, .cells (arr boolC bs []).toArray 4 (0, 0))]) rfl rfl rfl (by repeat (first | exact Pick.refl _ | exact Pick.nil | apply Pick.none | refine Pick.cons (by repeat (first | exact Take.head _ _ | apply Take.tail)) ?_)) (by show [(41, vs 18), (37, vs 13)] = _; rw [h18, h13])
    · rintro vs es Es Hx ⟨⟨h7, -⟩, ⟨h8, -⟩, -⟩
      refine TO.reenv (D := [(31, vs 7), (32, vs 8)]) rfl ?_; rw [h7, h8]
      first | refine TO.index1N rfl rfl rfl rfl rfl Ty.l30 Ty.n3 (by omega) ?_ | refine TO.index1 rfl rfl rfl rfl rfl Ty.l30 Ty.n3 (by omega) (by omega) ?_ | refine TO.indexRN rfl rfl rfl rfl rfl Ty.l30 Ty.n3 (RO.nil (by assumption)) (by omega) ?_ | refine TO.indexR rfl rfl rfl rfl rfl Ty.l30 Ty.n3 (RO.nil (by assumption)) (by omega) (by omega) ?_
      refine TO.done ?_; exact X.obQ rfl ⟨rfl, rfl⟩ (Pick.refl _) (by show [(31, vs 7), (32, vs 8)] = _; rw [h7, h8])
    · rintro vs es Es Hx hb ⟨⟨h20, -⟩, ⟨h14, -⟩, -⟩ hHR
      obtain rfl : hb = [(some bh, .cells (arr (intC .i64) (hs.set (nx.getD fr.toNat 0).toNat to) []).toArray 3 (0, 0)), (some bc, .cells (arr (intC .i64) (cs.set (nx.getD fr.toNat 0).toNat most) []).toArray 2 (0, 0)), (some ba, .cells (arr (intC .i64) aa []).toArray 3 (0, 0)), (some bb, .cells (arr boolC bs []).toArray 4 (0, 0))] := hHR
      refine TO.reenv (D := [(42, vs 20), (38, vs 14)]) rfl ?_; rw [h20, h14]
      refine TO.stI rfl rfl rfl rfl (by repeat (first | exact Take.head _ _ | apply Take.tail)) Ty.n3 (by first | omega | (simp only [List.length_set, List.length_replicate]; omega)) ?_
      refine TO.done ?_; exact X.obE (hb' := [(some bh, .cells (arr (intC .i64) (hs.set (nx.getD fr.toNat 0).toNat to) []).toArray 3 (0, 0)), (some bc, .cells (arr (intC .i64) (cs.set (nx.getD fr.toNat 0).toNat most) []).toArray 2 (0, 0)), (some ba, .cells (arr (intC .i64) (aa.set (nx.getD fr.toNat 0).toNat arc) []).toArray 3 (0, 0)), (some bb, .cells (arr boolC bs []).toArray 4 (0, 0))]) rfl rfl rfl (by repeat (first | exact Pick.refl _ | exact Pick.nil | apply Pick.none | refine Pick.cons (by repeat (first | exact Take.head _ _ | apply Take.tail)) ?_)) (by show [(42, vs 20), (38, vs 14)] = _; rw [h20, h14])
  · rintro vs es hb ⟨⟨h0, e0⟩, ⟨h1, e1⟩, ⟨h2, e2⟩, ⟨h3, e3⟩, ⟨h4, e4⟩, ⟨h5, e5⟩, ⟨h6, e6⟩, ⟨h7, e7⟩, ⟨h8, e8⟩, ⟨h9, e9⟩, ⟨h10, e10⟩, ⟨h11, e11⟩, ⟨h12, e12⟩, ⟨h13, e13⟩, ⟨h14, e14⟩, ⟨h15, e15⟩, ⟨h16, e16⟩, e17, ⟨h18, e18⟩, e19, ⟨h20, e20⟩, e21, -⟩ hHR
    obtain rfl : hb = [(some bh, .cells (arr (intC .i64) (hs.set (nx.getD fr.toNat 0).toNat to) []).toArray 3 (0, 0)), (some bc, .cells (arr (intC .i64) (cs.set (nx.getD fr.toNat 0).toNat most) []).toArray 2 (0, 0)), (some ba, .cells (arr (intC .i64) (aa.set (nx.getD fr.toNat 0).toNat arc) []).toArray 3 (0, 0)), (some bb, .cells (arr boolC bs []).toArray 4 (0, 0))] := hHR
    refine TO.reenv (D := [(24, vs 0), (25, vs 1), (26, vs 2), (27, vs 3), (28, vs 4), (29, vs 5), (30, vs 6), (31, vs 7), (32, vs 8), (33, vs 9), (34, vs 10), (35, vs 11), (36, vs 12), (37, vs 13), (38, vs 14), (39, vs 15), (40, vs 16), (41, vs 18), (42, vs 20)]) rfl ?_
    refine TO.reheap (H := [(some bh, .cells (arr (intC .i64) (hs.set (nx.getD fr.toNat 0).toNat to) []).toArray 3 (0, 0)), (some bc, .cells (arr (intC .i64) (cs.set (nx.getD fr.toNat 0).toNat most) []).toArray 2 (0, 0)), (some ba, .cells (arr (intC .i64) (aa.set (nx.getD fr.toNat 0).toNat arc) []).toArray 3 (0, 0)), (some bb, .cells (arr boolC bs []).toArray 4 (0, 0)), (some b6, .cells #[.int .i64 nN, .int .i64 nS, .int .i64 nT, fst, .slice (some ⟨bh, 0, none⟩) n ch, .slice (some ⟨br, 0, none⟩) n cr, .slice (some ⟨bc, 0, none⟩) n cc, .slice (some ⟨ba, 0, none⟩) n ca, .slice (some ⟨bb, 0, none⟩) n cb] 33 (0, 0)), (some b5, .cells #[.slice (some ⟨bn, 0, none⟩) nn cn] 30 (0, 0)), (some bn, .cells (arr (intC .i64) (nx.set fr.toNat ((nx.getD fr.toNat 0) + 1)) jx).toArray 3 (0, 0))]) (by show _ ++ (_ ++ (es 0 ++ (es 1 ++ (es 2 ++ (es 3 ++ (es 4 ++ (es 5 ++ (es 6 ++ (es 7 ++ (es 8 ++ (es 9 ++ (es 10 ++ (es 11 ++ (es 12 ++ (es 13 ++ (es 14 ++ (es 15 ++ (es 16 ++ (es 17 ++ (es 18 ++ (es 19 ++ (es 20 ++ (es 21 ++ ([])))))))))))))))))))))))) = _; rw [e0, e1, e2, e3, e4, e5, e6, e7, e8, e9, e10, e11, e12, e13, e14, e15, e16, e17, e18, e19, e20, e21]; rfl) ?_
    rw [h0, h1, h2, h3, h4, h5, h6, h7, h8, h9, h10, h11, h12, h13, h14, h15, h16, h18, h20]
    first | refine TO.index1N rfl rfl rfl rfl rfl Ty.l31 Ty.n4 (by omega) ?_ | refine TO.index1 rfl rfl rfl rfl rfl Ty.l31 Ty.n4 (by omega) (by omega) ?_ | refine TO.indexRN rfl rfl rfl rfl rfl Ty.l31 Ty.n4 (RO.nil (by assumption)) (by omega) ?_ | refine TO.indexR rfl rfl rfl rfl rfl Ty.l31 Ty.n4 (RO.nil (by assumption)) (by omega) (by omega) ?_
    refine TO.stB rfl rfl rfl rfl (by repeat (first | exact Take.head _ _ | apply Take.tail)) Ty.n4 (by first | omega | (simp only [List.length_set, List.length_replicate]; omega)) ?_
    refine TO.done ?_
    refine X.seq_normal ?_
    refine T.seq ?_
    refine T.regionL (ll := [0, 1]) rfl ?_
    refine TO.move rfl rfl rfl rfl ?_
    refine TO.assign rfl rfl rfl rfl ?_
    refine TO.done ?_
    refine X.seq_normal ?_
    refine T.ret ?_
    exact X.ret1 rfl rfl rfl rfl (Res.tmp rfl) (by repeat (first | exact Pick.nil | apply Pick.none | refine Pick.cons (by repeat (first | exact Take.head _ _ | apply Take.tail)) ?_)) ⟨rfl, rfl⟩
/-- acequia/csr.counted -/
theorem c_counted (m : Nat) (nS nT : Int) (base : Option Addr) (n c : Nat) (al : List Arc) (w : World) (ha : RO w arcC 3 base n al) (hm : m ≤ 4096) (hn : n ≤ 16384) (he : endsOK m al) : Fnc Try.prog 53 #[.agg #[.int .i64 (m : Int), .int .i64 nS, .int .i64 nT, .slice base n c]] w [] (fun r h => ∃ b fs, r = .slice (some ⟨b, 0, none⟩) (m + 1) (m + 1) ∧ h = [(some b, .cells (arr (intC .i64) fs []).toArray 3 (0, 0))] ∧ fs.length = m + 1 ∧ ∀ u, u ≤ m → fs.getD u 0 = begins al u) := by
  refine Fnc.enter (vs := [.agg #[.int .i64 (m : Int), .int .i64 nS, .int .i64 nT, .slice base n c]]) Try.func53 rfl rfl (Inv.refl w) ?_
  refine T.seq ?_
  refine T.regionL (ll := [0, 1]) rfl ?_
  refine TO.boxA rfl rfl rfl rfl ?_; intro b1
  refine TO.assign rfl rfl rfl rfl ?_
  refine TO.done ?_
  refine X.seq_normal ?_
  refine T.seq ?_
  refine T.regionL (ll := [0, 1, 2, 3, 4]) rfl ?_
  first | refine TO.fieldAddr0 rfl rfl rfl rfl Ty.f24_0 ?_ | refine TO.fieldAddr rfl rfl rfl rfl Ty.f24_0 ?_
  first | refine TO.load1 rfl rfl rfl rfl Ty.s3 (by repeat (first | exact List.Mem.head _ | apply List.Mem.tail)) rfl ?_ | refine TO.loadH rfl rfl rfl rfl Ty.s3 (by assumption) rfl rfl ?_
  refine TO.add rfl rfl rfl rfl rfl (by omega) (by omega) ?_
  refine TO.makeI rfl rfl rfl rfl rfl Ty.l30 Ty.n3 Ty.z3 Ty.b3 (by omega) (by omega) (by omega) ?_; intro b10
  refine TO.assign rfl rfl rfl rfl ?_
  refine TO.done ?_
  refine X.seq_normal ?_
  refine T.seq ?_
  refine T.seq ?_
  refine T.regionL (ll := [0, 1, 2, 3]) rfl ?_
  first | refine TO.fieldAddr0 rfl rfl rfl rfl Ty.f24_3 ?_ | refine TO.fieldAddr rfl rfl rfl rfl Ty.f24_3 ?_
  first | refine TO.load1 rfl rfl rfl rfl Ty.s22 (by repeat (first | exact List.Mem.head _ | apply List.Mem.tail)) rfl ?_ | refine TO.loadH rfl rfl rfl rfl Ty.s22 (by assumption) rfl rfl ?_
  refine TO.len rfl rfl rfl rfl rfl Ty.l22 ?_
  refine TO.move rfl rfl rfl rfl ?_
  refine TO.done ?_
  refine X.seq_normal ?_
  refine T.block ?_
  refine T.loop2 (fun (k : Nat) (fs : List Int) => k ≤ n ∧ Counted al m k fs) (fun (k : Nat) (fs : List Int) => [(14, .int .i64 k)]) [5, 14, 15, 16, 17, 18, 19, 20, 21, 22, 23, 24, 25, 26, 27, 28, 29, 30, 31, 32, 33, 34, 35, 36, 37, 38, 39] (fun (k : Nat) (fs : List Int) => [(some b1, .cells #[.int .i64 (m : Int), .int .i64 nS, .int .i64 nT, .slice base n c] 24 (0, 0)), (some b10, .cells (arr (intC .i64) fs []).toArray 3 (0, 0))]) (fun (k : Nat) (fs : List Int) => n - k) 0 (List.replicate ((m : Int) + 1).toNat 0) ⟨by omega, Counted.start al m (by omega)⟩ (by repeat (first | exact trivial | refine ⟨rfl, ?_⟩)) (by repeat (first | exact Pick.nil | apply Pick.none | refine Pick.cons (by repeat (first | exact Take.head _ _ | apply Take.tail)) ?_)) ?_
  rintro k fs ⟨hk, hcn⟩
  refine T.seq ?_
  refine T.regionL (ll := [0]) rfl ?_
  refine TO.bin rfl rfl rfl rfl rfl rfl ?_
  refine TO.done ?_
  refine X.seq_normal ?_
  refine T.seq ?_
  first | refine T.condP rfl (fun h0 => ?_) (fun h0 => ?_) | refine T.cond rfl (fun h0 => ?_) (fun h0 => ?_)
  ·
    have hkl : k < al.length := by rw [ha.len]; omega
    have e0 := he k hkl false
    have e1 := he k hkl true
    simp only [vtx, Bool.false_eq_true, if_false, if_true] at e0 e1
    have hc0 := hcn.2.2 _ e0.1 e0.2
    have hc1 := hcn.2.2 _ e1.1 e1.2
    have hd0 := cnt_le al (al.getD k default).fr.toNat k
    have hd1 := cnt_le al (al.getD k default).to.toNat k
    have hfl := hcn.1
    refine T.skip ?_
    refine X.seq_normal ?_
    refine T.seq ?_
    refine T.block ?_
    refine T.seq ?_
    refine T.regionL (ll := [0, 1, 2, 3]) rfl ?_
    first | refine TO.index0N rfl rfl rfl rfl rfl Ty.l22 Ty.n28 (by omega) ?_ | refine TO.index0 rfl rfl rfl rfl rfl Ty.l22 Ty.n28 (by omega) (by omega) ?_ | refine TO.indexRN rfl rfl rfl rfl rfl Ty.l22 Ty.n28 (RO.nil (by assumption)) (by omega) ?_ | refine TO.indexR rfl rfl rfl rfl rfl Ty.l22 Ty.n28 (RO.nil (by assumption)) (by omega) (by omega) ?_
    first | refine TO.ldSr default rfl rfl rfl rfl Ty.a28 (by assumption) rfl (by first | omega | (simp only [List.length_set, List.length_replicate]; omega)) ?_ | refine TO.ldS default (fun _ => rfl) rfl rfl rfl rfl Ty.a28 (by repeat (first | exact List.Mem.head _ | apply List.Mem.tail)) (by first | omega | (simp only [List.length_set, List.length_replicate]; omega)) ?_
    refine TO.allocA rfl rfl rfl Ty.z28 ?_; intro b5
    refine TO.storeA rfl rfl rfl rfl (by repeat (first | exact Take.head _ _ | apply Take.tail)) Ty.n28 rfl rfl rfl ?_
    refine TO.done ?_
    refine X.seq_normal ?_
    refine T.seq ?_
    refine T.regionL (ll := [0, 1, 2, 3, 4]) rfl ?_
    first | refine TO.fieldAddr0 rfl rfl rfl rfl Ty.f28_0 ?_ | refine TO.fieldAddr rfl rfl rfl rfl Ty.f28_0 ?_
    first | refine TO.load1 rfl rfl rfl rfl Ty.s3 (by repeat (first | exact List.Mem.head _ | apply List.Mem.tail)) rfl ?_ | refine TO.loadH rfl rfl rfl rfl Ty.s3 (by assumption) rfl rfl ?_
    first | refine TO.fieldAddr0 rfl rfl rfl rfl Ty.f28_1 ?_ | refine TO.fieldAddr rfl rfl rfl rfl Ty.f28_1 ?_
    first | refine TO.load1 rfl rfl rfl rfl Ty.s3 (by repeat (first | exact List.Mem.head _ | apply List.Mem.tail)) rfl ?_ | refine TO.loadH rfl rfl rfl rfl Ty.s3 (by assumption) rfl rfl ?_
    refine TO.bin rfl rfl rfl rfl rfl rfl ?_
    refine TO.done ?_
    refine X.seq_normal ?_
    first | refine T.condP rfl (fun h1 => ?_) (fun h1 => ?_) | refine T.cond rfl (fun h1 => ?_) (fun h1 => ?_)
    ·
      have hc2 : (fs.set ((al.getD k default).fr + 1).toNat (fs.getD ((al.getD k default).fr + 1).toNat 0 + 1)).getD ((al.getD k default).to + 1).toNat 0 = cnt al (al.getD k default).to.toNat k := by rw [lset_ne (by omega)]; exact hc1
      refine T.seq ?_
      refine T.regionL (ll := [0, 1, 2, 3, 4, 5, 6, 7, 8]) rfl ?_
      refine TO.move rfl rfl rfl rfl ?_
      first | refine TO.fieldAddr0 rfl rfl rfl rfl Ty.f28_0 ?_ | refine TO.fieldAddr rfl rfl rfl rfl Ty.f28_0 ?_
      first | refine TO.load1 rfl rfl rfl rfl Ty.s3 (by repeat (first | exact List.Mem.head _ | apply List.Mem.tail)) rfl ?_ | refine TO.loadH rfl rfl rfl rfl Ty.s3 (by assumption) rfl rfl ?_
      refine TO.add rfl rfl rfl rfl rfl (by omega) (by omega) ?_
      first | refine TO.index1N rfl rfl rfl rfl rfl Ty.l30 Ty.n3 (by omega) ?_ | refine TO.index1 rfl rfl rfl rfl rfl Ty.l30 Ty.n3 (by omega) (by omega) ?_ | refine TO.indexRN rfl rfl rfl rfl rfl Ty.l30 Ty.n3 (RO.nil (by assumption)) (by omega) ?_ | refine TO.indexR rfl rfl rfl rfl rfl Ty.l30 Ty.n3 (RO.nil (by assumption)) (by omega) (by omega) ?_
      first | refine TO.ldIr rfl rfl rfl rfl Ty.s3 (by assumption) rfl (by first | omega | (simp only [List.length_set, List.length_replicate]; omega)) ?_ | refine TO.ldI rfl rfl rfl rfl Ty.s3 (by repeat (first | exact List.Mem.head _ | apply List.Mem.tail)) (by first | omega | (simp only [List.length_set, List.length_replicate]; omega)) ?_
      refine TO.add rfl rfl rfl rfl rfl (by omega) (by omega) ?_
      first | refine TO.index1N rfl rfl rfl rfl rfl Ty.l30 Ty.n3 (by omega) ?_ | refine TO.index1 rfl rfl rfl rfl rfl Ty.l30 Ty.n3 (by omega) (by omega) ?_ | refine TO.indexRN rfl rfl rfl rfl rfl Ty.l30 Ty.n3 (RO.nil (by assumption)) (by omega) ?_ | refine TO.indexR rfl rfl rfl rfl rfl Ty.l30 Ty.n3 (RO.nil (by assumption)) (by omega) (by omega) ?_
      refine TO.stI rfl rfl rfl rfl (by repeat (first | exact Take.head _ _ | apply Take.tail)) Ty.n3 (by first | omega | (simp only [List.length_set, List.length_replicate]; omega)) ?_
      refine TO.done ?_
      refine X.seq_normal ?_
      refine T.regionL (ll := [0, 1, 2, 3, 4, 5, 6, 7, 8]) rfl ?_
      refine TO.move rfl rfl rfl rfl ?_
      first | refine TO.fieldAddr0 rfl rfl rfl rfl Ty.f28_1 ?_ | refine TO.fieldAddr rfl rfl rfl rfl Ty.f28_1 ?_
      first | refine TO.load1 rfl rfl rfl rfl Ty.s3 (by repeat (first | exact List.Mem.head _ | apply List.Mem.tail)) rfl ?_ | refine TO.loadH rfl rfl rfl rfl Ty.s3 (by assumption) rfl rfl ?_
      refine TO.add rfl rfl rfl rfl rfl (by omega) (by omega) ?_
      first | refine TO.index1N rfl rfl rfl rfl rfl Ty.l30 Ty.n3 (by omega) ?_ | refine TO.index1 rfl rfl rfl rfl rfl Ty.l30 Ty.n3 (by omega) (by omega) ?_ | refine TO.indexRN rfl rfl rfl rfl rfl Ty.l30 Ty.n3 (RO.nil (by assumption)) (by omega) ?_ | refine TO.indexR rfl rfl rfl rfl rfl Ty.l30 Ty.n3 (RO.nil (by assumption)) (by omega) (by omega) ?_
      first | refine TO.ldIr rfl rfl rfl rfl Ty.s3 (by assumption) rfl (by first | omega | (simp only [List.length_set, List.length_replicate]; omega)) ?_ | refine TO.ldI rfl rfl rfl rfl Ty.s3 (by repeat (first | exact List.Mem.head _ | apply List.Mem.tail)) (by first | omega | (simp only [List.length_set, List.length_replicate]; omega)) ?_
      refine TO.add rfl rfl rfl rfl rfl (by omega) (by omega) ?_
      first | refine TO.index1N rfl rfl rfl rfl rfl Ty.l30 Ty.n3 (by omega) ?_ | refine TO.index1 rfl rfl rfl rfl rfl Ty.l30 Ty.n3 (by omega) (by omega) ?_ | refine TO.indexRN rfl rfl rfl rfl rfl Ty.l30 Ty.n3 (RO.nil (by assumption)) (by omega) ?_ | refine TO.indexR rfl rfl rfl rfl rfl Ty.l30 Ty.n3 (RO.nil (by assumption)) (by omega) (by omega) ?_
      refine TO.stI rfl rfl rfl rfl (by repeat (first | exact Take.head _ _ | apply Take.tail)) Ty.n3 (by first | omega | (simp only [List.length_set, List.length_replicate]; omega)) ?_
      refine TO.done ?_
      refine X.block_normal ?_
      refine X.seq_normal ?_
      refine T.regionL (ll := [0, 1]) rfl ?_
      refine TO.add rfl rfl rfl rfl rfl (by omega) (by omega) ?_
      refine TO.move rfl rfl rfl rfl ?_
      refine TO.done ?_
      refine X.again2 (k + 1) _ ⟨by omega, ?_⟩ (by omega) (by repeat (first | exact trivial | refine ⟨rfl, ?_⟩)) (by repeat (first | exact trivial | refine ⟨rfl, ?_⟩)) (by repeat (first | exact Pick.nil | apply Pick.none | refine Pick.cons (by repeat (first | exact Take.head _ _ | apply Take.tail)) ?_))
      first | exact hcn.skip (by simpa using h1) | exact hcn.put he hkl (by simpa using h1)
    ·
      refine T.skip ?_
      refine X.block_normal ?_
      refine X.seq_normal ?_
      refine T.regionL (ll := [0, 1]) rfl ?_
      refine TO.add rfl rfl rfl rfl rfl (by omega) (by omega) ?_
      refine TO.move rfl rfl rfl rfl ?_
      refine TO.done ?_
      refine X.again2 (k + 1) _ ⟨by omega, ?_⟩ (by omega) (by repeat (first | exact trivial | refine ⟨rfl, ?_⟩)) (by repeat (first | exact trivial | refine ⟨rfl, ?_⟩)) (by repeat (first | exact Pick.nil | apply Pick.none | refine Pick.cons (by repeat (first | exact Take.head _ _ | apply Take.tail)) ?_))
      first | exact hcn.skip (by simpa using h1) | exact hcn.put he hkl (by simpa using h1)
  ·
    refine T.exit ?_
    refine X.then_exit ?_
    refine X.then_exit ?_
    refine X.block_here ?_
    refine X.seq_normal ?_
    refine T.seq ?_
    refine T.seq ?_
    refine T.regionL (ll := [0, 1, 2]) rfl ?_
    first | refine TO.fieldAddr0 rfl rfl rfl rfl Ty.f24_0 ?_ | refine TO.fieldAddr rfl rfl rfl rfl Ty.f24_0 ?_
    first | refine TO.load1 rfl rfl rfl rfl Ty.s3 (by repeat (first | exact List.Mem.head _ | apply List.Mem.tail)) rfl ?_ | refine TO.loadH rfl rfl rfl rfl Ty.s3 (by assumption) rfl rfl ?_
    refine TO.move rfl rfl rfl rfl ?_
    refine TO.done ?_
    refine X.seq_normal ?_
    refine T.block ?_
    refine T.loop2 (fun (k : Nat) (fs : List Int) => k ≤ m ∧ Summed al m k fs) (fun (k : Nat) (fs : List Int) => [(42, .int .i64 k)]) [6, 42, 43, 44, 45, 46, 47, 48, 49, 50, 51, 52, 53, 54, 55, 56] (fun (k : Nat) (fs : List Int) => [(some b1, .cells #[.int .i64 (m : Int), .int .i64 nS, .int .i64 nT, .slice base n c] 24 (0, 0)), (some b10, .cells (arr (intC .i64) fs []).toArray 3 (0, 0))]) (fun (k : Nat) (fs : List Int) => m - k) 0 _ ⟨by omega, Counted.summed (by rw [show al.length = k by rw [ha.len]; omega]; exact hcn)⟩ (by repeat (first | exact trivial | refine ⟨rfl, ?_⟩)) (by repeat (first | exact Pick.nil | apply Pick.none | refine Pick.cons (by repeat (first | exact Take.head _ _ | apply Take.tail)) ?_)) ?_
    rintro k fs ⟨hk, hsm⟩
    refine T.seq ?_
    refine T.regionL (ll := [0]) rfl ?_
    refine TO.bin rfl rfl rfl rfl rfl rfl ?_
    refine TO.done ?_
    refine X.seq_normal ?_
    refine T.seq ?_
    first | refine T.condP rfl (fun h2 => ?_) (fun h2 => ?_) | refine T.cond rfl (fun h2 => ?_) (fun h2 => ?_)
    ·
      have hfl := hsm.1
      have hb0 := hsm.2.1 k (Nat.le_refl _)
      have hb1 := hsm.2.2 k (Nat.le_refl _) (by omega)
      have hb2 := begins_small (al := al) (v := k) (by omega) (by rw [ha.len]; omega)
      have hb3 := cnt_le al k al.length
      have hb4 := ha.len
      have hb5 : ((k : Int) + 1).toNat = k + 1 := by omega
      refine T.skip ?_
      refine X.seq_normal ?_
      refine T.seq ?_
      refine T.block ?_
      refine T.seq ?_
      refine T.regionL (ll := [0, 1]) rfl ?_
      refine TO.move rfl rfl rfl rfl ?_
      refine TO.assign rfl rfl rfl rfl ?_
      refine TO.done ?_
      refine X.seq_normal ?_
      apply T.drawQT [(45, _), (46, _), (47, _), (48, _), (49, _), (50, _), (51, _), (52, _), (53, _)]
      · exact mixed
      · kernel_rfl
      · kernel_rfl
      · exact rfl
      · exact rfl
      · refine ⟨?_, ?_, ?_, ?_, ?_, ?_, ?_, ?_, ?_, trivial⟩
        · intro Es
          refine TO.move rfl rfl rfl rfl ?_
          exact TO.done (X.ob rfl (Pick.refl _))
        · intro Es
          refine TO.move rfl rfl rfl rfl ?_
          exact TO.done (X.ob rfl (Pick.refl _))
        · intro Es
          refine TO.add rfl rfl rfl rfl rfl (by omega) (by omega) ?_
          exact TO.done (X.ob rfl (Pick.refl _))
        · intro Es
          first | refine TO.index1N rfl rfl rfl rfl rfl Ty.l30 Ty.n3 (by omega) ?_ | refine TO.index1 rfl rfl rfl rfl rfl Ty.l30 Ty.n3 (by omega) (by omega) ?_ | refine TO.indexRN rfl rfl rfl rfl rfl Ty.l30 Ty.n3 (RO.nil (by assumption)) (by omega) ?_ | refine TO.indexR rfl rfl rfl rfl rfl Ty.l30 Ty.n3 (RO.nil (by assumption)) (by omega) (by omega) ?_
          exact TO.done (X.ob rfl (Pick.refl _))
        · intro Es
          rw [hb5]
          first | refine TO.ldIr rfl rfl rfl rfl Ty.s3 (by assumption) rfl (by first | omega | (simp only [List.length_set, List.length_replicate]; omega)) ?_ | refine TO.ldI rfl rfl rfl rfl Ty.s3 (by repeat (first | exact List.Mem.head _ | apply List.Mem.tail)) (by first | omega | (simp only [List.length_set, List.length_replicate]; omega)) ?_
          exact TO.done (X.ob rfl (Pick.refl _))
        · intro Es
          refine TO.move rfl rfl rfl rfl ?_
          exact TO.done (X.ob rfl (Pick.refl _))
        · intro Es
          refine TO.move rfl rfl rfl rfl ?_
          exact TO.done (X.ob rfl (Pick.refl _))
        · intro Es
          first | refine TO.index1N rfl rfl rfl rfl rfl Ty.l30 Ty.n3 (by omega) ?_ | refine TO.index1 rfl rfl rfl rfl rfl Ty.l30 Ty.n3 (by omega) (by omega) ?_ | refine TO.indexRN rfl rfl rfl rfl rfl Ty.l30 Ty.n3 (RO.nil (by assumption)) (by omega) ?_ | refine TO.indexR rfl rfl rfl rfl rfl Ty.l30 Ty.n3 (RO.nil (by assumption)) (by omega) (by omega) ?_
          exact TO.done (X.ob rfl (Pick.refl _))
        · intro Es
          first | refine TO.ldIr rfl rfl rfl rfl Ty.s3 (by assumption) rfl (by first | omega | (simp only [List.length_set, List.length_replicate]; omega)) ?_ | refine TO.ldI rfl rfl rfl rfl Ty.s3 (by repeat (first | exact List.Mem.head _ | apply List.Mem.tail)) (by first | omega | (simp only [List.length_set, List.length_replicate]; omega)) ?_
          exact TO.done (X.ob rfl (Pick.refl _))
      refine TO.add rfl rfl rfl rfl rfl (by omega) (by omega) ?_
      first | refine TO.index1N rfl rfl rfl rfl rfl Ty.l30 Ty.n3 (by omega) ?_ | refine TO.index1 rfl rfl rfl rfl rfl Ty.l30 Ty.n3 (by omega) (by omega) ?_ | refine TO.indexRN rfl rfl rfl rfl rfl Ty.l30 Ty.n3 (RO.nil (by assumption)) (by omega) ?_ | refine TO.indexR rfl rfl rfl rfl rfl Ty.l30 Ty.n3 (RO.nil (by assumption)) (by omega) (by omega) ?_
      refine TO.stI rfl rfl rfl rfl (by repeat (first | exact Take.head _ _ | apply Take.tail)) Ty.n3 (by first | omega | (simp only [List.length_set, List.length_replicate]; omega)) ?_
      refine TO.done ?_
      refine X.block_normal ?_
      refine X.seq_normal ?_
      refine T.regionL (ll := [0, 1]) rfl ?_
      refine TO.add rfl rfl rfl rfl rfl (by omega) (by omega) ?_
      refine TO.move rfl rfl rfl rfl ?_
      refine TO.done ?_
      refine X.again2 (k + 1) _ ⟨by omega, ?_⟩ (by omega) (by repeat (first | exact trivial | refine ⟨rfl, ?_⟩)) (by repeat (first | exact trivial | refine ⟨rfl, ?_⟩)) (by repeat (first | exact Pick.nil | apply Pick.none | refine Pick.cons (by repeat (first | exact Take.head _ _ | apply Take.tail)) ?_))
      exact hsm.put (by omega) hb5
    ·
      refine T.exit ?_
      refine X.then_exit ?_
      refine X.then_exit ?_
      refine X.block_here ?_
      refine X.seq_normal ?_
      refine T.seq ?_
      refine T.regionL (ll := [0, 1]) rfl ?_
      refine TO.move rfl rfl rfl rfl ?_
      refine TO.assign rfl rfl rfl rfl ?_
      refine TO.done ?_
      refine X.seq_normal ?_
      refine T.ret ?_
      refine X.ret1 rfl rfl rfl rfl (Res.tmp rfl) (N := [(some b10, .cells (arr (intC .i64) fs []).toArray 3 (0, 0))]) (by repeat (first | exact Pick.nil | apply Pick.none | refine Pick.cons (by repeat (first | exact Take.head _ _ | apply Take.tail)) ?_)) ⟨b10, fs, ?_, rfl, hsm.1, fun u hu => hsm.2.1 u (by omega)⟩
      rw [show ((m : Int) + 1).toNat = m + 1 by omega]
end Go.Proofs.Ytcdbemdogkmahaa.Acq
