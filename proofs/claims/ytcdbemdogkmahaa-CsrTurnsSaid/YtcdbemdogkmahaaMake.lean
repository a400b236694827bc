/- Contracts: csr.Make. -/
import Derived.Test.YtcdbemdogkmahaaCsr
namespace Go.Proofs.Ytcdbemdogkmahaa.Acq
open Go Go.Acq Go.RowKit Go.Proofs
theorem TyMake.a33 : aggT Try.prog 33 9 = true := by kernel_rfl
theorem TyMake.b4 : bytesT Try.prog 4 = some 1 := by kernel_rfl
theorem TyMake.c52 : callable Try.prog 52 = true := by kernel_rfl
theorem TyMake.c53 : callable Try.prog 53 = true := by kernel_rfl
theorem TyMake.c54 : callable Try.prog 54 = true := by kernel_rfl
theorem TyMake.c55 : callable Try.prog 55 = true := by kernel_rfl
theorem TyMake.f33_3 : fieldT Try.prog 33 3 = some 3 := by kernel_rfl
theorem TyMake.f33_5 : fieldT Try.prog 33 5 = some 5 := by kernel_rfl
theorem TyMake.n25 : sizeT Try.prog 25 = some 1 := by kernel_rfl
theorem TyMake.n30 : sizeT Try.prog 30 = some 1 := by kernel_rfl
theorem TyMake.n31 : sizeT Try.prog 31 = some 1 := by kernel_rfl
theorem TyMake.n33 : sizeT Try.prog 33 = some 9 := by kernel_rfl
theorem TyMake.z30 : zeroT Try.prog 30 = some (.slice none 0 0) := by kernel_rfl
theorem TyMake.z33 : zeroT Try.prog 33 = some (.agg #[.int .i64 0, .int .i64 0, .int .i64 0, .slice none 0 0, .slice none 0 0, .slice none 0 0, .slice none 0 0, .slice none 0 0, .slice none 0 0]) := by kernel_rfl
theorem TyMake.z4 : zeroT Try.prog 4 = some (.bool false) := by kernel_rfl
set_option maxHeartbeats 2000000 in
/-- acequia/csr.Make -/
theorem c_make (m : Nat) (nS nT : Int) (base : Option Addr) (n c : Nat) (al : List Arc) (w : World) (ha : RO w arcC 3 base n al) (hE : checkE m nS nT al = 0) : Fnc Try.prog 19 #[.agg #[.int .i64 (m : Int), .int .i64 nS, .int .i64 nT, .slice base n c]] w [] (fun r h => ∃ bf bh br bc ba bb fs hs rs cs aa bs, r = .tuple #[.agg #[.int .i64 (m : Int), .int .i64 nS, .int .i64 nT, .slice (some ⟨bf, 0, none⟩) (m + 1) (m + 1), .slice (some ⟨bh, 0, none⟩) (begins al m) (begins al m), .slice (some ⟨br, 0, none⟩) (begins al m) (begins al m), .slice (some ⟨bc, 0, none⟩) (begins al m) (begins al m), .slice (some ⟨ba, 0, none⟩) (begins al m) (begins al m), .slice (some ⟨bb, 0, none⟩) (begins al m) (begins al m)], .int .i64 0] ∧ h = [(some bf, .cells (arr (intC .i64) fs []).toArray 3 (0, 0)), (some bh, .cells (arr (intC .i64) hs []).toArray 3 (0, 0)), (some br, .cells (arr (intC .i64) rs []).toArray 3 (0, 0)), (some bc, .cells (arr (intC .i64) cs []).toArray 2 (0, 0)), (some ba, .cells (arr (intC .i64) aa []).toArray 3 (0, 0)), (some bb, .cells (arr boolC bs []).toArray 4 (0, 0))] ∧ CsrOK al m fs hs rs cs aa bs) := by
  obtain ⟨⟨hm2, hm⟩, hn, hST, hen, hcp, hsu⟩ := checkE_zero hE
  rw [ha.len] at hn
  have he := endsOK_of hen
  have hbs := begins_small (al := al) (v := m) (by omega) (by rw [ha.len]; omega)
  refine Fnc.enter (vs := [.agg #[.int .i64 (m : Int), .int .i64 nS, .int .i64 nT, .slice base n c]]) Try.func19 rfl rfl (Inv.refl w) ?_
  refine T.seq ?_
  refine T.regionL (ll := [0, 1, 2]) rfl ?_
  refine TO.boxA rfl rfl rfl rfl ?_; intro b1
  refine TO.allocA rfl rfl rfl TyMake.z33 ?_; intro b2
  refine TO.assign rfl rfl rfl rfl ?_
  refine TO.done ?_
  refine X.seq_normal ?_
  refine T.seq ?_
  refine T.seq ?_
  refine T.regionL (ll := [0, 1, 2]) rfl ?_
  first | refine TO.loadA rfl rfl rfl rfl Ty.a24 (by repeat (first | exact List.Mem.head _ | apply List.Mem.tail)) rfl ?_ | refine TO.loadHA rfl rfl rfl rfl Ty.a24 (by assumption) rfl rfl ?_
  refine TO.call rfl rfl rfl TyMake.c52 rfl (fun wc hwc => c_check _ _ _ _ _ _ _ wc (by first | assumption | exact RO.mono (by assumption) hwc) (by omega)) ?_
  rintro _ _ ⟨rfl, rfl⟩
  refine TO.assign rfl rfl rfl rfl ?_
  refine TO.done ?_
  refine X.seq_normal ?_
  refine T.seq ?_
  refine T.regionL (ll := [0, 1]) rfl ?_
  refine TO.move rfl rfl rfl rfl ?_
  refine TO.bin rfl rfl rfl rfl rfl rfl ?_
  refine TO.done ?_
  refine X.seq_normal ?_
  first | refine T.condPF rfl (by simp [hE]) ?_ | refine T.condF rfl (by simp [hE]) ?_
  refine T.skip ?_
  refine X.seq_normal ?_
  refine T.seq ?_
  apply T.drawL [⟨[], false, relV _⟩, ⟨[0], false, relV _⟩, ⟨[], false, relV _⟩, ⟨[2], false, relV _⟩, ⟨[], false, relV _⟩, ⟨[4], false, relV _⟩, ⟨[], false, relV _⟩, ⟨[6], false, fun _ v e => ∃ b fs, v = .slice (some ⟨b, 0, none⟩) (m + 1) (m + 1) ∧ e = [(some b, .cells (arr (intC .i64) fs []).toArray 3 (0, 0))] ∧ fs.length = m + 1 ∧ ∀ u, u ≤ m → fs.getD u 0 = begins al u⟩, ⟨[1, 3, 5, 7], false, fun vl v e => v = .agg #[.int .i64 (m : Int), .int .i64 nS, .int .i64 nT, vl.getD 3 undef, .slice none 0 0, .slice none 0 0, .slice none 0 0, .slice none 0 0, .slice none 0 0] ∧ e = []⟩, ⟨[], false, fun _ v e => ∃ b, v = .pointer (some ⟨b, 0, none⟩) ∧ e = [(some b, .cells #[.int .i64 0, .int .i64 0, .int .i64 0, .slice none 0 0, .slice none 0 0, .slice none 0 0, .slice none 0 0, .slice none 0 0, .slice none 0 0] 33 (0, 0))]⟩] [19, 20, 21, 22, 23, 24, 25, 26, 27, 5] 10 (HRk [[]]) [[]] [] [(some b1, .cells #[.int .i64 (m : Int), .int .i64 nS, .int .i64 nT, .slice base n c] 24 (0, 0)), (some b2, .cells #[.int .i64 0, .int .i64 0, .int .i64 0, .slice none 0 0, .slice none 0 0, .slice none 0 0, .slice none 0 0, .slice none 0 0, .slice none 0 0] 33 (0, 0))]
  · exact mixed
  · exact rfl
  · kernel_rfl
  · kernel_rfl
  · kernel_rfl
  · exact rfl
  · exact rfl
  · exact rfl
  · exact rfl
  · exact (by repeat (first | exact Pick.refl _ | exact Pick.nil | apply Pick.none | refine Pick.cons (by repeat (first | exact Take.head _ _ | apply Take.tail)) ?_))
  · refine ⟨?_, ?_, ?_, ?_, ?_, ?_, ?_, ?_, ?_, ?_, trivial⟩
    · rintro vs es Es Hx -
      refine TO.reenv (D := []) rfl ?_
      first | refine TO.fieldAddr0 rfl rfl rfl rfl Ty.f24_0 ?_ | refine TO.fieldAddr rfl rfl rfl rfl Ty.f24_0 ?_
      refine TO.done ?_; exact X.obQ rfl ⟨rfl, rfl⟩ (Pick.refl _) rfl
    · rintro vs es Es Hx ⟨⟨h0, -⟩, -⟩
      refine TO.reenv (D := [(19, vs 0)]) rfl ?_; rw [h0]
      first | refine TO.load1 rfl rfl rfl rfl Ty.s3 (by repeat (first | exact List.Mem.head _ | apply List.Mem.tail)) rfl ?_ | refine TO.loadH rfl rfl rfl rfl Ty.s3 (by assumption) rfl rfl ?_
      refine TO.done ?_; exact X.obQ rfl ⟨rfl, rfl⟩ (Pick.refl _) (by show [(19, vs 0)] = _; rw [h0])
    · rintro vs es Es Hx -
      refine TO.reenv (D := []) rfl ?_
      first | refine TO.fieldAddr0 rfl rfl rfl rfl Ty.f24_1 ?_ | refine TO.fieldAddr rfl rfl rfl rfl Ty.f24_1 ?_
      refine TO.done ?_; exact X.obQ rfl ⟨rfl, rfl⟩ (Pick.refl _) rfl
    · rintro vs es Es Hx ⟨⟨h2, -⟩, -⟩
      refine TO.reenv (D := [(21, vs 2)]) rfl ?_; rw [h2]
      first | refine TO.load1 rfl rfl rfl rfl Ty.s3 (by repeat (first | exact List.Mem.head _ | apply List.Mem.tail)) rfl ?_ | refine TO.loadH rfl rfl rfl rfl Ty.s3 (by assumption) rfl rfl ?_
      refine TO.done ?_; exact X.obQ rfl ⟨rfl, rfl⟩ (Pick.refl _) (by show [(21, vs 2)] = _; rw [h2])
    · rintro vs es Es Hx -
      refine TO.reenv (D := []) rfl ?_
      first | refine TO.fieldAddr0 rfl rfl rfl rfl Ty.f24_2 ?_ | refine TO.fieldAddr rfl rfl rfl rfl Ty.f24_2 ?_
      refine TO.done ?_; exact X.obQ rfl ⟨rfl, rfl⟩ (Pick.refl _) rfl
    · rintro vs es Es Hx ⟨⟨h4, -⟩, -⟩
      refine TO.reenv (D := [(23, vs 4)]) rfl ?_; rw [h4]
      first | refine TO.load1 rfl rfl rfl rfl Ty.s3 (by repeat (first | exact List.Mem.head _ | apply List.Mem.tail)) rfl ?_ | refine TO.loadH rfl rfl rfl rfl Ty.s3 (by assumption) rfl rfl ?_
      refine TO.done ?_; exact X.obQ rfl ⟨rfl, rfl⟩ (Pick.refl _) (by show [(23, vs 4)] = _; rw [h4])
    · rintro vs es Es Hx -
      refine TO.reenv (D := []) rfl ?_
      first | refine TO.loadA rfl rfl rfl rfl Ty.a24 (by repeat (first | exact List.Mem.head _ | apply List.Mem.tail)) rfl ?_ | refine TO.loadHA rfl rfl rfl rfl Ty.a24 (by assumption) rfl rfl ?_
      refine TO.done ?_; exact X.obQ rfl ⟨rfl, rfl⟩ (Pick.refl _) rfl
    · rintro vs es Es Hx ⟨⟨h6, -⟩, -⟩
      refine TO.reenv (D := [(25, vs 6)]) rfl ?_; rw [h6]
      refine TO.call rfl rfl rfl TyMake.c53 rfl (fun wc hwc => c_counted _ _ _ _ _ _ _ wc (by first | assumption | exact RO.mono (by assumption) hwc) (by omega) (by omega) (by assumption)) ?_
      rintro _ _ ⟨bf, fs, rfl, rfl, hfl, hfs⟩
      refine TO.done ?_; exact X.obQ rfl ⟨bf, fs, rfl, rfl, hfl, hfs⟩ (by repeat (first | exact Pick.refl _ | exact Pick.nil | apply Pick.none | refine Pick.cons (by repeat (first | exact Take.head _ _ | apply Take.tail)) ?_)) (by show [(25, vs 6)] = _; rw [h6])
    · rintro vs es Es Hx ⟨⟨h1, -⟩, ⟨h3, -⟩, ⟨h5, -⟩, ⟨bf, fs, h7, e7, hfl, hfs⟩, -⟩
      refine TO.reenv (D := [(20, vs 1), (22, vs 3), (24, vs 5), (26, vs 7)]) rfl ?_; rw [h1, h3, h5, h7]
      refine TO.buildS (t := 33) [.int .i64 0, .int .i64 0, .int .i64 0, .slice none 0 0, .slice none 0 0, .slice none 0 0, .slice none 0 0, .slice none 0 0, .slice none 0 0] [0, 1, 2, 3, 4, 5, 6, 7, 8] rfl rfl rfl rfl (by simp only [setAll, setCells, Value.cells, List.toList_toArray, List.getD_cons_zero, List.getD_cons_succ, List.set_cons_zero, List.set_cons_succ]; rfl) (by kernel_rfl) ?_
      refine TO.done ?_; exact X.obQ rfl ⟨by show _ = Value.agg #[_, _, _, vs 7, _, _, _, _, _]; rw [h7]; first | done | rfl, rfl⟩ (by repeat (first | exact Pick.refl _ | exact Pick.nil | apply Pick.none | refine Pick.cons (by repeat (first | exact Take.head _ _ | apply Take.tail)) ?_)) (by show [(20, vs 1), (22, vs 3), (24, vs 5), (26, vs 7)] = _; rw [h1, h3, h5, h7])
    · rintro vs es Es Hx -
      refine TO.reenv (D := []) rfl ?_
      refine TO.allocA rfl rfl rfl TyMake.z33 ?_; intro b5
      refine TO.done ?_; exact X.obQ rfl ⟨b5, rfl, rfl⟩ (by repeat (first | exact Pick.refl _ | exact Pick.nil | apply Pick.none | refine Pick.cons (by repeat (first | exact Take.head _ _ | apply Take.tail)) ?_)) rfl
  · rintro vs es hb ⟨⟨h0, e0⟩, ⟨h1, e1⟩, ⟨h2, e2⟩, ⟨h3, e3⟩, ⟨h4, e4⟩, ⟨h5, e5⟩, ⟨h6, e6⟩, ⟨bf, fs, h7, e7, hfl, hfs⟩, ⟨g8, e8⟩, ⟨b5, h9, e9⟩, -⟩ hHR
    obtain rfl : hb = [] := hHR
    have h8 : vs 8 = Value.agg #[.int .i64 (m : Int), .int .i64 nS, .int .i64 nT, vs 7, .slice none 0 0, .slice none 0 0, .slice none 0 0, .slice none 0 0, .slice none 0 0] := g8
    rw [h7] at h8
    refine TO.reenv (D := [(19, vs 0), (20, vs 1), (21, vs 2), (22, vs 3), (23, vs 4), (24, vs 5), (25, vs 6), (26, vs 7), (27, vs 8), (5, vs 9)]) rfl ?_
    refine TO.reheap (H := [(some b1, .cells #[.int .i64 (m : Int), .int .i64 nS, .int .i64 nT, .slice base n c] 24 (0, 0)), (some b2, .cells #[.int .i64 0, .int .i64 0, .int .i64 0, .slice none 0 0, .slice none 0 0, .slice none 0 0, .slice none 0 0, .slice none 0 0, .slice none 0 0] 33 (0, 0)), (some bf, .cells (arr (intC .i64) fs []).toArray 3 (0, 0)), (some b5, .cells #[.int .i64 0, .int .i64 0, .int .i64 0, .slice none 0 0, .slice none 0 0, .slice none 0 0, .slice none 0 0, .slice none 0 0, .slice none 0 0] 33 (0, 0))]) (by show _ ++ (_ ++ (es 0 ++ (es 1 ++ (es 2 ++ (es 3 ++ (es 4 ++ (es 5 ++ (es 6 ++ (es 7 ++ (es 8 ++ (es 9 ++ ([])))))))))))) = _; rw [e0, e1, e2, e3, e4, e5, e6, e7, e8, e9]; rfl) ?_
    rw [h0, h1, h2, h3, h4, h5, h6, h7, h8, h9]
    clear g8 h0 e0 h1 e1 h2 e2 h3 e3 h4 e4 h5 e5 h6 e6 h7 e7 h8 e8 h9 e9
    refine TO.storeA rfl rfl rfl rfl (by repeat (first | exact Take.head _ _ | apply Take.tail)) TyMake.n33 rfl rfl rfl ?_
    refine TO.done ?_
    refine X.seq_normal ?_
    refine T.seq ?_
    refine T.regionL (ll := [0, 1, 2, 3, 4, 5, 6]) rfl ?_
    first | refine TO.fieldAddr0 rfl rfl rfl rfl TyMake.f33_3 ?_ | refine TO.fieldAddr rfl rfl rfl rfl TyMake.f33_3 ?_
    first | refine TO.load1 rfl rfl rfl rfl Ty.s30 (by repeat (first | exact List.Mem.head _ | apply List.Mem.tail)) rfl ?_ | refine TO.loadH rfl rfl rfl rfl Ty.s30 (by assumption) rfl rfl ?_
    first | refine TO.fieldAddr0 rfl rfl rfl rfl Ty.f24_0 ?_ | refine TO.fieldAddr rfl rfl rfl rfl Ty.f24_0 ?_
    first | refine TO.load1 rfl rfl rfl rfl Ty.s3 (by repeat (first | exact List.Mem.head _ | apply List.Mem.tail)) rfl ?_ | refine TO.loadH rfl rfl rfl rfl Ty.s3 (by assumption) rfl rfl ?_
    first | refine TO.index1N rfl rfl rfl rfl rfl Ty.l30 Ty.n3 (by omega) ?_ | refine TO.index1 rfl rfl rfl rfl rfl Ty.l30 Ty.n3 (by omega) (by omega) ?_ | refine TO.indexRN rfl rfl rfl rfl rfl Ty.l30 Ty.n3 (RO.nil (by assumption)) (by omega) ?_ | refine TO.indexR rfl rfl rfl rfl rfl Ty.l30 Ty.n3 (RO.nil (by assumption)) (by omega) (by omega) ?_
    first | refine TO.ldIr rfl rfl rfl rfl Ty.s3 (by assumption) rfl (by first | omega | (simp only [List.length_set, List.length_replicate]; omega)) ?_ | refine TO.ldI rfl rfl rfl rfl Ty.s3 (by repeat (first | exact List.Mem.head _ | apply List.Mem.tail)) (by first | omega | (simp only [List.length_set, List.length_replicate]; omega)) ?_
    rw [hfs m (Nat.le_refl _)]
    refine TO.assign rfl rfl rfl rfl ?_
    refine TO.done ?_
    refine X.seq_normal ?_
    refine T.seq ?_
    apply T.drawL [⟨[], false, relV _⟩, ⟨[0], false, fun _ v e => ∃ b, v = .slice (some ⟨b, 0, none⟩) (begins al m) (begins al m) ∧ e = [(some b, .cells (arr (intC .i64) (List.replicate (begins al m) 0) []).toArray 3 (0, 0))]⟩, ⟨[], false, relV _⟩, ⟨[2], false, fun _ v e => ∃ b, v = .slice (some ⟨b, 0, none⟩) (begins al m) (begins al m) ∧ e = [(some b, .cells (arr (intC .i64) (List.replicate (begins al m) 0) []).toArray 3 (0, 0))]⟩, ⟨[], false, relV _⟩, ⟨[4], false, fun _ v e => ∃ b, v = .slice (some ⟨b, 0, none⟩) (begins al m) (begins al m) ∧ e = [(some b, .cells (arr (intC .i64) (List.replicate (begins al m) 0) []).toArray 2 (0, 0))]⟩, ⟨[], false, relV _⟩, ⟨[6], false, fun _ v e => ∃ b, v = .slice (some ⟨b, 0, none⟩) (begins al m) (begins al m) ∧ e = [(some b, .cells (arr (intC .i64) (List.replicate (begins al m) 0) []).toArray 3 (0, 0))]⟩, ⟨[], false, relV _⟩, ⟨[8], false, fun _ v e => ∃ b, v = .slice (some ⟨b, 0, none⟩) (begins al m) (begins al m) ∧ e = [(some b, .cells (arr boolC (List.replicate (begins al m) false) []).toArray 4 (0, 0))]⟩, ⟨[], false, relV _⟩, ⟨[10, 1], true, relN⟩, ⟨[], false, relV _⟩, ⟨[12, 3], true, relN⟩, ⟨[], false, relV _⟩, ⟨[14, 5], true, relN⟩, ⟨[], false, relV _⟩, ⟨[16, 7], true, relN⟩] [34, 35, 36, 37, 38, 39, 40, 41, 42, 43, 44, 45, 46, 47] 18 (HRv [fun vl => [(some b5, .cells #[.int .i64 (m : Int), .int .i64 nS, .int .i64 nT, .slice (some ⟨bf, 0, none⟩) (m + 1) (m + 1), .slice none 0 0, .slice none 0 0, .slice none 0 0, .slice none 0 0, .slice none 0 0] 33 (0, 0))], fun vl => [(some b5, .cells #[.int .i64 (m : Int), .int .i64 nS, .int .i64 nT, .slice (some ⟨bf, 0, none⟩) (m + 1) (m + 1), (vl.getD 0 undef), .slice none 0 0, .slice none 0 0, .slice none 0 0, .slice none 0 0] 33 (0, 0))], fun vl => [(some b5, .cells #[.int .i64 (m : Int), .int .i64 nS, .int .i64 nT, .slice (some ⟨bf, 0, none⟩) (m + 1) (m + 1), (vl.getD 0 undef), (vl.getD 1 undef), .slice none 0 0, .slice none 0 0, .slice none 0 0] 33 (0, 0))], fun vl => [(some b5, .cells #[.int .i64 (m : Int), .int .i64 nS, .int .i64 nT, .slice (some ⟨bf, 0, none⟩) (m + 1) (m + 1), (vl.getD 0 undef), (vl.getD 1 undef), (vl.getD 2 undef), .slice none 0 0, .slice none 0 0] 33 (0, 0))], fun vl => [(some b5, .cells #[.int .i64 (m : Int), .int .i64 nS, .int .i64 nT, .slice (some ⟨bf, 0, none⟩) (m + 1) (m + 1), (vl.getD 0 undef), (vl.getD 1 undef), (vl.getD 2 undef), (vl.getD 3 undef), .slice none 0 0] 33 (0, 0))]]) [[], [1], [1, 3], [1, 3, 5], [1, 3, 5, 7]] [(some b5, .cells #[.int .i64 (m : Int), .int .i64 nS, .int .i64 nT, .slice (some ⟨bf, 0, none⟩) (m + 1) (m + 1), .slice none 0 0, .slice none 0 0, .slice none 0 0, .slice none 0 0, .slice none 0 0] 33 (0, 0))] [(some bf, .cells (arr (intC .i64) fs []).toArray 3 (0, 0)), (some b1, .cells #[.int .i64 (m : Int), .int .i64 nS, .int .i64 nT, .slice base n c] 24 (0, 0)), (some b2, .cells #[.int .i64 0, .int .i64 0, .int .i64 0, .slice none 0 0, .slice none 0 0, .slice none 0 0, .slice none 0 0, .slice none 0 0, .slice none 0 0] 33 (0, 0))]
    · exact mixed
    · exact rfl
    · kernel_rfl
    · kernel_rfl
    · kernel_rfl
    · exact rfl
    · exact rfl
    · exact rfl
    · exact rfl
    · exact (by repeat (first | exact Pick.refl _ | exact Pick.nil | apply Pick.none | refine Pick.cons (by repeat (first | exact Take.head _ _ | apply Take.tail)) ?_))
    · refine ⟨?_, ?_, ?_, ?_, ?_, ?_, ?_, ?_, ?_, ?_, ?_, ?_, ?_, ?_, ?_, ?_, ?_, ?_, trivial⟩
      · rintro vs es Es Hx -
        refine TO.reenv (D := []) rfl ?_
        refine TO.move rfl rfl rfl rfl ?_
        refine TO.done ?_; exact X.obQ rfl ⟨rfl, rfl⟩ (Pick.refl _) rfl
      · rintro vs es Es Hx ⟨⟨h0, -⟩, -⟩
        refine TO.reenv (D := [(34, vs 0)]) rfl ?_; rw [h0]
        refine TO.makeI rfl rfl rfl rfl rfl Ty.l30 Ty.n3 Ty.z3 Ty.b3 (by omega) (by omega) (by omega) ?_; intro b35
        refine TO.done ?_; exact X.obQ rfl ⟨b35, rfl, rfl⟩ (by repeat (first | exact Pick.refl _ | exact Pick.nil | apply Pick.none | refine Pick.cons (by repeat (first | exact Take.head _ _ | apply Take.tail)) ?_)) (by show [(34, vs 0)] = _; rw [h0])
      · rintro vs es Es Hx -
        refine TO.reenv (D := []) rfl ?_
        refine TO.move rfl rfl rfl rfl ?_
        refine TO.done ?_; exact X.obQ rfl ⟨rfl, rfl⟩ (Pick.refl _) rfl
      · rintro vs es Es Hx ⟨⟨h2, -⟩, -⟩
        refine TO.reenv (D := [(36, vs 2)]) rfl ?_; rw [h2]
        refine TO.makeI rfl rfl rfl rfl rfl Ty.l30 Ty.n3 Ty.z3 Ty.b3 (by omega) (by omega) (by omega) ?_; intro b37
        refine TO.done ?_; exact X.obQ rfl ⟨b37, rfl, rfl⟩ (by repeat (first | exact Pick.refl _ | exact Pick.nil | apply Pick.none | refine Pick.cons (by repeat (first | exact Take.head _ _ | apply Take.tail)) ?_)) (by show [(36, vs 2)] = _; rw [h2])
      · rintro vs es Es Hx -
        refine TO.reenv (D := []) rfl ?_
        refine TO.move rfl rfl rfl rfl ?_
        refine TO.done ?_; exact X.obQ rfl ⟨rfl, rfl⟩ (Pick.refl _) rfl
      · rintro vs es Es Hx ⟨⟨h4, -⟩, -⟩
        refine TO.reenv (D := [(38, vs 4)]) rfl ?_; rw [h4]
        refine TO.makeI rfl rfl rfl rfl rfl Ty.l25 Ty.n2 Ty.z2 Ty.b2 (by omega) (by omega) (by omega) ?_; intro b39
        refine TO.done ?_; exact X.obQ rfl ⟨b39, rfl, rfl⟩ (by repeat (first | exact Pick.refl _ | exact Pick.nil | apply Pick.none | refine Pick.cons (by repeat (first | exact Take.head _ _ | apply Take.tail)) ?_)) (by show [(38, vs 4)] = _; rw [h4])
      · rintro vs es Es Hx -
        refine TO.reenv (D := []) rfl ?_
        refine TO.move rfl rfl rfl rfl ?_
        refine TO.done ?_; exact X.obQ rfl ⟨rfl, rfl⟩ (Pick.refl _) rfl
      · rintro vs es Es Hx ⟨⟨h6, -⟩, -⟩
        refine TO.reenv (D := [(40, vs 6)]) rfl ?_; rw [h6]
        refine TO.makeI rfl rfl rfl rfl rfl Ty.l30 Ty.n3 Ty.z3 Ty.b3 (by omega) (by omega) (by omega) ?_; intro b41
        refine TO.done ?_; exact X.obQ rfl ⟨b41, rfl, rfl⟩ (by repeat (first | exact Pick.refl _ | exact Pick.nil | apply Pick.none | refine Pick.cons (by repeat (first | exact Take.head _ _ | apply Take.tail)) ?_)) (by show [(40, vs 6)] = _; rw [h6])
      · rintro vs es Es Hx -
        refine TO.reenv (D := []) rfl ?_
        refine TO.move rfl rfl rfl rfl ?_
        refine TO.done ?_; exact X.obQ rfl ⟨rfl, rfl⟩ (Pick.refl _) rfl
      · rintro vs es Es Hx ⟨⟨h8, -⟩, -⟩
        refine TO.reenv (D := [(42, vs 8)]) rfl ?_; rw [h8]
        refine TO.makeB rfl rfl rfl rfl rfl Ty.l31 Ty.n4 TyMake.z4 TyMake.b4 (by omega) (by omega) (by omega) ?_; intro b43
        refine TO.done ?_; exact X.obQ rfl ⟨b43, rfl, rfl⟩ (by repeat (first | exact Pick.refl _ | exact Pick.nil | apply Pick.none | refine Pick.cons (by repeat (first | exact Take.head _ _ | apply Take.tail)) ?_)) (by show [(42, vs 8)] = _; rw [h8])
      · rintro vs es Es Hx -
        refine TO.reenv (D := []) rfl ?_
        first | refine TO.fieldAddr0 rfl rfl rfl rfl Ty.f33_4 ?_ | refine TO.fieldAddr rfl rfl rfl rfl Ty.f33_4 ?_
        refine TO.done ?_; exact X.obQ rfl ⟨rfl, rfl⟩ (Pick.refl _) rfl
      · rintro vs es Es Hx hb ⟨⟨h10, -⟩, ⟨bh, h1, e1⟩, -⟩ hHR
        obtain rfl : hb = [(some b5, .cells #[.int .i64 (m : Int), .int .i64 nS, .int .i64 nT, .slice (some ⟨bf, 0, none⟩) (m + 1) (m + 1), .slice none 0 0, .slice none 0 0, .slice none 0 0, .slice none 0 0, .slice none 0 0] 33 (0, 0))] := hHR
        refine TO.reenv (D := [(44, vs 10), (35, vs 1)]) rfl ?_; rw [h10, h1]
        refine TO.store1n rfl rfl rfl rfl (by repeat (first | exact Take.head _ _ | apply Take.tail)) TyMake.n30 rfl rfl (by simp only [List.set_cons_zero, List.set_cons_succ]; rfl) ?_
        rw [← h1]
        refine TO.done ?_; exact X.obE (hb' := [(some b5, .cells #[.int .i64 (m : Int), .int .i64 nS, .int .i64 nT, .slice (some ⟨bf, 0, none⟩) (m + 1) (m + 1), (vs 1), .slice none 0 0, .slice none 0 0, .slice none 0 0, .slice none 0 0] 33 (0, 0))]) rfl rfl rfl (by repeat (first | exact Pick.refl _ | exact Pick.nil | apply Pick.none | refine Pick.cons (by repeat (first | exact Take.head _ _ | apply Take.tail)) ?_)) (by show [(44, vs 10), (35, vs 1)] = _; rw [h10])
      · rintro vs es Es Hx -
        refine TO.reenv (D := []) rfl ?_
        first | refine TO.fieldAddr0 rfl rfl rfl rfl TyMake.f33_5 ?_ | refine TO.fieldAddr rfl rfl rfl rfl TyMake.f33_5 ?_
        refine TO.done ?_; exact X.obQ rfl ⟨rfl, rfl⟩ (Pick.refl _) rfl
      · rintro vs es Es Hx hb ⟨⟨h12, -⟩, ⟨br, h3, e3⟩, -⟩ hHR
        obtain rfl : hb = [(some b5, .cells #[.int .i64 (m : Int), .int .i64 nS, .int .i64 nT, .slice (some ⟨bf, 0, none⟩) (m + 1) (m + 1), (vs 1), .slice none 0 0, .slice none 0 0, .slice none 0 0, .slice none 0 0] 33 (0, 0))] := hHR
        refine TO.reenv (D := [(45, vs 12), (37, vs 3)]) rfl ?_; rw [h12, h3]
        refine TO.store1n rfl rfl rfl rfl (by repeat (first | exact Take.head _ _ | apply Take.tail)) TyMake.n30 rfl rfl (by simp only [List.set_cons_zero, List.set_cons_succ]; rfl) ?_
        rw [← h3]
        refine TO.done ?_; exact X.obE (hb' := [(some b5, .cells #[.int .i64 (m : Int), .int .i64 nS, .int .i64 nT, .slice (some ⟨bf, 0, none⟩) (m + 1) (m + 1), (vs 1), (vs 3), .slice none 0 0, .slice none 0 0, .slice none 0 0] 33 (0, 0))]) rfl rfl rfl (by repeat (first | exact Pick.refl _ | exact Pick.nil | apply Pick.none | refine Pick.cons (by repeat (first | exact Take.head _ _ | apply Take.tail)) ?_)) (by show [(45, vs 12), (37, vs 3)] = _; rw [h12])
      · rintro vs es Es Hx -
        refine TO.reenv (D := []) rfl ?_
        first | refine TO.fieldAddr0 rfl rfl rfl rfl Ty.f33_6 ?_ | refine TO.fieldAddr rfl rfl rfl rfl Ty.f33_6 ?_
        refine TO.done ?_; exact X.obQ rfl ⟨rfl, rfl⟩ (Pick.refl _) rfl
      · rintro vs es Es Hx hb ⟨⟨h14, -⟩, ⟨bc, h5, e5⟩, -⟩ hHR
        obtain rfl : hb = [(some b5, .cells #[.int .i64 (m : Int), .int .i64 nS, .int .i64 nT, .slice (some ⟨bf, 0, none⟩) (m + 1) (m + 1), (vs 1), (vs 3), .slice none 0 0, .slice none 0 0, .slice none 0 0] 33 (0, 0))] := hHR
        refine TO.reenv (D := [(46, vs 14), (39, vs 5)]) rfl ?_; rw [h14, h5]
        refine TO.store1n rfl rfl rfl rfl (by repeat (first | exact Take.head _ _ | apply Take.tail)) TyMake.n25 rfl rfl (by simp only [List.set_cons_zero, List.set_cons_succ]; rfl) ?_
        rw [← h5]
        refine TO.done ?_; exact X.obE (hb' := [(some b5, .cells #[.int .i64 (m : Int), .int .i64 nS, .int .i64 nT, .slice (some ⟨bf, 0, none⟩) (m + 1) (m + 1), (vs 1), (vs 3), (vs 5), .slice none 0 0, .slice none 0 0] 33 (0, 0))]) rfl rfl rfl (by repeat (first | exact Pick.refl _ | exact Pick.nil | apply Pick.none | refine Pick.cons (by repeat (first | exact Take.head _ _ | apply Take.tail)) ?_)) (by show [(46, vs 14), (39, vs 5)] = _; rw [h14])
      · rintro vs es Es Hx -
        refine TO.reenv (D := []) rfl ?_
        first | refine TO.fieldAddr0 rfl rfl rfl rfl Ty.f33_7 ?_ | refine TO.fieldAddr rfl rfl rfl rfl Ty.f33_7 ?_
        refine TO.done ?_; exact X.obQ rfl ⟨rfl, rfl⟩ (Pick.refl _) rfl
      · rintro vs es Es Hx hb ⟨⟨h16, -⟩, ⟨ba, h7, e7⟩, -⟩ hHR
        obtain rfl : hb = [(some b5, .cells #[.int .i64 (m : Int), .int .i64 nS, .int .i64 nT, .slice (some ⟨bf, 0, none⟩) (m + 1) (m + 1), (vs 1), (vs 3), (vs 5), .slice none 0 0, .slice none 0 0] 33 (0, 0))] := hHR
        refine TO.reenv (D := [(47, vs 16), (41, vs 7)]) rfl ?_; rw [h16, h7]
        refine TO.store1n rfl rfl rfl rfl (by repeat (first | exact Take.head _ _ | apply Take.tail)) TyMake.n30 rfl rfl (by simp only [List.set_cons_zero, List.set_cons_succ]; rfl) ?_
        rw [← h7]
        refine TO.done ?_; exact X.obE (hb' := [(some b5, .cells #[.int .i64 (m : Int), .int .i64 nS, .int .i64 nT, .slice (some ⟨bf, 0, none⟩) (m + 1) (m + 1), (vs 1), (vs 3), (vs 5), (vs 7), .slice none 0 0] 33 (0, 0))]) rfl rfl rfl (by repeat (first | exact Pick.refl _ | exact Pick.nil | apply Pick.none | refine Pick.cons (by repeat (first | exact Take.head _ _ | apply Take.tail)) ?_)) (by show [(47, vs 16), (41, vs 7)] = _; rw [h16])
    · rintro vs es hb ⟨⟨h0, e0⟩, ⟨bh, h1, e1⟩, ⟨h2, e2⟩, ⟨br, h3, e3⟩, ⟨h4, e4⟩, ⟨bc, h5, e5⟩, ⟨h6, e6⟩, ⟨ba, h7, e7⟩, ⟨h8, e8⟩, ⟨bb, h9, e9⟩, ⟨h10, e10⟩, e11, ⟨h12, e12⟩, e13, ⟨h14, e14⟩, e15, ⟨h16, e16⟩, e17, -⟩ hHR
      obtain rfl : hb = [(some b5, .cells #[.int .i64 (m : Int), .int .i64 nS, .int .i64 nT, .slice (some ⟨bf, 0, none⟩) (m + 1) (m + 1), (vs 1), (vs 3), (vs 5), (vs 7), .slice none 0 0] 33 (0, 0))] := hHR
      refine TO.reenv (D := [(34, vs 0), (35, vs 1), (36, vs 2), (37, vs 3), (38, vs 4), (39, vs 5), (40, vs 6), (41, vs 7), (42, vs 8), (43, vs 9), (44, vs 10), (45, vs 12), (46, vs 14), (47, vs 16)]) rfl ?_
      refine TO.reheap (H := [(some b5, .cells #[.int .i64 (m : Int), .int .i64 nS, .int .i64 nT, .slice (some ⟨bf, 0, none⟩) (m + 1) (m + 1), (vs 1), (vs 3), (vs 5), (vs 7), .slice none 0 0] 33 (0, 0)), (some bf, .cells (arr (intC .i64) fs []).toArray 3 (0, 0)), (some b1, .cells #[.int .i64 (m : Int), .int .i64 nS, .int .i64 nT, .slice base n c] 24 (0, 0)), (some b2, .cells #[.int .i64 0, .int .i64 0, .int .i64 0, .slice none 0 0, .slice none 0 0, .slice none 0 0, .slice none 0 0, .slice none 0 0, .slice none 0 0] 33 (0, 0)), (some bh, .cells (arr (intC .i64) (List.replicate (begins al m) 0) []).toArray 3 (0, 0)), (some br, .cells (arr (intC .i64) (List.replicate (begins al m) 0) []).toArray 3 (0, 0)), (some bc, .cells (arr (intC .i64) (List.replicate (begins al m) 0) []).toArray 2 (0, 0)), (some ba, .cells (arr (intC .i64) (List.replicate (begins al m) 0) []).toArray 3 (0, 0)), (some bb, .cells (arr boolC (List.replicate (begins al m) false) []).toArray 4 (0, 0))]) (by show _ ++ (_ ++ (es 0 ++ (es 1 ++ (es 2 ++ (es 3 ++ (es 4 ++ (es 5 ++ (es 6 ++ (es 7 ++ (es 8 ++ (es 9 ++ (es 10 ++ (es 11 ++ (es 12 ++ (es 13 ++ (es 14 ++ (es 15 ++ (es 16 ++ (es 17 ++ ([])))))))))))))))))))) = _; rw [e0, e1, e2, e3, e4, e5, e6, e7, e8, e9, e10, e11, e12, e13, e14, e15, e16, e17]; rfl) ?_
      rw [h0, h1, h2, h3, h4, h5, h6, h7, h8, h9, h10, h12, h14, h16]
      clear  h0 e0 h1 e1 h2 e2 h3 e3 h4 e4 h5 e5 h6 e6 h7 e7 h8 e8 h9 e9 h10 e10 e11 h12 e12 e13 h14 e14 e15 h16 e16 e17
      first | refine TO.fieldAddr0 rfl rfl rfl rfl Ty.f33_8 ?_ | refine TO.fieldAddr rfl rfl rfl rfl Ty.f33_8 ?_
      refine TO.store1n rfl rfl rfl rfl (by repeat (first | exact Take.head _ _ | apply Take.tail)) TyMake.n31 rfl rfl (by simp only [List.set_cons_zero, List.set_cons_succ]; rfl) ?_
      refine TO.done ?_
      refine X.seq_normal ?_
      refine T.seq ?_
      refine T.regionL (ll := [0, 1, 2, 3, 4]) rfl ?_
      first | refine TO.fieldAddr0 rfl rfl rfl rfl TyMake.f33_3 ?_ | refine TO.fieldAddr rfl rfl rfl rfl TyMake.f33_3 ?_
      first | refine TO.load1 rfl rfl rfl rfl Ty.s30 (by repeat (first | exact List.Mem.head _ | apply List.Mem.tail)) rfl ?_ | refine TO.loadH rfl rfl rfl rfl Ty.s30 (by assumption) rfl rfl ?_
      refine TO.call rfl rfl rfl TyMake.c54 rfl (fun wc hwc => c_cloneI fs _ _ _ wc (hwc.roS (by intro _; rfl) (by repeat (first | exact List.Mem.head _ | apply List.Mem.tail)) hfl) (by omega)) ?_
      rintro _ _ ⟨ob, cl, jl, rfl, rfl, hcl, hjl, hol⟩
      obtain ⟨bn, rfl⟩ : ∃ b, ob = some b := by
        cases ob with
        | none => exact absurd (hol rfl) (by omega)
        | some b => exact ⟨b, rfl⟩
      refine TO.alloc rfl rfl rfl TyMake.z30 ?_; intro b7
      refine TO.store1n rfl rfl rfl rfl (by repeat (first | exact Take.head _ _ | apply Take.tail)) TyMake.n30 rfl rfl (by simp only [List.set_cons_zero, List.set_cons_succ]; rfl) ?_
      refine TO.done ?_
      refine X.seq_normal ?_
      refine T.seq ?_
      refine T.regionL (ll := [0, 1]) rfl ?_
      refine TO.makeFunc rfl rfl rfl rfl rfl ?_
      refine TO.assign rfl rfl rfl rfl ?_
      refine TO.done ?_
      refine X.seq_normal ?_
      refine T.seq ?_
      refine T.seq ?_
      refine T.regionL (ll := [0, 1, 2, 3]) rfl ?_
      first | refine TO.fieldAddr0 rfl rfl rfl rfl Ty.f24_3 ?_ | refine TO.fieldAddr rfl rfl rfl rfl Ty.f24_3 ?_
      first | refine TO.load1 rfl rfl rfl rfl Ty.s22 (by repeat (first | exact List.Mem.head _ | apply List.Mem.tail)) rfl ?_ | refine TO.loadH rfl rfl rfl rfl Ty.s22 (by assumption) rfl rfl ?_
      refine TO.len rfl rfl rfl rfl rfl Ty.l22 ?_
      refine TO.move rfl rfl rfl rfl ?_
      refine TO.done ?_
      refine X.seq_normal ?_
      refine T.block ?_
      refine T.loop7 (fun (k : Nat) (nx : List Int) (hs : List Int) (rs : List Int) (cs : List Int) (aa : List Int) (bs : List Bool) => k ≤ n ∧ MakeAt al m k nx hs rs cs aa bs) (fun (k : Nat) (nx : List Int) (hs : List Int) (rs : List Int) (cs : List Int) (aa : List Int) (bs : List Bool) => [(56, .int .i64 k)]) [9, 10, 11, 12, 56, 57, 58, 59, 60, 61, 62, 63, 64, 65, 66, 67, 68, 69, 70, 71, 72, 73, 74, 75, 76, 77, 78, 79, 80, 81, 82, 83, 84, 85, 86, 87, 88, 89, 90, 91, 92] (fun (k : Nat) (nx : List Int) (hs : List Int) (rs : List Int) (cs : List Int) (aa : List Int) (bs : List Bool) => [(some b5, .cells #[.int .i64 (m : Int), .int .i64 nS, .int .i64 nT, .slice (some ⟨bf, 0, none⟩) (m + 1) (m + 1), .slice (some ⟨bh, 0, none⟩) (begins al m) (begins al m), .slice (some ⟨br, 0, none⟩) (begins al m) (begins al m), .slice (some ⟨bc, 0, none⟩) (begins al m) (begins al m), .slice (some ⟨ba, 0, none⟩) (begins al m) (begins al m), .slice (some ⟨bb, 0, none⟩) (begins al m) (begins al m)] 33 (0, 0)), (some bf, .cells (arr (intC .i64) fs []).toArray 3 (0, 0)), (some b7, .cells #[.slice (some ⟨bn, 0, none⟩) (m + 1) cl] 30 (0, 0)), (some b1, .cells #[.int .i64 (m : Int), .int .i64 nS, .int .i64 nT, .slice base n c] 24 (0, 0)), (some b2, .cells #[.int .i64 0, .int .i64 0, .int .i64 0, .slice none 0 0, .slice none 0 0, .slice none 0 0, .slice none 0 0, .slice none 0 0, .slice none 0 0] 33 (0, 0)), (some bn, .cells (arr (intC .i64) nx jl).toArray 3 (0, 0)), (some bh, .cells (arr (intC .i64) hs []).toArray 3 (0, 0)), (some br, .cells (arr (intC .i64) rs []).toArray 3 (0, 0)), (some bc, .cells (arr (intC .i64) cs []).toArray 2 (0, 0)), (some ba, .cells (arr (intC .i64) aa []).toArray 3 (0, 0)), (some bb, .cells (arr boolC bs []).toArray 4 (0, 0))]) (fun (k : Nat) (nx : List Int) (hs : List Int) (rs : List Int) (cs : List Int) (aa : List Int) (bs : List Bool) => n - k) 0 fs (List.replicate (begins al m) 0) (List.replicate (begins al m) 0) (List.replicate (begins al m) 0) (List.replicate (begins al m) 0) (List.replicate (begins al m) false) ⟨by omega, MakeAt.start hfl hfs⟩ (by repeat (first | exact trivial | refine ⟨rfl, ?_⟩)) (by repeat (first | exact Pick.nil | apply Pick.none | refine Pick.cons (by repeat (first | exact Take.head _ _ | apply Take.tail)) ?_)) ?_
      rintro k nx hs rs cs aa bs ⟨hk, hA⟩
      refine T.seq ?_
      refine T.regionL (ll := [0]) rfl ?_
      refine TO.bin rfl rfl rfl rfl rfl rfl ?_
      refine TO.done ?_
      refine X.seq_normal ?_
      refine T.seq ?_
      first | refine T.condP rfl (fun h0 => ?_) (fun h0 => ?_) | refine T.cond rfl (fun h0 => ?_) (fun h0 => ?_)
      ·
        have hkl : k < al.length := by rw [ha.len]; omega
        have e0 := he k hkl false
        have e1 := he k hkl true
        have hp0 := hA.at he hkl false
        have hq1 := hA.at he hkl true
        simp only [vtx, Bool.false_eq_true, if_false, if_true] at e0 e1 hp0 hq1
        refine T.skip ?_
        refine X.seq_normal ?_
        refine T.seq ?_
        refine T.block ?_
        refine T.seq ?_
        refine T.regionL (ll := [0, 1, 2, 3, 4, 5]) rfl ?_
        refine TO.move rfl rfl rfl rfl ?_
        first | refine TO.index0N rfl rfl rfl rfl rfl Ty.l22 Ty.n28 (by omega) ?_ | refine TO.index0 rfl rfl rfl rfl rfl Ty.l22 Ty.n28 (by omega) (by omega) ?_ | refine TO.indexRN rfl rfl rfl rfl rfl Ty.l22 Ty.n28 (RO.nil (by assumption)) (by omega) ?_ | refine TO.indexR rfl rfl rfl rfl rfl Ty.l22 Ty.n28 (RO.nil (by assumption)) (by omega) (by omega) ?_
        first | refine TO.ldSr default rfl rfl rfl rfl Ty.a28 (by assumption) rfl (by first | omega | (simp only [List.length_set, List.length_replicate]; omega)) ?_ | refine TO.ldS default (fun _ => rfl) rfl rfl rfl rfl Ty.a28 (by repeat (first | exact List.Mem.head _ | apply List.Mem.tail)) (by first | omega | (simp only [List.length_set, List.length_replicate]; omega)) ?_
        refine TO.allocA rfl rfl rfl Ty.z28 ?_; intro b10
        refine TO.assign rfl rfl rfl rfl ?_
        refine TO.storeA rfl rfl rfl rfl (by repeat (first | exact Take.head _ _ | apply Take.tail)) Ty.n28 rfl rfl rfl ?_
        refine TO.done ?_
        refine X.seq_normal ?_
        refine T.seq ?_
        refine T.seq ?_
        refine T.regionL (ll := [0, 1, 2, 3, 4]) rfl ?_
        first | refine TO.fieldAddr0 rfl rfl rfl rfl Ty.f28_0 ?_ | refine TO.fieldAddr rfl rfl rfl rfl Ty.f28_0 ?_
        first | refine TO.load1 rfl rfl rfl rfl Ty.s3 (by repeat (first | exact List.Mem.head _ | apply List.Mem.tail)) rfl ?_ | refine TO.loadH rfl rfl rfl rfl Ty.s3 (by assumption) rfl rfl ?_
        first | refine TO.fieldAddr0 rfl rfl rfl rfl Ty.f28_1 ?_ | refine TO.fieldAddr rfl rfl rfl rfl Ty.f28_1 ?_
        first | refine TO.load1 rfl rfl rfl rfl Ty.s3 (by repeat (first | exact List.Mem.head _ | apply List.Mem.tail)) rfl ?_ | refine TO.loadH rfl rfl rfl rfl Ty.s3 (by assumption) rfl rfl ?_
        refine TO.bin rfl rfl rfl rfl rfl rfl ?_
        refine TO.done ?_
        refine X.seq_normal ?_
        first | refine T.condP rfl (fun h1 => ?_) (fun h1 => ?_) | refine T.cond rfl (fun h1 => ?_) (fun h1 => ?_)
        ·
          refine T.exit ?_
          refine X.then_exit ?_
          refine X.block_here ?_
          refine X.seq_normal ?_
          refine T.regionL (ll := [0, 1]) rfl ?_
          refine TO.add rfl rfl rfl rfl rfl (by omega) (by omega) ?_
          refine TO.move rfl rfl rfl rfl ?_
          refine TO.done ?_
          refine X.again7 (k + 1) _ _ _ _ _ _ ⟨by omega, ?_⟩ (by omega) (by repeat (first | exact trivial | refine ⟨rfl, ?_⟩)) (by repeat (first | exact trivial | refine ⟨rfl, ?_⟩)) (by repeat (first | exact Pick.nil | apply Pick.none | refine Pick.cons (by repeat (first | exact Take.head _ _ | apply Take.tail)) ?_))
          first | exact hA.skip h1 | exact hA.put he hkl h1
        ·
          have hp : pos al k false < begins al m := pos_lt hkl h1 he
          have hq : pos al k true < begins al m := pos_lt hkl h1 he
          have hq0 : (nx.set (al.getD k default).fr.toNat (((pos al k false) : Nat) + 1)).getD (al.getD k default).to.toNat 0 = (pos al k true : Nat) := by rw [lset_ne (by omega)]; exact hq1
          have hrl := hA.1.2.2.1
          refine T.skip ?_
          refine X.seq_normal ?_
          refine T.seq ?_
          refine T.regionL (ll := [0, 1, 2, 3, 4, 5, 6, 7, 8, 9]) rfl ?_
          refine TO.move rfl rfl rfl rfl ?_
          first | refine TO.fieldAddr0 rfl rfl rfl rfl Ty.f28_0 ?_ | refine TO.fieldAddr rfl rfl rfl rfl Ty.f28_0 ?_
          first | refine TO.load1 rfl rfl rfl rfl Ty.s3 (by repeat (first | exact List.Mem.head _ | apply List.Mem.tail)) rfl ?_ | refine TO.loadH rfl rfl rfl rfl Ty.s3 (by assumption) rfl rfl ?_
          first | refine TO.fieldAddr0 rfl rfl rfl rfl Ty.f28_1 ?_ | refine TO.fieldAddr rfl rfl rfl rfl Ty.f28_1 ?_
          first | refine TO.load1 rfl rfl rfl rfl Ty.s3 (by repeat (first | exact List.Mem.head _ | apply List.Mem.tail)) rfl ?_ | refine TO.loadH rfl rfl rfl rfl Ty.s3 (by assumption) rfl rfl ?_
          first | refine TO.fieldAddr0 rfl rfl rfl rfl Ty.f28_2 ?_ | refine TO.fieldAddr rfl rfl rfl rfl Ty.f28_2 ?_
          first | refine TO.load1 rfl rfl rfl rfl Ty.s2 (by repeat (first | exact List.Mem.head _ | apply List.Mem.tail)) rfl ?_ | refine TO.loadH rfl rfl rfl rfl Ty.s2 (by assumption) rfl rfl ?_
          refine TO.move rfl rfl rfl rfl ?_
          refine TO.callVM rfl rfl rfl TyMake.c55 rfl rfl (Hm := [(some b7, .cells #[.slice (some ⟨bn, 0, none⟩) (m + 1) cl] 30 (0, 0)), (some b5, .cells #[.int .i64 (m : Int), .int .i64 nS, .int .i64 nT, .slice (some ⟨bf, 0, none⟩) (m + 1) (m + 1), .slice (some ⟨bh, 0, none⟩) (begins al m) (begins al m), .slice (some ⟨br, 0, none⟩) (begins al m) (begins al m), .slice (some ⟨bc, 0, none⟩) (begins al m) (begins al m), .slice (some ⟨ba, 0, none⟩) (begins al m) (begins al m), .slice (some ⟨bb, 0, none⟩) (begins al m) (begins al m)] 33 (0, 0)), (some bn, .cells (arr (intC .i64) nx jl).toArray 3 (0, 0)), (some bh, .cells (arr (intC .i64) hs []).toArray 3 (0, 0)), (some bc, .cells (arr (intC .i64) cs []).toArray 2 (0, 0)), (some ba, .cells (arr (intC .i64) aa []).toArray 3 (0, 0)), (some bb, .cells (arr boolC bs []).toArray 4 (0, 0))]) (by repeat (first | exact List.Perm.refl _ | (apply Take.gone; case h => repeat (first | exact Take.head _ _ | apply Take.tail)))) (fun _ h => h) (fun wc hwc => c_put _ _ _ _ _ _ _ _ _ _ _ _ _ _ _ _ _ _ _ _ _ _ _ _ _ _ _ _ _ _ _ wc (hwc.self (Hm := [(some b7, .cells #[.slice (some ⟨bn, 0, none⟩) (m + 1) cl] 30 (0, 0)), (some b5, .cells #[.int .i64 (m : Int), .int .i64 nS, .int .i64 nT, .slice (some ⟨bf, 0, none⟩) (m + 1) (m + 1), .slice (some ⟨bh, 0, none⟩) (begins al m) (begins al m), .slice (some ⟨br, 0, none⟩) (begins al m) (begins al m), .slice (some ⟨bc, 0, none⟩) (begins al m) (begins al m), .slice (some ⟨ba, 0, none⟩) (begins al m) (begins al m), .slice (some ⟨bb, 0, none⟩) (begins al m) (begins al m)] 33 (0, 0)), (some bn, .cells (arr (intC .i64) nx jl).toArray 3 (0, 0)), (some bh, .cells (arr (intC .i64) hs []).toArray 3 (0, 0)), (some bc, .cells (arr (intC .i64) cs []).toArray 2 (0, 0)), (some ba, .cells (arr (intC .i64) aa []).toArray 3 (0, 0)), (some bb, .cells (arr boolC bs []).toArray 4 (0, 0))]) (by repeat (first | exact Pick.nil | apply Pick.none | refine Pick.cons (by repeat (first | exact Take.head _ _ | apply Take.tail)) ?_)) rfl) (hA.1.1) hA.1.2.1 hA.1.2.2.2.1 hA.1.2.2.2.2.1 hA.1.2.2.2.2.2 e0.1 (by omega) (by rw [hp0]; omega) (by rw [hp0]; omega) (by omega)) ?_
          rintro _ _ ⟨rfl, rfl⟩
          rw [hp0, Int.toNat_natCast]
          refine TO.assign rfl rfl rfl rfl ?_
          refine TO.done ?_
          refine X.seq_normal ?_
          refine T.seq ?_
          refine T.regionL (ll := [0, 1, 2, 3, 4, 5, 6, 7]) rfl ?_
          refine TO.move rfl rfl rfl rfl ?_
          first | refine TO.fieldAddr0 rfl rfl rfl rfl Ty.f28_1 ?_ | refine TO.fieldAddr rfl rfl rfl rfl Ty.f28_1 ?_
          first | refine TO.load1 rfl rfl rfl rfl Ty.s3 (by repeat (first | exact List.Mem.head _ | apply List.Mem.tail)) rfl ?_ | refine TO.loadH rfl rfl rfl rfl Ty.s3 (by assumption) rfl rfl ?_
          first | refine TO.fieldAddr0 rfl rfl rfl rfl Ty.f28_0 ?_ | refine TO.fieldAddr rfl rfl rfl rfl Ty.f28_0 ?_
          first | refine TO.load1 rfl rfl rfl rfl Ty.s3 (by repeat (first | exact List.Mem.head _ | apply List.Mem.tail)) rfl ?_ | refine TO.loadH rfl rfl rfl rfl Ty.s3 (by assumption) rfl rfl ?_
          refine TO.move rfl rfl rfl rfl ?_
          refine TO.callVM rfl rfl rfl TyMake.c55 rfl rfl (Hm := [(some b7, .cells #[.slice (some ⟨bn, 0, none⟩) (m + 1) cl] 30 (0, 0)), (some b5, .cells #[.int .i64 (m : Int), .int .i64 nS, .int .i64 nT, .slice (some ⟨bf, 0, none⟩) (m + 1) (m + 1), .slice (some ⟨bh, 0, none⟩) (begins al m) (begins al m), .slice (some ⟨br, 0, none⟩) (begins al m) (begins al m), .slice (some ⟨bc, 0, none⟩) (begins al m) (begins al m), .slice (some ⟨ba, 0, none⟩) (begins al m) (begins al m), .slice (some ⟨bb, 0, none⟩) (begins al m) (begins al m)] 33 (0, 0)), (some bn, .cells (arr (intC .i64) (nx.set (al.getD k default).fr.toNat (((pos al k false) : Nat) + 1)) jl).toArray 3 (0, 0)), (some bh, .cells (arr (intC .i64) (hs.set (pos al k false) (al.getD k default).to) []).toArray 3 (0, 0)), (some bc, .cells (arr (intC .i64) (cs.set (pos al k false) (al.getD k default).cap) []).toArray 2 (0, 0)), (some ba, .cells (arr (intC .i64) (aa.set (pos al k false) (k : Int)) []).toArray 3 (0, 0)), (some bb, .cells (arr boolC (bs.set (pos al k false) false) []).toArray 4 (0, 0))]) (by repeat (first | exact List.Perm.refl _ | (apply Take.gone; case h => repeat (first | exact Take.head _ _ | apply Take.tail)))) (fun _ h => h) (fun wc hwc => c_put _ _ _ _ _ _ _ _ _ _ _ _ _ _ _ _ _ _ _ _ _ _ _ _ _ _ _ _ _ _ _ wc (hwc.self (Hm := [(some b7, .cells #[.slice (some ⟨bn, 0, none⟩) (m + 1) cl] 30 (0, 0)), (some b5, .cells #[.int .i64 (m : Int), .int .i64 nS, .int .i64 nT, .slice (some ⟨bf, 0, none⟩) (m + 1) (m + 1), .slice (some ⟨bh, 0, none⟩) (begins al m) (begins al m), .slice (some ⟨br, 0, none⟩) (begins al m) (begins al m), .slice (some ⟨bc, 0, none⟩) (begins al m) (begins al m), .slice (some ⟨ba, 0, none⟩) (begins al m) (begins al m), .slice (some ⟨bb, 0, none⟩) (begins al m) (begins al m)] 33 (0, 0)), (some bn, .cells (arr (intC .i64) (nx.set (al.getD k default).fr.toNat (((pos al k false) : Nat) + 1)) jl).toArray 3 (0, 0)), (some bh, .cells (arr (intC .i64) (hs.set (pos al k false) (al.getD k default).to) []).toArray 3 (0, 0)), (some bc, .cells (arr (intC .i64) (cs.set (pos al k false) (al.getD k default).cap) []).toArray 2 (0, 0)), (some ba, .cells (arr (intC .i64) (aa.set (pos al k false) (k : Int)) []).toArray 3 (0, 0)), (some bb, .cells (arr boolC (bs.set (pos al k false) false) []).toArray 4 (0, 0))]) (by repeat (first | exact Pick.nil | apply Pick.none | refine Pick.cons (by repeat (first | exact Take.head _ _ | apply Take.tail)) ?_)) rfl) (by simpa using hA.1.1) (by simpa using hA.1.2.1) (by simpa using hA.1.2.2.2.1) (by simpa using hA.1.2.2.2.2.1) (by simpa using hA.1.2.2.2.2.2) e1.1 (by omega) (by rw [hq0]; omega) (by rw [hq0]; omega) (by omega)) ?_
          rintro _ _ ⟨rfl, rfl⟩
          rw [hq0, Int.toNat_natCast]
          refine TO.assign rfl rfl rfl rfl ?_
          refine TO.done ?_
          refine X.seq_normal ?_
          apply T.drawL [⟨[], false, relV _⟩, ⟨[0], false, relV _⟩, ⟨[], false, relV _⟩, ⟨[], false, relV _⟩, ⟨[3], false, relV _⟩, ⟨[], false, relV _⟩, ⟨[], false, relV _⟩, ⟨[], false, relV _⟩, ⟨[1, 2], false, relV _⟩, ⟨[8, 6], true, relN⟩] [82, 83, 84, 85, 86, 87, 88, 89, 90] 10 (HRk [[(some br, .cells (arr (intC .i64) rs []).toArray 3 (0, 0))], [(some br, .cells (arr (intC .i64) (rs.set (pos al k false) ((pos al k true) : Int)) []).toArray 3 (0, 0))]]) [[], []] [(some br, .cells (arr (intC .i64) rs []).toArray 3 (0, 0))] [(some b5, .cells #[.int .i64 (m : Int), .int .i64 nS, .int .i64 nT, .slice (some ⟨bf, 0, none⟩) (m + 1) (m + 1), .slice (some ⟨bh, 0, none⟩) (begins al m) (begins al m), .slice (some ⟨br, 0, none⟩) (begins al m) (begins al m), .slice (some ⟨bc, 0, none⟩) (begins al m) (begins al m), .slice (some ⟨ba, 0, none⟩) (begins al m) (begins al m), .slice (some ⟨bb, 0, none⟩) (begins al m) (begins al m)] 33 (0, 0)), (some bf, .cells (arr (intC .i64) fs []).toArray 3 (0, 0)), (some b7, .cells #[.slice (some ⟨bn, 0, none⟩) (m + 1) cl] 30 (0, 0)), (some b1, .cells #[.int .i64 (m : Int), .int .i64 nS, .int .i64 nT, .slice base n c] 24 (0, 0)), (some b2, .cells #[.int .i64 0, .int .i64 0, .int .i64 0, .slice none 0 0, .slice none 0 0, .slice none 0 0, .slice none 0 0, .slice none 0 0, .slice none 0 0] 33 (0, 0)), (some bn, .cells (arr (intC .i64) ((nx.set (al.getD k default).fr.toNat (((pos al k false) : Nat) + 1)).set (al.getD k default).to.toNat (((pos al k true) : Nat) + 1)) jl).toArray 3 (0, 0)), (some bh, .cells (arr (intC .i64) ((hs.set (pos al k false) (al.getD k default).to).set (pos al k true) (al.getD k default).fr) []).toArray 3 (0, 0)), (some bc, .cells (arr (intC .i64) ((cs.set (pos al k false) (al.getD k default).cap).set (pos al k true) 0) []).toArray 2 (0, 0)), (some ba, .cells (arr (intC .i64) ((aa.set (pos al k false) (k : Int)).set (pos al k true) (k : Int)) []).toArray 3 (0, 0)), (some bb, .cells (arr boolC ((bs.set (pos al k false) false).set (pos al k true) true) []).toArray 4 (0, 0))]
          · exact mixed
          · exact rfl
          · kernel_rfl
          · kernel_rfl
          · kernel_rfl
          · exact rfl
          · exact rfl
          · exact rfl
          · exact rfl
          · exact (by repeat (first | exact Pick.refl _ | exact Pick.nil | apply Pick.none | refine Pick.cons (by repeat (first | exact Take.head _ _ | apply Take.tail)) ?_))
          · refine ⟨?_, ?_, ?_, ?_, ?_, ?_, ?_, ?_, ?_, ?_, trivial⟩
            · rintro vs es Es Hx -
              refine TO.reenv (D := []) rfl ?_
              first | refine TO.fieldAddr0 rfl rfl rfl rfl TyMake.f33_5 ?_ | refine TO.fieldAddr rfl rfl rfl rfl TyMake.f33_5 ?_
              refine TO.done ?_; exact X.obQ rfl ⟨rfl, rfl⟩ (Pick.refl _) rfl
            · rintro vs es Es Hx ⟨⟨h0, -⟩, -⟩
              refine TO.reenv (D := [(82, vs 0)]) rfl ?_; rw [h0]
              first | refine TO.load1 rfl rfl rfl rfl Ty.s30 (by repeat (first | exact List.Mem.head _ | apply List.Mem.tail)) rfl ?_ | refine TO.loadH rfl rfl rfl rfl Ty.s30 (by assumption) rfl rfl ?_
              refine TO.done ?_; exact X.obQ rfl ⟨rfl, rfl⟩ (Pick.refl _) (by show [(82, vs 0)] = _; rw [h0])
            · rintro vs es Es Hx -
              refine TO.reenv (D := []) rfl ?_
              refine TO.move rfl rfl rfl rfl ?_
              refine TO.done ?_; exact X.obQ rfl ⟨rfl, rfl⟩ (Pick.refl _) rfl
            · rintro vs es Es Hx -
              refine TO.reenv (D := []) rfl ?_
              first | refine TO.fieldAddr0 rfl rfl rfl rfl TyMake.f33_5 ?_ | refine TO.fieldAddr rfl rfl rfl rfl TyMake.f33_5 ?_
              refine TO.done ?_; exact X.obQ rfl ⟨rfl, rfl⟩ (Pick.refl _) rfl
            · rintro vs es Es Hx ⟨⟨h3, -⟩, -⟩
              refine TO.reenv (D := [(85, vs 3)]) rfl ?_; rw [h3]
              first | refine TO.load1 rfl rfl rfl rfl Ty.s30 (by repeat (first | exact List.Mem.head _ | apply List.Mem.tail)) rfl ?_ | refine TO.loadH rfl rfl rfl rfl Ty.s30 (by assumption) rfl rfl ?_
              refine TO.done ?_; exact X.obQ rfl ⟨rfl, rfl⟩ (Pick.refl _) (by show [(85, vs 3)] = _; rw [h3])
            · rintro vs es Es Hx -
              refine TO.reenv (D := []) rfl ?_
              refine TO.move rfl rfl rfl rfl ?_
              refine TO.done ?_; exact X.obQ rfl ⟨rfl, rfl⟩ (Pick.refl _) rfl
            · rintro vs es Es Hx -
              refine TO.reenv (D := []) rfl ?_
              refine TO.move rfl rfl rfl rfl ?_
              refine TO.done ?_; exact X.obQ rfl ⟨rfl, rfl⟩ (Pick.refl _) rfl
            · rintro vs es Es Hx -
              refine TO.reenv (D := []) rfl ?_
              refine TO.move rfl rfl rfl rfl ?_
              refine TO.done ?_; exact X.obQ rfl ⟨rfl, rfl⟩ (Pick.refl _) rfl
            · rintro vs es Es Hx ⟨⟨h1, -⟩, ⟨h2, -⟩, -⟩
              refine TO.reenv (D := [(83, vs 1), (84, vs 2)]) rfl ?_; rw [h1, h2]
              first | refine TO.index1N rfl rfl rfl rfl rfl Ty.l30 Ty.n3 (by omega) ?_ | refine TO.index1 rfl rfl rfl rfl rfl Ty.l30 Ty.n3 (by omega) (by omega) ?_ | refine TO.indexRN rfl rfl rfl rfl rfl Ty.l30 Ty.n3 (RO.nil (by assumption)) (by omega) ?_ | refine TO.indexR rfl rfl rfl rfl rfl Ty.l30 Ty.n3 (RO.nil (by assumption)) (by omega) (by omega) ?_
              refine TO.done ?_; exact X.obQ rfl ⟨rfl, rfl⟩ (Pick.refl _) (by show [(83, vs 1), (84, vs 2)] = _; rw [h1, h2])
            · rintro vs es Es Hx hb ⟨⟨h8, -⟩, ⟨h6, -⟩, -⟩ hHR
              obtain rfl : hb = [(some br, .cells (arr (intC .i64) rs []).toArray 3 (0, 0))] := hHR
              refine TO.reenv (D := [(90, vs 8), (88, vs 6)]) rfl ?_; rw [h8, h6]
              refine TO.stI rfl rfl rfl rfl (by repeat (first | exact Take.head _ _ | apply Take.tail)) Ty.n3 (by first | omega | (simp only [List.length_set, List.length_replicate]; omega)) ?_
              refine TO.done ?_; exact X.obE (hb' := [(some br, .cells (arr (intC .i64) (rs.set (pos al k false) ((pos al k true) : Int)) []).toArray 3 (0, 0))]) rfl rfl rfl (by repeat (first | exact Pick.refl _ | exact Pick.nil | apply Pick.none | refine Pick.cons (by repeat (first | exact Take.head _ _ | apply Take.tail)) ?_)) (by show [(90, vs 8), (88, vs 6)] = _; rw [h8, h6])
          · rintro vs es hb ⟨⟨h0, e0⟩, ⟨h1, e1⟩, ⟨h2, e2⟩, ⟨h3, e3⟩, ⟨h4, e4⟩, ⟨h5, e5⟩, ⟨h6, e6⟩, ⟨h7, e7⟩, ⟨h8, e8⟩, e9, -⟩ hHR
            obtain rfl : hb = [(some br, .cells (arr (intC .i64) (rs.set (pos al k false) ((pos al k true) : Int)) []).toArray 3 (0, 0))] := hHR
            refine TO.reenv (D := [(82, vs 0), (83, vs 1), (84, vs 2), (85, vs 3), (86, vs 4), (87, vs 5), (88, vs 6), (89, vs 7), (90, vs 8)]) rfl ?_
            refine TO.reheap (H := [(some br, .cells (arr (intC .i64) (rs.set (pos al k false) ((pos al k true) : Int)) []).toArray 3 (0, 0)), (some b5, .cells #[.int .i64 (m : Int), .int .i64 nS, .int .i64 nT, .slice (some ⟨bf, 0, none⟩) (m + 1) (m + 1), .slice (some ⟨bh, 0, none⟩) (begins al m) (begins al m), .slice (some ⟨br, 0, none⟩) (begins al m) (begins al m), .slice (some ⟨bc, 0, none⟩) (begins al m) (begins al m), .slice (some ⟨ba, 0, none⟩) (begins al m) (begins al m), .slice (some ⟨bb, 0, none⟩) (begins al m) (begins al m)] 33 (0, 0)), (some bf, .cells (arr (intC .i64) fs []).toArray 3 (0, 0)), (some b7, .cells #[.slice (some ⟨bn, 0, none⟩) (m + 1) cl] 30 (0, 0)), (some b1, .cells #[.int .i64 (m : Int), .int .i64 nS, .int .i64 nT, .slice base n c] 24 (0, 0)), (some b2, .cells #[.int .i64 0, .int .i64 0, .int .i64 0, .slice none 0 0, .slice none 0 0, .slice none 0 0, .slice none 0 0, .slice none 0 0, .slice none 0 0] 33 (0, 0)), (some bn, .cells (arr (intC .i64) ((nx.set (al.getD k default).fr.toNat (((pos al k false) : Nat) + 1)).set (al.getD k default).to.toNat (((pos al k true) : Nat) + 1)) jl).toArray 3 (0, 0)), (some bh, .cells (arr (intC .i64) ((hs.set (pos al k false) (al.getD k default).to).set (pos al k true) (al.getD k default).fr) []).toArray 3 (0, 0)), (some bc, .cells (arr (intC .i64) ((cs.set (pos al k false) (al.getD k default).cap).set (pos al k true) 0) []).toArray 2 (0, 0)), (some ba, .cells (arr (intC .i64) ((aa.set (pos al k false) (k : Int)).set (pos al k true) (k : Int)) []).toArray 3 (0, 0)), (some bb, .cells (arr boolC ((bs.set (pos al k false) false).set (pos al k true) true) []).toArray 4 (0, 0))]) (by show _ ++ (_ ++ (es 0 ++ (es 1 ++ (es 2 ++ (es 3 ++ (es 4 ++ (es 5 ++ (es 6 ++ (es 7 ++ (es 8 ++ (es 9 ++ ([])))))))))))) = _; rw [e0, e1, e2, e3, e4, e5, e6, e7, e8, e9]; rfl) ?_
            rw [h0, h1, h2, h3, h4, h5, h6, h7, h8]
            clear  h0 e0 h1 e1 h2 e2 h3 e3 h4 e4 h5 e5 h6 e6 h7 e7 h8 e8 e9
            first | refine TO.index1N rfl rfl rfl rfl rfl Ty.l30 Ty.n3 (by omega) ?_ | refine TO.index1 rfl rfl rfl rfl rfl Ty.l30 Ty.n3 (by omega) (by omega) ?_ | refine TO.indexRN rfl rfl rfl rfl rfl Ty.l30 Ty.n3 (RO.nil (by assumption)) (by omega) ?_ | refine TO.indexR rfl rfl rfl rfl rfl Ty.l30 Ty.n3 (RO.nil (by assumption)) (by omega) (by omega) ?_
            refine TO.stI rfl rfl rfl rfl (by repeat (first | exact Take.head _ _ | apply Take.tail)) Ty.n3 (by first | omega | (simp only [List.length_set, List.length_replicate]; omega)) ?_
            refine TO.done ?_
            refine X.block_normal ?_
            refine X.seq_normal ?_
            refine T.regionL (ll := [0, 1]) rfl ?_
            refine TO.add rfl rfl rfl rfl rfl (by omega) (by omega) ?_
            refine TO.move rfl rfl rfl rfl ?_
            refine TO.done ?_
            refine X.again7 (k + 1) _ _ _ _ _ _ ⟨by omega, ?_⟩ (by omega) (by repeat (first | exact trivial | refine ⟨rfl, ?_⟩)) (by repeat (first | exact trivial | refine ⟨rfl, ?_⟩)) (by repeat (first | exact Pick.nil | apply Pick.none | refine Pick.cons (by repeat (first | exact Take.head _ _ | apply Take.tail)) ?_))
            first | exact hA.skip h1 | exact hA.put he hkl h1
      ·
        refine T.exit ?_
        refine X.then_exit ?_
        refine X.then_exit ?_
        refine X.block_here ?_
        refine X.seq_normal ?_
        refine T.seq ?_
        refine T.regionL (ll := [0, 1, 2]) rfl ?_
        first | refine TO.loadA rfl rfl rfl rfl TyMake.a33 (by repeat (first | exact List.Mem.head _ | apply List.Mem.tail)) rfl ?_ | refine TO.loadHA rfl rfl rfl rfl TyMake.a33 (by assumption) rfl rfl ?_
        refine TO.storeA rfl rfl rfl rfl (by repeat (first | exact Take.head _ _ | apply Take.tail)) TyMake.n33 rfl rfl rfl ?_
        refine TO.assign rfl rfl rfl rfl ?_
        refine TO.done ?_
        refine X.seq_normal ?_
        refine T.ret ?_
        refine X.ret2 rfl rfl rfl rfl (Res.cellA rfl TyMake.a33 (by repeat (first | exact List.Mem.head _ | apply List.Mem.tail)) rfl) (Res.tmp rfl) (N := [(some bf, .cells (arr (intC .i64) fs []).toArray 3 (0, 0)), (some bh, .cells (arr (intC .i64) hs []).toArray 3 (0, 0)), (some br, .cells (arr (intC .i64) rs []).toArray 3 (0, 0)), (some bc, .cells (arr (intC .i64) cs []).toArray 2 (0, 0)), (some ba, .cells (arr (intC .i64) aa []).toArray 3 (0, 0)), (some bb, .cells (arr boolC bs []).toArray 4 (0, 0))]) (by repeat (first | exact Pick.nil | apply Pick.none | refine Pick.cons (by repeat (first | exact Take.head _ _ | apply Take.tail)) ?_)) ⟨bf, bh, br, bc, ba, bb, fs, hs, rs, cs, aa, bs, rfl, rfl, MakeAt.done (by rw [show al.length = k by rw [ha.len]; omega]; exact hA) hfl hfs⟩
end Go.Proofs.Ytcdbemdogkmahaa.Acq
