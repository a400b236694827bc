/- Contracts: csr.Len, csr.Res. -/
import Derived.Test.YtcdbemdogkmahaaWithin
namespace Go.Proofs.Ytcdbemdogkmahaa.Acq
open Go Go.Acq Go.RowKit Go.Proofs
theorem TyRes.a33 : aggT Try.prog 33 9 = true := by kernel_rfl
theorem TyRes.c22 : callable Try.prog 22 = true := by kernel_rfl
/-- acequia/csr.Len -/
theorem c_len (v0 v1 v2 v3 v5 v6 v7 v8 : Value) (bh : Option Addr) (n c : Nat) (w : World) : Fnc Try.prog 22 #[.agg #[v0, v1, v2, v3, .slice bh n c, v5, v6, v7, v8]] w [] (fun r h => r = .int .i64 n ∧ h = []) := by
  refine Fnc.enter (vs := [.agg #[v0, v1, v2, v3, .slice bh n c, v5, v6, v7, v8]]) Try.func22 rfl rfl (Inv.refl w) ?_
  refine T.seq ?_
  refine T.regionL (ll := [0, 1]) rfl ?_
  refine TO.boxA rfl rfl rfl rfl ?_; intro b1
  refine TO.assign rfl rfl rfl rfl ?_
  refine TO.done ?_
  refine X.seq_normal ?_
  refine T.seq ?_
  refine T.regionL (ll := [0, 1, 2, 3]) rfl ?_
  first | refine TO.fieldAddr0 rfl rfl rfl rfl Ty.f33_4 ?_ | refine TO.fieldAddr rfl rfl rfl rfl Ty.f33_4 ?_
  first | refine TO.load1 rfl rfl rfl rfl Ty.s30 (by repeat (first | exact List.Mem.head _ | apply List.Mem.tail)) rfl ?_ | refine TO.loadH rfl rfl rfl rfl Ty.s30 (by assumption) rfl rfl ?_
  refine TO.len rfl rfl rfl rfl rfl Ty.l30 ?_
  refine TO.assign rfl rfl rfl rfl ?_
  refine TO.done ?_
  refine X.seq_normal ?_
  refine T.ret ?_
  refine X.ret1 rfl rfl rfl rfl (Res.tmp rfl) Pick.nil ?_
  exact ⟨rfl, rfl⟩
set_option maxHeartbeats 1000000 in
/-- acequia/csr.Res -/
theorem c_res (v0 v1 v2 v3 v5 : Value) (bh ba bb bc bf : Option Addr) (n ch cc ca cb fn cf : Nat) (cs aa fl : List Int) (bs : List Bool) (w : World) (hc : RO w (intC .i64) 1 bc n cs) (ha : RO w (intC .i64) 1 ba n aa) (hb : RO w boolC 1 bb n bs) (hf : RO w (intC .i64) 1 bf fn fl) (hn : n ≤ 67108864) (hfn : fn ≤ 4611686018427387904) (haa : ∀ j, j < n → 0 ≤ aa.getD j 0) (hcs : ∀ j, j < n → cs.getD j 0 ≤ 9223372036854775807) : Fnc Try.prog 20 #[.agg #[v0, v1, v2, v3, .slice bh n ch, v5, .slice bc n cc, .slice ba n ca, .slice bb n cb], .slice bf fn cf] w [] (fun r h => (∃ b rl, r = .tuple #[.slice (some ⟨b, 0, none⟩) n n, .int .i64 0] ∧ h = [(some b, .cells (arr (intC .i64) rl []).toArray 2 (0, 0))] ∧ ResAt aa cs bs fl n n rl) ∨ ((∃ j, j < n ∧ ¬resOK aa cs bs fl j) ∧ r = .tuple #[.slice none 0 0, .int .i64 20] ∧ h = [])) := by
  refine Fnc.enter (vs := [.agg #[v0, v1, v2, v3, .slice bh n ch, v5, .slice bc n cc, .slice ba n ca, .slice bb n cb], .slice bf fn cf]) Try.func20 rfl rfl (Inv.refl w) ?_
  refine T.seq ?_
  refine T.regionL (ll := [0, 1, 2]) rfl ?_
  refine TO.boxA rfl rfl rfl rfl ?_; intro b2
  refine TO.assign rfl rfl rfl rfl ?_
  refine TO.assign rfl rfl rfl rfl ?_
  refine TO.done ?_
  refine X.seq_normal ?_
  refine T.seq ?_
  refine T.regionL (ll := [0, 1, 2, 3]) rfl ?_
  first | refine TO.loadA rfl rfl rfl rfl TyRes.a33 (by repeat (first | exact List.Mem.head _ | apply List.Mem.tail)) rfl ?_ | refine TO.loadHA rfl rfl rfl rfl TyRes.a33 (by assumption) rfl rfl ?_
  refine TO.call rfl rfl rfl TyRes.c22 rfl (fun wc hwc => c_len _ _ _ _ _ _ _ _ _ _ _ wc) ?_
  rintro _ _ ⟨rfl, rfl⟩
  refine TO.makeI rfl rfl rfl rfl rfl Ty.l25 Ty.n2 Ty.z2 Ty.b2 (by omega) (by omega) (by omega) ?_; intro b11
  refine TO.assign rfl rfl rfl rfl ?_
  refine TO.done ?_
  refine X.seq_normal ?_
  refine T.seq ?_
  refine T.seq ?_
  refine T.regionL (ll := [0, 1, 2]) rfl ?_
  refine TO.move rfl rfl rfl rfl ?_
  refine TO.len rfl rfl rfl rfl rfl Ty.l25 ?_
  refine TO.move rfl rfl rfl rfl ?_
  refine TO.done ?_
  refine X.seq_normal ?_
  refine T.block ?_
  refine T.loop2 (fun (k : Nat) (rl : List Int) => k ≤ n ∧ ResAt aa cs bs fl n k rl) (fun (k : Nat) (rl : List Int) => [(14, .int .i64 k)]) [4, 5, 7, 8, 14, 15, 16, 17, 18, 19, 20, 21, 22, 23, 24, 25, 26, 27, 28, 29, 30, 31, 32, 33, 34, 35, 36, 37, 38, 39, 40, 41, 42, 43, 44, 45, 46, 47, 48, 49, 50, 51, 52, 53, 54, 55, 56, 57, 58, 59, 60, 61, 62, 63, 64, 65, 66, 67, 68, 69, 70, 71] (fun (k : Nat) (rl : List Int) => [(some b2, .cells #[v0, v1, v2, v3, .slice bh n ch, v5, .slice bc n cc, .slice ba n ca, .slice bb n cb] 33 (0, 0)), (some b11, .cells (arr (intC .i64) rl []).toArray 2 (0, 0))]) (fun (k : Nat) (rl : List Int) => n - k) 0 (List.replicate n 0) ⟨by omega, by simp, fun j h => by omega⟩ (by repeat (first | exact trivial | refine ⟨rfl, ?_⟩)) (by repeat (first | exact Pick.nil | apply Pick.none | refine Pick.cons (by repeat (first | exact Take.head _ _ | apply Take.tail)) ?_)) ?_
  rintro k rl ⟨hk, hr⟩
  refine T.seq ?_
  refine T.regionL (ll := [0]) rfl ?_
  refine TO.bin rfl rfl rfl rfl rfl rfl ?_
  refine TO.done ?_
  refine X.seq_normal ?_
  refine T.seq ?_
  first | refine T.condP rfl (fun h0 => ?_) (fun h0 => ?_) | refine T.cond rfl (fun h0 => ?_) (fun h0 => ?_)
  ·
    have hak := haa k (by omega)
    have hck := hcs k (by omega)
    have hfl := hf.len
    have hrl := hr.1
    refine T.skip ?_
    refine X.seq_normal ?_
    refine T.seq ?_
    refine T.block ?_
    refine T.seq ?_
    refine T.regionL (ll := [0, 1]) rfl ?_
    refine TO.move rfl rfl rfl rfl ?_
    refine TO.assign rfl rfl rfl rfl ?_
    refine TO.done ?_
    refine X.seq_normal ?_
    refine T.seq ?_
    refine T.regionL (ll := [0, 1, 2, 3, 4, 5]) rfl ?_
    first | refine TO.fieldAddr0 rfl rfl rfl rfl Ty.f33_7 ?_ | refine TO.fieldAddr rfl rfl rfl rfl Ty.f33_7 ?_
    first | refine TO.load1 rfl rfl rfl rfl Ty.s30 (by repeat (first | exact List.Mem.head _ | apply List.Mem.tail)) rfl ?_ | refine TO.loadH rfl rfl rfl rfl Ty.s30 (by assumption) rfl rfl ?_
    refine TO.move rfl rfl rfl rfl ?_
    first | refine TO.index1N rfl rfl rfl rfl rfl Ty.l30 Ty.n3 (by omega) ?_ | refine TO.index1 rfl rfl rfl rfl rfl Ty.l30 Ty.n3 (by omega) (by omega) ?_ | refine TO.indexRN rfl rfl rfl rfl rfl Ty.l30 Ty.n3 (RO.nil (by assumption)) (by omega) ?_ | refine TO.indexR rfl rfl rfl rfl rfl Ty.l30 Ty.n3 (RO.nil (by assumption)) (by omega) (by omega) ?_
    first | refine TO.ldIr rfl rfl rfl rfl Ty.s3 (by assumption) rfl (by first | omega | (simp only [List.length_set, List.length_replicate]; omega)) ?_ | refine TO.ldI rfl rfl rfl rfl Ty.s3 (by repeat (first | exact List.Mem.head _ | apply List.Mem.tail)) (by first | omega | (simp only [List.length_set, List.length_replicate]; omega)) ?_
    refine TO.assign rfl rfl rfl rfl ?_
    refine TO.done ?_
    refine X.seq_normal ?_
    refine T.block ?_
    refine T.seq ?_
    refine T.regionL (ll := [0, 1, 2, 3, 4]) rfl ?_
    refine TO.move rfl rfl rfl rfl ?_
    refine TO.move rfl rfl rfl rfl ?_
    refine TO.len rfl rfl rfl rfl rfl Ty.l25 ?_
    refine TO.bin rfl rfl rfl rfl rfl rfl ?_
    refine TO.assign rfl rfl rfl rfl ?_
    refine TO.done ?_
    refine X.seq_normal ?_
    first | refine T.condP rfl (fun h1 => ?_) (fun h1 => ?_) | refine T.cond rfl (fun h1 => ?_) (fun h1 => ?_)
    ·
      refine T.seq ?_
      refine T.regionL (ll := [0, 1]) rfl ?_
      refine TO.assign rfl rfl rfl rfl ?_
      refine TO.assign rfl rfl rfl rfl ?_
      refine TO.done ?_
      refine X.seq_normal ?_
      refine T.ret ?_
      refine X.block_ret ?_
      refine X.block_ret ?_
      refine X.then_ret ?_
      refine X.then_ret ?_
      refine X.block_ret ?_
      refine X.then_ret ?_
      refine X.ret2 rfl rfl rfl rfl (Res.tmp rfl) (Res.tmp rfl) Pick.nil (Or.inr ⟨⟨k, by omega, ?_⟩, rfl, rfl⟩)
      unfold resOK
      omega
    ·
      refine T.seq ?_
      refine T.regionL (ll := [0, 1, 2, 3, 4, 5]) rfl ?_
      first | refine TO.fieldAddr0 rfl rfl rfl rfl Ty.f33_8 ?_ | refine TO.fieldAddr rfl rfl rfl rfl Ty.f33_8 ?_
      first | refine TO.load1 rfl rfl rfl rfl Ty.s31 (by repeat (first | exact List.Mem.head _ | apply List.Mem.tail)) rfl ?_ | refine TO.loadH rfl rfl rfl rfl Ty.s31 (by assumption) rfl rfl ?_
      refine TO.move rfl rfl rfl rfl ?_
      first | refine TO.index1N rfl rfl rfl rfl rfl Ty.l31 Ty.n4 (by omega) ?_ | refine TO.index1 rfl rfl rfl rfl rfl Ty.l31 Ty.n4 (by omega) (by omega) ?_ | refine TO.indexRN rfl rfl rfl rfl rfl Ty.l31 Ty.n4 (RO.nil (by assumption)) (by omega) ?_ | refine TO.indexR rfl rfl rfl rfl rfl Ty.l31 Ty.n4 (RO.nil (by assumption)) (by omega) (by omega) ?_
      first | refine TO.ldBr rfl rfl rfl rfl Ty.s4 (by assumption) rfl (by first | omega | (simp only [List.length_set, List.length_replicate]; omega)) ?_ | refine TO.ldB rfl rfl rfl rfl Ty.s4 (by repeat (first | exact List.Mem.head _ | apply List.Mem.tail)) (by first | omega | (simp only [List.length_set, List.length_replicate]; omega)) ?_
      refine TO.assign rfl rfl rfl rfl ?_
      refine TO.done ?_
      refine X.seq_normal ?_
      first | refine T.condP rfl (fun h2 => ?_) (fun h2 => ?_) | refine T.cond rfl (fun h2 => ?_) (fun h2 => ?_)
      ·
        refine T.regionL (ll := [0, 1, 2, 3, 4, 5, 6, 7]) rfl ?_
        refine TO.move rfl rfl rfl rfl ?_
        refine TO.move rfl rfl rfl rfl ?_
        refine TO.move rfl rfl rfl rfl ?_
        refine TO.move rfl rfl rfl rfl ?_
        first | refine TO.index1N rfl rfl rfl rfl rfl Ty.l25 Ty.n2 (by omega) ?_ | refine TO.index1 rfl rfl rfl rfl rfl Ty.l25 Ty.n2 (by omega) (by omega) ?_ | refine TO.indexRN rfl rfl rfl rfl rfl Ty.l25 Ty.n2 (RO.nil (by assumption)) (by omega) ?_ | refine TO.indexR rfl rfl rfl rfl rfl Ty.l25 Ty.n2 (RO.nil (by assumption)) (by omega) (by omega) ?_
        first | refine TO.ldIr rfl rfl rfl rfl Ty.s2 (by assumption) rfl (by first | omega | (simp only [List.length_set, List.length_replicate]; omega)) ?_ | refine TO.ldI rfl rfl rfl rfl Ty.s2 (by repeat (first | exact List.Mem.head _ | apply List.Mem.tail)) (by first | omega | (simp only [List.length_set, List.length_replicate]; omega)) ?_
        first | refine TO.index1N rfl rfl rfl rfl rfl Ty.l25 Ty.n2 (by omega) ?_ | refine TO.index1 rfl rfl rfl rfl rfl Ty.l25 Ty.n2 (by omega) (by omega) ?_ | refine TO.indexRN rfl rfl rfl rfl rfl Ty.l25 Ty.n2 (RO.nil (by assumption)) (by omega) ?_ | refine TO.indexR rfl rfl rfl rfl rfl Ty.l25 Ty.n2 (RO.nil (by assumption)) (by omega) (by omega) ?_
        refine TO.stI rfl rfl rfl rfl (by repeat (first | exact Take.head _ _ | apply Take.tail)) Ty.n2 (by first | omega | (simp only [List.length_set, List.length_replicate]; omega)) ?_
        refine TO.done ?_
        refine X.block_normal ?_
        refine X.block_normal ?_
        refine X.seq_normal ?_
        refine T.regionL (ll := [0, 1]) rfl ?_
        refine TO.add rfl rfl rfl rfl rfl (by omega) (by omega) ?_
        refine TO.move rfl rfl rfl rfl ?_
        refine TO.done ?_
        refine X.again2 (k + 1) _ ⟨by omega, ?_⟩ (by omega) (by repeat (first | exact trivial | refine ⟨rfl, ?_⟩)) (by repeat (first | exact trivial | refine ⟨rfl, ?_⟩)) (by repeat (first | exact Pick.nil | apply Pick.none | refine Pick.cons (by repeat (first | exact Take.head _ _ | apply Take.tail)) ?_))
        first | exact hr.put (by omega) ⟨by omega, Or.inl h2⟩ (by unfold resV; rw [if_pos h2]) | exact hr.put (by omega) ⟨by omega, Or.inr ⟨by omega, by omega⟩⟩ (by unfold resV; rw [if_neg (by rw [h2]; simp)])
      ·
        refine T.seq ?_
        rcases (show fl.getD (aa.getD k 0).toNat 0 < 0 ∨ 0 ≤ fl.getD (aa.getD k 0).toNat 0 by omega) with h4 | h4
        ·
          apply T.drawQT [(54, _), (55, _), (56, _), (57, _), (58, _), (59, _), (60, _), (61, _), (62, _), (63, _), (64, _), (65, _), (66, _), (67, _), (68, _)]
          · exact mixed
          · kernel_rfl
          · kernel_rfl
          · exact rfl
          · exact rfl
          · refine ⟨?_, ?_, ?_, ?_, ?_, ?_, ?_, ?_, ?_, ?_, ?_, ?_, ?_, ?_, ?_, trivial⟩
            · intro Es
              refine TO.move rfl rfl rfl rfl ?_
              exact TO.done (X.ob rfl (Pick.refl _))
            · intro Es
              refine TO.move rfl rfl rfl rfl ?_
              exact TO.done (X.ob rfl (Pick.refl _))
            · intro Es
              first | refine TO.index1N rfl rfl rfl rfl rfl Ty.l25 Ty.n2 (by omega) ?_ | refine TO.index1 rfl rfl rfl rfl rfl Ty.l25 Ty.n2 (by omega) (by omega) ?_ | refine TO.indexRN rfl rfl rfl rfl rfl Ty.l25 Ty.n2 (RO.nil (by assumption)) (by omega) ?_ | refine TO.indexR rfl rfl rfl rfl rfl Ty.l25 Ty.n2 (RO.nil (by assumption)) (by omega) (by omega) ?_
              exact TO.done (X.ob rfl (Pick.refl _))
            · intro Es
              first | refine TO.ldIr rfl rfl rfl rfl Ty.s2 (by assumption) rfl (by first | omega | (simp only [List.length_set, List.length_replicate]; omega)) ?_ | refine TO.ldI rfl rfl rfl rfl Ty.s2 (by repeat (first | exact List.Mem.head _ | apply List.Mem.tail)) (by first | omega | (simp only [List.length_set, List.length_replicate]; omega)) ?_
              exact TO.done (X.ob rfl (Pick.refl _))
            · intro Es
              refine TO.bin rfl rfl rfl rfl rfl rfl ?_
              refine TO.decB (t := 58) (b' := true) rfl (decide_eq_true h4) ?_
              exact TO.done (X.ob2 rfl (Pick.refl _))
            · intro Es
              refine TO.move rfl rfl rfl rfl ?_
              refine TO.decB (t := 59) (b' := true) rfl rfl ?_
              exact TO.done (X.ob2 rfl (Pick.refl _))
            · intro Es
              refine TO.shut rfl rfl rfl rfl ?_
              exact TO.done (X.ob rfl (Pick.refl _))
            · intro Es
              refine TO.shut rfl rfl rfl rfl ?_
              exact TO.done (X.ob rfl (Pick.refl _))
            · intro Es
              refine TO.shut rfl rfl rfl rfl ?_
              exact TO.done (X.ob rfl (Pick.refl _))
            · intro Es
              refine TO.shut rfl rfl rfl rfl ?_
              exact TO.done (X.ob rfl (Pick.refl _))
            · intro Es
              refine TO.shut rfl rfl rfl rfl ?_
              exact TO.done (X.ob rfl (Pick.refl _))
            · intro Es
              refine TO.shut rfl rfl rfl rfl ?_
              exact TO.done (X.ob rfl (Pick.refl _))
            · intro Es
              refine TO.shut rfl rfl rfl rfl ?_
              exact TO.done (X.ob rfl (Pick.refl _))
            · intro Es
              refine TO.shut rfl rfl rfl rfl ?_
              exact TO.done (X.ob rfl (Pick.refl _))
            · intro Es
              refine TO.shut rfl rfl rfl rfl ?_
              exact TO.done (X.ob rfl (Pick.refl _))
          refine TO.shut rfl rfl rfl rfl ?_
          first | refine TO.pickT rfl rfl rfl rfl rfl ?_ | refine TO.pickF rfl rfl rfl rfl rfl ?_
          refine TO.assign rfl rfl rfl rfl ?_
          refine TO.done ?_
          refine X.seq_normal ?_
          refine T.condT rfl rfl ?_
          refine T.seq ?_
          refine T.regionL (ll := [0, 1]) rfl ?_
          refine TO.assign rfl rfl rfl rfl ?_
          refine TO.assign rfl rfl rfl rfl ?_
          refine TO.done ?_
          refine X.seq_normal ?_
          refine T.ret ?_
          refine X.block_ret ?_
          refine X.block_ret ?_
          refine X.then_ret ?_
          refine X.then_ret ?_
          refine X.block_ret ?_
          refine X.then_ret ?_
          refine X.ret2 rfl rfl rfl rfl (Res.tmp rfl) (Res.tmp rfl) Pick.nil (Or.inr ⟨⟨k, by omega, ?_⟩, rfl, rfl⟩)
          unfold resOK
          rw [h2]
          rintro ⟨_, hh | hh⟩
          · cases hh
          · omega
        ·
          apply T.drawQT [(54, _), (55, _), (56, _), (57, _), (58, _), (59, _), (60, _), (61, _), (62, _), (63, _), (64, _), (65, _), (66, _), (67, _), (68, _)]
          · exact mixed
          · kernel_rfl
          · kernel_rfl
          · exact rfl
          · exact rfl
          · refine ⟨?_, ?_, ?_, ?_, ?_, ?_, ?_, ?_, ?_, ?_, ?_, ?_, ?_, ?_, ?_, trivial⟩
            · intro Es
              refine TO.move rfl rfl rfl rfl ?_
              exact TO.done (X.ob rfl (Pick.refl _))
            · intro Es
              refine TO.move rfl rfl rfl rfl ?_
              exact TO.done (X.ob rfl (Pick.refl _))
            · intro Es
              first | refine TO.index1N rfl rfl rfl rfl rfl Ty.l25 Ty.n2 (by omega) ?_ | refine TO.index1 rfl rfl rfl rfl rfl Ty.l25 Ty.n2 (by omega) (by omega) ?_ | refine TO.indexRN rfl rfl rfl rfl rfl Ty.l25 Ty.n2 (RO.nil (by assumption)) (by omega) ?_ | refine TO.indexR rfl rfl rfl rfl rfl Ty.l25 Ty.n2 (RO.nil (by assumption)) (by omega) (by omega) ?_
              exact TO.done (X.ob rfl (Pick.refl _))
            · intro Es
              first | refine TO.ldIr rfl rfl rfl rfl Ty.s2 (by assumption) rfl (by first | omega | (simp only [List.length_set, List.length_replicate]; omega)) ?_ | refine TO.ldI rfl rfl rfl rfl Ty.s2 (by repeat (first | exact List.Mem.head _ | apply List.Mem.tail)) (by first | omega | (simp only [List.length_set, List.length_replicate]; omega)) ?_
              exact TO.done (X.ob rfl (Pick.refl _))
            · intro Es
              refine TO.bin rfl rfl rfl rfl rfl rfl ?_
              refine TO.decB (t := 58) (b' := false) rfl (decide_eq_false (by omega)) ?_
              exact TO.done (X.ob2 rfl (Pick.refl _))
            · intro Es
              refine TO.move rfl rfl rfl rfl ?_
              refine TO.decB (t := 59) (b' := false) rfl rfl ?_
              exact TO.done (X.ob2 rfl (Pick.refl _))
            · intro Es
              refine TO.move rfl rfl rfl rfl ?_
              exact TO.done (X.ob rfl (Pick.refl _))
            · intro Es
              refine TO.move rfl rfl rfl rfl ?_
              exact TO.done (X.ob rfl (Pick.refl _))
            · intro Es
              first | refine TO.index1N rfl rfl rfl rfl rfl Ty.l25 Ty.n2 (by omega) ?_ | refine TO.index1 rfl rfl rfl rfl rfl Ty.l25 Ty.n2 (by omega) (by omega) ?_ | refine TO.indexRN rfl rfl rfl rfl rfl Ty.l25 Ty.n2 (RO.nil (by assumption)) (by omega) ?_ | refine TO.indexR rfl rfl rfl rfl rfl Ty.l25 Ty.n2 (RO.nil (by assumption)) (by omega) (by omega) ?_
              exact TO.done (X.ob rfl (Pick.refl _))
            · intro Es
              first | refine TO.ldIr rfl rfl rfl rfl Ty.s2 (by assumption) rfl (by first | omega | (simp only [List.length_set, List.length_replicate]; omega)) ?_ | refine TO.ldI rfl rfl rfl rfl Ty.s2 (by repeat (first | exact List.Mem.head _ | apply List.Mem.tail)) (by first | omega | (simp only [List.length_set, List.length_replicate]; omega)) ?_
              exact TO.done (X.ob rfl (Pick.refl _))
            · intro Es
              first | refine TO.fieldAddr0 rfl rfl rfl rfl Ty.f33_6 ?_ | refine TO.fieldAddr rfl rfl rfl rfl Ty.f33_6 ?_
              exact TO.done (X.ob rfl (Pick.refl _))
            · intro Es
              first | refine TO.load1 rfl rfl rfl rfl Ty.s25 (by repeat (first | exact List.Mem.head _ | apply List.Mem.tail)) rfl ?_ | refine TO.loadH rfl rfl rfl rfl Ty.s25 (by assumption) rfl rfl ?_
              exact TO.done (X.ob rfl (Pick.refl _))
            · intro Es
              refine TO.move rfl rfl rfl rfl ?_
              exact TO.done (X.ob rfl (Pick.refl _))
            · intro Es
              first | refine TO.index1N rfl rfl rfl rfl rfl Ty.l25 Ty.n2 (by omega) ?_ | refine TO.index1 rfl rfl rfl rfl rfl Ty.l25 Ty.n2 (by omega) (by omega) ?_ | refine TO.indexRN rfl rfl rfl rfl rfl Ty.l25 Ty.n2 (RO.nil (by assumption)) (by omega) ?_ | refine TO.indexR rfl rfl rfl rfl rfl Ty.l25 Ty.n2 (RO.nil (by assumption)) (by omega) (by omega) ?_
              exact TO.done (X.ob rfl (Pick.refl _))
            · intro Es
              first | refine TO.ldIr rfl rfl rfl rfl Ty.s2 (by assumption) rfl (by first | omega | (simp only [List.length_set, List.length_replicate]; omega)) ?_ | refine TO.ldI rfl rfl rfl rfl Ty.s2 (by repeat (first | exact List.Mem.head _ | apply List.Mem.tail)) (by first | omega | (simp only [List.length_set, List.length_replicate]; omega)) ?_
              exact TO.done (X.ob rfl (Pick.refl _))
          refine TO.bin rfl rfl rfl rfl rfl rfl ?_
          first | refine TO.pickT rfl rfl rfl rfl rfl ?_ | refine TO.pickF rfl rfl rfl rfl rfl ?_
          refine TO.assign rfl rfl rfl rfl ?_
          refine TO.done ?_
          refine X.seq_normal ?_
          first | refine T.condP rfl (fun h3 => ?_) (fun h3 => ?_) | refine T.cond rfl (fun h3 => ?_) (fun h3 => ?_)
          ·
            refine T.seq ?_
            refine T.regionL (ll := [0, 1]) rfl ?_
            refine TO.assign rfl rfl rfl rfl ?_
            refine TO.assign rfl rfl rfl rfl ?_
            refine TO.done ?_
            refine X.seq_normal ?_
            refine T.ret ?_
            refine X.block_ret ?_
            refine X.block_ret ?_
            refine X.then_ret ?_
            refine X.then_ret ?_
            refine X.block_ret ?_
            refine X.then_ret ?_
            refine X.ret2 rfl rfl rfl rfl (Res.tmp rfl) (Res.tmp rfl) Pick.nil (Or.inr ⟨⟨k, by omega, ?_⟩, rfl, rfl⟩)
            unfold resOK
            rw [h2]
            rintro ⟨_, hh | hh⟩
            · cases hh
            · omega
          ·
            apply T.drawQT [(22, _), (23, _), (24, _), (25, _), (26, _), (27, _), (28, _), (29, _), (30, _), (31, _), (32, _), (33, _)]
            · exact mixed
            · kernel_rfl
            · kernel_rfl
            · exact rfl
            · exact rfl
            · refine ⟨?_, ?_, ?_, ?_, ?_, ?_, ?_, ?_, ?_, ?_, ?_, ?_, trivial⟩
              · intro Es
                refine TO.move rfl rfl rfl rfl ?_
                exact TO.done (X.ob rfl (Pick.refl _))
              · intro Es
                refine TO.move rfl rfl rfl rfl ?_
                exact TO.done (X.ob rfl (Pick.refl _))
              · intro Es
                first | refine TO.fieldAddr0 rfl rfl rfl rfl Ty.f33_6 ?_ | refine TO.fieldAddr rfl rfl rfl rfl Ty.f33_6 ?_
                exact TO.done (X.ob rfl (Pick.refl _))
              · intro Es
                first | refine TO.load1 rfl rfl rfl rfl Ty.s25 (by repeat (first | exact List.Mem.head _ | apply List.Mem.tail)) rfl ?_ | refine TO.loadH rfl rfl rfl rfl Ty.s25 (by assumption) rfl rfl ?_
                exact TO.done (X.ob rfl (Pick.refl _))
              · intro Es
                refine TO.move rfl rfl rfl rfl ?_
                exact TO.done (X.ob rfl (Pick.refl _))
              · intro Es
                first | refine TO.index1N rfl rfl rfl rfl rfl Ty.l25 Ty.n2 (by omega) ?_ | refine TO.index1 rfl rfl rfl rfl rfl Ty.l25 Ty.n2 (by omega) (by omega) ?_ | refine TO.indexRN rfl rfl rfl rfl rfl Ty.l25 Ty.n2 (RO.nil (by assumption)) (by omega) ?_ | refine TO.indexR rfl rfl rfl rfl rfl Ty.l25 Ty.n2 (RO.nil (by assumption)) (by omega) (by omega) ?_
                exact TO.done (X.ob rfl (Pick.refl _))
              · intro Es
                first | refine TO.ldIr rfl rfl rfl rfl Ty.s2 (by assumption) rfl (by first | omega | (simp only [List.length_set, List.length_replicate]; omega)) ?_ | refine TO.ldI rfl rfl rfl rfl Ty.s2 (by repeat (first | exact List.Mem.head _ | apply List.Mem.tail)) (by first | omega | (simp only [List.length_set, List.length_replicate]; omega)) ?_
                exact TO.done (X.ob rfl (Pick.refl _))
              · intro Es
                refine TO.move rfl rfl rfl rfl ?_
                exact TO.done (X.ob rfl (Pick.refl _))
              · intro Es
                refine TO.move rfl rfl rfl rfl ?_
                exact TO.done (X.ob rfl (Pick.refl _))
              · intro Es
                first | refine TO.index1N rfl rfl rfl rfl rfl Ty.l25 Ty.n2 (by omega) ?_ | refine TO.index1 rfl rfl rfl rfl rfl Ty.l25 Ty.n2 (by omega) (by omega) ?_ | refine TO.indexRN rfl rfl rfl rfl rfl Ty.l25 Ty.n2 (RO.nil (by assumption)) (by omega) ?_ | refine TO.indexR rfl rfl rfl rfl rfl Ty.l25 Ty.n2 (RO.nil (by assumption)) (by omega) (by omega) ?_
                exact TO.done (X.ob rfl (Pick.refl _))
              · intro Es
                first | refine TO.ldIr rfl rfl rfl rfl Ty.s2 (by assumption) rfl (by first | omega | (simp only [List.length_set, List.length_replicate]; omega)) ?_ | refine TO.ldI rfl rfl rfl rfl Ty.s2 (by repeat (first | exact List.Mem.head _ | apply List.Mem.tail)) (by first | omega | (simp only [List.length_set, List.length_replicate]; omega)) ?_
                exact TO.done (X.ob rfl (Pick.refl _))
              · intro Es
                refine TO.sub rfl rfl rfl rfl rfl (by omega) (by omega) ?_
                exact TO.done (X.ob rfl (Pick.refl _))
            first | refine TO.index1N rfl rfl rfl rfl rfl Ty.l25 Ty.n2 (by omega) ?_ | refine TO.index1 rfl rfl rfl rfl rfl Ty.l25 Ty.n2 (by omega) (by omega) ?_ | refine TO.indexRN rfl rfl rfl rfl rfl Ty.l25 Ty.n2 (RO.nil (by assumption)) (by omega) ?_ | refine TO.indexR rfl rfl rfl rfl rfl Ty.l25 Ty.n2 (RO.nil (by assumption)) (by omega) (by omega) ?_
            refine TO.stI rfl rfl rfl rfl (by repeat (first | exact Take.head _ _ | apply Take.tail)) Ty.n2 (by first | omega | (simp only [List.length_set, List.length_replicate]; omega)) ?_
            refine TO.done ?_
            refine X.block_normal ?_
            refine X.block_normal ?_
            refine X.seq_normal ?_
            refine T.regionL (ll := [0, 1]) rfl ?_
            refine TO.add rfl rfl rfl rfl rfl (by omega) (by omega) ?_
            refine TO.move rfl rfl rfl rfl ?_
            refine TO.done ?_
            refine X.again2 (k + 1) _ ⟨by omega, ?_⟩ (by omega) (by repeat (first | exact trivial | refine ⟨rfl, ?_⟩)) (by repeat (first | exact trivial | refine ⟨rfl, ?_⟩)) (by repeat (first | exact Pick.nil | apply Pick.none | refine Pick.cons (by repeat (first | exact Take.head _ _ | apply Take.tail)) ?_))
            first | exact hr.put (by omega) ⟨by omega, Or.inl h2⟩ (by unfold resV; rw [if_pos h2]) | exact hr.put (by omega) ⟨by omega, Or.inr ⟨by omega, by omega⟩⟩ (by unfold resV; rw [if_neg (by rw [h2]; simp)])
  ·
    refine T.exit ?_
    refine X.then_exit ?_
    refine X.then_exit ?_
    refine X.block_here ?_
    refine X.seq_normal ?_
    refine T.seq ?_
    refine T.regionL (ll := [0, 1, 2]) rfl ?_
    refine TO.move rfl rfl rfl rfl ?_
    refine TO.assign rfl rfl rfl rfl ?_
    refine TO.assign rfl rfl rfl rfl ?_
    refine TO.done ?_
    refine X.seq_normal ?_
    refine T.ret ?_
    exact X.ret2 rfl rfl rfl rfl (Res.tmp rfl) (Res.tmp rfl) (N := [(some b11, .cells (arr (intC .i64) rl []).toArray 2 (0, 0))]) (by repeat (first | exact Pick.nil | apply Pick.none | refine Pick.cons (by repeat (first | exact Take.head _ _ | apply Take.tail)) ?_)) (Or.inl ⟨b11, rl, rfl, rfl, by rw [show n = k by omega] at hr ⊢; exact hr⟩)
end Go.Proofs.Ytcdbemdogkmahaa.Acq
