/- Plain law: a net that is turned. -/
import Derived.Test.YtcdbemdogkmahaaAcqNetLaw
namespace Go.Acq
open Go
def turn (a : Arc) : Arc := ⟨a.to, a.fr, a.cap⟩
theorem turn_getD (al : List Arc) (i : Nat) : (al.map turn).getD i default = turn (al.getD i default) := by
  rw [List.getD_eq_getElem?_getD, List.getD_eq_getElem?_getD, List.getElem?_map]
  cases al[i]? <;> rfl
theorem hit_turn (a : Arc) (v : Nat) : hit (turn a) v = hit a v := by
  unfold hit turn
  by_cases h : a.fr = a.to
  · rw [if_pos h, if_pos h.symm]
  · rw [if_neg h, if_neg (fun e => h e.symm)]
    by_cases h2 : a.fr = v ∨ a.to = v
    · rw [if_pos h2, if_pos h2.symm]
    · rw [if_neg h2, if_neg (fun e => h2 e.symm)]
theorem cnt_turn (al : List Arc) (v k : Nat) : cnt (al.map turn) v k = cnt al v k := by
  induction k with
  | zero => rfl
  | succ k ih => simp only [cnt, ih, turn_getD, hit_turn]
theorem begins_turn (al : List Arc) (v : Nat) : begins (al.map turn) v = begins al v := by
  induction v with
  | zero => rfl
  | succ v ih => simp only [begins, ih, cnt_turn, List.length_map]
theorem vtx_turn (a : Arc) (s : Bool) : vtx (turn a) s = vtx a (!s) := by cases s <;> rfl
theorem pos_turn (al : List Arc) (i : Nat) (s : Bool) : pos (al.map turn) i s = pos al i (!s) := by
  unfold pos; rw [turn_getD, vtx_turn, begins_turn, cnt_turn]
theorem SomeAt.turn {m : Nat} {ol : List Arc} (h : SomeAt m ol) : SomeAt m (ol.map turn) := by
  intro a ha
  obtain ⟨b, hb, rfl⟩ := List.mem_map.1 ha
  obtain ⟨h1, h2⟩ := h b hb
  simp only [endsB, Bool.and_eq_true] at h1
  exact ⟨by simp only [endsB, Acq.turn, Bool.and_eq_true]; exact ⟨h1.2, h1.1⟩, h2⟩
theorem turn_check {m : Nat} {S T : Int} {ol : List Arc} (h : checkE m S T ol = 0) (hs : SomeAt m ol) (hl : ol.length ≤ 4096) : checkE m T S (ol.map turn) = 0 := by
  obtain ⟨⟨h1, h2⟩, _, ⟨h3, h4, h5⟩, _⟩ := checkE_zero h
  simp only [vertexB, decide_eq_true_eq] at h3 h4
  exact some_check (by omega) (by omega) h4 h3 h5 hs.turn (by simpa using hl)
theorem WithinAt.turn {al : List Arc} {n k : Nat} {fl : List Int} (h : WithinAt al n k fl) : WithinAt (al.map turn) n k fl :=
  ⟨h.1, fun i hi => by rw [turn_getD]; exact ⟨(h.2.1 i hi).1, (h.2.1 i hi).2.1, fun e => (h.2.1 i hi).2.2 e.symm⟩, h.2.2⟩

theorem mapTurn_take (ol : List Arc) {k : Nat} (h : k < ol.length) : (ol.take k).map turn ++ [turn (ol.getD k default)] = (ol.take (k + 1)).map turn := by
  rw [List.take_succ_eq_append_getElem h, List.map_append, List.getD_eq_getElem?_getD, List.getElem?_eq_getElem h]; rfl

/-- what stands at a place -/
theorem CsrOK.place {al : List Arc} {m : Nat} {fs hs rs cs aa : List Int} {bs : List Bool} (h : CsrOK al m fs hs rs cs aa bs) {j : Nat} (hj : j < begins al m) :
    ∃ i s, i < al.length ∧ (al.getD i default).fr ≠ (al.getD i default).to ∧ pos al i s = j ∧ hs.getD j 0 = vtx (al.getD i default) (!s) ∧ rs.getD j 0 = pos al i (!s) ∧ cs.getD j 0 = (if s then 0 else (al.getD i default).cap) ∧ aa.getD j 0 = i ∧ bs.getD j false = s := by
  obtain ⟨i, s, hi, hne, hp, _⟩ := pos_surj hj
  have := h.hat i hi hne s
  rw [hp] at this
  exact ⟨i, s, hi, hne, hp, this⟩
theorem CsrOK.aa0 {al : List Arc} {m : Nat} {fs hs rs cs aa : List Int} {bs : List Bool} (h : CsrOK al m fs hs rs cs aa bs) : ∀ j, j < begins al m → 0 ≤ aa.getD j 0 := by
  intro j hj
  obtain ⟨i, s, _, _, _, _, _, _, h4, _⟩ := h.place hj
  omega
theorem CsrOK.csmax {al : List Arc} {m : Nat} {fs hs rs cs aa : List Int} {bs : List Bool} (h : CsrOK al m fs hs rs cs aa bs) (hs' : SomeAt m al) : ∀ j, j < begins al m → cs.getD j 0 ≤ 9223372036854775807 := by
  intro j hj
  obtain ⟨i, s, hi, _, _, _, _, h3, _, _⟩ := h.place hj
  have := (hs' _ (getD_mem hi default)).2
  rw [h3]; split <;> omega
theorem CsrOK.resok {al : List Arc} {m : Nat} {fs hs rs cs aa fl : List Int} {bs : List Bool} (h : CsrOK al m fs hs rs cs aa bs) (hw : WithinAt al al.length al.length fl) : ∀ j, j < begins al m → resOK aa cs bs fl j := by
  intro j hj
  obtain ⟨i, s, hi, _, _, _, _, h3, h4, h5⟩ := h.place hj
  have := hw.2.1 i hi
  unfold resOK
  rw [h3, h4, h5, hw.1]
  refine ⟨by omega, ?_⟩
  cases s
  · right; simp only [Int.toNat_natCast, Bool.false_eq_true, if_false]; exact ⟨this.1, this.2.1⟩
  · exact .inl rfl
/-- the residual arcs of a net that is turned -/
theorem csr_turn {al : List Arc} {m : Nat} {fs hs rs cs aa fs' hs' rs' cs' aa' : List Int} {bs bs' : List Bool} (h : CsrOK al m fs hs rs cs aa bs) (g : CsrOK (al.map turn) m fs' hs' rs' cs' aa' bs') :
    fs = fs' ∧ aa = aa' ∧ hs = hs' ∧ rs = rs' ∧ (∀ j, j < begins al m → bs.getD j false ≠ bs'.getD j false) ∧
    (endsOK m al → ∀ j, j < begins al m → 0 ≤ rs.getD j 0 ∧ rs.getD j 0 < begins al m) ∧
    ∀ fl gl yl L, ResAt aa cs bs fl L (begins al m) gl → ResAt aa' cs' bs' fl L (begins al m) yl → endsOK m al → ∀ j, j < begins al m → gl.getD j 0 = yl.getD (rs.getD j 0).toNat 0 := by
  have key : ∀ j, j < begins al m → ∃ i s, i < al.length ∧ (al.getD i default).fr ≠ (al.getD i default).to ∧ pos al i s = j ∧
      (hs.getD j 0 = vtx (al.getD i default) (!s) ∧ rs.getD j 0 = pos al i (!s) ∧ cs.getD j 0 = (if s then 0 else (al.getD i default).cap) ∧ aa.getD j 0 = i ∧ bs.getD j false = s) ∧
      (hs'.getD j 0 = vtx (al.getD i default) (!s) ∧ rs'.getD j 0 = pos al i (!s) ∧ aa'.getD j 0 = i ∧ bs'.getD j false = !s) ∧
      (cs'.getD (pos al i (!s)) 0 = (if s then 0 else (al.getD i default).cap) ∧ aa'.getD (pos al i (!s)) 0 = i ∧ bs'.getD (pos al i (!s)) false = s) := by
    intro j hj
    obtain ⟨i, s, hi, hne, hp, hr⟩ := h.place hj
    have h1 := g.hat i (by simpa using hi) (by rw [turn_getD]; exact fun e => hne e.symm) (!s)
    have h2 := g.hat i (by simpa using hi) (by rw [turn_getD]; exact fun e => hne e.symm) s
    rw [pos_turn, pos_turn, turn_getD, vtx_turn] at h1 h2
    simp only [Bool.not_not] at h1 h2
    rw [hp] at h1
    refine ⟨i, s, hi, hne, hp, hr, ⟨h1.1, h1.2.1, h1.2.2.2.1, h1.2.2.2.2⟩, h2.2.2.1, h2.2.2.2.1, h2.2.2.2.2⟩
  have hb := begins_turn al m
  refine ⟨?_, ?_, ?_, ?_, ?_, ?_, ?_⟩
  · refine eq_of_getD 0 (by rw [h.lf, g.lf]) fun i hi => ?_
    rw [h.lf] at hi
    rw [h.hf i (by omega), g.hf i (by omega), begins_turn]
  · refine eq_of_getD 0 (by rw [h.la, g.la, hb]) fun j hj => ?_
    rw [h.la] at hj
    obtain ⟨i, s, _, _, _, a, b, _⟩ := key j hj
    rw [a.2.2.2.1, b.2.2.1]
  · refine eq_of_getD 0 (by rw [h.lh, g.lh, hb]) fun j hj => ?_
    rw [h.lh] at hj
    obtain ⟨i, s, _, _, _, a, b, _⟩ := key j hj
    rw [a.1, b.1]
  · refine eq_of_getD 0 (by rw [h.lr, g.lr, hb]) fun j hj => ?_
    rw [h.lr] at hj
    obtain ⟨i, s, _, _, _, a, b, _⟩ := key j hj
    rw [a.2.1, b.2.1]
  · intro j hj
    obtain ⟨i, s, _, _, _, a, b, _⟩ := key j hj
    rw [a.2.2.2.2, b.2.2.2]
    cases s <;> simp
  · intro he j hj
    obtain ⟨i, s, hi, hne, hp, a, _⟩ := key j hj
    have hq : pos al i (!s) < begins al m := pos_lt hi hne he
    rw [a.2.1]; omega
  · intro fl gl yl L hg hy he j hj
    obtain ⟨i, s, hi, hne, hp, a, b, c⟩ := key j hj
    have hq : pos al i (!s) < begins al m := pos_lt hi hne he
    rw [(hg.2 j hj).2, a.2.1, Int.toNat_natCast, (hy.2 _ hq).2]
    unfold resV
    rw [a.2.2.2.2, a.2.2.2.1, a.2.2.1, c.2.2, c.2.1, c.1]
end Go.Acq
