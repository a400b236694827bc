/- Plain law: what there is along a way, and what is sent. -/
import Derived.Test.YtcdbemdogkmahaaAcqL04
namespace Go.Acq
open Go
set_option linter.unusedSimpArgs false
/-- so much more, so often, at one arc -/
def fits (n : Net) (f : List Int) (i : Nat) (c d : Int) : Prop := 0 ≤ f.getD i 0 + d * c ∧ f.getD i 0 + d * c ≤ (n.Arcs.getD i default).cap
/-- how much an arc lets through -/
def limit (n : Net) (f : List Int) (x : Int × Int) : Int :=
  if 0 < x.2 then ((n.Arcs.getD x.1.toNat default).cap - f.getD x.1.toNat 0).tdiv x.2 else if x.2 < 0 then (f.getD x.1.toNat 0).tdiv (-x.2) else 4611686018427387904
theorem limit_iff {n : Net} {f : List Int} {x : Int × Int} (h0 : 0 ≤ f.getD x.1.toNat 0) (h1 : f.getD x.1.toNat 0 ≤ (n.Arcs.getD x.1.toNat default).cap) {d : Int} (hd : 0 ≤ d) (hd2 : d ≤ 4611686018427387904) :
    d ≤ limit n f x ↔ fits n f x.1.toNat x.2 d := by
  unfold limit fits
  by_cases c : 0 < x.2
  · rw [if_pos c, Int.tdiv_eq_ediv_of_nonneg (by omega), Int.le_ediv_iff_mul_le c]
    have := Int.mul_nonneg hd (show 0 ≤ x.2 by omega)
    omega
  · rw [if_neg c]
    by_cases c2 : x.2 < 0
    · rw [if_pos c2, Int.tdiv_eq_ediv_of_nonneg h0, Int.le_ediv_iff_mul_le (by omega), Int.mul_neg]
      have := Int.mul_nonneg hd (show 0 ≤ -x.2 by omega)
      rw [Int.mul_neg] at this
      omega
    · rw [if_neg c2, show x.2 = 0 by omega, Int.mul_zero]
      omega
theorem limit_nonneg {n : Net} {f : List Int} {x : Int × Int} (h0 : 0 ≤ f.getD x.1.toNat 0) (h1 : f.getD x.1.toNat 0 ≤ (n.Arcs.getD x.1.toNat default).cap) : 0 ≤ limit n f x :=
  (limit_iff h0 h1 (Int.le_refl _) (by omega)).2 (by unfold fits; rw [Int.zero_mul]; omega)
theorem tdiv_le {a b : Int} (ha : 0 ≤ a) (hb : 0 < b) : 0 ≤ a.tdiv b ∧ a.tdiv b ≤ a := by
  rw [Int.tdiv_eq_ediv_of_nonneg ha]
  exact ⟨Int.ediv_nonneg ha (by omega), Int.ediv_le_self b ha⟩
theorem exists_min (v : Nat → Int) (M : Int) : ∀ n, ∃ o, o ≤ M ∧ (∀ j, j < n → o ≤ v j) ∧ (o = M ∨ ∃ j, j < n ∧ v j = o)
  | 0 => ⟨M, Int.le_refl _, fun j hj => by omega, .inl rfl⟩
  | n + 1 => by
    obtain ⟨o, h1, h2, h3⟩ := exists_min v M n
    by_cases c : v n < o
    · refine ⟨v n, by omega, fun j hj => ?_, .inr ⟨n, by omega, rfl⟩⟩
      rcases Nat.lt_or_ge j n with h | h
      · have := h2 j h; omega
      · rw [show j = n by omega]; exact Int.le_refl _
    · refine ⟨o, h1, fun j hj => ?_, ?_⟩
      · rcases Nat.lt_or_ge j n with h | h
        · exact h2 j h
        · rw [show j = n by omega]; omega
      · rcases h3 with h3 | ⟨j, hj, h3⟩
        · exact .inl h3
        · exact .inr ⟨j, by omega, h3⟩
/-- no more keys than there may be -/
theorem apart_le {N : Nat} {mp : List (Int × Int)} (ha : Apart mp) (hkey : ∀ j, j < mp.length → 0 ≤ (mp.getD j default).1 ∧ (mp.getD j default).1 < N) : mp.length ≤ N := by
  rcases Nat.lt_or_ge N mp.length with h | h
  · exfalso
    have key : ∀ (N : Nat) (f : Nat → Nat), (∀ j, j < N + 1 → f j < N) → (∀ i j, i < N + 1 → j < N + 1 → f i = f j → i = j) → False := by
      intro N
      induction N with
      | zero => intro f h _; have := h 0 (by omega); omega
      | succ N ih =>
        intro f h1 h2
        refine ih (fun j => if f j = N then f (N + 1) else f j) (fun j hj => ?_) (fun i j hi hj e => ?_)
        · split
          · rename_i e
            have := h1 (N + 1) (by omega)
            have : f (N + 1) ≠ N := fun e2 => by have := h2 j (N + 1) (by omega) (by omega) (e.trans e2.symm); omega
            omega
          · have := h1 j (by omega); omega
        · split at e
          · split at e
            · exact h2 i j (by omega) (by omega) (by omega)
            · have := h2 (N + 1) j (by omega) (by omega) e; omega
          · split at e
            · have := h2 i (N + 1) (by omega) (by omega) e; omega
            · exact h2 i j (by omega) (by omega) e
    refine key N (fun j => (mp.getD j default).1.toNat) (fun j hj => by have := hkey j (by omega); omega) (fun i j hi hj e => ha.inj default (by omega) (by omega) ?_)
    have := hkey i (by omega)
    have := hkey j (by omega)
    omega
  · exact h
/-- how much there is along a way -/
def RoomP (n : Net) (f : List Int) (l : List Hop) (R : Int) : Prop :=
  0 ≤ R ∧ R ≤ 4611686018427387904 ∧ ∀ d, 0 ≤ d → d ≤ 4611686018427387904 → (d ≤ R ↔ ∀ i, i < n.Arcs.length → fits n f i (cntH l i l.length) d)
theorem s_Room {n : Net} {f : List Int} {l : List Hop} (hll : lenok n.Arcs.length) (hl : l.length ≤ 1048576) (hcap : ∀ i, i < n.Arcs.length → (n.Arcs.getD i default).cap ≤ 4611686018427387904) :
    Ok (m_flow_Room n f l) (fun r => (FwithinP n f ∧ WayK n l l.length ∧ r.2 = 0 ∧ RoomP n f l r.1) ∨ (FwithinP n f ∧ ¬WayK n l l.length ∧ r = (0, 13)) ∨ (¬FwithinP n f ∧ r = (0, 20))) := by
  unfold m_flow_Room
  refine Ok.bind.2 (Ok.mono (s_FWithin hll) fun b hb => Ok.ite.2 ⟨fun h => Ok.some.2 (.inr (.inr ⟨fun h2 => (by rw [hb.2 h2] at h; cases h), rfl⟩)), fun h => ?_⟩)
  have hw := hb.1 (bool_of_not h)
  have hz := checkE_zero hw.1
  obtain ⟨m, hm⟩ : ∃ m : Nat, n.N = m := ⟨n.N.toNat, by omega⟩
  have he : endsOK m n.Arcs := endsOK_of (by rw [← hm]; exact hz.2.2.2.1)
  have hfl := hw.2.1
  refine Ok.bind.2 (Ok.mono (s_along he (by omega)) ?_)
  rintro ⟨mp, ok⟩ (⟨hway, h2, hmp⟩ | ⟨hway, h2⟩)
  rotate_left
  · injection h2 with h2 h3
    simp only [h3]
    exact Ok.ite.2 ⟨fun _ => Ok.some.2 (.inr (.inl ⟨hw, hway, rfl⟩)), fun h => absurd rfl h⟩
  simp only at h2 hmp
  subst h2
  simp only
  rw [if_neg (by simp)]
  obtain ⟨o, o1, o2, o3⟩ := exists_min (fun j => limit n f (mp.getD j default)) 4611686018427387904 mp.length
  have hkey : ∀ j, j < mp.length → 0 ≤ (mp.getD j default).1 ∧ (mp.getD j default).1 < n.Arcs.length := fun j hj => hmp.key _ (getD_mem hj default)
  have hval : ∀ j, j < mp.length → (mp.getD j default).2 = cntH l (mp.getD j default).1 l.length := fun j hj => by rw [← hmp.val, hmp.apart.at default hj]
  have hfk : ∀ j, j < mp.length → 0 ≤ f.getD (mp.getD j default).1.toNat 0 ∧ f.getD (mp.getD j default).1.toNat 0 ≤ (n.Arcs.getD (mp.getD j default).1.toNat default).cap := fun j hj => by have := hkey j hj; exact hw.2.2 _ (by omega)
  refine Ok.bind.2 (Ok.lpA (fun s => (∀ j, j < mp.length → j ∈ s.2 ∨ o ≤ limit n f (mp.getD j default)) ∧ (o ≤ s.1 ∧ s.1 ≤ 4611686018427387904) ∧ (o = s.1 ∨ ∃ j, j < mp.length ∧ j ∉ s.2 ∧ limit n f (mp.getD j default) = o))
    (fun s => leftN s.2 mp.length) o ⟨fun j hj => .inr (o2 j hj), ⟨o1, Int.le_refl _⟩, by
      rcases o3 with h | ⟨j, hj, h⟩
      · exact .inl h
      · exact .inr ⟨j, hj, by simp, h⟩⟩ ?_ (fun s => altsM_ne _ _) ?_ ?_)
  · have := leftN_le [] mp.length
    have hlen : mp.length ≤ n.Arcs.length := apart_le hmp.apart hkey
    show leftN [] mp.length < FUEL
    unfold FUEL; omega
  · rintro ⟨room, seen⟩ ⟨h1, h2, h3⟩ c hc P next exit
    simp only at h1 h2 h3 hc next ⊢
    unfold m_flow_Room_s1
    cases c with
    | none =>
      have hall := altsM_none hc
      have : o = room := by
        rcases h3 with h | ⟨j, hj, h, -⟩
        · exact h
        · exact absurd (hall j hj) h
      subst this
      exact Ok.some.2 exit
    | some j =>
      obtain ⟨hj, hs⟩ := altsM_some hc
      have k0 := hkey j hj
      have k1 := hfk j hj
      have k2 := hcap (mp.getD j default).1.toNat (by omega)
      have hlt := (leftN_lt hs mp.length).2 hj
      have hstep : ∀ room', room' = min room (limit n f (mp.getD j default)) → P (.inl (room', seen ++ [j])) := by
        intro room' hr
        have hol : o ≤ limit n f (mp.getD j default) := by
          rcases h1 j hj with h | h
          · exact absurd h hs
          · exact h
        refine next _ ⟨fun i hi => ?_, ⟨by simp only; omega, by simp only; omega⟩, ?_⟩ hlt
        · rcases h1 i hi with h | h
          · exact .inl (List.mem_append_left _ h)
          · exact .inr h
        · simp only
          rcases h3 with h | ⟨i, hi, h, e⟩
          · left; omega
          · by_cases c : i = j
            · subst c; left; omega
            · right
              refine ⟨i, hi, fun hm => ?_, e⟩
              rcases List.mem_append.1 hm with hm | hm
              · exact h hm
              · exact c (List.mem_singleton.1 hm)
      show Ok (if _ then _ else _) P
      have hck : -(1048576 : Int) ≤ (mp.getD j default).2 ∧ (mp.getD j default).2 ≤ 1048576 := by
        rw [hval j hj]; have := cntH_le l (mp.getD j default).1 l.length; omega
      refine Ok.ite.2 ⟨fun hp => ?_, fun hp => Ok.ite.2 ⟨fun hq => ?_, fun hq => ?_⟩⟩
      · have hdv := tdiv_le (a := (n.Arcs.getD (mp.getD j default).1.toNat default).cap - f.getD (mp.getD j default).1.toNat 0) (b := (mp.getD j default).2) (by omega) hp
        refine Ok.gd.2 ⟨(by (first | omega | (constructor <;> omega) | (simp only [List.length_set, List.length_replicate]; omega) | (simp only [List.length_set, List.length_replicate]; constructor <;> omega))), Ok.gd.2 ⟨(by (first | omega | (constructor <;> omega) | (simp only [List.length_set, List.length_replicate]; omega) | (simp only [List.length_set, List.length_replicate]; constructor <;> omega))), Ok.gd.2 ⟨(by (first | omega | (constructor <;> omega) | (simp only [List.length_set, List.length_replicate]; omega) | (simp only [List.length_set, List.length_replicate]; constructor <;> omega))), Ok.gd.2 ⟨⟨by omega, by constructor <;> omega⟩, Ok.some.2 (hstep _ ?_)⟩⟩⟩⟩
        unfold limit; rw [if_pos hp]
      · have hdv := tdiv_le (a := f.getD (mp.getD j default).1.toNat 0) (b := -(mp.getD j default).2) (by omega) (by omega)
        refine Ok.gd.2 ⟨(by (first | omega | (constructor <;> omega) | (simp only [List.length_set, List.length_replicate]; omega) | (simp only [List.length_set, List.length_replicate]; constructor <;> omega))), Ok.gd.2 ⟨(by (first | omega | (constructor <;> omega) | (simp only [List.length_set, List.length_replicate]; omega) | (simp only [List.length_set, List.length_replicate]; constructor <;> omega))), Ok.gd.2 ⟨⟨by omega, by constructor <;> omega⟩, Ok.some.2 (hstep _ ?_)⟩⟩⟩
        unfold limit; rw [if_neg hp, if_pos hq]
      · refine Ok.some.2 (hstep _ ?_)
        unfold limit; rw [if_neg hp, if_neg hq]
        omega
  · unfold m_flow_Room_j2
    refine Ok.some.2 (.inl ⟨hw, hway, rfl, ?_, o1, fun d hd hd2 => ⟨fun hdo i hi => ?_, fun hfit => ?_⟩⟩)
    · rcases o3 with h | ⟨j, hj, h⟩
      · omega
      · rw [← h]; exact limit_nonneg (hfk j hj).1 (hfk j hj).2
    · by_cases c : ∃ j, j < mp.length ∧ (mp.getD j default).1 = i
      · obtain ⟨j, hj, e⟩ := c
        have h5 := (limit_iff (hfk j hj).1 (hfk j hj).2 hd hd2).1 (Int.le_trans hdo (o2 j hj))
        rw [hval j hj, e, Int.toNat_natCast] at h5
        exact h5
      · have hz0 : cntH l i l.length = 0 := by
          rw [← hmp.val]
          refine getM_none fun x hx e => c ?_
          obtain ⟨j, hj, rfl⟩ := List.mem_iff_getElem.1 hx
          exact ⟨j, hj, by rw [List.getD_eq_getElem?_getD, List.getElem?_eq_getElem hj]; exact e⟩
        have := hw.2.2 i hi
        unfold fits
        rw [hz0, Int.mul_zero]; omega
    · rcases o3 with h | ⟨j, hj, h⟩
      · omega
      · skip
        rw [← h]
        have h5 := hfit (mp.getD j default).1.toNat (by have := hkey j hj; omega)
        rw [Int.toNat_of_nonneg (hkey j hj).1, ← hval j hj] at h5
        exact (limit_iff (hfk j hj).1 (hfk j hj).2 hd hd2).2 h5
end Go.Acq
