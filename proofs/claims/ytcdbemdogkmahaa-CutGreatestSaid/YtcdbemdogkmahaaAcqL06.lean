/- Plain law: what is sent along a way. -/
import Derived.Test.YtcdbemdogkmahaaAcqL05
namespace Go.Acq
open Go
set_option linter.unusedSimpArgs false
/-- all numbers behind it -/
def SentP (n : Net) (f : List Int) (l : List Hop) (d : Int) (out : List Int) : Prop := out.length = n.Arcs.length ∧ ∀ i : Nat, i < n.Arcs.length → out.getD i 0 = f.getD i 0 + d * cntH l i l.length
theorem getD_map_range {g : Nat → Int} {n i : Nat} (h : i < n) : ((List.range n).map g).getD i 0 = g i := by
  rw [List.getD_eq_getElem?_getD, List.getElem?_map, List.getElem?_range h]; rfl
theorem s_Send {n : Net} {f : List Int} {l : List Hop} {d : Int} (hll : lenok n.Arcs.length) (hl : l.length ≤ 1048576) (hcap : ∀ i, i < n.Arcs.length → (n.Arcs.getD i default).cap ≤ 4611686018427387904) :
    Ok (m_flow_Send n f l d) (fun r => (∃ R, FwithinP n f ∧ WayK n l l.length ∧ RoomP n f l R ∧ ((0 ≤ d ∧ d ≤ R ∧ r.2 = 0 ∧ SentP n f l d r.1) ∨ (¬(0 ≤ d ∧ d ≤ R) ∧ r = ([], 2)))) ∨ (FwithinP n f ∧ ¬WayK n l l.length ∧ r = ([], 13)) ∨ (¬FwithinP n f ∧ r = ([], 20))) := by
  unfold m_flow_Send
  refine Ok.bind.2 (Ok.mono (s_Room hll hl hcap) ?_)
  rintro ⟨R, e⟩ (⟨hw, hway, he0, hR⟩ | ⟨hw, hway, he0⟩ | ⟨hw, he0⟩)
  rotate_left
  · injection he0 with h1 h2
    simp only [h2]
    exact Ok.ite.2 ⟨fun _ => Ok.some.2 (.inr (.inl ⟨hw, hway, rfl⟩)), fun h => absurd (by omega) h⟩
  · injection he0 with h1 h2
    simp only [h2]
    exact Ok.ite.2 ⟨fun _ => Ok.some.2 (.inr (.inr ⟨hw, rfl⟩)), fun h => absurd (by omega) h⟩
  simp only at he0 hR
  subst he0
  simp only
  rw [if_neg (by simp)]
  have hz := checkE_zero hw.1
  obtain ⟨m, hm⟩ : ∃ m : Nat, n.N = m := ⟨n.N.toNat, by omega⟩
  have he : endsOK m n.Arcs := endsOK_of (by rw [← hm]; exact hz.2.2.2.1)
  have hfl := hw.2.1
  have j1 : ∀ b : Bool, (b = true ↔ ¬(0 ≤ d ∧ d ≤ R)) → Ok (m_flow_Send_j1 n f l d b) (fun r => (∃ R, FwithinP n f ∧ WayK n l l.length ∧ RoomP n f l R ∧ ((0 ≤ d ∧ d ≤ R ∧ r.2 = 0 ∧ SentP n f l d r.1) ∨ (¬(0 ≤ d ∧ d ≤ R) ∧ r = ([], 2)))) ∨ (FwithinP n f ∧ ¬WayK n l l.length ∧ r = ([], 13)) ∨ (¬FwithinP n f ∧ r = ([], 20))) := by
    intro b hb
    unfold m_flow_Send_j1
    refine Ok.ite.2 ⟨fun h => Ok.some.2 (.inl ⟨R, hw, hway, hR, .inr ⟨hb.1 h, rfl⟩⟩), fun h => ?_⟩
    obtain ⟨d0, d1⟩ : 0 ≤ d ∧ d ≤ R := Classical.not_not.1 fun h2 => h (hb.2 h2)
    have hfit := (hR.2.2 d d0 (Int.le_trans d1 hR.2.1)).1 d1
    unfold m_slices_Clone_int64
    refine Ok.bind.2 (Ok.gd.2 ⟨(by (first | omega | (constructor <;> omega) | (simp only [List.length_set, List.length_replicate]; omega) | (simp only [List.length_set, List.length_replicate]; constructor <;> omega))), Ok.some.2 (Ok.bind.2 (Ok.mono (s_along he (by omega)) ?_))⟩)
    rintro ⟨mp, ok⟩ (⟨-, h2, hmp⟩ | ⟨h2, -⟩)
    rotate_left
    · exact absurd hway h2
    simp only at h2 hmp ⊢
    have hkey : ∀ j, j < mp.length → 0 ≤ (mp.getD j default).1 ∧ (mp.getD j default).1 < n.Arcs.length := fun j hj => hmp.key _ (getD_mem hj default)
    have hval : ∀ j, j < mp.length → (mp.getD j default).2 = cntH l (mp.getD j default).1 l.length := fun j hj => by rw [← hmp.val, hmp.apart.at default hj]
    refine Ok.bind.2 (Ok.lpA (fun s => s.1.length = n.Arcs.length ∧ ∀ i : Nat, i < n.Arcs.length → (s.1.getD i 0 = f.getD i 0 ∧ ∀ j, j < mp.length → j ∈ s.2 → (mp.getD j default).1 ≠ i) ∨ (s.1.getD i 0 = f.getD i 0 + d * cntH l i l.length ∧ ∃ j, j < mp.length ∧ j ∈ s.2 ∧ (mp.getD j default).1 = i))
      (fun s => leftN s.2 mp.length) ((List.range n.Arcs.length).map fun i : Nat => f.getD i 0 + d * cntH l i l.length) ⟨hfl, fun i hi => .inl ⟨rfl, fun j _ hj => by cases hj⟩⟩ ?_ (fun s => altsM_ne _ _) ?_ ?_)
    · have := leftN_le [] mp.length
      have hlen : mp.length ≤ n.Arcs.length := apart_le hmp.apart hkey
      show leftN [] mp.length < FUEL
      unfold FUEL; omega
    · rintro ⟨xs, seen⟩ ⟨h1, h3⟩ c hc P next exit
      simp only at h1 h3 hc next ⊢
      unfold m_flow_Send_s2
      cases c with
      | none =>
        have hall := altsM_none hc
        have : (List.range n.Arcs.length).map (fun i : Nat => f.getD i 0 + d * cntH l i l.length) = xs := by
          refine eq_of_getD 0 (by rw [List.length_map, List.length_range, h1]) fun i hi => ?_
          rw [List.length_map, List.length_range] at hi
          rw [getD_map_range hi]
          rcases h3 i hi with ⟨h4, h5⟩ | ⟨h4, -⟩
          · rw [h4]
            have hz0 : cntH l i l.length = 0 := by
              rw [← hmp.val]
              refine getM_none fun x hx e => ?_
              obtain ⟨j, hj, rfl⟩ := List.mem_iff_getElem.1 hx
              refine h5 j hj (hall j hj) ?_
              rw [List.getD_eq_getElem?_getD, List.getElem?_eq_getElem hj]; exact e
            rw [hz0, Int.mul_zero, Int.add_zero]
          · exact h4.symm
        rw [this] at exit
        exact Ok.some.2 exit
      | some j =>
        obtain ⟨hj, hs⟩ := altsM_some hc
        have k0 := hkey j hj
        obtain ⟨p, hp⟩ : ∃ p : Nat, (mp.getD j default).1 = p := ⟨(mp.getD j default).1.toNat, by omega⟩
        have hpl : p < n.Arcs.length := by omega
        have hlt := (leftN_lt hs mp.length).2 hj
        have h4 : xs.getD p 0 = f.getD p 0 := by
          rcases h3 p hpl with ⟨h4, -⟩ | ⟨-, i, hi, his, e⟩
          · exact h4
          · exact absurd (hmp.apart.inj default hi hj (e.trans hp.symm) ▸ his) hs
        have hf := hw.2.2 p hpl
        have hc := hcap p hpl
        have hfp := hfit p hpl
        have hv := hval j hj
        rw [hp] at hv
        unfold fits at hfp
        rw [← hv] at hfp
        show Ok (gd _ _) P
        simp only [hp, Int.toNat_natCast, h4]
        refine Ok.gd.2 ⟨(by (first | omega | (constructor <;> omega) | (simp only [List.length_set, List.length_replicate]; omega) | (simp only [List.length_set, List.length_replicate]; constructor <;> omega))), Ok.gd.2 ⟨(by (first | omega | (constructor <;> omega) | (simp only [List.length_set, List.length_replicate]; omega) | (simp only [List.length_set, List.length_replicate]; constructor <;> omega))), Ok.gd.2 ⟨(by (first | omega | (constructor <;> omega) | (simp only [List.length_set, List.length_replicate]; omega) | (simp only [List.length_set, List.length_replicate]; constructor <;> omega))), Ok.gd.2 ⟨(by (first | omega | (constructor <;> omega) | (simp only [List.length_set, List.length_replicate]; omega) | (simp only [List.length_set, List.length_replicate]; constructor <;> omega))), Ok.some.2 (next _ ⟨by simp [h1], fun i hi => ?_⟩ hlt)⟩⟩⟩⟩
        simp only [lset]
        by_cases c : p = i
        · subst c
          right
          rw [if_pos ⟨rfl, by omega⟩, hv]
          exact ⟨rfl, j, hj, List.mem_append_right _ List.mem_cons_self, hp⟩
        · rw [if_neg (fun h => c h.1)]
          rcases h3 i hi with ⟨h5, h6⟩ | ⟨h5, q, hq, hqs, e⟩
          · left
            refine ⟨h5, fun q hq hqs => ?_⟩
            rcases List.mem_append.1 hqs with hqs | hqs
            · exact h6 q hq hqs
            · rw [List.mem_singleton.1 hqs, hp]; omega
          · right
            exact ⟨h5, q, hq, List.mem_append_left _ hqs, e⟩
    · unfold m_flow_Send_j3
      refine Ok.some.2 (.inl ⟨R, hw, hway, hR, .inl ⟨d0, d1, rfl, by simp, fun i hi => ?_⟩⟩)
      rw [getD_map_range hi]
  refine Ok.ite.2 ⟨fun h => j1 _ ⟨fun _ h2 => by omega, fun _ => rfl⟩, fun h => j1 _ ?_⟩
  rw [decide_eq_true_iff]
  omega
end Go.Acq
