/- Plain law: a search in a row that rises; where a residual arc begins. -/
import Derived.Test.YtcdbemdogkmahaaAcqL02
namespace Go.Acq
open Go
set_option linter.unusedSimpArgs false
/-- the first place at which a row that rises has x or more -/
def FirstAt (l : List Int) (x : Int) (r : Nat) : Prop := r ≤ l.length ∧ (∀ k, k < r → l.getD k 0 < x) ∧ (r < l.length → x ≤ l.getD r 0)
theorem s_SearchInts {l : List Int} {x : Int} (hl : l.length ≤ 4611686018427387904) (hm : ∀ i j, i ≤ j → j < l.length → l.getD i 0 ≤ l.getD j 0) : Ok (m_sort_SearchInts l x) (fun r => ∃ n : Nat, r = n ∧ FirstAt l x n) := by
  unfold m_sort_SearchInts m_sort_Search_SearchInts_1
  refine Ok.bind.2 (Ok.bind.2 (Ok.lp (fun s => ∃ i j : Nat, s = ((i : Int), (j : Int)) ∧ i ≤ j ∧ j ≤ l.length ∧ (∀ k, k < i → l.getD k 0 < x) ∧ (j < l.length → x ≤ l.getD j 0)) (fun s => (s.2 - s.1).toNat) ⟨0, l.length, rfl, by omega, by omega, fun k h => by omega, fun h => by omega⟩ (by unfold FUEL; omega) ?_))
  rintro s ⟨i, j, rfl, h1, h2, h3, h4⟩ P next exit
  unfold m_sort_Search_SearchInts_1_s1 m_sort_SearchInts_1
  have next : ∀ i' j' : Nat, i' ≤ j' → j' ≤ l.length → (∀ k, k < i' → l.getD k 0 < x) → (j' < l.length → x ≤ l.getD j' 0) → j' - i' < j - i → P (.inl ((i' : Int), (j' : Int))) := fun i' j' a b c d e => next _ ⟨i', j', rfl, a, b, c, d⟩ (by simp only; omega)
  simp only
  refine Ok.ite.2 ⟨fun hx => ?_, fun hx => Ok.some.2 (exit _ ?_)⟩
  · have hd : Int.fdiv ((i : Int) + j) (2 ^ 1) = ((i + j) / 2 : Nat) := by rw [Int.fdiv_eq_ediv_of_nonneg _ (by omega)]; omega
    simp only [hd, Int.toNat_natCast]
    refine Ok.gd.2 ⟨(by (first | omega | (constructor <;> omega) | (simp only [List.length_set, List.length_replicate]; omega) | (simp only [List.length_set, List.length_replicate]; constructor <;> omega))), Ok.gd.2 ⟨(by (first | omega | (constructor <;> omega) | (simp only [List.length_set, List.length_replicate]; omega) | (simp only [List.length_set, List.length_replicate]; constructor <;> omega))), Ok.gd.2 ⟨(by (first | omega | (constructor <;> omega) | (simp only [List.length_set, List.length_replicate]; omega) | (simp only [List.length_set, List.length_replicate]; constructor <;> omega))), Ok.bind.2 (Ok.gd.2 ⟨(by (first | omega | (constructor <;> omega) | (simp only [List.length_set, List.length_replicate]; omega) | (simp only [List.length_set, List.length_replicate]; constructor <;> omega))), Ok.some.2 (Ok.ite.2 ⟨fun hb => ?_, fun hb => ?_⟩)⟩)⟩⟩⟩
    · have hb : l.getD ((i + j) / 2) 0 < x := by
        have : ¬ x ≤ l.getD ((i + j) / 2) 0 := by simpa using hb
        omega
      refine Ok.gd.2 ⟨(by (first | omega | (constructor <;> omega) | (simp only [List.length_set, List.length_replicate]; omega) | (simp only [List.length_set, List.length_replicate]; constructor <;> omega))), Ok.some.2 ?_⟩
      have := next ((i + j) / 2 + 1) j (by omega) h2 (fun k hk => by have := hm k ((i + j) / 2) (by omega) (by omega); omega) h4 (by omega)
      rwa [show (((i + j) / 2 + 1 : Nat) : Int) = (((i + j) / 2 : Nat) : Int) + 1 by omega] at this
    · have hb : x ≤ l.getD ((i + j) / 2) 0 := by
        have : ¬ ¬ x ≤ l.getD ((i + j) / 2) 0 := by simpa using hb
        omega
      exact Ok.some.2 (next i ((i + j) / 2) (by omega) (by omega) h3 (fun _ => hb) (by omega))
  · unfold m_sort_Search_SearchInts_1_j2
    have : i = j := by omega
    subst this
    exact Ok.some.2 (Ok.some.2 ⟨i, rfl, h2, h3, h4⟩)
theorem s_Len (c : Csr) : m_csr_Len c = some (c.Head.length : Int) := rfl
/-- where an arc begins -/
theorem s_Tail {n : Net} {m : Nat} {c : Csr} (hc : CsrIs n m c) (he : endsOK m n.Arcs) (hm : m ≤ 4096) (hl : n.Arcs.length ≤ 16384) {i : Nat} {s : Bool} (hi : i < n.Arcs.length) (hne : (n.Arcs.getD i default).fr ≠ (n.Arcs.getD i default).to) :
    m_csr_Tail c (pos n.Arcs i s : Nat) = some (vtx (n.Arcs.getD i default) s, true) := by
  refine ok_eq ?_
  have hp := pos_lt (s := s) hi hne he
  have hbs := begins_small (al := n.Arcs) (v := m) (by omega) (by omega)
  have lf := hc.ok.lf
  have lh := hc.ok.lh
  unfold m_csr_Tail
  refine Ok.ite.2 ⟨fun h => by omega, fun _ => Ok.bind.2 (ok_of (s_Len c) ?_)⟩
  unfold m_csr_Tail_j1
  refine Ok.ite.2 ⟨fun h => by have := of_decide_eq_true h; omega, fun _ => Ok.gd.2 ⟨(by (first | omega | (constructor <;> omega) | (simp only [List.length_set, List.length_replicate]; omega) | (simp only [List.length_set, List.length_replicate]; constructor <;> omega))), ?_⟩⟩
  refine Ok.bind.2 (Ok.mono (s_SearchInts (by omega) fun a b hab hb => ?_) ?_)
  · rw [hc.ok.hf a (by omega), hc.ok.hf b (by omega)]
    have := begins_mono (al := n.Arcs) hab
    omega
  rintro r ⟨k, rfl, g1, g2, g3⟩
  have hv := he i hi s
  obtain ⟨v, hv'⟩ : ∃ v : Nat, vtx (n.Arcs.getD i default) s = v := ⟨(vtx (n.Arcs.getD i default) s).toNat, by omega⟩
  have hcl := cnt_lt (s := s) hi hne hv.1
  have hpos : pos n.Arcs i s = begins n.Arcs v + cnt n.Arcs v i := by unfold pos; rw [hv', Int.toNat_natCast]
  rw [hv'] at hv hcl ⊢
  rw [Int.toNat_natCast] at hcl
  have hb1 : begins n.Arcs (v + 1) = begins n.Arcs v + cnt n.Arcs v n.Arcs.length := rfl
  have e : k = v + 1 := by
    rcases Nat.lt_trichotomy k (v + 1) with h | h | h
    · have h3 := g3 (by omega)
      rw [hc.ok.hf k (by omega)] at h3
      have := begins_mono (al := n.Arcs) (show k ≤ v by omega)
      omega
    · exact h
    · have h3 := g2 (v + 1) h
      rw [hc.ok.hf (v + 1) (by omega)] at h3
      omega
  subst e
  refine Ok.gd.2 ⟨(by (first | omega | (constructor <;> omega) | (simp only [List.length_set, List.length_replicate]; omega) | (simp only [List.length_set, List.length_replicate]; constructor <;> omega))), Ok.some.2 ?_⟩
  simp
end Go.Acq
