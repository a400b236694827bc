/- Plain law: copies; a row of one, again and again. -/
import Derived.Test.YtcdbemdogkmahaaAcqL02
namespace Go.Acq
open Go
set_option linter.unusedSimpArgs false
theorem getD_appL {α : Type} {xs ys : List α} {d : α} {i : Nat} (h : i < xs.length) : (xs ++ ys).getD i d = xs.getD i d := by
  rw [List.getD_eq_getElem?_getD, List.getElem?_append_left h, List.getD_eq_getElem?_getD]
theorem getD_appR {α : Type} {xs ys : List α} {d : α} {i : Nat} (h : xs.length ≤ i) : (xs ++ ys).getD i d = ys.getD (i - xs.length) d := by
  rw [List.getD_eq_getElem?_getD, List.getElem?_append_right h, List.getD_eq_getElem?_getD]
/-- of whom a place is -/
theorem pos_row {al : List Arc} {i v : Nat} {s : Bool} (hi : i < al.length) (hne : (al.getD i default).fr ≠ (al.getD i default).to) (h0 : 0 ≤ vtx (al.getD i default) s) (h1 : begins al v ≤ pos al i s) (h2 : pos al i s < begins al (v + 1)) : vtx (al.getD i default) s = v ∧ pos al i s = begins al v + cnt al v i := by
  obtain ⟨u, hu⟩ : ∃ u : Nat, vtx (al.getD i default) s = u := ⟨(vtx (al.getD i default) s).toNat, by omega⟩
  have hcl := cnt_lt (s := s) hi hne h0
  have hpos : pos al i s = begins al u + cnt al u i := by unfold pos; rw [hu, Int.toNat_natCast]
  rw [hu, Int.toNat_natCast] at hcl
  have hb1 : begins al (u + 1) = begins al u + cnt al u al.length := rfl
  have : u = v := by
    rcases Nat.lt_trichotomy u v with h | h | h
    · have := begins_mono (al := al) (show u + 1 ≤ v by omega); omega
    · exact h
    · have := begins_mono (al := al) (show v + 1 ≤ u by omega); omega
  subst this
  exact ⟨hu, hpos⟩
end Go.Acq
