/- Texts of this claim, one behind the other. -/
import Derived.Test.YtnppjbofdkokkaaGreatDoorA3
import Derived.Test.YtnppjbofdkokkaaGreatDoorA2
import Derived.Lib.ParseIntBTie
set_option linter.unusedVariables false
set_option linter.unusedSimpArgs false
namespace Go.Acq
open Go
def turn (a : Arc) : Arc := ⟨a.to, a.fr, a.cap⟩
theorem Z9y (al : List Arc) (i : Nat) : (al.map turn).getD i default = turn (al.getD i default) := by
 rw [List.getD_eq_getElem?_getD, List.getD_eq_getElem?_getD, List.getElem?_map]
 cases al[i]? <;> rfl
theorem SomeAt.turn {m : Nat} {ol : List Arc} (h : SomeAt m ol) : SomeAt m (ol.map turn) := by
 intro a ha
 obtain ⟨b, hb, rfl⟩ := List.mem_map.1 ha
 obtain ⟨h1, h2⟩ := h b hb
 simp only [Us, Bool.and_eq_true] at h1
 exact ⟨by simp only [Us, Acq.turn, Bool.and_eq_true]; exact ⟨h1.2, h1.1⟩, h2⟩
theorem WithinAt.turn {al : List Arc} {n k : Nat} {fl : List Int} (h : WithinAt al n k fl) : WithinAt (al.map turn) n k fl :=
 ⟨h.1, fun i hi => by rw [Z9y]; exact ⟨(h.2.1 i hi).1, (h.2.1 i hi).2.1, fun e => (h.2.1 i hi).2.2 e.symm⟩, h.2.2⟩
theorem CsrOK.place {al : List Arc} {m : Nat} {fs hs rs cs aa : List Int} {bs : List Bool} (h : CsrOK al m fs hs rs cs aa bs) {j : Nat} (hj : j < Yq al m) :
    ∃ i s, i < al.length ∧ (al.getD i default).fr ≠ (al.getD i default).to ∧ Zd al i s = j ∧ hs.getD j 0 = Xa (al.getD i default) (!s) ∧ rs.getD j 0 = Zd al i (!s) ∧ cs.getD j 0 = (if s then 0 else (al.getD i default).cap) ∧ aa.getD j 0 = i ∧ bs.getD j false = s := by
  obtain ⟨i, s, hi, hne, hp, _⟩ := pos_surj hj
  have := h.hat i hi hne s
  rw [hp] at this
  exact ⟨i, s, hi, hne, hp, this⟩
end Go.Acq
namespace Go.Acq
open Go
theorem ok_eq {α : Type} {m : Option α} {v : α} (h : Ok m (fun a => a = v)) : m = some v := by obtain ⟨a, h1, h2⟩ := h; rw [h1, h2]
theorem Va {α : Type} {m : Option α} {v : α} {Q : α → Prop} (h : m = some v) (q : Q v) : Ok m Q := ⟨v, h, q⟩
abbrev lenok (n : Nat) : Prop := n ≤ 9223372036854775807
theorem Z11 {x n : Int} (h1 : n ≤ 4611686018427387904) : Ge x n = some (Jh x n) := by
 unfold Ge Jh
 by_cases h : n < 1
 · rw [if_pos h, if_pos h]
 ·
  have a1 := Int.tmod_lt_of_pos x (show 0 < n by omega)
  have a2 := Z8x x (show 0 < n by omega)
  rw [if_neg h, if_neg h, Wf (by omega), Wf (by constructor <;> omega), Wf (by omega)]
theorem Z26 (n : Net) (v : Int) : Gx n v = some (Ue n.N v) := by
 unfold Gx Ue
 by_cases h : 0 ≤ v <;> simp [h]
theorem s_rules4 (n : Net) (a : Arc) : Z0g n a = some (Us n.N a) := by
 unfold Z0g Us
 rw [Z26, Z26]
 simp only [Option.bind_some]
 cases Ue n.N a.fr <;> simp
theorem s_of4 (n : Net) (h : lenok n.Arcs.length) : Z1h n = some (n.Arcs.all (Us n.N)) := by
 refine ok_eq ?_
 unfold Z1h Z3q Z2h
 refine Ok.bind.2 (Ok.bind.2 (Ok.bind.2 (Z3j (fun x => 0 ≤ x ∧ x ≤ n.Arcs.length ∧ ∀ i, i < x.toNat → Us n.N (n.Arcs.getD i default) = true) (fun x => (n.Arcs.length - x).toNat) ⟨by omega, by omega, fun i hi => by omega⟩ (by unfold Wl; omega) ?_)))
 rintro x ⟨h0, h1, h2⟩
 unfold Z0c Z32
 refine Ok.ite.2 ⟨fun hx => ?_, fun hx => ?_⟩
 ·
  refine Ok.gd.2 ⟨(by omega), Ok.bind.2 (Ok.bind.2 (Va (s_rules4 _ _) (Ok.some.2 (Ok.ite.2 ⟨fun hb => ?_, fun hb => ?_⟩))))⟩
  ·
   refine Ok.some.2 (Ok.some.2 (Ok.some.2 (Ok.some.2 ?_)))
   simp only [h0, decide_true, Bool.not_true]
   refine Eq.symm (Bool.eq_false_iff.2 fun hall => ?_)
   have := List.all_eq_true.1 hall _ (Lj (show x.toNat < n.Arcs.length by omega) default)
   rw [this] at hb; cases hb
  ·
   refine Ok.gd.2 ⟨(by omega), Ok.some.2 ⟨⟨by omega, by omega, fun i hi => ?_⟩, by omega⟩⟩
   rcases Nat.lt_or_ge i x.toNat with h3 | h3
   · exact h2 i h3
   · rw [show i = x.toNat by omega]; simpa using hb
 ·
  refine Ok.some.2 (Ok.some.2 (Ok.some.2 (Ok.some.2 ?_)))
  refine Eq.symm (List.all_eq_true.2 fun a ha => ?_)
  obtain ⟨i, hi, rfl⟩ := List.getElem_of_mem ha
  have := h2 i (by omega)
  rwa [List.getD_eq_getElem?_getD, List.getElem?_eq_getElem hi] at this
theorem s_of5 (n : Net) (h : lenok n.Arcs.length) : Z1a n = some (n.Arcs.all Gt) := by
 refine ok_eq ?_
 unfold Z1a Z31 Z3t
 refine Ok.bind.2 (Ok.bind.2 (Ok.bind.2 (Z3j (fun x => 0 ≤ x ∧ x ≤ n.Arcs.length ∧ ∀ i, i < x.toNat → Gt (n.Arcs.getD i default) = true) (fun x => (n.Arcs.length - x).toNat) ⟨by omega, by omega, fun i hi => by omega⟩ (by unfold Wl; omega) ?_)))
 rintro x ⟨h0, h1, h2⟩
 unfold Z0n Z1x Z36
 refine Ok.ite.2 ⟨fun hx => ?_, fun hx => ?_⟩
 ·
  refine Ok.gd.2 ⟨(by omega), Ok.bind.2 (Ok.bind.2 (Ok.some.2 (Ok.some.2 (Ok.ite.2 ⟨fun hb => ?_, fun hb => ?_⟩))))⟩
  ·
   refine Ok.some.2 (Ok.some.2 (Ok.some.2 (Ok.some.2 ?_)))
   simp only [h0, decide_true, Bool.not_true]
   refine Eq.symm (Bool.eq_false_iff.2 fun hall => ?_)
   have := List.all_eq_true.1 hall _ (Lj (show x.toNat < n.Arcs.length by omega) default)
   simp only [Gt] at this
   rw [this] at hb; cases hb
  ·
   refine Ok.gd.2 ⟨(by omega), Ok.some.2 ⟨⟨by omega, by omega, fun i hi => ?_⟩, by omega⟩⟩
   rcases Nat.lt_or_ge i x.toNat with h3 | h3
   · exact h2 i h3
   · rw [show i = x.toNat by omega]; simpa [Gt] using hb
 ·
  refine Ok.some.2 (Ok.some.2 (Ok.some.2 (Ok.some.2 ?_)))
  refine Eq.symm (List.all_eq_true.2 fun a ha => ?_)
  obtain ⟨i, hi, rfl⟩ := List.getElem_of_mem ha
  have := h2 i (by omega)
  rwa [List.getD_eq_getElem?_getD, List.getElem?_eq_getElem hi] at this
theorem s_Sum (n : Net) (h : lenok n.Arcs.length) : Z19 n = some (match Vt 4611686018427387904 n.Arcs with | some l => (4611686018427387904 - l, true) | none => (0, false)) := by
 refine ok_eq ?_
 unfold Z19
 refine Ok.bind.2 (Z3j (fun s => 0 ≤ s.2 ∧ s.2 ≤ n.Arcs.length ∧ 0 ≤ s.1 ∧ s.1 ≤ 4611686018427387904 ∧ Vt 4611686018427387904 n.Arcs = Vt s.1 (n.Arcs.drop s.2.toNat)) (fun s => (n.Arcs.length - s.2).toNat) ⟨by simp, by simp, by simp, by simp, by simp⟩ (by unfold Wl; simp; omega) ?_)
 rintro ⟨left, x⟩ ⟨h0, h1, h2, h3, h4⟩
 simp only at h0 h1 h2 h3 h4 ⊢
 unfold Z1l Z17
 refine Ok.ite.2 ⟨fun hx => ?_, fun hx => ?_⟩
 ·
  rw [Zbm (by omega)] at h4
  refine Ok.gd.2 ⟨(by omega), Ok.ite.2 ⟨fun hb => ?_, fun hb => ?_⟩⟩
  ·
   rw [if_pos rfl]
   refine Ok.some.2 (Ok.some.2 ?_)
   rw [h4, if_pos (.inl hb)]
  ·
   by_cases hc : left < (n.Arcs.getD x.toNat default).cap
   ·
    rw [if_pos (decide_eq_true hc)]
    refine Ok.some.2 (Ok.some.2 ?_)
    rw [h4, if_pos (.inr hc)]
   ·
    rw [if_neg (by simpa using hc)]
    refine Ok.gd.2 ⟨(by omega), Ok.gd.2 ⟨(by omega), Ok.some.2 ⟨⟨by simp only; omega, by simp only; omega, by simp only; omega, by simp only; omega, ?_⟩, by simp only; omega⟩⟩⟩
    rw [h4, if_neg (by omega)]
    simp only
    rw [show (x + 1).toNat = x.toNat + 1 by omega]
 ·
  unfold Z37
  refine Ok.some.2 (Ok.gd.2 ⟨(by omega), Ok.some.2 ?_⟩)
  rw [h4, List.drop_eq_nil_of_le (by omega)]
  rfl
theorem Z06 (n : Net) (h : lenok n.Arcs.length) : Jl n = some (Vv n.N n.S n.T n.Arcs) := by
 unfold Jl Z24 Z2i Z38 Z2k Z3v Z20 Z2f Z30
 rw [Z26, Z26, s_of4 n h, s_of5 n h, s_Sum n h]
 unfold Vv
 simp only [Option.bind_some]
 by_cases h1 : 2 ≤ n.N ∧ n.N ≤ 4096
 ·
  rw [if_pos h1.1, if_neg (not_not_intro h1)]
  simp only [Option.bind_some, decide_eq_true h1.2, Bool.not_true, Bool.false_eq_true, if_false]
  by_cases h2 : (n.Arcs.length : Int) ≤ 16384
  ·
   rw [if_neg (by simp [h2]), if_neg (not_not_intro h2)]
   by_cases h3 : Ue n.N n.S = true ∧ Ue n.N n.T = true ∧ n.S ≠ n.T
   ·
    rw [if_pos h3.1, if_pos h3.2.1, if_neg (not_not_intro h3)]
    simp only [Option.bind_some, decide_eq_true h3.2.2, Bool.not_true, Bool.false_eq_true, if_false]
    cases h4 : n.Arcs.all (Us n.N)
    · simp
    ·
     cases h5 : n.Arcs.all Gt
     · simp
     · cases h6 : Vt 4611686018427387904 n.Arcs <;> simp
   ·
    rw [if_pos h3]
    by_cases a1 : Ue n.N n.S = true
    ·
     by_cases a2 : Ue n.N n.T = true
     ·
      have a3 : ¬ n.S ≠ n.T := fun e => h3 ⟨a1, a2, e⟩
      simp [a1, a2, a3]
     · simp [a1, a2]
    · simp [a1]
  · rw [if_pos (by simp [h2]), if_pos h2]
 ·
  rw [if_pos h1]
  by_cases a1 : 2 ≤ n.N
  ·
   have a2 : ¬ n.N ≤ 4096 := fun e => h1 ⟨a1, e⟩
   simp [a1, a2]
  · simp [a1]
end Go.Acq
namespace Go.Acq
open Go
structure NetIn (n : Net) : Prop where
  nN : i64ok n.N
  nS : i64ok n.S
  nT : i64ok n.T
  arcs : ∀ a, a ∈ n.Arcs → i64ok a.fr ∧ i64ok a.to ∧ i64ok a.cap
  len : n.Arcs.length ≤ 9223372036854775807
structure Made (n : Net) (v a : Int) : Prop where
  check : Vv n.N n.S n.T n.Arcs = 0
  rows : SomeAt n.N.toNat n.Arcs
  verts : n.N ≤ v
  arcs : (n.Arcs.length : Int) ≤ a
  ends : 2 ≤ n.N ∧ 0 ≤ n.S ∧ n.S < n.N ∧ 0 ≤ n.T ∧ n.T < n.N ∧ n.S ≠ n.T
theorem Made.caps {n : Net} {m : Nat} (h : SomeAt m n.Arcs) : ∀ i, i < n.Arcs.length → 0 ≤ (n.Arcs.getD i default).cap ∧ (n.Arcs.getD i default).cap < 1125899906842624 := fun _ hi => (h _ (Lj hi default)).2
theorem s_Some {n : Net} {v a : Int} (h : NetIn n) (hv0 : 2 ≤ v) (hv1 : v ≤ 4096) (ha0 : 0 ≤ a) (ha1 : a ≤ 4096) : Ok (Z0v n v a) (fun r => Made r v a) := by
 have hN := Z15 (x := n.N) (n := v - 1) (by omega)
 unfold Z0v
 refine Ok.gd.2 ⟨(by omega), Ok.bind.2 (Va (Z11 (by omega)) (Ok.gd.2 ⟨(by omega), ?_⟩))⟩
 obtain ⟨m, hm⟩ : ∃ m : Nat, 2 + Jh n.N (v - 1) = m := ⟨(2 + Jh n.N (v - 1)).toNat, by omega⟩
 rw [hm]
 have hS := Z15 (x := n.S) (n := (m : Int)) (by omega)
 have hT := Z15 (x := n.T) (n := (m : Int)) (by omega)
 refine Ok.bind.2 (Va (Z11 (by omega)) (Ok.bind.2 (Va (Z11 (by omega)) ?_)))
 have key : ∀ t : Int, 0 ≤ t → t < m → t ≠ Jh n.S m → Ok (Rg n a (Jh n.N (v - 1)) (Jh n.S m) t) (fun r => Made r v a) := by
  intro t t0 t1 t2
  unfold Rg
  refine Ok.gd.2 ⟨(by omega), Ok.bind.2 ?_⟩
  obtain ⟨q, hq⟩ : ∃ q : Nat, min (n.Arcs.length : Int) a = q := ⟨(min (n.Arcs.length : Int) a).toNat, by omega⟩
  obtain ⟨al, hal⟩ : ∃ l, l = n.Arcs.take (q : Int).toNat := ⟨_, rfl⟩
  have hlen : al.length = q := by rw [hal, List.length_take]; omega
  have hcap : ∀ b, b ∈ al → i64ok b.cap := fun b hb => (h.arcs b (List.mem_of_mem_take (by rw [← hal]; exact hb))).2.2
  refine Ok.lp (fun s => ∃ k : Nat, s.2 = k ∧ k ≤ q ∧ s.1.length = k ∧ SomeAt m s.1) (fun s => (q - s.2).toNat) ⟨0, rfl, by omega, rfl, fun b hb => by cases hb⟩ (by unfold Wl; simp only; omega) ?_
  rintro ⟨ol, x⟩ ⟨k, h1, h2, h3, h4⟩ P next exit
  simp only at h1 h2 h3 h4 next ⊢
  subst h1
  unfold Z0z
  rw [hq, ← hal]
  simp only [Int.toNat_natCast]
  refine Ok.ite.2 ⟨fun hx => ?_, fun hx => ?_⟩
  ·
   have hkl : k < al.length := by omega
   have hc := hcap _ (Lj hkl default)
   have hj : ∀ c : Int, 0 ≤ c → Ok (Rt n a (Jh n.N (v - 1)) ol k c) P := by
    intro c hc0
    unfold Rt
    rw [hq, ← hal, hm]
    refine Ok.bind.2 (Va (Z11 (by omega)) (Ok.bind.2 (Va (Z11 (by omega)) (Ok.gd.2 ⟨?_, Ok.gd.2 ⟨(by omega), Ok.some.2 (next _ ⟨k + 1, by simp, by omega, by simp [h3], ?_⟩ (by simp only; omega))⟩⟩))))
    · rw [List.length_append, h3]; simp only [List.length_cons, List.length_nil]; constructor <;> omega
    · exact h4.put (Z15 (by omega)) (Z15 (by omega)) (Zdg hc0 (by omega))
   refine Ok.gd.2 ⟨(by omega), Ok.ite.2 ⟨fun hn => ?_, fun hn => ?_⟩⟩
   · exact Ok.gd.2 ⟨by constructor <;> omega, Ok.gd.2 ⟨by constructor <;> omega, hj (-((al.getD k default).cap + 1)) (by omega)⟩⟩
   · exact hj (al.getD k default).cap (by omega)
  ·
   refine Ok.some.2 (exit _ ?_)
   unfold Z2z
   refine Ok.some.2 ?_
   rw [hm]
   exact ⟨Zai (by omega) (by omega) hS ⟨t0, t1⟩ t2 h4 (show ol.length ≤ 4096 by omega), by simpa using h4, by simp only; omega, by show (ol.length : Int) ≤ a; omega, ⟨by simp only; omega, hS.1, hS.2, t0, t1, fun e => t2 e.symm⟩⟩
 refine Ok.ite.2 ⟨fun he => ?_, fun he => ?_⟩
 ·
  refine Ok.gd.2 ⟨(by omega), Ok.gd.2 ⟨by omega, ?_⟩⟩
  obtain ⟨n1, n2, n3⟩ := next_ne hS.1 hS.2 (by omega)
  exact key _ n1 n2 n3
 · exact key _ hT.1 hT.2 (fun e => he e.symm)
end Go.Acq
namespace Go.Acq
open Go
def ex (al : List Arc) (f : List Int) (v : Int) : Nat → Int
  | 0 => 0
  | k + 1 => ex al f v k - (if (al.getD k default).fr = v then f.getD k 0 else 0) + (if (al.getD k default).to = v then f.getD k 0 else 0)
def part (al : List Arc) (f : List Int) (j : Int) : Nat → Int
  | 0 => 0
  | k + 1 => part al f j k - (if (al.getD k default).fr < j then f.getD k 0 else 0) + (if (al.getD k default).to < j then f.getD k 0 else 0)
def FwithinP (n : Net) (f : List Int) : Prop := Vv n.N n.S n.T n.Arcs = 0 ∧ f.length = n.Arcs.length ∧ ∀ i, i < n.Arcs.length → 0 ≤ f.getD i 0 ∧ f.getD i 0 ≤ (n.Arcs.getD i default).cap
end Go.Acq
namespace Go.Acq
open Go Go.Lib
theorem bs_getD (x : Str) (i : Nat) : (bs x).get! i = x.getD i 0 := by
 by_cases h : i < x.length
 · rw [Z8s x i h, List.getD_eq_getElem?_getD, List.getElem?_eq_getElem h]; rfl
 ·
  rw [List.getD_eq_getElem?_getD, List.getElem?_eq_none (by omega)]
  simp [ByteArray.get!, bs, h]; rfl
theorem Z8t (x : Str) (i : Nat) (h : i < x.length) (ha : 128 ≤ (x.getD i 0).toNat) : ∃ r k, Utf8.decode (bs x) i = (r, k) ∧ 128 ≤ r ∧ 1 ≤ k ∧ ∀ j, j < k → i + j < x.length ∧ 128 ≤ (x.getD (i + j) 0).toNat := by
 have h0 : ∀ j, j < 1 → i + j < x.length ∧ 128 ≤ (x.getD (i + j) 0).toNat := fun j hj => by
  obtain rfl : j = 0 := by omega
  exact ⟨h, ha⟩
 have hc : ∀ j, (decide (i + j < (bs x).size) && ((x.getD (i + j) 0).toNat / 64 == 2)) = true → i + j < x.length ∧ 128 ≤ (x.getD (i + j) 0).toNat := fun j hj => by
  simp only [Bool.and_eq_true, decide_eq_true_eq, beq_iff_eq, Xv] at hj
  omega
 unfold Utf8.decode
 simp only [bs_getD, Nat.add_zero]
 rw [if_neg (by omega)]
 split
 ·
  rename_i h1
  rw [Bool.and_eq_true] at h1
  split
  ·
   refine ⟨_, _, rfl, by assumption, by omega, fun j hj => ?_⟩
   rcases (by omega : j = 0 ∨ j = 1) with rfl | rfl
   · exact h0 0 (by omega)
   · exact hc 1 h1.2
  · exact ⟨_, _, rfl, by decide, by omega, h0⟩
 ·
  split
  ·
   rename_i h1
   rw [Bool.and_eq_true, Bool.and_eq_true] at h1
   split
   ·
    rename_i h2
    rw [Bool.and_eq_true, decide_eq_true_eq] at h2
    refine ⟨_, _, rfl, by omega, by omega, fun j hj => ?_⟩
    rcases (by omega : j = 0 ∨ j = 1 ∨ j = 2) with rfl | rfl | rfl
    · exact h0 0 (by omega)
    · exact hc 1 h1.1.2
    · exact hc 2 h1.2
   · exact ⟨_, _, rfl, by decide, by omega, h0⟩
  ·
   split
   ·
    rename_i h1
    rw [Bool.and_eq_true, Bool.and_eq_true, Bool.and_eq_true] at h1
    split
    ·
     rename_i h2
     rw [Bool.and_eq_true, decide_eq_true_eq] at h2
     refine ⟨_, _, rfl, by omega, by omega, fun j hj => ?_⟩
     rcases (by omega : j = 0 ∨ j = 1 ∨ j = 2 ∨ j = 3) with rfl | rfl | rfl | rfl
     · exact h0 0 (by omega)
     · exact hc 1 h1.1.1.2
     · exact hc 2 h1.1.2
     · exact hc 3 h1.2
    · exact ⟨_, _, rfl, by decide, by omega, h0⟩
   · exact ⟨_, _, rfl, by decide, by omega, h0⟩
theorem Z8q {l : Str} {i : Nat} {c : UInt8} (h : l[i]? = some c) : l.getD i 0 = c := by rw [List.getD_eq_getElem?_getD, h]; rfl
theorem Zap {p : Nat → Bool} (hp : ∀ r, 128 ≤ r → p r = false) (l : Str) (Zd : Nat) (h : Zd < l.length) :
    (∃ c, l[Zd]? = some c ∧ p c.toNat = true ∧ Utf8.decode (bs l) Zd = (c.toNat, 1)) ∨ (∃ r k, Utf8.decode (bs l) Zd = (r, k) ∧ p r = false ∧ 1 ≤ k ∧ Zd + k ≤ l.length ∧ ∀ b ∈ (l.drop Zd).take k, p b.toNat = false) := by
  obtain ⟨c, hc⟩ := Z1v h
  by_cases ha : c.toNat < 128
  · have hd := Z2r l Zd c hc ha
    cases hq : p c.toNat with
    | true => exact .inl ⟨c, hc, hq, hd⟩
    | false =>
      refine .inr ⟨_, _, hd, hq, by omega, by omega, fun b hb => ?_⟩
      rw [Z0r hc] at hb
      simp only [List.take_succ_cons, List.take_zero, List.mem_singleton] at hb
      rw [hb]; exact hq
  · obtain ⟨r, k, hd, hr, hk, hj⟩ := Z8t l Zd h (by rw [Z8q hc]; omega)
    have hle : Zd + k ≤ l.length := by have := (hj (k - 1) (by omega)).1; omega
    refine .inr ⟨r, k, hd, hp r hr, hk, hle, fun b hb => ?_⟩
    obtain ⟨j, hjl, rfl⟩ := List.mem_iff_getElem.1 hb
    rw [List.length_take, List.length_drop] at hjl
    have := (hj j (by omega)).2
    rw [List.getElem_take, List.getElem_drop]
    rw [List.getD_eq_getElem?_getD, List.getElem?_eq_getElem (by omega)] at this
    exact hp _ this
theorem Z0s {p : Nat → Bool} {l : Str} : ∀ (seg cur : Str), (∀ b ∈ seg, p b.toNat = false) → Xh p (seg ++ l) cur = Xh p l (cur ++ seg)
 | [], cur, _ => by rw [List.nil_append, List.append_nil]
 | b :: seg, cur, h => by
  rw [List.cons_append, Z41 (by rw [h b (.head _)]; decide), Z0s seg _ (fun x hx => h x (.tail _ hx)), List.append_assoc]; rfl
theorem Zdj {p : Nat → Bool} (hp : ∀ r, 128 ≤ r → p r = false) (l : Str) : ∀ (f Zd : Nat) (st : Option Nat) (acc : List (Nat × Nat)), l.length ≤ Zd + f → Zd ≤ l.length → opn st Zd →
    (closeSpans (bs l) (spansFromP p (bs l) f Zd st acc)).map (fun x => (l.take x.2).drop x.1) = acc.map (fun x => (l.take x.2).drop x.1) ++ Xh p (l.drop Zd) (Wd l st Zd) := by
  have hne : ∀ a Zd, a < Zd → Zd ≤ l.length → Wd l (some a) Zd ≠ [] := fun a Zd h1 h2 e => by
    have := congrArg List.length e
    unfold Wd at this
    simp only at this
    rw [List.length_drop, List.length_take] at this
    simp only [List.length_nil] at this
    omega
  have fin : ∀ (f Zd : Nat) (st : Option Nat) (acc : List (Nat × Nat)), Zd = l.length → opn st Zd →
      (closeSpans (bs l) (spansFromP p (bs l) f Zd st acc)).map (fun x => (l.take x.2).drop x.1) = acc.map (fun x => (l.take x.2).drop x.1) ++ Xh p (l.drop Zd) (Wd l st Zd) := by
    intro f Zd st acc hp ho
    subst hp
    rw [spansFromP_end _ _ _ _ _ _ (by rw [Xv]; omega), List.drop_eq_nil_of_le (Nat.le_refl _)]
    cases st with
    | none => simp [closeSpans, Wd, Xh]
    | some a =>
      rw [Z56 (hne a _ (ho a rfl) (Nat.le_refl _))]
      simp only [closeSpans, Wd, Xv, List.map_append, List.map_cons, List.map_nil]
  intro f
  induction f with
  | zero => intro Zd st acc hf hp ho; exact fin 0 Zd st acc (by omega) ho
  | succ f ih =>
    intro Zd st acc hf hpl ho
    by_cases hlt : Zd < l.length
    · have hsz : Zd < (bs l).size := by rw [Xv]; exact hlt
      rcases Zap hp l Zd hlt with ⟨c, hc, hq, hd⟩ | ⟨r, k, hd, hq, hk, hle, hseg⟩
      · rw [Z0r hc]
        cases st with
        | none =>
          have e : spansFromP p (bs l) (f + 1) Zd none acc = spansFromP p (bs l) f (Zd + 1) none acc := by simp only [spansFromP, if_pos hsz, hd, if_pos hq]
          rw [e, ih (Zd + 1) none acc (by omega) (by omega) (fun a e => by cases e)]
          rw [show Wd l none Zd = [] from rfl, Z8o hq]; rfl
        | some a =>
          have e : spansFromP p (bs l) (f + 1) Zd (some a) acc = spansFromP p (bs l) f (Zd + 1) none (acc ++ [(a, Zd)]) := by simp only [spansFromP, if_pos hsz, hd, if_pos hq]
          rw [e, ih (Zd + 1) none (acc ++ [(a, Zd)]) (by omega) (by omega) (fun a e => by cases e), Z4i hq (hne a Zd (ho a rfl) (by omega))]
          simp only [Wd, List.map_append, List.map_cons, List.map_nil, List.append_assoc, List.cons_append, List.nil_append]
      · have hq' : ¬ p r = true := by rw [hq]; decide
        have hs : l.drop Zd = (l.drop Zd).take k ++ l.drop (Zd + k) := by rw [← List.drop_drop, List.take_append_drop]
        cases st with
        | none =>
          have e : spansFromP p (bs l) (f + 1) Zd none acc = spansFromP p (bs l) f (Zd + k) (some Zd) acc := by simp only [spansFromP, if_pos hsz, hd, if_neg hq']
          rw [e, ih (Zd + k) (some Zd) acc (by omega) hle (fun a e => by cases e; omega), hs, Z0s _ _ hseg]
          simp only [Wd, List.nil_append]
          rw [show (l.take (Zd + k)).drop Zd = (l.drop Zd).take k by rw [List.drop_take]; congr 1; omega]
        | some a =>
          have e : spansFromP p (bs l) (f + 1) Zd (some a) acc = spansFromP p (bs l) f (Zd + k) (some a) acc := by simp only [spansFromP, if_pos hsz, hd, if_neg hq']
          rw [e, ih (Zd + k) (some a) acc (by omega) hle (fun b e => by cases e; have := ho a rfl; omega), hs, Z0s _ _ hseg]
          have h1 := ho a rfl
          have : Wd l (some a) (Zd + k) = Wd l (some a) Zd ++ (l.drop Zd).take k := by
            unfold Wd
            simp only
            rw [show l.take (Zd + k) = l.take Zd ++ (l.drop Zd).take k from List.take_add, List.drop_append_of_le_length (by rw [List.length_take]; omega)]
          rw [this]
    · exact fin (f + 1) Zd st acc (by omega) ho
theorem Zcg {p : Nat → Bool} (hp : ∀ r, 128 ≤ r → p r = false) (l : Str) : Z0j p l = Xh p l [] := by
 have h0 := Z6h p l
 have h1 := Zdj hp l l.length 0 none [] (by omega) (by omega) (fun a e => by cases e)
 simp only [List.map_nil, List.nil_append, List.drop_zero] at h1
 have h2 : Wd l none 0 = [] := rfl
 rw [h2] at h1
 have h3 : goFieldsP p (bs l) = (Xh p l []).map bs := by
  rw [← h1]
  unfold goFieldsP spansOfP
  rw [Xv, List.map_map]
  apply List.map_congr_left
  intro x _
  exact Z6z l x.1 x.2
 rw [h3] at h0
 have hinj : Function.Injective bs := fun a b h => by have := congrArg (fun z => z.data.toList) h; simpa [bs] using this
 exact ((List.map_inj_right (fun a b h => hinj h)).1 h0).symm
theorem Z3a {p : Nat → Bool} : ∀ (l cur : Str), ∀ w ∈ Xh p l cur, w ≠ []
 | [], cur, w, h => by
  unfold Xh at h
  split at h
  · cases h
  · rcases List.mem_singleton.1 h with rfl; assumption
 | b :: l, cur, w, h => by
  unfold Xh at h
  split at h
  ·
   split at h
   · exact Z3a l [] w h
   ·
    rcases List.mem_cons.1 h with rfl | h
    · assumption
    · exact Z3a l [] w h
  · exact Z3a l _ w h
theorem anyT_any {p : Nat → Bool} (hp : ∀ r, 128 ≤ r → p r = true) (l : Str) : anyT p l = l.any (fun b => p b.toNat) := by
 rw [← Z79]
 have key : ∀ (f Zd : Nat), l.length ≤ Zd + f → decide (0 ≤ idxFuncFrom p true (bs l) f Zd) = (l.drop Zd).any (fun b => p b.toNat) := by
  intro f
  induction f with
  | zero => intro Zd hf; rw [List.drop_eq_nil_of_le (by omega)]; rfl
  | succ f ih =>
   intro Zd hf
   by_cases hlt : Zd < l.length
   ·
    obtain ⟨c, hc⟩ := Z1v hlt
    rw [idxFuncFrom, if_pos (by rw [Xv]; exact hlt), Z0r hc, List.any_cons]
    by_cases ha : c.toNat < 128
    ·
     rw [Z2r l Zd c hc ha]
     by_cases hq : p c.toNat = true
     · rw [if_pos hq, hq, Bool.true_or]; exact decide_eq_true (by omega)
     ·
      rw [if_neg hq, Bool.eq_false_iff.2 hq, Bool.false_or]
      exact ih (Zd + 1) (by omega)
    ·
     obtain ⟨r, k, hd, hr, hk, hj⟩ := Z8t l Zd hlt (by rw [Z8q hc]; omega)
     rw [hd, if_pos (hp r hr), hp _ (by omega), Bool.true_or]
     exact decide_eq_true (by omega)
   · rw [idxFuncFrom_end _ _ _ _ _ (by rw [Xv]; exact hlt), List.drop_eq_nil_of_le (by omega)]; rfl
 unfold idxFunc
 rw [Xv, key l.length 0 (by omega), List.drop_zero]
def Gi (b : UInt8) : Bool := decide (48 ≤ b.toNat ∧ b.toNat ≤ 57)
def Vz (acc : Nat) (l : Str) : Nat := l.foldl (fun a b => a * 10 + (b.toNat - 48)) acc
theorem valD_nil (acc : Nat) : Vz acc [] = acc := rfl
theorem Za2 (acc : Nat) (b : UInt8) (l : Str) : Vz acc (b :: l) = Vz (acc * 10 + (b.toNat - 48)) l := by
 unfold Vz; rw [List.foldl_cons]
theorem Zaz (l : Str) : ∀ (acc : Nat), l.all Gi = true → (acc + 1) * 10 ^ l.length ≤ 18446744073709551616 → parseUintM 18446744073709551615 acc l = .ok (Vz acc l) := by
 induction l with
 | nil => intro acc _ _; rfl
 | cons b l ih =>
  intro acc h hb
  rw [List.all_cons, Bool.and_eq_true] at h
  have h1 : 48 ≤ b.toNat ∧ b.toNat ≤ 57 := of_decide_eq_true h.1
  rw [List.length_cons, Nat.pow_succ] at hb
  have hp : 1 ≤ 10 ^ l.length := Nat.one_le_pow _ _ (by omega)
  have h2 : (acc * 10 + (b.toNat - 48) + 1) * 10 ^ l.length ≤ 18446744073709551616 := by
   refine Nat.le_trans ?_ hb
   rw [Nat.mul_comm (10 ^ l.length) 10, ← Nat.mul_assoc]
   exact Nat.mul_le_mul_right _ (by omega)
  have h3 : acc * 10 + (b.toNat - 48) + 1 ≤ 18446744073709551616 := Nat.le_trans (by have := Nat.mul_le_mul_left (acc * 10 + (b.toNat - 48) + 1) hp; omega) h2
  rw [parseUintM, if_pos h1, if_neg (by omega), if_neg (by omega)]
  exact ih _ h.2 h2
def Wn (s : Str) : Int × Bool := if s.all Gi = true ∧ s ≠ [] ∧ s.length ≤ 19 ∧ Vz 0 s < 9223372036854775808 then ((Vz 0 s : Int), true) else (0, false)
theorem Zbw {s : Str} (h : s.all Gi = true) (h0 : s ≠ []) (h1 : s.length ≤ 19) : Z0l s = if Vz 0 s < 9223372036854775808 then ((Vz 0 s : Int), true) else (9223372036854775807, false) := by
 obtain ⟨c, r, rfl⟩ := List.exists_cons_of_ne_nil h0
 have hc : 48 ≤ c.toNat ∧ c.toNat ≤ 57 := by rw [List.all_cons, Bool.and_eq_true] at h; exact of_decide_eq_true h.1
 have hp : parseUintB 64 (c :: r) = .ok (Vz 0 (c :: r)) := by
  unfold parseUintB
  rw [if_neg h0]
  refine Zaz _ 0 h ?_
  have : (10 : Nat) ^ (c :: r).length ≤ 10 ^ 19 := Nat.pow_le_pow_right (by omega) h1
  omega
 unfold Z0l
 rw [parseIntB_plain 64 c r (by omega) (by omega), hp]
 simp only [signlessC]
 by_cases hv : Vz 0 (c :: r) < 9223372036854775808
 · rw [if_pos hv, if_neg (by omega)]
 ·
  rw [if_neg hv, if_pos (by omega)]
  simp only
  rw [intSat_other 64 c r (by omega)]; rfl
theorem Z44 : ∀ (f u : Nat), (Wm f u).all Gi = true
 | 0, u => rfl
 | f + 1, u => by
  have key : ∀ v, v < 10 → Gi (UInt8.ofNat (48 + v)) = true := fun v hv => by
   refine decide_eq_true ?_
   rw [UInt8.toNat_ofNat']
   omega
  rw [Wm]
  split
  · rw [List.all_cons, key u (by omega)]; rfl
  · rw [List.all_append, Z44 f, List.all_cons, key _ (by omega)]; rfl
theorem valD_app (l : Str) (acc : Nat) (b : UInt8) : Vz acc (l ++ [b]) = Vz acc l * 10 + (b.toNat - 48) := by
 unfold Vz; rw [List.foldl_append]; rfl
theorem Z6f : ∀ (f u : Nat), u < 10 ^ f → Vz 0 (Wm f u) = u
 | 0, u, h => by simp at h; subst h; rfl
 | f + 1, u, h => by
  have key : ∀ v, v < 10 → (UInt8.ofNat (48 + v)).toNat - 48 = v := fun v hv => by rw [UInt8.toNat_ofNat']; omega
  rw [Wm]
  split
  · rw [Za2, valD_nil, key u (by omega)]; omega
  · rw [valD_app, Z6f f (u / 10) (by rw [Nat.pow_succ] at h; omega), key _ (by omega)]; omega
theorem Z43 : ∀ (f u : Nat), u < 10 ^ f → 1 ≤ f → 1 ≤ (Wm f u).length ∧ (Wm f u).length ≤ f
 | 0, u, _, h => by omega
 | f + 1, u, h, _ => by
  rw [Wm]
  split
  · simp
  ·
   rename_i hu
   rw [List.length_append, List.length_singleton]
   have h2 : u / 10 < 10 ^ f := by rw [Nat.pow_succ] at h; omega
   cases f with
   | zero => simp at h; omega
   | succ f => have := Z43 (f + 1) (u / 10) h2 (by omega); omega
theorem Z82 : ∀ (f u : Nat), u < 10 ^ (f + 1) → Wm (f + 2) u = Wm (f + 1) u
 | 0, u, h => by
  have h2 : u < 10 := by simpa using h
  rw [Wm, if_pos h2, Wm, if_pos h2]
 | f + 1, u, h => by
  by_cases hu : u < 10
  · rw [Wm, if_pos hu, Wm, if_pos hu]
  ·
   rw [Wm, if_neg hu, Z82 f (u / 10) (by rw [Nat.pow_succ] at h; omega)]
   conv => rhs; rw [Wm, if_neg hu]
theorem Z9v {n : Int} (h0 : 0 ≤ n) (h1 : n ≤ 9223372036854775807) : Xb n = Wm 19 n.toNat ∧ (Xb n).all Gi = true ∧ Xb n ≠ [] ∧ (Xb n).length ≤ 19 ∧ Vz 0 (Xb n) = n.toNat := by
 have e19 : (10 : Nat) ^ 19 = 10000000000000000000 := by decide
 have e : Xb n = Wm 19 n.toNat := by
  unfold Xb
  rw [if_neg (by omega)]
  exact Z82 18 n.toNat (by rw [show 18 + 1 = 19 from rfl, e19]; omega)
 have hl := Z43 19 n.toNat (by rw [e19]; omega) (by omega)
 refine ⟨e, by rw [e]; exact Z44 _ _, fun h => ?_, by rw [e]; exact hl.2, by rw [e]; exact Z6f 19 _ (by rw [e19]; omega)⟩
 rw [e] at h
 rw [h] at hl
 simp at hl
theorem Ng {n : Int} (h0 : 0 ≤ n) (h1 : n ≤ 9223372036854775807) : Wn (Xb n) = (n, true) := by
 obtain ⟨-, h2, h3, h4, h5⟩ := Z9v h0 h1
 unfold Wn
 rw [if_pos ⟨h2, h3, h4, by omega⟩, h5, Int.toNat_of_nonneg h0]
end Go.Acq
namespace Go.Acq
open Go
def Ks {S V X : Type} (yy : S → V → Option (S ⊕ X)) : S → List V → Option (S ⊕ X)
  | s, [] => some (.inl s)
  | s, v :: vs => Option.bind (yy s v) fun t => match t with | .inl s' => Ks yy s' vs | .inr x => some (.inr x)
theorem Z65 {S V X : Type} {yy : S → V → Option (S ⊕ X)} {s s' : S} {v : V} {vs : List V} (h : yy s v = some (.inl s')) : Ks yy s (v :: vs) = Ks yy s' vs := by
 rw [Ks, h]; rfl
theorem Zac {S V X : Type} {yy : S → V → Option (S ⊕ X)} {s : S} {x : X} {v : V} {vs : List V} (h : yy s v = some (.inr x)) : Ks yy s (v :: vs) = some (.inr x) := by
 rw [Ks, h]; rfl
def Wj : Str → Str → List Str
  | [], cur => [cur]
  | b :: l, cur => if b = 10 then cur :: Wj l [] else Wj l (cur ++ [b])
theorem Z5o : ∀ (l cur : Str), ∀ x ∈ Wj l cur, x.length ≤ cur.length + l.length
 | [], cur, x, h => by rw [Wj] at h; rw [List.mem_singleton.1 h]; exact Nat.le_add_right _ _
 | b :: l, cur, x, h => by
  rw [Wj] at h
  split at h
  ·
   rcases List.mem_cons.1 h with rfl | h
   · exact Nat.le_add_right _ _
   · have := Z5o l [] x h; simp only [List.length_nil, List.length_cons] at this ⊢; omega
  · have := Z5o l _ x h; rw [List.length_append, List.length_singleton] at this; rw [List.length_cons]; omega
theorem Z6w : ∀ (seg rest cur : Str), (∀ b ∈ seg, b ≠ 10) → Wj (seg ++ 10 :: rest) cur = (cur ++ seg) :: Wj rest []
 | [], rest, cur, _ => by rw [List.nil_append, Wj, if_pos rfl, List.append_nil]
 | b :: seg, rest, cur, h => by
  rw [List.cons_append, Wj, if_neg (h b (.head _)), Z6w seg rest _ (fun x hx => h x (.tail _ hx)), List.append_assoc]; rfl
theorem Z7j : ∀ (t cur : Str), (Lib.indexByte t 10 < 0 ∧ Wj t cur = [cur ++ t]) ∨ (∃ r : Nat, Lib.indexByte t 10 = r ∧ r < t.length ∧ Wj t cur = (cur ++ t.take r) :: Wj (t.drop (r + 1)) [])
 | [], cur => .inl ⟨by decide, by rw [Wj, List.append_nil]⟩
 | b :: l, cur => by
  by_cases hb : b = 10
  ·
   subst hb
   refine .inr ⟨0, rfl, by simp, ?_⟩
   rw [Wj, if_pos rfl]; simp
  ·
   have h1 : (b == (10 : UInt8)) = false := by simpa using hb
   rcases Z7j l (cur ++ [b]) with ⟨h2, h3⟩ | ⟨r, h2, h3, h4⟩
   ·
    refine .inl ⟨?_, by rw [Wj, if_neg hb, h3, List.append_assoc]; rfl⟩
    have h5 : Lib.indexByte l 10 = -1 := by have := Lib.indexByte_ge l 10; omega
    rw [Lib.indexByte, h1, h5]; decide
   ·
    refine .inr ⟨r + 1, ?_, by rw [List.length_cons]; omega, ?_⟩
    ·
     rw [Lib.indexByte, h1, h2]
     have : ((r : Int) == -1) = false := beq_eq_false_iff_ne.2 (by omega)
     rw [this]; simp
    · rw [Wj, if_neg hb, h4, List.append_assoc]; simp
theorem ub_take (t : Str) (k : Nat) : (ub t).take k = ub (t.take k) := by unfold ub; rw [List.map_take]
theorem ub_drop (t : Str) (k : Nat) : (ub t).drop k = ub (t.drop k) := by unfold ub; rw [List.map_drop]
theorem Z3r (a b : Str) : ub (a ++ b) = ub a ++ ub b := by unfold ub; rw [List.map_append]
theorem ub_bu {l : List Int} (h : ∀ x ∈ l, u8ok x) : ub (bu l) = l := by
 unfold ub bu
 rw [List.map_map]
 conv => rhs; rw [← List.map_id l]
 apply List.map_congr_left
 intro x hx
 have := h x hx
 simp only [Function.comp, id_eq, UInt8.toNat_ofNat']
 omega
theorem Z7n (t : Str) : Z10 (ub t) [10] = some (Lib.indexByte t 10) := by
 unfold Z10 Z1w
 rw [if_neg (by simp), if_pos (by simp), Wf (by constructor <;> decide)]
 simp only [Option.bind_some]
 congr 1
 unfold idxT
 rw [bu_ub]; rfl
theorem Zco {S X : Type} (yy : S → List Int → Option (S ⊕ X)) {t : Str} {s : S} (h1 : Lib.indexByte t 10 < 0) : Gd yy [10] 0 (ub t) (.inl s) = some (.inr (.inl (ub t, .inl s))) := by
 unfold Gd
 rw [Z7n, Option.bind_some, if_pos h1]
theorem Zb1 {S X : Type} (yy : S → List Int → Option (S ⊕ X)) {t : Str} {s : S} {r : Nat} (hl : t.length ≤ 1152921504606846976) (h1 : Lib.indexByte t 10 = r) (h2 : r < t.length) :
    Gd yy [10] 0 (ub t) (.inl s) = Option.bind (yy s (ub (t.take r))) fun x => match x with | .inl s' => some (.inl (ub (t.drop (r + 1)), .inl s')) | .inr x => some (.inr (.inr (.inr x))) := by
  unfold Gd
  rw [Z7n, Option.bind_some, if_neg (by omega), h1]
  have ht : ((r : Int) + 0).toNat = r := by omega
  have hd : ((r : Int) + (([10] : List Int).length : Int)).toNat = r + 1 := by simp only [List.length_singleton]; omega
  have hlen := Kd t
  rw [Wf (by omega), Wf (by rw [hlen]; omega), Wf (by omega), ht, hd, List.take_of_length_le (by omega), ub_take, ub_drop]
  simp only [Rm]
  cases hy : yy s (ub (t.take r)) with
  | none => rfl
  | some x =>
    cases x with
    | inr x => rfl
    | inl s' =>
      rw [Option.bind_some, if_neg (by simp), Wf (by simp only [List.length_singleton]; omega), Wf (by rw [hlen]; simp only [List.length_singleton]; omega)]
      rfl
theorem s_splitN {S X : Type} (yy : S → List Int → Option (S ⊕ X)) : ∀ (fuel : Nat) (t : Str) (s : S), t.length ≤ 1152921504606846976 → t.length < fuel →
    (Option.bind (We (fun s : List Int × (S ⊕ X) => Gd yy [10] 0 s.1 s.2) fuel (ub t, .inl s)) fun o => match o with | .inl (p2_0_0, p2_0_1) => (Z1f yy p2_0_0 p2_0_1) | .inr p2_1_0 => (some p2_1_0)) = Ks (fun s v => yy s (ub v)) s (Wj t []) := by
  intro fuel
  induction fuel with
  | zero => intro t s _ h; omega
  | succ fuel ih =>
    intro t s hl hf
    rw [We]
    rcases Z7j t [] with ⟨h1, h2⟩ | ⟨r, h1, h2, h3⟩
    · rw [Zco yy h1, h2]
      simp only [Option.bind_some, List.nil_append, Ks]
      unfold Z1f
      rw [Wf (by omega), List.take_of_length_le (by omega)]
      simp only [Rm]
      cases yy s (ub t) with
      | none => rfl
      | some x => cases x <;> rfl
    · rw [Zb1 yy hl h1 h2, h3]
      rw [Ks, List.nil_append]
      cases hy : yy s (ub (t.take r)) with
      | none => rfl
      | some x =>
        cases x with
        | inr x => rfl
        | inl s' => exact ih (t.drop (r + 1)) s' (by rw [List.length_drop]; omega) (by rw [List.length_drop]; omega)
theorem s_split {S X : Type} (yy : S → List Int → Option (S ⊕ X)) (t : Str) (s : S) (hl : t.length ≤ 1152921504606846976) : Z0o yy [10] (ub t) 0 (.inl s) = Ks (fun s v => yy s (ub v)) s (Wj t []) := by
 unfold Z0o Z3e
 rw [if_neg (by simp)]
 have hF : t.length < Wl := Nat.lt_of_le_of_lt hl (by unfold Wl; decide)
 exact s_splitN yy Wl t s hl hF
theorem Z2c (x : Nat) : Uo x = decide (x = 9 ∨ x = 13 ∨ x = 32) := by
 unfold Uo Rj
 by_cases h1 : x = 9
 · subst h1; rfl
 ·
  by_cases h2 : x = 13
  · subst h2; rfl
  ·
   rw [if_neg (by omega), if_neg (by omega)]
   by_cases h3 : x = 32
   · subst h3; rfl
   · rw [decide_eq_false (by omega : ¬((x : Int) = 32)), decide_eq_false (by omega : ¬(x = 9 ∨ x = 13 ∨ x = 32))]; rfl
theorem blank_hi : ∀ r, 128 ≤ r → Uo r = false := fun r h => by rw [Z2c]; exact decide_eq_false (by omega)
def Vs (l : Str) : List Str := Xh Uo l []
theorem s_Words (l : Str) (h : l.length ≤ 4294967296) : Z1c (ub l) = some (Vs l) := by
 unfold Z1c Z2e
 rw [bu_ub, Wf h, Zcg blank_hi]; rfl
def Ug (l : Str) : Option (List Str) := if Vs l = [] then none else if ((Vs l).getD 0 []).getD 0 0 = 99 then none else some (Vs l)
def Ki (t : Str) : List (List Str) := (Wj t []).filterMap Ug
theorem Zbu (seg rest : Str) (h : ∀ b ∈ seg, b ≠ 10) : Ki (seg ++ 10 :: rest) = (Ug seg).toList ++ Ki rest := by
 unfold Ki
 rw [Z6w seg rest [] h, List.nil_append, List.filterMap_cons]
 cases Ug seg <;> rfl
def okW (w : Str) : Prop := w ≠ [] ∧ ∀ b ∈ w, Uo b.toNat = false
theorem fld_end {w : Str} (h : okW w) : Xh Uo w [] = [w] := by
 have := Z0s (p := Uo) (l := []) w [] h.2
 rw [List.append_nil, List.nil_append] at this
 rw [this, Z56 h.1]
theorem fld_more {w rest : Str} (h : okW w) {b : UInt8} (hb : Uo b.toNat = true) : Xh Uo (w ++ b :: rest) [] = w :: Xh Uo rest [] := by
 rw [Z0s w [] h.2, List.nil_append, Z4i hb h.1]
end Go.Acq
namespace Go.Acq
open Go
theorem Z5x (x : Nat) : Lh x = decide (x < 48 ∨ 57 < x) := by
 unfold Lh Rc
 by_cases h1 : x < 48
 · rw [if_pos (by omega), decide_eq_true (by omega : x < 48 ∨ 57 < x)]; rfl
 ·
  rw [if_neg (by omega)]
  by_cases h2 : 57 < x
  · rw [decide_eq_true (by omega : (57 : Int) < x), decide_eq_true (by omega : x < 48 ∨ 57 < x)]; rfl
  · rw [decide_eq_false (by omega : ¬ (57 : Int) < x), decide_eq_false (by omega : ¬(x < 48 ∨ 57 < x))]; rfl
theorem any_dig (l : Str) : l.any (fun b => Lh b.toNat) = !(l.all Gi) := by
 induction l with
 | nil => rfl
 | cons b l ih =>
  rw [List.any_cons, List.all_cons, ih, Z5x, Bool.not_and]
  congr 1
  unfold Gi
  by_cases h : 48 ≤ b.toNat ∧ b.toNat ≤ 57
  · rw [decide_eq_true h, decide_eq_false (by omega : ¬(b.toNat < 48 ∨ 57 < b.toNat))]; rfl
  · rw [decide_eq_false h, decide_eq_true (by omega : b.toNat < 48 ∨ 57 < b.toNat)]; rfl
theorem s_Number (s : Str) : Z14 s = some (Wn s) := by
 unfold Z14
 by_cases h1 : 19 < s.length
 ·
  rw [if_pos (by omega)]
  unfold Z03 Wn
  rw [if_pos rfl, if_neg (by omega)]
 ·
  rw [if_neg (by omega)]
  unfold Z2b Z03
  rw [anyT_any (fun r h => by rw [Z5x]; exact decide_eq_true (by omega)), any_dig, Option.bind_some]
  by_cases h2 : s.all Gi = true
  ·
   rw [h2, if_neg (by simp)]
   unfold Z2q
   rw [Wf ⟨by omega, rfl, rfl⟩, Option.bind_some]
   by_cases h3 : s = []
   · subst h3; rfl
   ·
    rw [Zbw h2 h3 (by omega)]
    unfold Wn
    by_cases h4 : Vz 0 s < 9223372036854775808
    · rw [if_pos h4, if_pos ⟨h2, h3, by omega, h4⟩]; rfl
    · rw [if_neg h4, if_neg (fun h => h4 h.2.2.2)]; rfl
  ·
   rw [Bool.eq_false_iff.2 h2, if_pos (by simp)]
   unfold Wn
   rw [if_neg (fun h => h2 h.1)]
theorem Zcq (s : Str) : 0 ≤ (Wn s).1 ∧ (Wn s).1 ≤ 9223372036854775807 := by
 unfold Wn
 split
 · rename_i h; simp only; omega
 · simp
def Vl (s : Str) (lo hi : Int) : Bool := (Wn s).2 && decide (lo ≤ (Wn s).1 ∧ (Wn s).1 ≤ hi)
theorem numB_iff {s : Str} {lo hi : Int} : Vl s lo hi = true ↔ (Wn s).2 = true ∧ lo ≤ (Wn s).1 ∧ (Wn s).1 ≤ hi := by
 unfold Vl; rw [Bool.and_eq_true, decide_eq_true_eq]
theorem Nr {n lo hi : Int} (h0 : 0 ≤ n) (h1 : n ≤ 9223372036854775807) (h2 : lo ≤ n) (h3 : n ≤ hi) : Vl (Xb n) lo hi = true := by
 rw [numB_iff, Ng h0 h1]; exact ⟨rfl, h2, h3⟩
end Go.Acq
namespace Go.Acq
open Go
def cleanT (w : Str) : Prop := w ≠ [] ∧ ∀ b ∈ w, 45 ≤ b.toNat ∧ b.toNat ≤ 57
theorem Z4e {n : Int} (h : i64ok n) : cleanT (Xb n) ∧ (Xb n).length ≤ 21 := by
 have e20 : (10 : Nat) ^ 20 = 100000000000000000000 := by decide
 have key : ∀ u : Nat, u ≤ 9223372036854775808 → cleanT (Wm 20 u) ∧ (Wm 20 u).length ≤ 20 := fun u hu => by
  have h1 := Z43 20 u (by rw [e20]; omega) (by omega)
  refine ⟨⟨fun e => by rw [e] at h1; simp at h1, fun b hb => ?_⟩, h1.2⟩
  have := List.all_eq_true.1 (Z44 20 u) b hb
  have := of_decide_eq_true this
  omega
 unfold Xb
 split
 ·
  obtain ⟨⟨h1, h2⟩, h3⟩ := key n.natAbs (by omega)
  refine ⟨⟨by simp, fun b hb => ?_⟩, by rw [List.length_cons]; omega⟩
  rcases List.mem_cons.1 hb with rfl | hb
  · decide
  · exact h2 b hb
 ·
  obtain ⟨h1, h3⟩ := key n.toNat (by omega)
  exact ⟨h1, by omega⟩
theorem cleanT.ok {w : Str} (h : cleanT w) : okW w := ⟨h.1, fun b hb => by rw [Z2c]; have := h.2 b hb; exact decide_eq_false (by omega)⟩
theorem cleanT.ten {w : Str} (h : cleanT w) : ∀ b ∈ w, b ≠ 10 := fun b hb e => by
 have := h.2 b hb
 subst e
 have : (10 : UInt8).toNat = 10 := rfl
 omega
theorem blank32 : Uo (32 : UInt8).toNat = true := by rw [Z2c]; rfl
theorem said_of {l : Str} {w : List Str} (h : Vs l = w) (h0 : w ≠ []) (h1 : (w.getD 0 []).getD 0 0 ≠ 99) : Ug l = some w := by
 unfold Ug
 rw [h, if_neg h0, if_neg h1]
def arcsOK (al : List Arc) : Prop := ∀ a ∈ al, (0 ≤ a.fr ∧ a.fr ≤ 1000000) ∧ (0 ≤ a.to ∧ a.to ≤ 1000000) ∧ a.cap ≤ 9223372036854775807
theorem FwithinP.arcs {n : Net} (hk : Vv n.N n.S n.T n.Arcs = 0) (hc : ∀ a ∈ n.Arcs, a.cap ≤ 9223372036854775807) : arcsOK n.Arcs := by
 have hz := Z2u hk
 obtain ⟨m, hm⟩ : ∃ m : Nat, n.N = m := ⟨n.N.toNat, by omega⟩
 have he : Gs m n.Arcs := Z6x (by rw [← hm]; exact hz.2.2.2.1)
 intro a ha
 obtain ⟨i, hi, rfl⟩ := List.mem_iff_getElem.1 ha
 have e : n.Arcs.getD i default = n.Arcs[i] := by rw [List.getD_eq_getElem?_getD, List.getElem?_eq_getElem hi]; rfl
 have h2 : 0 ≤ (n.Arcs.getD i default).fr ∧ (n.Arcs.getD i default).fr < m := by first | exact he i hi true | exact he i hi false
 have h3 : 0 ≤ (n.Arcs.getD i default).to ∧ (n.Arcs.getD i default).to < m := by first | exact he i hi false | exact he i hi true
 rw [e] at h2 h3
 exact ⟨by omega, by omega, hc _ ha⟩
theorem FwithinP.i64 {n : Net} {f : List Int} (h : FwithinP n f) (hc : ∀ a ∈ n.Arcs, a.cap ≤ 9223372036854775807) : ∀ x ∈ f, i64ok x := by
 intro x hx
 obtain ⟨i, hi, rfl⟩ := List.mem_iff_getElem.1 hx
 have h1 := h.2.1
 have h2 := h.2.2 i (by omega)
 have h3 := hc (n.Arcs.getD i default) (Lj (by omega) default)
 rw [List.getD_eq_getElem?_getD, List.getElem?_eq_getElem hi] at h2
 simp only [Option.getD_some] at h2
 constructor <;> omega
end Go.Acq
namespace Go.Acq
open Go
def Un (ls : List Str) : Str := ls.flatMap (· ++ [10])
def Z2p (l : Str) : Prop := (∀ b ∈ l, b ≠ 10) ∧ l.length ≤ 100
end Go.Acq
namespace Go.Acq
open Go
theorem Z5l {α : Type} (z : α) (k w : Str) (v : α) : ∀ xs : List (Str × α), Ye z w (Yt k v xs) = if w = k then v else Ye z w xs
 | [] => by
  show (if w = k then v else Ye z w []) = _
  rfl
 | x :: xs => by
  unfold Yt
  by_cases h : k = x.1
  ·
   rw [if_pos h]
   show (if w = k then v else Ye z w xs) = if w = k then v else (if w = x.1 then x.2 else Ye z w xs)
   by_cases hw : w = k
   · rw [if_pos hw, if_pos hw]
   · rw [if_neg hw, if_neg hw, if_neg (fun e => hw (e.trans h.symm))]
  ·
   rw [if_neg h]
   show (if w = x.1 then x.2 else Ye z w (Yt k v xs)) = if w = k then v else (if w = x.1 then x.2 else Ye z w xs)
   rw [Z5l z k w v xs]
   by_cases hw : w = k
   · rw [if_pos hw, if_neg (fun e => h (hw.symm.trans e)), if_pos hw]
   · rw [if_neg hw, if_neg hw]
structure Rd where
  n : Net
  said : List (Str × Int)
  arcs : Int
def goodS (m : List (Str × Int)) : Prop := ∀ w, Ye 0 w m = 0 ∨ Ye 0 w m = 1
theorem goodS.put {m : List (Str × Int)} (h : goodS m) (k : Str) : goodS (Yt k 1 m) := fun w => by
 rw [Z5l]; split
 · exact .inr rfl
 · exact h w
def pW (r : Rd) (w : List Str) : Option Rd :=
  if w.length = 4 ∧ Ye 0 [112] r.said = 0 ∧ w.getD 1 [] = [109, 97, 120] ∧ Vl (w.getD 2 []) 0 2147483648 = true ∧ Vl (w.getD 3 []) 0 2147483648 = true
  then some ⟨Net.mk (Wn (w.getD 2 [])).1 r.n.S r.n.T r.n.Arcs, Yt [112] 1 r.said, (Wn (w.getD 3 [])).1⟩ else none
def nW (r : Rd) (w : List Str) : Option Rd :=
  if w.length = 3 ∧ Vl (w.getD 1 []) 1 r.n.N = true ∧ Ye 0 (w.getD 2 []) r.said = 0 then
    (if w.getD 2 [] = [115] then some ⟨Net.mk r.n.N ((Wn (w.getD 1 [])).1 - 1) r.n.T r.n.Arcs, Yt [115] 1 r.said, r.arcs⟩
     else if w.getD 2 [] = [116] then some ⟨Net.mk r.n.N r.n.S ((Wn (w.getD 1 [])).1 - 1) r.n.Arcs, Yt [116] 1 r.said, r.arcs⟩ else none)
  else none
def aW (r : Rd) (w : List Str) : Option Rd :=
  if w.length = 4 ∧ Vl (w.getD 1 []) 1 r.n.N = true ∧ Vl (w.getD 2 []) 1 r.n.N = true ∧ Vl (w.getD 3 []) 0 9223372036854775807 = true
  then some ⟨Net.mk r.n.N r.n.S r.n.T (r.n.Arcs ++ [Arc.mk ((Wn (w.getD 1 [])).1 - 1) ((Wn (w.getD 2 [])).1 - 1) (Wn (w.getD 3 [])).1]), r.said, r.arcs⟩ else none
def Wq (r : Rd) (w : List Str) : Option Rd :=
  if w.getD 0 [] = [112] then pW r w else if Ye 0 [112] r.said = 1 then (if w.getD 0 [] = [110] then nW r w else if w.getD 0 [] = [97] then aW r w else none) else none
theorem Rb : Xt true = some (.inl ()) := rfl
theorem Jd : Xt false = some (.inr ()) := rfl
theorem Z2o (r : DimacsReader) (a lo hi : Int) (h : inb a r.words.length) : Gz r a lo hi = some (if Vl (r.words.getD a.toNat []) lo hi = true then .inl (Wn (r.words.getD a.toNat [])).1 else .inr ()) := by
 unfold Gz
 rw [Wf h, s_Number, Option.bind_some]
 unfold Vl
 generalize Wn (r.words.getD a.toNat []) = x
 obtain ⟨x, ok⟩ := x
 simp only
 cases ok with
 | false => simp [Jd]
 | true =>
  by_cases h1 : lo ≤ x
  ·
   by_cases h2 : x ≤ hi
   · simp [h1, h2, Rb]
   · simp [h1, h2, Jd]
  · simp [h1, Jd]
theorem Z4b (r : DimacsReader) (n : Int) : Li r n = some (if (r.words.length : Int) = n then .inl () else .inr ()) := by
 unfold Li
 by_cases h : (r.words.length : Int) = n
 · rw [if_pos h, decide_eq_true (by omega), Rb]; rfl
 · rw [if_neg h, decide_eq_false (by omega), Jd]; rfl
theorem Z45 (r : DimacsReader) (a : Int) (h : inb a r.words.length) : Lg r a = some (if Vl (r.words.getD a.toNat []) 1 r.n.N = true then .inl ((Wn (r.words.getD a.toNat [])).1 - 1) else .inr ()) := by
 unfold Lg
 rw [Z2o r a 1 r.n.N h, Option.bind_some]
 have hr := Zcq (r.words.getD a.toNat [])
 by_cases hb : Vl (r.words.getD a.toNat []) 1 r.n.N = true
 ·
  rw [if_pos hb, if_pos hb]
  simp only
  rw [Wf ⟨by omega, by omega⟩]
 · rw [if_neg hb, if_neg hb]
theorem Z7m (r : DimacsReader) (w : Str) (h : goodS r.said) : Rs r w = some (if Ye 0 w r.said = 0 then .inl ⟨r.n, Yt w 1 r.said, r.arcs, r.words⟩ else .inr ()) := by
 unfold Rs
 rw [Z5l, if_pos rfl]
 rcases h w with e | e
 · rw [e, Wf (by decide), if_pos rfl]; rfl
 · rw [e, Wf (by decide), if_neg (by decide)]; rfl
abbrev rdOf (r : DimacsReader) : Rd := ⟨r.n, r.said, r.arcs⟩
abbrev bk (w : List Str) : Option Rd → DimacsReader ⊕ Unit
  | some r => .inl ⟨r.n, r.said, r.arcs, w⟩
  | none => .inr ()
theorem Zdd (r : DimacsReader) (h : goodS r.said) : Z1m r = some (bk r.words (pW (rdOf r) r.words)) := by
 unfold Z1m pW
 rw [Z4b r 4, Option.bind_some]
 by_cases h1 : r.words.length = 4
 ·
  rw [if_pos (by omega)]
  simp only
  rw [Z7m r _ h, Option.bind_some]
  by_cases h2 : Ye 0 [112] r.said = 0
  ·
   rw [if_pos h2]
   simp only
   rw [Wf (by constructor <;> omega)]
   have e1 : (1 : Int).toNat = 1 := rfl
   rw [e1]
   by_cases h3 : r.words.getD 1 [] = [109, 97, 120]
   ·
    rw [decide_eq_true h3, Rb, Option.bind_some]
    simp only
    rw [Z2o _ 2 _ _ ⟨by decide, by show (_ : Int) < (r.words.length : Int); omega⟩, Option.bind_some]
    have e2 : (2 : Int).toNat = 2 := rfl
    rw [e2]
    by_cases h4 : Vl (r.words.getD 2 []) 0 2147483648 = true
    ·
     rw [if_pos h4]
     simp only
     rw [Z2o _ 3 _ _ ⟨by decide, by show (_ : Int) < (r.words.length : Int); omega⟩, Option.bind_some]
     have e3 : (3 : Int).toNat = 3 := rfl
     rw [e3]
     by_cases h5 : Vl (r.words.getD 3 []) 0 2147483648 = true
     · rw [if_pos h5, if_pos ⟨h1, h2, h3, h4, h5⟩]
     · rw [if_neg h5, if_neg (fun h => h5 h.2.2.2.2)]
    · rw [if_neg h4, if_neg (fun h => h4 h.2.2.2.1)]
   · rw [decide_eq_false h3, Jd, Option.bind_some, if_neg (fun h => h3 h.2.2.1)]
  · rw [if_neg h2, if_neg (fun h => h2 h.2.1)]
 · rw [if_neg (by omega), if_neg (fun h => h1 h.1)]
theorem s_dnode (r : DimacsReader) (h : goodS r.said) : Z0x r = some (bk r.words (nW (rdOf r) r.words)) := by
 unfold Z0x nW
 rw [Z4b r 3, Option.bind_some]
 by_cases h1 : r.words.length = 3
 ·
  rw [if_pos (by omega)]
  simp only
  rw [Z45 r 1 (by constructor <;> omega), Option.bind_some]
  have e1 : (1 : Int).toNat = 1 := rfl
  have e2 : (2 : Int).toNat = 2 := rfl
  rw [e1]
  by_cases h2 : Vl (r.words.getD 1 []) 1 r.n.N = true
  ·
   rw [if_pos h2]
   simp only
   rw [Wf (by constructor <;> omega), e2, Z7m r _ h, Option.bind_some]
   by_cases h3 : Ye 0 (r.words.getD 2 []) r.said = 0
   ·
    rw [if_pos h3, if_pos ⟨h1, h2, h3⟩]
    simp only
    rw [Wf (by constructor <;> omega)]
    by_cases h4 : r.words.getD 2 [] = [115]
    · rw [if_pos h4, if_pos h4, h4]
    ·
     by_cases h5 : r.words.getD 2 [] = [116]
     · rw [if_neg h4, if_neg h4, if_pos h5, if_pos h5, h5]
     · rw [if_neg h4, if_neg h4, if_neg h5, if_neg h5]; rfl
   · rw [if_neg h3, if_neg (fun h => h3 h.2.2)]
  · rw [if_neg h2, if_neg (fun h => h2 h.2.1)]
 · rw [if_neg (by omega), if_neg (fun h => h1 h.1)]
theorem s_arcR (r : DimacsReader) (hl : r.n.Arcs.length ≤ 4294967297) : Z1g r = some (bk r.words (aW (rdOf r) r.words)) := by
 unfold Z1g aW
 rw [Z4b r 4, Option.bind_some]
 have e1 : (1 : Int).toNat = 1 := rfl
 have e2 : (2 : Int).toNat = 2 := rfl
 have e3 : (3 : Int).toNat = 3 := rfl
 by_cases h1 : r.words.length = 4
 ·
  rw [if_pos (by omega)]
  simp only
  rw [Z45 r 1 (by constructor <;> omega), Option.bind_some, e1]
  by_cases h2 : Vl (r.words.getD 1 []) 1 r.n.N = true
  ·
   rw [if_pos h2]
   simp only
   rw [Z45 r 2 (by constructor <;> omega), Option.bind_some, e2]
   by_cases h3 : Vl (r.words.getD 2 []) 1 r.n.N = true
   ·
    rw [if_pos h3]
    simp only
    rw [Z2o r 3 _ _ (by constructor <;> omega), Option.bind_some, e3]
    by_cases h4 : Vl (r.words.getD 3 []) 0 9223372036854775807 = true
    ·
     rw [if_pos h4, if_pos ⟨h1, h2, h3, h4⟩]
     simp only
     rw [Wf (by rw [List.length_append, List.length_singleton]; constructor <;> omega)]
    · rw [if_neg h4, if_neg (fun h => h4 h.2.2.2)]
   · rw [if_neg h3, if_neg (fun h => h3 h.2.2.1)]
  · rw [if_neg h2, if_neg (fun h => h2 h.2.1)]
 · rw [if_neg (by omega), if_neg (fun h => h1 h.1)]
theorem pW_form (r : Rd) (w : List Str) : pW r w = none ∨ ∃ a m k, pW r w = some ⟨Net.mk a r.n.S r.n.T r.n.Arcs, m, k⟩ := by
 unfold pW; split
 · exact .inr ⟨_, _, _, rfl⟩
 · exact .inl rfl
theorem nW_form (r : Rd) (w : List Str) : nW r w = none ∨ ∃ s t m, nW r w = some ⟨Net.mk r.n.N s t r.n.Arcs, m, r.arcs⟩ := by
 unfold nW; split
 ·
  split
  · exact .inr ⟨_, _, _, rfl⟩
  ·
   split
   · exact .inr ⟨_, _, _, rfl⟩
   · exact .inl rfl
 · exact .inl rfl
theorem aW_form (r : Rd) (w : List Str) : aW r w = none ∨ ∃ al, aW r w = some ⟨Net.mk r.n.N r.n.S r.n.T al, r.said, r.arcs⟩ := by
 unfold aW; split
 · exact .inr ⟨_, rfl⟩
 · exact .inl rfl
theorem s_line (r : DimacsReader) (l : Str) (h : goodS r.said) (ha : r.n.Arcs.length ≤ 4294967297) (hl : l.length ≤ 4294967296) :
    Z0u r (ub l) = some (match Ug l with | none => .inl ⟨r.n, r.said, r.arcs, Vs l⟩ | some w => bk w (Wq (rdOf r) w)) := by
  unfold Z0u Ug
  rw [s_Words l hl]
  simp only [Option.bind_some]
  by_cases h1 : Vs l = []
  · rw [if_pos h1, if_pos (by rw [h1]; rfl)]
  · have h2 : 0 < (Vs l).length := List.length_pos_iff.2 h1
    have h3 : (Vs l).getD (0 : Int).toNat [] ∈ Vs l := by
      rw [Int.toNat_zero, List.getD_eq_getElem?_getD, List.getElem?_eq_getElem h2]
      exact List.getElem_mem h2
    have h4 : 0 < ((Vs l).getD (0 : Int).toNat []).length := List.length_pos_iff.2 (Z3a _ _ _ h3)
    have g0 : inb 0 (Vs l).length := by constructor <;> omega
    rw [if_neg h1, if_neg (by omega), Wf g0, Wf (by constructor <;> omega), Wf g0]
    rw [Int.toNat_zero]
    generalize hw : Vs l = w
    by_cases h5 : (w.getD 0 []).getD 0 0 = 99
    · rw [if_pos h5, if_pos (by rw [h5]; rfl)]
    · have h6 : ¬ (((w.getD 0 []).getD 0 0).toNat : Int) = 99 := fun e => h5 (UInt8.toNat_inj.1 (by have : (99 : UInt8).toNat = 99 := rfl; omega))
      rw [if_neg h5, if_neg h6]
      simp only
      by_cases k1 : w.getD 0 [] = [112]
      · have hl : Wq (rdOf r) w = pW (rdOf r) w := by unfold Wq; rw [if_pos k1]
        rw [hl, if_pos k1, if_pos k1, Rb, Option.bind_some]
        simp only
        unfold Z1j
        rw [Zdd ⟨r.n, r.said, r.arcs, w⟩ h, Option.bind_some]
        show (match bk w (pW (rdOf r) w) with | .inl r31 => _ | .inr _ => _) = some (bk w (pW (rdOf r) w))
        rcases pW_form (rdOf r) w with e | ⟨_, _, _, e⟩ <;> rw [e]
      · have hl : Wq (rdOf r) w = if Ye 0 [112] r.said = 1 then (if w.getD 0 [] = [110] then nW (rdOf r) w else if w.getD 0 [] = [97] then aW (rdOf r) w else none) else none := by unfold Wq; rw [if_neg k1]
        have p1 : ∀ (j : Option (DimacsReader ⊕ Unit)) (o : Option Rd), (Ye 0 [112] r.said = 1 → j = some (bk w o)) → (if w.getD 0 [] = [112] then (Option.bind (Xt true) fun t => match t with | .inl _ => j | .inr _ => some (.inr ())) else Option.bind (Xt (decide ((Ye 0 ([112] : Str) r.said) = 1))) fun t => match t with | .inl _ => j | .inr _ => some (.inr ())) = some (bk w (if Ye 0 [112] r.said = 1 then o else none)) := by
          intro j o hj
          rw [if_neg k1]
          by_cases hp : Ye 0 [112] r.said = 1
          · rw [decide_eq_true hp, Rb, if_pos hp]; exact hj hp
          · rw [decide_eq_false hp, Jd, if_neg hp]; rfl
        rw [hl, if_neg k1]
        by_cases k2 : w.getD 0 [] = [110]
        · rw [if_pos k2, if_pos k2]
          refine p1 _ (nW (rdOf r) w) fun _ => ?_
          unfold Z1i
          rw [s_dnode ⟨r.n, r.said, r.arcs, w⟩ h, Option.bind_some]
          show (match bk w (nW (rdOf r) w) with | .inl r31 => _ | .inr _ => _) = some (bk w (nW (rdOf r) w))
          rcases nW_form (rdOf r) w with e | ⟨_, _, _, e⟩ <;> rw [e]
        · by_cases k3 : w.getD 0 [] = [97]
          · rw [if_neg k2, if_neg k2, if_pos k3, if_pos k3]
            refine p1 _ (aW (rdOf r) w) fun _ => ?_
            unfold Z0q
            rw [s_arcR ⟨r.n, r.said, r.arcs, w⟩ ha, Option.bind_some]
            show (match bk w (aW (rdOf r) w) with | .inl r31 => _ | .inr _ => _) = some (bk w (aW (rdOf r) w))
            rcases aW_form (rdOf r) w with e | ⟨_, e⟩ <;> rw [e]
          · rw [if_neg k2, if_neg k2, if_neg k3, if_neg k3, Jd]
            split <;> rfl
theorem Zcm {r s : Rd} {w : List Str} (h : goodS r.said) (e : Wq r w = some s) : goodS s.said ∧ s.n.Arcs.length ≤ r.n.Arcs.length + 1 := by
 unfold Wq pW nW aW at e
 repeat' split at e
 all_goals first
  | (cases e; done)
  | (injection e with e; subst e; exact ⟨by first | exact h | exact h.put _, by simp⟩)
def Wt : Rd → List (List Str) → Option Rd
  | r, [] => some r
  | r, w :: ws => Option.bind (Wq r w) fun s => Wt s ws
abbrev rd0 : Rd := ⟨Net.mk 0 0 0 [], [], 0⟩
abbrev tupR (r : Rd) (w : List Str) : Int × Int × Int × List Arc × (List (Str × Int)) × Int × List Str := (r.n.N, r.n.S, r.n.T, r.n.Arcs, r.said, r.arcs, w)
theorem Z5n : ∀ (ls : List Str) (r : Rd) (ws : List Str), goodS r.said → r.n.Arcs.length + ls.length ≤ 4294967297 → (∀ l ∈ ls, l.length ≤ 4294967296) →
    ∃ ws', Ks (fun s v => Nj s.1 s.2.1 s.2.2.1 s.2.2.2.1 s.2.2.2.2.1 s.2.2.2.2.2.1 s.2.2.2.2.2.2 (ub v)) (tupR r ws) ls = some (match Wt r (ls.filterMap Ug) with | some s => .inl (tupR s ws') | none => .inr ())
  | [], r, ws, _, _, _ => ⟨ws, rfl⟩
  | l :: ls, r, ws, h, ha, hl => by
    have hy : Nj r.n.N r.n.S r.n.T r.n.Arcs r.said r.arcs ws (ub l) = some (match Ug l with | none => .inl (tupR r (Vs l)) | some w => match Wq r w with | some s => .inl (tupR s w) | none => .inr ()) := by
      unfold Nj
      rw [s_line ⟨Net.mk r.n.N r.n.S r.n.T r.n.Arcs, r.said, r.arcs, ws⟩ l h (by show r.n.Arcs.length ≤ _; rw [List.length_cons] at ha; omega) (hl l (.head _)), Option.bind_some]
      cases Ug l with
      | none => rfl
      | some w =>
        show (match bk w (Wq r w) with | .inl r56 => _ | .inr _ => _) = some (match Wq r w with | some s => Sum.inl (tupR s w) | none => Sum.inr ())
        cases Wq r w <;> rfl
    rw [List.filterMap_cons]
    rw [List.length_cons] at ha
    cases hs : Ug l with
    | none =>
      rw [hs] at hy
      rw [Z65 (s' := tupR r (Vs l)) hy]
      exact Z5n ls r _ h (by omega) (fun x hx => hl x (.tail _ hx))
    | some w =>
      rw [hs] at hy
      simp only at hy ⊢
      rw [Wt]
      cases hw : Wq r w with
      | none => rw [hw] at hy; exact ⟨[], Zac hy⟩
      | some s =>
        rw [hw] at hy
        obtain ⟨g1, g2⟩ := Zcm h hw
        rw [Z65 (s' := tupR s w) hy]
        exact Z5n ls s _ g1 (by omega) (fun x hx => hl x (.tail _ hx))
def Nf : Option Rd → Net × Bool
  | none => (Net.mk 0 0 0 [], false)
  | some r => if Ye 0 [112] r.said = 1 ∧ Ye 0 [115] r.said = 1 ∧ Ye 0 [116] r.said = 1 ∧ (r.n.Arcs.length : Int) = r.arcs then (r.n, true) else (Net.mk 0 0 0 [], false)
theorem Z55 (r : Rd) : Nf (some r) = if Ye 0 [112] r.said = 1 ∧ Ye 0 [115] r.said = 1 ∧ Ye 0 [116] r.said = 1 ∧ (r.n.Arcs.length : Int) = r.arcs then (r.n, true) else (Net.mk 0 0 0 [], false) := rfl
theorem Z3d : ∀ (l cur : Str), (Wj l cur).length ≤ l.length + 1
 | [], cur => by rw [Wj]; simp
 | b :: l, cur => by
  rw [Wj]
  split
  · have := Z3d l []; rw [List.length_cons, List.length_cons]; omega
  · have := Z3d l (cur ++ [b]); rw [List.length_cons]; omega
theorem s_dread (t : Str) (hl : t.length ≤ 4294967296) : Z18 (ub t) = some (Nf (Wt rd0 (Ki t))) := by
 unfold Z18 Z3i Z3k
 simp only [Option.bind_some]
 rw [s_split _ t _ (by omega)]
 obtain ⟨ws', e⟩ := Z5n (Wj t []) rd0 [] (fun w => .inl rfl) (by have := Z3d t []; show 0 + _ ≤ _; omega) (fun l h => by have := Z5o t [] l h; simp only [List.length_nil] at this; omega)
 have e2 := e
 show Option.bind (Ks _ (tupR rd0 []) (Wj t [])) _ = _
 rw [e2, Option.bind_some]
 unfold Ki
 cases Wt rd0 (List.filterMap Ug (Wj t [])) with
 | none => rfl
 | some r =>
  show (if Ye 0 [112] r.said = 1 then _ else _) = some (Nf (some r))
  rw [Z55]
  by_cases h1 : Ye 0 [112] r.said = 1
  ·
   rw [if_pos h1]
   by_cases h2 : Ye 0 [115] r.said = 1
   ·
    rw [if_pos h2]
    by_cases h3 : Ye 0 [116] r.said = 1
    ·
     rw [if_pos h3]
     by_cases h4 : (r.n.Arcs.length : Int) = r.arcs
     · rw [decide_eq_true h4, Rb, if_pos ⟨h1, h2, h3, h4⟩]; rfl
     · rw [decide_eq_false h4, Jd, if_neg (fun h => h4 h.2.2.2)]; rfl
    · rw [if_neg h3, Jd, if_neg (fun h => h3 h.2.2.1)]; rfl
   · rw [if_neg h2, Jd, if_neg (fun h => h2 h.2.1)]; rfl
  · rw [if_neg h1, Jd, if_neg (fun h => h1 h.1)]; rfl
def parF (x : Net × Bool) : Net × Int := if x.2 = true then (if Vv x.1.N x.1.S x.1.T x.1.Arcs = 0 then (x.1, 0) else (Net.mk 0 0 0 [], Vv x.1.N x.1.S x.1.T x.1.Arcs)) else (Net.mk 0 0 0 [], 70)
def Lp (ws : List (List Str)) : Net × Int := parF (Nf (Wt rd0 ws))
theorem Z89 : ∀ (ws : List (List Str)) (r s : Rd), Wt r ws = some s → s.n.Arcs.length ≤ r.n.Arcs.length + ws.length
 | [], r, s, h => by injection h with h; subst h; simp
 | w :: ws, r, s, h => by
  rw [Wt] at h
  cases hw : Wq r w with
  | none => rw [hw] at h; cases h
  | some q =>
   rw [hw] at h
   have h1 := Z89 ws q s h
   have h2 : q.n.Arcs.length ≤ r.n.Arcs.length + 1 := by
    unfold Wq pW nW aW at hw
    repeat' split at hw
    all_goals first
     | (cases hw; done)
     | (injection hw with hw; subst hw; simp)
   rw [List.length_cons]; omega
theorem Z9d (t : Str) : (Ki t).length ≤ t.length + 1 := Nat.le_trans (List.length_filterMap_le _ _) (Z3d t [])
theorem Z90 (t : Str) (hl : t.length ≤ 100000000) : Kb (ub t) = some (Lp (Ki t)) := by
 unfold Kb Lp parF
 rw [s_dread t (by omega), Option.bind_some]
 have hc : (Nf (Wt rd0 (Ki t))).1.Arcs.length ≤ 100000001 := by
  cases hf : Wt rd0 (Ki t) with
  | none => simp [Nf]
  | some r =>
   have h1 := Z89 _ _ _ hf
   have h2 := Z9d t
   have h3 : rd0.n.Arcs.length = 0 := rfl
   rw [Z55]
   split
   · show r.n.Arcs.length ≤ _; omega
   · simp
 generalize Nf (Wt rd0 (Ki t)) = x at hc
 obtain ⟨n, ok⟩ := x
 cases ok with
 | false => rfl
 | true =>
  simp only
  rw [Z06 n (by simp only at hc; unfold lenok; omega)]
  simp only [Option.bind_some, if_true, Bool.not_true, Bool.false_eq_true, if_false]
  by_cases h : Vv n.N n.S n.T n.Arcs = 0
  · rw [if_pos h, if_neg (by rw [h]; decide)]
  · rw [if_neg h, if_pos h]
end Go.Acq
namespace Go.Acq
open Go
abbrev jn (ws : List Str) : Str := Lib.join ws [32]
theorem jn_one (w : Str) : jn [w] = w := by simp [jn, Lib.join, List.intercalate]
theorem Z6r (w v : Str) (r : List Str) : jn (w :: v :: r) = w ++ 32 :: jn (v :: r) := by
 unfold jn Lib.join
 simp [List.intercalate, List.intersperse]
structure wordOK (w : Str) : Prop where
  ok : okW w
  ten : ∀ b ∈ w, b ≠ 10
  len : w.length ≤ 21
theorem Z74 : ∀ ws : List Str, ws ≠ [] → (∀ w ∈ ws, okW w) → Vs (jn ws) = ws
 | [], h, _ => absurd rfl h
 | [w], _, h => by rw [jn_one]; exact fld_end (h w (.head _))
 | w :: v :: r, _, h => by
  rw [Z6r]
  unfold Vs
  rw [fld_more (h w (.head _)) blank32]
  have := Z74 (v :: r) (by simp) (fun x hx => h x (.tail _ hx))
  unfold Vs at this
  rw [this]
theorem Lt : ∀ ws : List Str, (∀ w ∈ ws, wordOK w) → (∀ b ∈ jn ws, b ≠ 10) ∧ (jn ws).length ≤ 22 * ws.length
 | [], _ => by simp [jn, Lib.join, List.intercalate]
 | [w], h => by rw [jn_one]; have := (h w (.head _)).len; exact ⟨(h w (.head _)).ten, by simp only [List.length_singleton]; omega⟩
 | w :: v :: r, h => by
  obtain ⟨h1, h2⟩ := Lt (v :: r) (fun x hx => h x (.tail _ hx))
  have h3 := (h w (.head _)).len
  rw [Z6r]
  refine ⟨fun b hb => ?_, ?_⟩
  ·
   rcases List.mem_append.1 hb with hb | hb
   · exact (h w (.head _)).ten b hb
   ·
    rcases List.mem_cons.1 hb with rfl | hb
    · decide
    · exact h1 b hb
  · rw [List.length_append, List.length_cons, List.length_cons (a := w)]; omega
structure lineWs (ws : List Str) : Prop where
  ne : ws ≠ []
  all : ∀ w ∈ ws, wordOK w
  few : ws.length ≤ 4
  kind : (ws.getD 0 []).getD 0 0 ≠ 99
theorem lineWs.words {ws : List Str} (h : lineWs ws) : Vs (jn ws) = ws := Z74 ws h.ne fun w hw => (h.all w hw).ok
theorem lineWs.said {ws : List Str} (h : lineWs ws) : Ug (jn ws) = some ws := said_of h.words h.ne h.kind
theorem lineWs.line {ws : List Str} (h : lineWs ws) : Z2p (jn ws) := ⟨(Lt ws h.all).1, by have := (Lt ws h.all).2; have := h.few; omega⟩
theorem Ll {n : Int} (h : i64ok n) : wordOK (Xb n) := ⟨(Z4e h).1.ok, (Z4e h).1.ten, (Z4e h).2⟩
theorem Lc {w : Str} (h : w ≠ []) (hl : w.length ≤ 21) (hb : w.all (fun b => decide (33 ≤ b.toNat)) = true) : wordOK w := by
 have hb := List.all_eq_true.1 hb
 refine ⟨⟨h, fun b hm => ?_⟩, fun b hm e => ?_, hl⟩
 ·
  rw [Z2c]
  have := of_decide_eq_true (hb b hm)
  exact decide_eq_false (by omega)
 ·
  subst e
  exact absurd (hb _ hm) (by decide)
def Vm (n : Net) : List Str := [[112], [109, 97, 120], Xb n.N, Xb (n.Arcs.length : Int)]
def Ub (n : Net) : List Str := [[110], Xb (n.S + 1), [115]]
def Uz (n : Net) : List Str := [[110], Xb (n.T + 1), [116]]
def Vg (a : Arc) : List Str := [[97], Xb (a.fr + 1), Xb (a.to + 1), Xb a.cap]
def Ke (n : Net) : List (List Str) := Vm n :: Ub n :: Uz n :: n.Arcs.map Vg
def prtL (n : Net) : List Str := (Ke n).map jn
def Gw (n : Net) : Str := Un (prtL n)
structure NetP (n : Net) : Prop where
  ck : Vv n.N n.S n.T n.Arcs = 0
  caps : ∀ a ∈ n.Arcs, 0 ≤ a.cap ∧ a.cap ≤ 9223372036854775807
theorem NetP.arcs {n : Net} (h : NetP n) : arcsOK n.Arcs := FwithinP.arcs h.ck fun a ha => (h.caps a ha).2
theorem NetP.small {n : Net} (h : NetP n) : (0 ≤ n.N ∧ n.N ≤ 1000000) ∧ (0 ≤ n.S ∧ n.S < n.N) ∧ (0 ≤ n.T ∧ n.T < n.N) ∧ n.Arcs.length ≤ 16384 := by
 have hz := Z2u h.ck
 have h1 : 0 ≤ n.S ∧ n.S < n.N := of_decide_eq_true hz.2.2.1.1
 have h2 : 0 ≤ n.T ∧ n.T < n.N := of_decide_eq_true hz.2.2.1.2.1
 omega
theorem Z8k : ∀ (al : List Arc) (left : Int), (Vt left al).isSome = true → ∀ a ∈ al, 0 ≤ a.cap ∧ a.cap ≤ left
 | [], _, _, _, h => by cases h
 | b :: al, left, h, a, ha => by
  unfold Vt at h
  split at h
  · cases h
  ·
   rcases List.mem_cons.1 ha with rfl | ha
   · omega
   · have := Z8k al _ h a ha; omega
theorem netP {n : Net} (h : Vv n.N n.S n.T n.Arcs = 0) : NetP n := ⟨h, fun a ha => by
 have := Z8k _ _ (Z2u h).2.2.2.2.2 a ha
 omega⟩
theorem NetP.ends {n : Net} (h : NetP n) : ∀ a ∈ n.Arcs, (0 ≤ a.fr ∧ a.fr < n.N) ∧ (0 ≤ a.to ∧ a.to < n.N) := by
 have hz := Z2u h.ck
 obtain ⟨m, hm⟩ : ∃ m : Nat, n.N = m := ⟨n.N.toNat, by omega⟩
 have he : Gs m n.Arcs := Z6x (by rw [← hm]; exact hz.2.2.2.1)
 intro a ha
 obtain ⟨i, hi, rfl⟩ := List.mem_iff_getElem.1 ha
 have e : n.Arcs.getD i default = n.Arcs[i] := by rw [List.getD_eq_getElem?_getD, List.getElem?_eq_getElem hi]; rfl
 have h2 : 0 ≤ (n.Arcs.getD i default).fr ∧ (n.Arcs.getD i default).fr < m := by first | exact he i hi true | exact he i hi false
 have h3 : 0 ≤ (n.Arcs.getD i default).to ∧ (n.Arcs.getD i default).to < m := by first | exact he i hi false | exact he i hi true
 rw [e] at h2 h3
 exact ⟨by omega, by omega⟩
theorem aWs_ok {n : Net} (h : NetP n) {a : Arc} (ha : a ∈ n.Arcs) : lineWs (Vg a) := by
 obtain ⟨h1, h2⟩ := h.ends a ha
 have h3 := h.caps a ha
 have hs := h.small
 refine ⟨by simp [Vg], fun w hw => ?_, by simp [Vg], by show (97 : UInt8) ≠ 99; decide⟩
 simp only [Vg, List.mem_cons, List.not_mem_nil, or_false] at hw
 rcases hw with rfl | rfl | rfl | rfl
 · exact Lc (by simp) (by simp) (by decide)
 · exact Ll ⟨by omega, by omega⟩
 · exact Ll ⟨by omega, by omega⟩
 · exact Ll ⟨by omega, by omega⟩
theorem Z1y {n : Net} (h : NetP n) : ∀ ws ∈ Ke n, lineWs ws := by
 have hs := h.small
 intro ws hw
 simp only [Ke, List.mem_cons] at hw
 rcases hw with rfl | rfl | rfl | hw
 ·
  refine ⟨by simp [Vm], fun w hw => ?_, by simp [Vm], by show (112 : UInt8) ≠ 99; decide⟩
  simp only [Vm, List.mem_cons, List.not_mem_nil, or_false] at hw
  rcases hw with rfl | rfl | rfl | rfl
  · exact Lc (by simp) (by simp) (by decide)
  · exact Lc (by simp) (by simp) (by decide)
  · exact Ll ⟨by omega, by omega⟩
  · exact Ll ⟨by omega, by omega⟩
 ·
  refine ⟨by simp [Ub], fun w hw => ?_, by simp [Ub], by show (110 : UInt8) ≠ 99; decide⟩
  simp only [Ub, List.mem_cons, List.not_mem_nil, or_false] at hw
  rcases hw with rfl | rfl | rfl
  · exact Lc (by simp) (by simp) (by decide)
  · exact Ll ⟨by omega, by omega⟩
  · exact Lc (by simp) (by simp) (by decide)
 ·
  refine ⟨by simp [Uz], fun w hw => ?_, by simp [Uz], by show (110 : UInt8) ≠ 99; decide⟩
  simp only [Uz, List.mem_cons, List.not_mem_nil, or_false] at hw
  rcases hw with rfl | rfl | rfl
  · exact Lc (by simp) (by simp) (by decide)
  · exact Ll ⟨by omega, by omega⟩
  · exact Lc (by simp) (by simp) (by decide)
 ·
  obtain ⟨a, ha, rfl⟩ := List.mem_map.1 hw
  exact aWs_ok h ha
theorem Z60 : ∀ ls : List Str, (∀ l ∈ ls, Z2p l) → Ki (Un ls) = ls.filterMap Ug
 | [], _ => rfl
 | x :: r, h => by
  have e : Un (x :: r) = x ++ 10 :: Un r := by simp [Un]
  rw [e, Zbu x _ (h x (.head _)).1, Z60 r (fun l hl => h l (.tail _ hl)), List.filterMap_cons]
  cases Ug x <;> rfl
theorem Z7d : ∀ W : List (List Str), (∀ ws ∈ W, lineWs ws) → (W.map jn).filterMap Ug = W
 | [], _ => rfl
 | w :: W, h => by rw [List.map_cons, List.filterMap_cons, (h w (.head _)).said, Z7d W (fun x hx => h x (.tail _ hx))]
theorem Z5q {W : List (List Str)} (h : ∀ ws ∈ W, lineWs ws) : ∀ l ∈ W.map jn, Z2p l := fun l hl => by
 obtain ⟨w, hw, rfl⟩ := List.mem_map.1 hl
 exact (h w hw).line
theorem Zcl {n : Net} (h : NetP n) : Ki (Gw n) = Ke n := by
 unfold Gw prtL
 rw [Z60 _ (Z5q (Z1y h)), Z7d _ (Z1y h)]
theorem Z7s : ∀ ls : List Str, (∀ l ∈ ls, Z2p l) → (Un ls).length ≤ 101 * ls.length
 | [], _ => by simp [Un]
 | x :: r, h => by
  have h1 := Z7s r (fun l hl => h l (.tail _ hl))
  have h2 := (h x (.head _)).2
  unfold Un at h1 ⊢
  rw [List.flatMap_cons, List.length_append, List.length_append, List.length_singleton, List.length_cons]; omega
theorem prtL_len (n : Net) : (prtL n).length = n.Arcs.length + 3 := by simp [prtL, Ke]
theorem Z8h {n : Net} (h : NetP n) : (Gw n).length ≤ 101 * (n.Arcs.length + 3) := by
 have := Z7s (prtL n) (Z5q (Z1y h))
 rw [prtL_len] at this; exact this
theorem Z2m {v : Int} (h : i64ok (v + 1)) : Nh v = some (Xb (v + 1)) := by
 unfold Nh Nx
 rw [Wf h, Wf h]; rfl
theorem Z4l {n : Net} (h : NetP n) : Ok (Kl n) (fun r => r = (ub (Gw n), 0)) := by
 have hs := h.small
 have hw := Z1y h
 have hll : lenok n.Arcs.length := by omega
 have hP := (Lt (Vm n) (hw (Vm n) (.head _)).all).2
 have hS := (Lt (Ub n) (hw (Ub n) (.tail _ (.head _))).all).2
 have hT := (Lt (Uz n) (hw (Uz n) (.tail _ (.tail _ (.head _)))).all).2
 have e4 : (Vm n).length = 4 := rfl
 have e3 : (Ub n).length = 3 := rfl
 have e3' : (Uz n).length = 3 := rfl
 unfold Kl Nx
 refine Ok.bind.2 (Va (Z06 n hll) ?_)
 rw [if_neg (by rw [h.ck]; simp)]
 refine Ok.bind.2 (Ok.gd.2 ⟨⟨by omega, by omega⟩, Ok.some.2 ?_⟩)
 refine Ok.bind.2 (Ok.gd.2 ⟨⟨by omega, by omega⟩, Ok.some.2 ?_⟩)
 show Ok (gd ((Vm n).length ≤ _ ∧ (([] : List Int) ++ ub (jn (Vm n) ++ [10])).length ≤ _) _) _
 refine Ok.gd.2 ⟨⟨by omega, by rw [List.nil_append, Kd, List.length_append, List.length_singleton]; omega⟩, ?_⟩
 refine Ok.bind.2 (Va (Z2m ⟨by omega, by omega⟩) ?_)
 show Ok (gd ((Ub n).length ≤ _ ∧ ((([] : List Int) ++ ub (jn (Vm n) ++ [10])) ++ ub (jn (Ub n) ++ [10])).length ≤ _) _) _
 refine Ok.gd.2 ⟨⟨by omega, by rw [List.nil_append, List.length_append, Kd, Kd, List.length_append, List.length_append, List.length_singleton]; omega⟩, ?_⟩
 refine Ok.bind.2 (Va (Z2m ⟨by omega, by omega⟩) ?_)
 show Ok (gd ((Uz n).length ≤ _ ∧ (((([] : List Int) ++ ub (jn (Vm n) ++ [10])) ++ ub (jn (Ub n) ++ [10])) ++ ub (jn (Uz n) ++ [10])).length ≤ _) _) _
 refine Ok.gd.2 ⟨⟨by omega, by rw [List.nil_append, List.length_append, List.length_append, Kd, Kd, Kd, List.length_append, List.length_append, List.length_append, List.length_singleton]; omega⟩, ?_⟩
 have hb : (((([] : List Int) ++ ub (jn (Vm n) ++ [10])) ++ ub (jn (Ub n) ++ [10])) ++ ub (jn (Uz n) ++ [10])) ++ ub (Un ((n.Arcs.map Vg).map jn)) = ub (Gw n) := by
  rw [List.nil_append, ← Z3r, ← Z3r, ← Z3r]
  unfold Gw prtL Ke
  rw [List.map_cons, List.map_cons, List.map_cons]
  unfold Un
  rw [List.flatMap_cons, List.flatMap_cons, List.flatMap_cons, List.append_assoc, List.append_assoc]
 have hpl := Z8h h
 refine Ok.bind.2 (Ok.lp (fun s => ∃ k : Nat, s.2 = k ∧ k ≤ n.Arcs.length ∧ s.1 ++ ub (Un (((n.Arcs.drop k).map Vg).map jn)) = ub (Gw n)) (fun s => (n.Arcs.length - s.2).toNat) ⟨0, rfl, Nat.zero_le _, hb⟩ (by unfold Wl; simp only; omega) ?_)
 rintro ⟨buf, x⟩ ⟨k, h1, h2, h3⟩ P next exit
 simp only at h1 h3 next ⊢
 subst h1
 unfold Z0f
 refine Ok.ite.2 ⟨fun hx => ?_, fun hx => ?_⟩
 ·
  have hk2 : k < n.Arcs.length := by omega
  obtain ⟨a, ha⟩ : ∃ a, n.Arcs.getD k default = a := ⟨_, rfl⟩
  have ham : a ∈ n.Arcs := by rw [← ha]; exact Lj hk2 default
  obtain ⟨g1, g2⟩ := h.ends a ham
  have g3 := h.caps a ham
  rw [Int.toNat_natCast, ha]
  have e1 : n.Arcs.drop k = a :: n.Arcs.drop (k + 1) := by rw [List.drop_eq_getElem_cons hk2, ← ha, List.getD_eq_getElem?_getD, List.getElem?_eq_getElem hk2]; rfl
  have hlen := congrArg List.length h3
  rw [List.length_append, Kd, Kd] at hlen
  rw [e1, List.map_cons, List.map_cons] at h3 hlen
  have e2 : Un (jn (Vg a) :: ((n.Arcs.drop (k + 1)).map Vg).map jn) = (jn (Vg a) ++ [10]) ++ Un (((n.Arcs.drop (k + 1)).map Vg).map jn) := by unfold Un; rw [List.flatMap_cons]
  rw [e2, List.length_append, List.length_append, List.length_singleton] at hlen
  refine Ok.gd.2 ⟨(by (first | omega | (constructor <;> omega) | (simp only [List.length_set, List.length_replicate]; omega) | (simp only [List.length_set, List.length_replicate]; constructor <;> omega))), Ok.bind.2 (Va (Z2m ⟨by omega, by omega⟩) (Ok.bind.2 (Va (Z2m ⟨by omega, by omega⟩) (Ok.bind.2 (Ok.gd.2 ⟨⟨⟨by omega, by omega⟩, rfl⟩, Ok.some.2 ?_⟩)))))⟩
  show Ok (gd ((Vg a).length ≤ _ ∧ (buf ++ ub (jn (Vg a) ++ [10])).length ≤ _) _) _
  refine Ok.gd.2 ⟨⟨by show 4 ≤ _; omega, by rw [List.length_append, Kd, List.length_append, List.length_singleton]; omega⟩, Ok.gd.2 ⟨⟨by omega, by omega⟩, Ok.some.2 (next _ ⟨k + 1, rfl, by omega, ?_⟩ (by simp only; omega))⟩⟩
  simp only
  rw [← h3, e2, Z3r (jn (Vg a) ++ [10]), List.append_assoc]; rfl
 ·
  refine Ok.some.2 (exit _ ?_)
  obtain rfl : k = n.Arcs.length := by omega
  unfold Z1q
  rw [List.drop_eq_nil_of_le (Nat.le_refl _)] at h3
  refine Ok.some.2 ?_
  rw [← h3]; simp [Un, ub]
theorem s_Print0 {n : Net} (hl : lenok n.Arcs.length) (h : Vv n.N n.S n.T n.Arcs ≠ 0) : Kl n = some ([], Vv n.N n.S n.T n.Arcs) := by
 unfold Kl
 rw [Z06 n hl, Option.bind_some, if_pos h]
abbrev sd3 : List (Str × Int) := [([112], 1), ([115], 1), ([116], 1)]
theorem Z58 {n : Net} (h : NetP n) : Wq rd0 (Vm n) = some ⟨Net.mk n.N 0 0 [], [([112], 1)], n.Arcs.length⟩ := by
 have hs := h.small
 unfold Wq
 rw [if_pos (show (Vm n).getD 0 [] = [112] from rfl)]
 unfold pW
 have e1 : (Vm n).getD 2 [] = Xb n.N := rfl
 have e2 : (Vm n).getD 3 [] = Xb (n.Arcs.length : Int) := rfl
 rw [e1, e2, if_pos ⟨rfl, rfl, rfl, Nr (by omega) (by omega) (by omega) (by omega), Nr (by omega) (by omega) (by omega) (by omega)⟩, Ng (by omega) (by omega), Ng (by omega) (by omega)]
 rfl
theorem Z61 {r : Rd} {w : List Str} (h1 : w.getD 0 [] = [110]) (h2 : Ye 0 [112] r.said = 1) : Wq r w = nW r w := by
 unfold Wq
 rw [if_neg (by rw [h1]; decide), if_pos h2, if_pos h1]
theorem lineW_aa {r : Rd} {w : List Str} (h1 : w.getD 0 [] = [97]) (h2 : Ye 0 [112] r.said = 1) : Wq r w = aW r w := by
 unfold Wq
 rw [if_neg (by rw [h1]; decide), if_pos h2, if_neg (by rw [h1]; decide), if_pos h1]
theorem Z7a {n : Net} (h : NetP n) {k : Int} : Wq ⟨Net.mk n.N 0 0 [], [([112], 1)], k⟩ (Ub n) = some ⟨Net.mk n.N n.S 0 [], [([112], 1), ([115], 1)], k⟩ := by
 have hs := h.small
 rw [Z61 rfl rfl]
 unfold nW
 have e1 : (Ub n).getD 1 [] = Xb (n.S + 1) := rfl
 have e2 : (Ub n).getD 2 [] = [115] := rfl
 rw [e1, e2, if_pos ⟨rfl, Nr (by omega) (by omega) (by omega) (by simp only; omega), rfl⟩, if_pos rfl, Ng (by omega) (by omega)]
 simp only [Int.add_sub_cancel]
 rfl
theorem lineW_t {n : Net} (h : NetP n) {k : Int} : Wq ⟨Net.mk n.N n.S 0 [], [([112], 1), ([115], 1)], k⟩ (Uz n) = some ⟨Net.mk n.N n.S n.T [], sd3, k⟩ := by
 have hs := h.small
 rw [Z61 rfl rfl]
 unfold nW
 have e1 : (Uz n).getD 1 [] = Xb (n.T + 1) := rfl
 have e2 : (Uz n).getD 2 [] = [116] := rfl
 rw [e1, e2, if_pos ⟨rfl, Nr (by omega) (by omega) (by omega) (by simp only; omega), rfl⟩, if_neg (by decide), if_pos rfl, Ng (by omega) (by omega)]
 simp only [Int.add_sub_cancel]
 rfl
theorem lineW_a {N S T k : Int} {al : List Arc} {a : Arc} (h1 : 0 ≤ a.fr ∧ a.fr < N) (h2 : 0 ≤ a.to ∧ a.to < N) (h3 : 0 ≤ a.cap ∧ a.cap ≤ 9223372036854775807) (hN : N ≤ 1000000) :
    Wq ⟨Net.mk N S T al, sd3, k⟩ (Vg a) = some ⟨Net.mk N S T (al ++ [a]), sd3, k⟩ := by
  rw [lineW_aa rfl rfl]
  unfold aW
  have e1 : (Vg a).getD 1 [] = Xb (a.fr + 1) := rfl
  have e2 : (Vg a).getD 2 [] = Xb (a.to + 1) := rfl
  have e3 : (Vg a).getD 3 [] = Xb a.cap := rfl
  rw [e1, e2, e3, if_pos ⟨rfl, Nr (by omega) (by omega) (by omega) (by simp only; omega), Nr (by omega) (by omega) (by omega) (by simp only; omega), Nr h3.1 h3.2 h3.1 h3.2⟩, Ng (by omega) (by omega), Ng (by omega) (by omega), Ng h3.1 h3.2]
  simp only [Int.add_sub_cancel]
theorem Z6d {N S T k : Int} (hN : N ≤ 1000000) : ∀ (al pre : List Arc), (∀ a ∈ al, ((0 ≤ a.fr ∧ a.fr < N) ∧ (0 ≤ a.to ∧ a.to < N)) ∧ 0 ≤ a.cap ∧ a.cap ≤ 9223372036854775807) →
    Wt ⟨Net.mk N S T pre, sd3, k⟩ (al.map Vg) = some ⟨Net.mk N S T (pre ++ al), sd3, k⟩
  | [], pre, _ => by rw [List.append_nil]; rfl
  | a :: al, pre, h => by
    obtain ⟨⟨h1, h2⟩, h3⟩ := h a (.head _)
    rw [List.map_cons, Wt, lineW_a h1 h2 h3 hN, Option.bind_some, Z6d hN al _ (fun x hx => h x (.tail _ hx)), List.append_assoc]; rfl
def stR (n : Net) : Nat → Rd
  | 0 => rd0
  | 1 => ⟨Net.mk n.N 0 0 [], [([112], 1)], n.Arcs.length⟩
  | 2 => ⟨Net.mk n.N n.S 0 [], [([112], 1), ([115], 1)], n.Arcs.length⟩
  | k + 3 => ⟨Net.mk n.N n.S n.T (n.Arcs.take k), sd3, n.Arcs.length⟩
theorem NetP.each {n : Net} (h : NetP n) : ∀ a ∈ n.Arcs, ((0 ≤ a.fr ∧ a.fr < n.N) ∧ (0 ≤ a.to ∧ a.to < n.N)) ∧ 0 ≤ a.cap ∧ a.cap ≤ 9223372036854775807 := fun a ha => ⟨h.ends a ha, h.caps a ha⟩
theorem fold_prt {n : Net} (h : NetP n) : ∀ i, Wt rd0 ((Ke n).take i) = some (stR n i)
 | 0 => rfl
 | 1 => by show Wt rd0 [Vm n] = _; rw [Wt, Z58 h]; rfl
 | 2 => by show Wt rd0 [Vm n, Ub n] = _; rw [Wt, Z58 h, Option.bind_some, Wt, Z7a h]; rfl
 | k + 3 => by
  have e : (Ke n).take (k + 3) = Vm n :: Ub n :: Uz n :: (n.Arcs.take k).map Vg := by
   unfold Ke; rw [List.take_succ_cons, List.take_succ_cons, List.take_succ_cons, List.map_take]
  rw [e, Wt, Z58 h, Option.bind_some, Wt, Z7a h, Option.bind_some, Wt, lineW_t h, Option.bind_some]
  rw [Z6d h.small.1.2 _ _ (fun a ha => h.each a (List.mem_of_mem_take ha))]; rfl
theorem par_prt {n : Net} (h : NetP n) : Lp (Ke n) = (n, 0) := by
 have e := fold_prt h (n.Arcs.length + 3)
 have e2 : (Ke n).take (n.Arcs.length + 3) = Ke n := List.take_of_length_le (by simp [Ke])
 rw [e2] at e
 unfold Lp
 rw [e]
 have e3 : stR n (n.Arcs.length + 3) = ⟨n, sd3, n.Arcs.length⟩ := by show (⟨Net.mk n.N n.S n.T (n.Arcs.take n.Arcs.length), sd3, n.Arcs.length⟩ : Rd) = _; rw [List.take_length]
 rw [e3, Z55, if_pos ⟨rfl, rfl, rfl, rfl⟩]
 unfold parF
 rw [if_pos rfl, if_pos h.ck]
theorem Z7o {n : Net} (h : NetP n) : Kb (ub (Gw n)) = some (n, 0) := by
 have h1 := Z8h h
 have h2 := h.small
 rw [Z90 _ (by omega), Zcl h, par_prt h]
end Go.Acq
namespace Go.Acq
open Go
structure BytesIn (l : List Int) : Prop where
  row : ∀ x, x ∈ l → u8ok x
  len : l.length ≤ 9223372036854775807
set_option maxRecDepth 100000 in
theorem Z5g : Rn = some true := by decide +kernel
theorem s_EqArc {a : List Arc} (h : a.length ≤ 100000000) : Ok (Z0t a a) (fun b => b = true) := by
 unfold Z0t
 rw [if_neg (by simp)]
 refine Ok.bind.2 (Ok.lp (O := Bool ⊕ Unit) (fun s => 0 ≤ s ∧ s ≤ (a.length : Int)) (fun s => (a.length - s).toNat) ⟨by omega, by omega⟩ (by unfold Wl; omega) ?_)
 rintro s ⟨h1, h2⟩ P next exit
 unfold Z13
 refine Ok.ite.2 ⟨fun hs => ?_, fun _ => Ok.some.2 (exit _ (Ok.some.2 rfl))⟩
 refine Ok.gd.2 ⟨⟨h1, hs⟩, Ok.gd.2 ⟨⟨h1, hs⟩, ?_⟩⟩
 rw [if_neg (by simp)]
 exact Ok.gd.2 ⟨⟨by omega, by omega⟩, Ok.some.2 (next _ ⟨by omega, by omega⟩ (by omega))⟩
theorem s_Same {n : Net} (h : n.Arcs.length ≤ 100000000) : Ok (Gp n n) (fun b => b = true) := by
 unfold Gp
 rw [if_pos rfl, if_pos rfl, if_pos rfl]
 exact Ok.bind.2 (Ok.mono (s_EqArc h) fun r hr => Ok.some.2 hr)
theorem Z69 {n : Net} {Q : Bool → Prop} {k : Option Bool} (hl : lenok n.Arcs.length) (hk : Ok k Q) :
    Ok (Option.bind (Kl n) fun (r, e) => Option.bind (Jl n) fun c => if e ≠ c then some false else if e ≠ 0 then k else
      Option.bind (Kb r) fun (b, f) => if f ≠ 0 then some false else Option.bind (Gp b n) fun s => if (!s) = true then some false else k) Q := by
  by_cases h : Vv n.N n.S n.T n.Arcs = 0
  · have hp := netP h
    have hs := hp.small
    refine Ok.bind.2 (Ok.mono (Z4l hp) ?_)
    rintro _ rfl
    refine Ok.bind.2 (Va (Z06 n hl) ?_)
    rw [h, if_neg (by simp), if_neg (by simp)]
    refine Ok.bind.2 (Va (Z7o hp) ?_)
    simp only
    rw [if_neg (by simp)]
    refine Ok.bind.2 (Ok.mono (s_Same (by omega)) ?_)
    rintro _ rfl
    rw [if_neg (by simp)]
    exact hk
  · refine Ok.bind.2 (Va (s_Print0 hl h) ?_)
    refine Ok.bind.2 (Va (Z06 n hl) ?_)
    rw [if_neg (by simp), if_pos h]
    exact hk
theorem Zdn (ws : List (List Str)) : (∃ n, NetP n ∧ Lp ws = (n, 0)) ∨ (∃ e, e ≠ 0 ∧ Lp ws = (Net.mk 0 0 0 [], e)) := by
 unfold Lp parF
 generalize Nf (Wt rd0 ws) = x
 split
 ·
  split
  · rename_i h; exact .inl ⟨x.1, netP h, rfl⟩
  · rename_i h; exact .inr ⟨_, h, rfl⟩
 · exact .inr ⟨70, by decide, rfl⟩
theorem p_j2 {b : List Int} (hb : BytesIn b) (hl : b.length ≤ 1500) : Ok (Gr b) (fun a => a = true) := by
 have hub := ub_bu hb.row
 have hl2 : (bu b).length ≤ 100000000 := by unfold bu; rw [List.length_map]; omega
 unfold Gr
 rw [← hub]
 refine Ok.bind.2 (Va (Z90 _ hl2) ?_)
 rcases Zdn (Ki (bu b)) with ⟨n, hn, e⟩ | ⟨e, he, e2⟩
 ·
  rw [e]
  simp only
  have hs := hn.small
  rw [if_neg (by simp)]
  refine Ok.bind.2 (Ok.mono (Z4l hn) ?_)
  rintro _ rfl
  refine Ok.bind.2 (Va (Z7o hn) ?_)
  refine Ok.bind.2 (Ok.mono (Z4l hn) ?_)
  rintro _ rfl
  simp only
  rw [if_pos trivial]
  unfold Z0d Z09
  rw [if_pos (by decide), if_pos (by decide)]
  refine Ok.bind.2 (Ok.mono (s_Same (by omega)) ?_)
  rintro _ rfl
  unfold Z0h Z1n Z1b
  rw [if_pos rfl, if_pos (by simp)]
  refine Ok.bind.2 (Va (Z06 n (by omega)) ?_)
  rw [hn.ck, if_pos (by decide)]
  exact Ok.bind.2 (Va Z5g (Ok.some.2 rfl))
 ·
  rw [e2]
  simp only
  rw [if_pos he, if_pos (by simp), if_pos trivial]
  exact Ok.bind.2 (Va Z5g (Ok.some.2 rfl))
theorem p_DimacsBack {n : Net} {b : List Int} (hn : NetIn n) (hb : BytesIn b) : Z39 n b = some true := by
 refine ok_eq ?_
 have aw : Ok (Nq n b true) (fun a => a = true) := by
  unfold Nq
  rw [if_pos rfl]
  exact Ok.bind.2 (Va Z5g (Ok.some.2 rfl))
 unfold Z39
 refine Ok.ite.2 ⟨fun _ => aw, fun hl => ?_⟩
 by_cases hb2 : 1500 < (b.length : Int)
 · rw [decide_eq_true hb2]; exact aw
 rw [decide_eq_false hb2]
 unfold Nq
 rw [if_neg (by simp)]
 refine Ok.bind.2 (Ok.mono (s_Some hn (by omega) (by omega) (by omega) (by omega)) fun r hr => ?_)
 have hra := hr.arcs
 have j2 := p_j2 hb (by omega)
 have two := Z69 (n := r) (k := Gr b) (Q := fun a => a = true) (by omega) j2
 exact Z69 (n := n) (Q := fun a => a = true) (by omega) two
end Go.Acq
