/- Texts of this claim, one behind the other. -/
import Derived.Test.YtjeenmabclghoaaA5
import Derived.Test.YtjeenmabclghoaaA2
set_option linter.unusedVariables false
set_option linter.unusedSimpArgs false
namespace Go.Acq
open Go
set_option linter.unusedSimpArgs false
set_option linter.unusedVariables false
def Z6b (g : Arc → Int) : List Arc → Int
  | [] => 0
  | a :: l => g a + Z6b g l
def con (c : List Bool) (a : Arc) : Int := if inS c a.fr = true ∧ inS c a.to = false then a.cap else 0
theorem Za8 (g : Arc → Int) : ∀ a b, Z6b g (a ++ b) = Z6b g a + Z6b g b
 | [], b => by simp [Z6b]
 | x :: a, b => by simp only [List.cons_append, Z6b, Za8 g a b]; omega
theorem Zkv (g : Arc → Int) : ∀ (l : List Arc) (i : Nat) (b : Arc), i < l.length → Z6b g (l.set i b) = Z6b g l - g (l.getD i default) + g b
 | [], i, b, h => by simp at h
 | x :: l, 0, b, _ => by simp only [List.set_cons_zero, Z6b, List.getD_cons_zero]; omega
 | x :: l, i + 1, b, h => by
  simp only [List.set_cons_succ, Z6b, List.getD_cons_succ, Zkv g l i b (by simpa using h)]; omega
theorem Zkt (al : List Arc) {k : Nat} (h : k < al.length) : al.take (k + 1) = al.take k ++ [al.getD k default] := by
 rw [List.take_succ_eq_append_getElem h, List.getD_eq_getElem?_getD, List.getElem?_eq_getElem h]; rfl
theorem Zla (al : List Arc) (c : List Bool) : ∀ k, k ≤ al.length → Zna al c k = Z6b (con c) (al.take k)
 | 0, _ => by simp [Zna, Z6b]
 | k + 1, h => by rw [Zkt al (by omega), Za8]; simp only [Zna, Zla al c k (by omega), Z6b, con]; omega
theorem capK_all (al : List Arc) (c : List Bool) : Zna al c al.length = Z6b (con c) al := by rw [Zla al c _ (Nat.le_refl _), List.take_length]
theorem Zc1 {g : Arc → Int} : ∀ l : List Arc, (∀ a, a ∈ l → 0 ≤ g a) → 0 ≤ Z6b g l
 | [], _ => by simp [Z6b]
 | a :: l, h => by have h1 := h a (.head _); have h2 := Zc1 l fun b hb => h b (.tail _ hb); simp only [Z6b]; omega
theorem Zkw {g : Arc → Int} : ∀ (l : List Arc) (i : Nat), (∀ a, a ∈ l → 0 ≤ g a) → i < l.length → g (l.getD i default) ≤ Z6b g l
 | [], i, _, h => by simp at h
 | a :: l, 0, h, _ => by have h2 := Zc1 l fun b hb => h b (.tail _ hb); simp only [Z6b, List.getD_cons_zero]; omega
 | a :: l, i + 1, h, hi => by
  have h1 := h a (.head _); have h2 := Zkw l i (fun b hb => h b (.tail _ hb)) (by simpa using hi)
  simp only [Z6b, List.getD_cons_succ]; omega
theorem Zjz {g : Arc → Int} {B : Int} : ∀ l : List Arc, (∀ a, a ∈ l → g a ≤ B) → Z6b g l ≤ l.length * B
 | [], _ => by simp [Z6b]
 | a :: l, h => by
  have h1 := h a (.head _); have h2 := Zjz l fun b hb => h b (.tail _ hb)
  simp only [Z6b, List.length_cons]
  have : ((l.length + 1 : Nat) : Int) * B = l.length * B + B := by rw [Int.natCast_add, Int.add_mul]; simp
  omega
theorem sumL_T : ∀ (ol : List Arc) (left : Int), (∀ a, a ∈ ol → 0 ≤ a.cap) → Z6b Arc.cap ol ≤ left → (Zem left ol).isSome = true
 | [], left, _, _ => by simp [Zem]
 | a :: ol, left, h, hs => by
  have h1 := h a (.head _); have h2 := Zc1 (g := Arc.cap) ol fun b hb => h b (.tail _ hb)
  simp only [Z6b] at hs
  simp only [Zem]
  rw [if_neg (by omega)]
  exact sumL_T ol _ (fun b hb => h b (.tail _ hb)) (by omega)
theorem Zob {m : Nat} {S T : Int} {ol : List Arc} (hm : 2 ≤ m) (hm2 : m ≤ 4096) (hS : 0 ≤ S ∧ S < m) (hT : 0 ≤ T ∧ T < m) (hST : S ≠ T) (h : ∀ a, a ∈ ol → Z73 m a = true ∧ 0 ≤ a.cap) (hl : ol.length ≤ 1000) (ht : Z6b Arc.cap ol ≤ 4611686018427387904) : Z38 m S T ol = 0 := by
 have h1 : ol.all (Z73 m) = true := List.all_eq_true.2 fun a ha => (h a ha).1
 have h2 : ol.all Zm2 = true := List.all_eq_true.2 fun a ha => by simp [Zm2, (h a ha).2]
 have h3 : (Zem 4611686018427387904 ol).isSome = true := sumL_T ol _ (fun a ha => (h a ha).2) ht
 unfold Z38
 rw [if_neg (by omega), if_neg (by omega), if_neg (by simp [Z3f, hS, hT, hST]), if_neg (by simp [h1]), if_neg (by simp [h2]), if_neg (by
  cases e : Zem 4611686018427387904 ol with
  | none => rw [e] at h3; cases h3
  | some x => simp)]
theorem Zkr {n1 n2 : Net} {m : Nat} {a b : Answer} {w1 w2 : Work} (h1 : SolP n1 m a w1) (h2 : SolP n2 m b w2) (hm1 : n1.N = m) (hk1 : Z38 n1.N n1.S n1.T n1.Arcs = 0) (hm2 : n2.N = m) (hk2 : Z38 n2.N n2.S n2.T n2.Arcs = 0)
    (hc : ∀ c, CutR n1 c → ∃ c', CutR n2 c' ∧ Z6b (con c') n2.Arcs ≤ Z6b (con c) n1.Arcs) : b.Value ≤ a.Value := by
  obtain ⟨c', hc1, hc2⟩ := hc _ h1.cut
  have h3 := h2.least hm2 hk2 hc1
  have e := h1.cap hm1 hk1
  rw [capK_all] at h3 e
  omega
theorem val_same {r : Net} {al : List Arc} {m : Nat} {a b : Answer} {w1 w2 : Work} (h1 : SolP r m a w1) (h2 : SolP ⟨r.N, r.S, r.T, al⟩ m b w2) (hm : r.N = m) (hk1 : Z38 r.N r.S r.T r.Arcs = 0) (hk2 : Z38 r.N r.S r.T al = 0)
    (hc : ∀ c, Z6b (con c) al = Z6b (con c) r.Arcs) : b.Value = a.Value :=
  Int.le_antisymm (Zkr h1 h2 hm hk1 hm hk2 fun c h => ⟨c, ⟨hk2, h.2⟩, Int.le_of_eq (hc c)⟩) (Zkr h2 h1 hm hk2 hm hk1 fun c h => ⟨c, ⟨hk1, h.2⟩, Int.le_of_eq (hc c).symm⟩)
def othr (c : List Bool) : List Bool := c.map (fun b => !b)
theorem Zbj {c : List Bool} {v : Int} (h : v.toNat < c.length) : inS (othr c) v = !inS c v := by
 unfold inS othr
 rw [List.getD_eq_getElem?_getD, List.getD_eq_getElem?_getD, List.getElem?_map, List.getElem?_eq_getElem h]
 rfl
theorem con_turn {c : List Bool} {m : Nat} {a : Arc} (hc : c.length = m) (ha : Z73 m a = true) : con (othr c) (turn a) = con c a := by
 simp only [Z73, Z3f, Bool.and_eq_true, decide_eq_true_eq] at ha
 unfold con turn
 simp only
 rw [Zbj (by omega), Zbj (by omega)]
 cases inS c a.fr <;> cases inS c a.to <;> simp
theorem Zhp {c : List Bool} {m : Nat} (hc : c.length = m) : ∀ al : List Arc, (∀ a, a ∈ al → Z73 m a = true) → Z6b (con (othr c)) (al.map turn) = Z6b (con c) al
 | [], _ => rfl
 | a :: al, h => by
  simp only [List.map_cons, Z6b, con_turn hc (h a (.head _)), Zhp hc al fun b hb => h b (.tail _ hb)]
theorem Znk (al : List Arc) : (al.map turn).map turn = al := by
 rw [List.map_map]
 exact (List.map_congr_left fun a _ => rfl).trans (List.map_id al)
theorem val_turn {r : Net} {m : Nat} {a b : Answer} {w1 w2 : Work} (h1 : SolP r m a w1) (h2 : SolP ⟨r.N, r.T, r.S, r.Arcs.map turn⟩ m b w2) (hm : r.N = m) (hk1 : Z38 r.N r.S r.T r.Arcs = 0) (hk2 : Z38 r.N r.T r.S (r.Arcs.map turn) = 0)
    (he : ∀ a, a ∈ r.Arcs → Z73 m a = true) (hS : 0 ≤ r.S ∧ r.S < m) (hT : 0 ≤ r.T ∧ r.T < m) : b.Value = a.Value := by
  refine Int.le_antisymm (Zkr h1 h2 hm hk1 hm hk2 fun c h => ?_) (Zkr h2 h1 hm hk2 hm hk1 fun c h => ?_)
  · obtain ⟨-, hl, i1, i2⟩ := h
    have hlm : c.length = m := by omega
    refine ⟨othr c, ⟨hk2, by unfold othr; rw [List.length_map]; exact hl, ?_, ?_⟩, Int.le_of_eq (Zhp hlm _ he)⟩
    · show inS (othr c) r.T = true
      rw [Zbj (by omega), i2]; rfl
    · show inS (othr c) r.S = false
      rw [Zbj (by omega), i1]; rfl
  · obtain ⟨-, hl, i1, i2⟩ := h
    simp only at hl i1 i2
    have hlm : c.length = m := by omega
    refine ⟨othr c, ⟨hk1, by unfold othr; rw [List.length_map]; exact hl, ?_, ?_⟩, Int.le_of_eq ?_⟩
    · rw [Zbj (by omega), i2]; rfl
    · rw [Zbj (by omega), i1]; rfl
    · have := Zhp hlm (r.Arcs.map turn) fun a ha => by
        obtain ⟨x, hx, rfl⟩ := List.mem_map.1 ha
        have h3 := he x hx
        simp only [Z73, turn, Bool.and_eq_true] at h3 ⊢
        exact ⟨h3.2, h3.1⟩
      rw [Znk] at this
      exact this
theorem Zo5 {α : Type} {z v : α} {k k' : Int × Int} : ∀ mp, Zb3 z k' (Zhv k v mp) = if k' = k then v else Zb3 z k' mp
 | [] => by simp [Zhv, Zb3]
 | x :: xs => by
  unfold Zhv
  by_cases h : k = x.1
  ·
   rw [if_pos h]
   unfold Zb3
   by_cases e : k' = k
   · rw [if_pos e, if_pos e]
   · rw [if_neg e, if_neg e, if_neg (fun e2 => e (e2.trans h.symm))]
  ·
   rw [if_neg h]
   unfold Zb3
   by_cases e : k' = x.1
   · rw [if_pos e, if_neg (fun e2 => h (e2.symm.trans e)), if_pos e]
   · rw [if_neg e, Zo5 xs, if_neg e]
theorem Zo3 {α : Type} {v : α} {k k' : Int × Int} : ∀ mp, Zo4 k' (Zhv k v mp) = if k' = k then true else Zo4 k' mp
 | [] => by simp [Zhv, Zo4]
 | x :: xs => by
  unfold Zhv
  by_cases h : k = x.1
  ·
   rw [if_pos h]
   unfold Zo4
   by_cases e : k' = k
   · rw [if_pos e, if_pos e]
   · rw [if_neg e, if_neg e, if_neg (fun e2 => e (e2.trans h.symm))]
  ·
   rw [if_neg h]
   unfold Zo4
   by_cases e : k' = x.1
   · rw [if_pos e, if_neg (fun e2 => h (e2.symm.trans e)), if_pos e]
   · rw [if_neg e, Zo3 xs, if_neg e]
structure JoinI (m : Nat) (al : List Arc) (k : Nat) (A : List Arc) (mp : List ((Int × Int) × Int)) (o : List Int) : Prop where
  sum : ∀ c, Z6b (con c) A = Z6b (con c) (al.take k)
  tot : Z6b Arc.cap A ≤ Z6b Arc.cap (al.take k)
  ends : ∀ a, a ∈ A → Z73 m a = true ∧ 0 ≤ a.cap
  len : A.length ≤ k
  lo : o.length = k
  map : ∀ p, Zo4 p mp = true → 0 ≤ Zb3 0 p mp ∧ Zb3 0 p mp < A.length ∧ (A.getD (Zb3 0 p mp).toNat default).fr = p.1 ∧ (A.getD (Zb3 0 p mp).toNat default).to = p.2
theorem con_self {c : List Bool} {a : Arc} (h : a.fr = a.to) : con c a = 0 := by
 unfold con
 rw [if_neg]
 rintro ⟨h1, h2⟩
 rw [h, h2] at h1; cases h1
theorem con_plus {c : List Bool} {a b : Arc} (h1 : b.fr = a.fr) (h2 : b.to = a.to) : con c (Arc.mk b.fr b.to (b.cap + a.cap)) = con c b + con c a := by
 unfold con
 simp only [h1, h2]
 split <;> omega
theorem s_Join {r : Net} {m : Nat} (hm : r.N = m) (hk : Z38 r.N r.S r.T r.Arcs = 0) (hl : r.Arcs.length ≤ 1000) (hso : SomeAt m r.Arcs) :
    Ok (Z9n r) (fun t => ∃ A, t.1 = ⟨r.N, r.S, r.T, A⟩ ∧ (∀ c, Z6b (con c) A = Z6b (con c) r.Arcs) ∧ Z6b Arc.cap A ≤ Z6b Arc.cap r.Arcs ∧ (∀ a, a ∈ A → Z73 m a = true ∧ 0 ≤ a.cap) ∧ A.length ≤ r.Arcs.length) := by
  unfold Z9n
  refine Ok.bind.2 (Z8q (Zk1 r (by omega)) (Ok.ite.2 ⟨fun h => absurd hk h, fun _ => Ok.bind.2 ?_⟩))
  refine Za5 (fun s => ∃ k : Nat, s.2.2.2 = k ∧ k ≤ r.Arcs.length ∧ JoinI m r.Arcs k s.1 s.2.1 s.2.2.1) (fun s => (r.Arcs.length - s.2.2.2).toNat)
    ⟨0, rfl, by omega, ⟨fun c => by simp, by simp, (fun a ha => by cases ha), by simp, rfl, fun p hp => by cases hp⟩⟩ (by unfold Z4t; simp only; omega) ?_
  rintro ⟨A, mp, o, x⟩ ⟨k, h1, hkl, hI⟩ P next exit
  simp only at h1 hI next ⊢
  subst h1
  unfold Z6g
  simp only [Int.toNat_natCast]
  obtain ⟨a, ha⟩ : ∃ a, r.Arcs.getD k default = a := ⟨_, rfl⟩
  simp only [ha]
  refine Ok.ite.2 ⟨fun hx => ?_, fun hx => Ok.some.2 (exit _ ?_)⟩
  · have hklt : k < r.Arcs.length := by omega
    have hs := hso a (by rw [← ha]; exact Z6q hklt default)
    have htk := Zkt r.Arcs hklt
    rw [ha] at htk
    have ht1 : ∀ g : Arc → Int, Z6b g (r.Arcs.take (k + 1)) = Z6b g (r.Arcs.take k) + g a := fun g => by rw [htk, Za8]; simp [Z6b]
    have hT : Z6b Arc.cap (r.Arcs.take k) ≤ (r.Arcs.take k).length * 1125899906842624 := Zjz _ fun b hb => by have := hso b (List.mem_of_mem_take hb); omega
    have hTl : (r.Arcs.take k).length ≤ 1000 := by rw [List.length_take]; omega
    have hI1 := hI.len
    have hI2 := hI.tot
    have hI3 := hI.lo
    refine Ok.gd.2 ⟨(by omega), Ok.ite.2 ⟨fun hself => ?_, fun hne => Ok.ite.2 ⟨fun hhas => ?_, fun hno => ?_⟩⟩⟩
    · refine Ok.gd.2 ⟨by rw [List.length_append, List.length_singleton]; constructor <;> omega, Ok.gd.2 ⟨(by omega), Ok.some.2 (next _ ⟨k + 1, by simp, by omega, ?_⟩ (by simp only; omega))⟩⟩
      exact ⟨fun c => by rw [ht1, hI.sum c, con_self hself]; omega, by rw [ht1]; simp only; omega, hI.ends, by simp only; omega, by simp only [List.length_append, List.length_singleton]; omega, hI.map⟩
    · obtain ⟨i0, i1, i2, i3⟩ := hI.map _ hhas
      obtain ⟨i, hi⟩ : ∃ i : Nat, Zb3 0 (a.fr, a.to) mp = i := ⟨(Zb3 0 (a.fr, a.to) mp).toNat, by omega⟩
      rw [hi] at i0 i1
      rw [hi, Int.toNat_natCast] at i2 i3
      simp only at i2 i3
      simp only [hi, Int.toNat_natCast]
      obtain ⟨b, hb⟩ : ∃ b, A.getD i default = b := ⟨_, rfl⟩
      simp only [hb] at i2 i3 ⊢
      have hil : i < A.length := by omega
      have hbm := hI.ends b (by rw [← hb]; exact Z6q hil default)
      have hb1 := Zkw (g := Arc.cap) A i (fun a ha => (hI.ends a ha).2) hil
      rw [hb] at hb1
      have hset : ∀ g : Arc → Int, Z6b g (A.set i (Arc.mk b.fr b.to (b.cap + a.cap))) = Z6b g A - g b + g (Arc.mk b.fr b.to (b.cap + a.cap)) := fun g => by rw [Zkv g A i _ hil, hb]
      refine Ok.gd.2 ⟨(by omega), Ok.gd.2 ⟨(by omega), Ok.gd.2 ⟨(by omega), Ok.gd.2 ⟨by rw [List.length_append, List.length_singleton]; constructor <;> omega, Ok.gd.2 ⟨(by omega), Ok.some.2 (next _ ⟨k + 1, by simp, by omega, ?_⟩ (by simp only; omega))⟩⟩⟩⟩⟩
      refine ⟨fun c => by rw [ht1, hset, con_plus i2 i3, hI.sum c]; omega, by rw [ht1, hset]; simp only; omega, fun q hq => ?_, by simp only [List.length_set]; omega, by simp only [List.length_append, List.length_singleton]; omega, fun p hp => ?_⟩
      · simp only at hq
        rcases List.mem_or_eq_of_mem_set hq with hq | rfl
        · exact hI.ends q hq
        · refine ⟨?_, by simp only; omega⟩
          have := hbm.1
          unfold Z73 at this ⊢
          exact this
      · obtain ⟨p0, p1, p2, p3⟩ := hI.map p hp
        simp only [List.length_set]
        refine ⟨p0, p1, ?_, ?_⟩
        · rw [Zcm]
          split
          · rename_i h; rw [h.1] at hb; simp only; rw [hb] at p2; exact p2
          · exact p2
        · rw [Zcm]
          split
          · rename_i h; rw [h.1] at hb; simp only; rw [hb] at p3; exact p3
          · exact p3
    · refine Ok.gd.2 ⟨by rw [List.length_append, List.length_singleton]; constructor <;> omega, Ok.gd.2 ⟨by rw [List.length_append, List.length_singleton]; constructor <;> omega, Ok.gd.2 ⟨(by omega), Ok.some.2 (next _ ⟨k + 1, by simp, by omega, ?_⟩ (by simp only; omega))⟩⟩⟩
      refine ⟨fun c => by rw [ht1, Za8, hI.sum c]; simp [Z6b], by rw [ht1, Za8]; simp only [Z6b]; omega, fun q hq => ?_, by simp only [List.length_append, List.length_singleton]; omega, by simp only [List.length_append, List.length_singleton]; omega, fun p hp => ?_⟩
      · simp only at hq
        rcases List.mem_append.1 hq with hq | hq
        · exact hI.ends q hq
        · simp only [List.mem_singleton] at hq; subst hq; exact ⟨hs.1, hs.2.1⟩
      · simp only at hp ⊢
        rw [Zo3] at hp
        rw [Zo5]
        by_cases e : p = (a.fr, a.to)
        · rw [if_pos e, e]
          simp only [List.length_append, List.length_singleton, Int.toNat_natCast]
          refine ⟨by omega, by omega, ?_, ?_⟩
          · rw [List.getD_eq_getElem?_getD, List.getElem?_append_right (Nat.le_refl _), Nat.sub_self]; rfl
          · rw [List.getD_eq_getElem?_getD, List.getElem?_append_right (Nat.le_refl _), Nat.sub_self]; rfl
        · rw [if_neg e] at hp ⊢
          obtain ⟨p0, p1, p2, p3⟩ := hI.map p hp
          rw [Z4o (by omega), List.length_append]
          exact ⟨p0, by omega, p2, p3⟩
  · obtain rfl : k = r.Arcs.length := by omega
    have e := List.take_length (l := r.Arcs)
    unfold Z89
    exact Ok.some.2 ⟨A, rfl, fun c => by rw [hI.sum c, e], by have := hI.tot; rw [e] at this; exact this, hI.ends, hI.len⟩
theorem Zns {n : Net} (hl : n.Arcs.length ≤ 16384) : Z8g n = some n := by
 unfold Z8g Z4u; rw [Z81 (by constructor <;> omega)]; rfl
theorem s_Turn8 {n : Net} (hl : n.Arcs.length ≤ 16384) : Ok (Z9m n) (fun t => t = Net.mk n.N n.T n.S (n.Arcs.map turn)) := by
 unfold Z9m
 refine Ok.bind.2 (Z8q (Zns hl) (Ok.bind.2 ?_))
 refine Za5 (fun s => ∃ k : Nat, s.2 = k ∧ k ≤ n.Arcs.length ∧ s.1.length = n.Arcs.length ∧ ∀ i, i < k → s.1.getD i default = turn (n.Arcs.getD i default)) (fun s => (n.Arcs.length - s.2).toNat) ⟨0, rfl, by omega, rfl, fun i hi => by omega⟩ (by unfold Z4t; simp only; omega) ?_
 rintro ⟨xs, x⟩ ⟨k, h1, hk, hl1, hx⟩ P next exit
 simp only at h1 hl1 hx next ⊢
 subst h1
 unfold Z6f
 simp only [Int.toNat_natCast]
 refine Ok.ite.2 ⟨fun h => Ok.gd.2 ⟨(by omega), Ok.gd.2 ⟨(by omega), Ok.gd.2 ⟨(by omega), Ok.some.2 (next _ ⟨k + 1, by simp, by omega, by simp [hl1], fun i hi => ?_⟩ (by simp only; omega))⟩⟩⟩, fun h => Ok.some.2 (exit _ ?_)⟩
 ·
  simp only
  by_cases e : i = k
  · subst e; rw [List.getD_eq_getElem?_getD, List.getElem?_set_self (by omega)]; rfl
  · rw [List.getD_eq_getElem?_getD, List.getElem?_set_ne (fun h => e h.symm), ← List.getD_eq_getElem?_getD]; exact hx i (by omega)
 ·
  unfold Z88
  refine Ok.some.2 ?_
  rw [show xs = n.Arcs.map turn from Zgu default (by simp [hl1]) fun i hi => by rw [hx i (by omega), Zii]]
theorem p_FifoSame {n : Net} {t : Int} (hn : NetIn n) (ht : u8ok t) : Z3k n t = some true := by
 refine Zgi ?_
 unfold Z3k
 refine Ok.bind.2 (Ok.mono (s_Some hn (by omega) (by omega) (by omega) (by omega)) fun r hr => ?_)
 obtain ⟨m, hm, hso⟩ := hr.nat
 have hlen := hr.arcs
 have hv := hr.verts
 have hends := hr.ends
 have hk := hr.check
 have hll : lenok r.Arcs.length := by omega
 refine Ok.bind.2 (Ok.mono (Zk0 hm hk hll) ?_)
 rintro ⟨s, w, e⟩ ⟨h0, hs⟩
 simp only at h0 hs ⊢
 subst h0
 refine Ok.bind.2 (Z8q (Zns (by omega)) ?_)
 have hS2 : 0 ≤ r.S ∧ r.S < m := by omega
 have hT2 : 0 ≤ r.T ∧ r.T < m := by omega
 have hST := hends.2.2.2.2.2
 have htot : Z6b Arc.cap r.Arcs ≤ r.Arcs.length * 1125899906842624 := Zjz _ fun b hb => by have := hso b hb; omega
 have key : ∀ al : List Arc, (∀ c, Z6b (con c) al = Z6b (con c) r.Arcs) → (∀ a, a ∈ al → Z73 m a = true ∧ 0 ≤ a.cap) → al.length ≤ 1000 → Z6b Arc.cap al ≤ Z6b Arc.cap r.Arcs → Ok (Z33 ⟨r.N, r.S, r.T, al⟩) (fun u => u.2.2 = 0 ∧ u.1.Value = s.Value) := by
  intro al hc he hl ht
  have hk2 : Z38 r.N r.S r.T al = 0 := by
   rw [hm]
   exact Zob (by omega) (by omega) hS2 hT2 (fun e => hST e) he hl (by omega)
  refine Ok.mono (Zk0 (n := ⟨r.N, r.S, r.T, al⟩) hm hk2 (by simp only; omega)) ?_
  rintro ⟨b, v, e⟩ ⟨g0, gs⟩
  exact ⟨g0, val_same hs gs hm hk hk2 hc⟩
 have fin : ∀ al : List Arc, (∀ c, Z6b (con c) al = Z6b (con c) r.Arcs) → (∀ a, a ∈ al → Z73 m a = true ∧ 0 ≤ a.cap) → al.length ≤ 1000 → Z6b Arc.cap al ≤ Z6b Arc.cap r.Arcs → Ok (Z1w r s 0 r al) (fun b => b = true) := by
  intro al hc he hl ht
  unfold Z1w
  refine Ok.bind.2 (Ok.mono (s_Join hm hk (by omega) hso) ?_)
  rintro ⟨j, o⟩ ⟨A, hA, a1, a2, a3, a4⟩
  simp only at hA ⊢
  subst hA
  refine Ok.bind.2 (Ok.mono (s_Turn8 (by omega)) ?_)
  rintro _ rfl
  refine Ok.bind.2 (Ok.mono (key al hc he hl ht) ?_)
  rintro ⟨b1, v1, e1⟩ ⟨g1, g2⟩
  simp only at g1 g2 ⊢
  refine Ok.ite.2 ⟨fun h => absurd g1 h, fun _ => Ok.ite.2 ⟨fun h => absurd g2 h, fun _ => ?_⟩⟩
  refine Ok.bind.2 (Ok.mono (key A a1 a3 (by omega) a2) ?_)
  rintro ⟨b2, v2, e2⟩ ⟨g3, g4⟩
  simp only at g3 g4 ⊢
  refine Ok.ite.2 ⟨fun h => absurd g3 h, fun _ => Ok.ite.2 ⟨fun h => absurd g4 h, fun _ => ?_⟩⟩
  have hkt : Z38 r.N r.T r.S (r.Arcs.map turn) = 0 := by
   have := hk
   rw [hm] at this ⊢
   exact Zlt this hso (by omega)
  refine Ok.bind.2 (Ok.mono (Zk0 (n := ⟨r.N, r.T, r.S, r.Arcs.map turn⟩) hm hkt (by simp only [List.length_map]; omega)) ?_)
  rintro ⟨b3, v3, e3⟩ ⟨g5, g6⟩
  simp only at g5 g6 ⊢
  have g7 := val_turn hs g6 hm hk hkt (fun a ha => (hso a ha).1) hS2 hT2
  refine Ok.ite.2 ⟨fun h => absurd g5 h, fun _ => Ok.ite.2 ⟨fun h => absurd g7 h, fun _ => ?_⟩⟩
  unfold Z2x
  rw [if_pos rfl]
  exact aw08
 have hme : ∀ a, a ∈ r.Arcs → Z73 m a = true ∧ 0 ≤ a.cap := fun a ha => ⟨(hso a ha).1, (hso a ha).2.1⟩
 refine Ok.ite.2 ⟨fun hx => ?_, fun hx => fin r.Arcs (fun _ => rfl) hme (by omega) (Int.le_refl _)⟩
 obtain ⟨k, hkk, hkl⟩ : ∃ k : Nat, t.tmod (r.Arcs.length : Int) = k ∧ k < r.Arcs.length := by
  have h1 := Int.tmod_lt_of_pos t hx
  have h2 := Int.tmod_nonneg (r.Arcs.length : Int) (show 0 ≤ t by omega)
  exact ⟨(t.tmod (r.Arcs.length : Int)).toNat, by omega, by omega⟩
 simp only [hkk, Int.toNat_natCast]
 have hd := List.length_drop (i := k) (l := r.Arcs)
 have htk := List.length_take (i := k) (l := r.Arcs)
 refine Ok.gd.2 ⟨(by omega), Ok.gd.2 ⟨by omega, Ok.gd.2 ⟨by constructor <;> omega, Ok.gd.2 ⟨by constructor <;> omega, Ok.gd.2 ⟨by constructor <;> omega, Ok.gd.2 ⟨by rw [List.length_append]; constructor <;> omega, ?_⟩⟩⟩⟩⟩⟩
 have hsum : ∀ g : Arc → Int, Z6b g (r.Arcs.drop k ++ r.Arcs.take k) = Z6b g r.Arcs := fun g => by
  have h1 := Za8 g (r.Arcs.take k) (r.Arcs.drop k)
  rw [List.take_append_drop] at h1
  rw [Za8, h1]; omega
 refine fin _ (fun c => hsum _) (fun a ha => ?_) (by rw [List.length_append]; omega) (Int.le_of_eq (hsum _))
 rcases List.mem_append.1 ha with ha | ha
 · exact hme a (List.mem_of_mem_drop ha)
 · exact hme a (List.mem_of_mem_take ha)
end Go.Acq
