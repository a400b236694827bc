/- Texts of this claim, one behind the other. -/
import Derived.Test.YtnppjbofdkokkaaGreatDoorA4
import Derived.Test.YtnppjbofdkokkaaGreatDoorA2
set_option linter.unusedVariables false
set_option linter.unusedSimpArgs false
namespace Go.Acq
open Go
def cleanT (w : Str) : Prop := w ≠ [] ∧ ∀ b ∈ w, 45 ≤ b.toNat ∧ b.toNat ≤ 57
theorem Uq {n : Int} (h : i64ok n) : cleanT (Yd n) ∧ (Yd n).length ≤ 21 := by
 have e20 : (10 : Nat) ^ 20 = 100000000000000000000 := by decide
 have key : ∀ u : Nat, u ≤ 9223372036854775808 → cleanT (Wx 20 u) ∧ (Wx 20 u).length ≤ 20 := fun u hu => by
  have h1 := Z55 20 u (by rw [e20]; omega) (by omega)
  refine ⟨⟨fun e => by rw [e] at h1; simp at h1, fun b hb => ?_⟩, h1.2⟩
  have := List.all_eq_true.1 (Z66 20 u) b hb
  have := of_decide_eq_true this
  omega
 unfold Yd
 split
 ·
  obtain ⟨⟨h1, h2⟩, h3⟩ := key n.natAbs (by omega)
  refine ⟨⟨by simp, fun b hb => ?_⟩, by rw [List.length_cons]; omega⟩
  rcases List.mem_cons.1 hb with rfl | hb
  · decide
  · exact h2 b hb
 ·
  obtain ⟨h1, h3⟩ := key n.toNat (by omega)
  exact ⟨h1, by omega⟩
theorem cleanT.ok {w : Str} (h : cleanT w) : okW w := ⟨h.1, fun b hb => by rw [Nj]; have := h.2 b hb; exact decide_eq_false (by omega)⟩
theorem cleanT.ten {w : Str} (h : cleanT w) : ∀ b ∈ w, b ≠ 10 := fun b hb e => by
 have := h.2 b hb
 subst e
 have : (10 : UInt8).toNat = 10 := rfl
 omega
theorem Z2i : Vb (32 : UInt8).toNat = true := by rw [Nj]; rfl
theorem Z6t {b : UInt8} (h : Vb b.toNat = false) : okW [b] := ⟨by simp, fun x hx => by rw [List.mem_singleton.1 hx]; exact h⟩
theorem Z2w {b : UInt8} {w : Str} (h : Vb b.toNat = false) (hw : okW w) : Xo ([b, 32] ++ w) = [[b], w] := by
 unfold Xo
 rw [show [b, 32] ++ w = [b] ++ 32 :: w from rfl, Z36 (Z6t h) Z2i, Z77 hw]
theorem words4 {b : UInt8} {u v w : Str} (h : Vb b.toNat = false) (hu : okW u) (hv : okW v) (hw : okW w) : Xo ((((([b, 32] ++ u) ++ [32]) ++ v) ++ [32]) ++ w) = [[b], u, v, w] := by
 unfold Xo
 rw [show (((([b, 32] ++ u) ++ [32]) ++ v) ++ [32]) ++ w = [b] ++ 32 :: (u ++ 32 :: (v ++ 32 :: w)) by simp only [List.append_assoc, List.cons_append, List.nil_append], Z36 (Z6t h) Z2i, Z36 hu Z2i, Z36 hv Z2i, Z77 hw]
theorem Z0y {l : Str} {w : List Str} (h : Xo l = w) (h0 : w ≠ []) (h1 : (w.getD 0 []).getD 0 0 ≠ 99) : Vw l = some w := by
 unfold Vw
 rw [h, if_neg h0, if_neg h1]
def Gw (a : Arc) : Str := ((([102, 32] ++ Yd (a.fr + 1)) ++ [32]) ++ Yd (a.to + 1)) ++ [32]
def Km : List Arc → List Int → Str
  | a :: al, x :: xs => (Gw a ++ Yd x ++ [10]) ++ Km al xs
  | _, _ => []
def Rc (n : Net) (f : List Int) : Str := ([115, 32] ++ Yd (Xy n f) ++ [10]) ++ Km n.Arcs f
def Ls : List Arc → List Int → List (List Str)
  | a :: al, x :: xs => [[102], Yd (a.fr + 1), Yd (a.to + 1), Yd x] :: Ls al xs
  | _, _ => []
def Z2r (al : List Arc) : Prop := ∀ a ∈ al, (0 ≤ a.fr ∧ a.fr ≤ 1000000) ∧ (0 ≤ a.to ∧ a.to ≤ 1000000) ∧ a.cap ≤ 9223372036854775807
theorem Z5a {a : Arc} (h : i64ok (a.fr + 1)) (g : i64ok (a.to + 1)) : (Gw a).length ≤ 46 := by
 have h1 := (Uq h).2
 have h2 := (Uq g).2
 unfold Gw
 simp only [List.length_append, List.length_cons, List.length_nil]
 omega
theorem s_arc {a : Arc} (h : i64ok (a.fr + 1)) (g : i64ok (a.to + 1)) : Z10 a = some (Gw a) := by
 have h1 := (Uq h).2
 have h2 := (Uq g).2
 unfold Z10 Lb
 rw [Xr h, Xr h, Option.bind_some]
 rw [Xr (by simp only [slok, List.length_append, List.length_cons, List.length_nil]; omega), Xr (by simp only [slok, List.length_append, List.length_cons, List.length_nil]; omega), Xr g, Xr g, Option.bind_some]
 rw [Xr (by simp only [slok, List.length_append, List.length_cons, List.length_nil]; omega), Xr (by simp only [slok, List.length_append, List.length_cons, List.length_nil]; omega)]
 rfl
theorem s_digits {n : Int} (h : i64ok n) : La n = some (Yd n) := by
 unfold La Z12
 rw [Xr ⟨h, rfl⟩]; rfl
theorem Z7b : ∀ (al : List Arc) (f : List Int), Z2r al → (∀ x ∈ f, i64ok x) → (Km al f).length ≤ 70 * al.length
 | [], _, _, _ => by simp [Km]
 | _ :: _, [], _, _ => by simp [Km]
 | a :: al, x :: xs, h, hx => by
  obtain ⟨h1, h2, -⟩ := h a (.head _)
  have h3 := Z5a (a := a) (by omega) (by omega)
  have h4 := (Uq (hx x (.head _))).2
  have h5 := Z7b al xs (fun b hb => h b (.tail _ hb)) (fun y hy => hx y (.tail _ hy))
  rw [Km]
  simp only [List.length_append, List.length_cons, List.length_nil]
  omega
theorem Zd6 {al : List Arc} {f : List Int} {k : Nat} (h : k < al.length) (g : f.length = al.length) : Km (al.drop k) (f.drop k) = (Gw (al.getD k default) ++ Yd (f.getD k 0) ++ [10]) ++ Km (al.drop (k + 1)) (f.drop (k + 1)) := by
 have e1 : al.drop k = al.getD k default :: al.drop (k + 1) := by rw [List.drop_eq_getElem_cons h, List.getD_eq_getElem?_getD, List.getElem?_eq_getElem h]; rfl
 have e2 : f.drop k = f.getD k 0 :: f.drop (k + 1) := by rw [List.drop_eq_getElem_cons (by omega), List.getD_eq_getElem?_getD, List.getElem?_eq_getElem (by omega)]; rfl
 rw [e1, e2, Km]
theorem FwithinP.arcs {n : Net} (hk : Uj n.N n.S n.T n.Arcs = 0) (hc : ∀ a ∈ n.Arcs, a.cap ≤ 9223372036854775807) : Z2r n.Arcs := by
 have hz := Jf hk
 obtain ⟨m, hm⟩ : ∃ m : Nat, n.N = m := ⟨n.N.toNat, by omega⟩
 have he : Jy m n.Arcs := Z5n (by rw [← hm]; exact hz.2.2.2.1)
 intro a ha
 obtain ⟨i, hi, rfl⟩ := List.mem_iff_getElem.1 ha
 have e : n.Arcs.getD i default = n.Arcs[i] := by rw [List.getD_eq_getElem?_getD, List.getElem?_eq_getElem hi]; rfl
 have h2 : 0 ≤ (n.Arcs.getD i default).fr ∧ (n.Arcs.getD i default).fr < m := by first | exact he i hi true | exact he i hi false
 have h3 : 0 ≤ (n.Arcs.getD i default).to ∧ (n.Arcs.getD i default).to < m := by first | exact he i hi false | exact he i hi true
 rw [e] at h2 h3
 exact ⟨by omega, by omega, hc _ ha⟩
theorem FwithinP.i64 {n : Net} {f : List Int} (h : FwithinP n f) (hc : ∀ a ∈ n.Arcs, a.cap ≤ 9223372036854775807) : ∀ x ∈ f, i64ok x := by
 intro x hx
 obtain ⟨i, hi, rfl⟩ := List.mem_iff_getElem.1 hx
 have h1 := h.2.1
 have h2 := h.2.2 i (by omega)
 have h3 := hc (n.Arcs.getD i default) (Jw (by omega) default)
 rw [List.getD_eq_getElem?_getD, List.getElem?_eq_getElem hi] at h2
 simp only [Option.getD_some] at h2
 constructor <;> omega
theorem Z7c {n : Net} {f : List Int} (hk : Uj n.N n.S n.T n.Arcs = 0) (hc : ∀ a ∈ n.Arcs, a.cap ≤ 9223372036854775807) : Ok (Nc n f) (fun r => (FwithinP n f ∧ r = (ub (Rc n f), 0)) ∨ (¬FwithinP n f ∧ r = ([], 20))) := by
 have hz := Jf hk
 have hll : lenok n.Arcs.length := by omega
 unfold Nc
 refine Ok.bind.2 (Vr (Z0r n hll) ?_)
 rw [if_neg (by rw [hk]; simp)]
 refine Ok.bind.2 (Ok.mono (Z9d hll) ?_)
 rintro ⟨w, e⟩ (⟨hw, h5⟩ | ⟨h5, h6⟩)
 ·
  injection h5 with h5 h6
  subst h5 h6
  simp only
  have ha := FwithinP.arcs hk hc
  have hx := hw.i64 hc
  have he := Z4f hw
  have hel := (Uq (n := Xy n f) (by omega)).2
  have hsl := Z7b n.Arcs f ha hx
  rw [if_neg (by simp), Xr (by simp only [slok, List.length_append, List.length_cons, List.length_nil]; omega), Xr (by simp only [slok, List.length_append, List.length_cons, List.length_nil]; omega), Xr (by rw [List.nil_append, Jl]; simp only [List.length_append, List.length_cons, List.length_nil]; omega)]
  refine Ok.bind.2 (Ry (fun s => ∃ k : Nat, s.2 = k ∧ k ≤ n.Arcs.length ∧ s.1 ++ ub (Km (n.Arcs.drop k) (f.drop k)) = ub (Rc n f)) (fun s => (n.Arcs.length - s.2).toNat) ⟨0, rfl, Nat.zero_le _, ?_⟩ (by unfold Xp; simp only; omega) ?_)
  ·
   simp only [List.drop_zero, List.nil_append]
   rw [← Z6c]; rfl
  ·
   rintro ⟨buf, x⟩ ⟨k, h1, h2, h3⟩ P next exit
   simp only at h1 h3 next ⊢
   subst h1
   unfold Z0x
   have hfl := hw.2.1
   have hlen := congrArg List.length h3
   rw [List.length_append, Jl, Jl] at hlen
   have hst : (Rc n f).length ≤ 100 + 70 * n.Arcs.length := by
    unfold Rc
    simp only [List.length_append, List.length_cons, List.length_nil]; omega
   refine Ok.ite.2 ⟨fun h => ?_, fun h => ?_⟩
   ·
    have hk2 : k < n.Arcs.length := by omega
    obtain ⟨g1, g2, -⟩ := ha _ (Jw hk2 default)
    have g3 := hx _ (Jw (xs := f) (k := k) (by omega) 0)
    have g4 := (Uq g3).2
    have g5 := Z5a (a := n.Arcs.getD k default) (by omega) (by omega)
    rw [Int.toNat_natCast]
    refine Ok.gd.2 ⟨(by (first | omega | (constructor <;> omega) | (simp only [List.length_set, List.length_replicate]; omega) | (simp only [List.length_set, List.length_replicate]; constructor <;> omega))), Ok.bind.2 (Vr (s_arc (by omega) (by omega)) (Ok.gd.2 ⟨(by (first | omega | (constructor <;> omega) | (simp only [List.length_set, List.length_replicate]; omega) | (simp only [List.length_set, List.length_replicate]; constructor <;> omega))), Ok.bind.2 (Vr (s_digits g3) ?_)⟩))⟩
    rw [Xr (by simp only [slok, List.length_append, List.length_cons, List.length_nil]; omega), Xr (by simp only [slok, List.length_append, List.length_cons, List.length_nil]; omega), Xr (by rw [List.length_append, Jl]; simp only [List.length_append, List.length_cons, List.length_nil]; omega), Xr (by constructor <;> omega)]
    refine Ok.some.2 (next _ ⟨k + 1, rfl, by omega, ?_⟩ (by simp only; omega))
    simp only
    rw [← h3, Zd6 hk2 hfl, Z6c (Gw _ ++ _ ++ _), List.append_assoc]
   ·
    refine Ok.some.2 (exit _ ?_)
    unfold Z3d
    refine Ok.some.2 (.inl ⟨hw, ?_⟩)
    obtain rfl : k = n.Arcs.length := by omega
    rw [List.drop_eq_nil_of_le (Nat.le_refl _)] at h3
    have e : Km [] (f.drop n.Arcs.length) = [] := by cases f.drop n.Arcs.length <;> rfl
    rw [e] at h3
    rw [← h3]; simp [ub]
 ·
  injection h6 with h6 h7
  subst h6 h7
  simp only
  rw [if_pos (by simp)]
  exact Ok.some.2 (.inr ⟨h5, rfl⟩)
theorem Z7y : ∀ (al : List Arc) (f : List Int), Z2r al → f.length = al.length → (∀ i, i < al.length → 0 ≤ f.getD i 0 ∧ f.getD i 0 ≤ (al.getD i default).cap) → Vu al (Ls al f) = some f
 | [], [], _, _, _ => rfl
 | a :: al, x :: xs, h, hl, hi => by
  obtain ⟨h1, h2, h3⟩ := h a (.head _)
  have h0 := hi 0 (by simp)
  simp only [List.getD_cons_zero] at h0
  rw [Ls, Vu]
  have hb : Gj a [[102], Yd (a.fr + 1), Yd (a.to + 1), Yd x] = true := by
   unfold Gj
   simp only [List.getD_cons_zero, List.getD_cons_succ, List.length_cons, List.length_nil]
   rw [Z3g h0.1 (by omega) h0.1 h0.2, Z3g (by omega) (by omega) (Int.le_refl _) (Int.le_refl _), Z3g (by omega) (by omega) (Int.le_refl _) (Int.le_refl _)]
   rfl
  rw [if_pos hb, Z7y al xs (fun b hb => h b (.tail _ hb)) (by simpa using hl) (fun i hlt => hi (i + 1) (by simp; omega))]
  have : flowV [[102], Yd (a.fr + 1), Yd (a.to + 1), Yd x] = x := by
   unfold flowV
   simp only [List.getD_cons_zero, List.getD_cons_succ]
   rw [Z5z h0.1 (by omega)]
  rw [this]; rfl
 | [], _ :: _, _, h, _ => by simp at h
 | _ :: _, [], _, h, _ => by simp at h
def Ub : Nat → List Bool → Str
  | _, [] => []
  | i, b :: s => (if b = true then [107, 32] ++ Yd (i + 1) ++ [10] else []) ++ Ub (i + 1) s
def Nh : Nat → List Bool → List (List Str)
  | _, [] => []
  | i, b :: s => if b = true then [[107], Yd (i + 1)] :: Nh (i + 1) s else Nh (i + 1) s
def Ua (N : Int) : Int → List Bool → List (List Str) → Option (List Bool)
  | _, xs, [] => some xs
  | last, xs, w :: ws => if (w.length = 2 ∧ w.getD 0 [] = [107]) ∧ Jv (w.getD 1 []) (last + 1) N = true then Ua N (Vh (w.getD 1 [])).1 (xs.set ((Vh (w.getD 1 [])).1 - 1).toNat true) ws else none
theorem Z5m : ∀ (s : List Bool) (i : Nat), i + s.length ≤ 1000000 → (Ub i s).length ≤ 30 * s.length
 | [], i, _ => by simp [Ub]
 | b :: s, i, h => by
  rw [List.length_cons] at h
  have h1 := Z5m s (i + 1) (by omega)
  have h2 := (Uq (n := (i : Int) + 1) (by omega)).2
  rw [Ub, List.length_append]
  split <;> simp only [List.length_append, List.length_cons, List.length_nil] <;> omega
theorem Z8i : ∀ (s : List Bool) (i : Nat), i + s.length ≤ 1000000 → Vt (Ub i s) = Nh i s
 | [], i, _ => rfl
 | b :: s, i, h => by
  rw [List.length_cons] at h
  have h1 := Z8i s (i + 1) (by omega)
  have c1 := (Uq (n := (i : Int) + 1) (by omega)).1
  have b1 : Vb (107 : UInt8).toNat = false := by rw [Nj]; rfl
  rw [Ub, Nh]
  split
  ·
   rw [show ([107, 32] ++ Yd ((i : Int) + 1) ++ [10]) ++ Ub (i + 1) s = ([107, 32] ++ Yd ((i : Int) + 1)) ++ 10 :: Ub (i + 1) s by simp only [List.append_assoc, List.cons_append, List.nil_append]]
   rw [Z79 _ _ ?_, h1, Z0y (Z2w b1 c1.ok) (by simp) (show (107 : UInt8) ≠ 99 by decide)]
   · rfl
   ·
    intro b hb
    simp only [List.mem_append, List.mem_cons, List.not_mem_nil, or_false] at hb
    rcases hb with hb | hb
    · rcases hb with rfl | rfl <;> decide
    · exact c1.ten b hb
  · rw [List.nil_append, h1]
theorem Z3q (N : Int) : ∀ (s : List Bool) (i : Nat) (last : Int) (pre : List Bool), pre.length = i → 0 ≤ last → last ≤ i → (i : Int) + s.length = N → N ≤ 1000000 → Ua N last (pre ++ List.replicate s.length false) (Nh i s) = some (pre ++ s)
 | [], i, last, pre, _, _, _, _, _ => rfl
 | b :: s, i, last, pre, h1, h2, h3, h4, h5 => by
  rw [List.length_cons] at h4
  rw [Nh]
  have hstep : ∀ b, pre ++ b :: List.replicate s.length false = (pre ++ [b]) ++ List.replicate s.length false := fun b => by rw [List.append_assoc]; rfl
  split
  ·
   rename_i hb
   have e1 : List.getD [[107], Yd ((i : Int) + 1)] 1 [] = Yd ((i : Int) + 1) := rfl
   rw [Ua, e1, if_pos ⟨⟨rfl, rfl⟩, Z3g (by omega) (by omega) (by omega) (by omega)⟩, Z5z (by omega) (by omega)]
   simp only
   have e2 : (((i : Int) + 1) - 1).toNat = i := by omega
   rw [e2, List.length_cons, List.replicate_succ, List.set_append_right _ _ (by omega), h1, Nat.sub_self, List.set_cons_zero, hstep, hb]
   rw [Z3q N s (i + 1) ((i : Int) + 1) (pre ++ [true]) (by rw [List.length_append, h1]; rfl) (by omega) (by omega) (by omega) h5, List.append_assoc]
   rfl
  ·
   rename_i hb
   rw [List.length_cons, List.replicate_succ, hstep, Z3q N s (i + 1) last (pre ++ [false]) (by rw [List.length_append, h1]; rfl) h2 (by omega) (by omega) h5, List.append_assoc]
   have : b = false := by cases b; rfl; exact absurd rfl hb
   rw [this]; rfl
theorem Z9v {s : List Bool} {k : Nat} (h : k < s.length) : Ub k (s.drop k) = (if s.getD k false = true then [107, 32] ++ Yd ((k : Int) + 1) ++ [10] else []) ++ Ub (k + 1) (s.drop (k + 1)) := by
 have e1 : s.drop k = s.getD k false :: s.drop (k + 1) := by rw [List.drop_eq_getElem_cons h, List.getD_eq_getElem?_getD, List.getElem?_eq_getElem h]; rfl
 rw [e1, Ub]
theorem s_Cut {n : Net} {s : List Bool} (hk : Uj n.N n.S n.T n.Arcs = 0) (hl : lenok n.Arcs.length) (hs : (s.length : Int) = n.N) : Rr n s = some (ub (Ub 0 s), 0) := by
 have hz := Jf hk
 refine Z1e ?_
 unfold Rr
 refine Ok.bind.2 (Vr (Z0r n hl) ?_)
 rw [if_neg (by rw [hk]; simp), if_neg (by omega)]
 have hcl := Z5m s 0 (by omega)
 refine Ok.bind.2 (Ry (fun t => ∃ k : Nat, t.2 = k ∧ k ≤ s.length ∧ t.1 ++ ub (Ub k (s.drop k)) = ub (Ub 0 s)) (fun t => (s.length - t.2).toNat) ⟨0, rfl, Nat.zero_le _, rfl⟩ (by unfold Xp; simp only; omega) ?_)
 rintro ⟨buf, x⟩ ⟨k, h1, h2, h3⟩ P next exit
 simp only at h1 h3 next ⊢
 subst h1
 unfold Z0g
 have hlen := congrArg List.length h3
 rw [List.length_append, Jl, Jl] at hlen
 refine Ok.ite.2 ⟨fun h => ?_, fun h => ?_⟩
 ·
  have hk2 : k < s.length := by omega
  have c1 := (Uq (n := (k : Int) + 1) (by omega)).2
  rw [Z9v hk2] at h3
  rw [Int.toNat_natCast]
  refine Ok.gd.2 ⟨(by (first | omega | (constructor <;> omega) | (simp only [List.length_set, List.length_replicate]; omega) | (simp only [List.length_set, List.length_replicate]; constructor <;> omega))), Ok.ite.2 ⟨fun hb => ?_, fun hb => ?_⟩⟩
  ·
   rw [if_pos hb] at h3
   unfold Lb
   refine Ok.gd.2 ⟨(by (first | omega | (constructor <;> omega) | (simp only [List.length_set, List.length_replicate]; omega) | (simp only [List.length_set, List.length_replicate]; constructor <;> omega))), Ok.bind.2 (Ok.gd.2 ⟨(by (first | omega | (constructor <;> omega) | (simp only [List.length_set, List.length_replicate]; omega) | (simp only [List.length_set, List.length_replicate]; constructor <;> omega))), Ok.some.2 ?_⟩)⟩
   rw [Xr (by simp only [slok, List.length_append, List.length_cons, List.length_nil]; omega), Xr (by simp only [slok, List.length_append, List.length_cons, List.length_nil]; omega), Xr (by rw [List.length_append, Jl]; simp only [List.length_append, List.length_cons, List.length_nil]; omega), Xr (by constructor <;> omega)]
   refine Ok.some.2 (next _ ⟨k + 1, rfl, by omega, ?_⟩ (by simp only; omega))
   simp only
   rw [← h3, Z6c ([107, 32] ++ _ ++ _), List.append_assoc]
  ·
   rw [if_neg hb, List.nil_append] at h3
   exact Ok.gd.2 ⟨(by (first | omega | (constructor <;> omega) | (simp only [List.length_set, List.length_replicate]; omega) | (simp only [List.length_set, List.length_replicate]; constructor <;> omega))), Ok.some.2 (next _ ⟨k + 1, rfl, by omega, h3⟩ (by simp only; omega))⟩
 ·
  refine Ok.some.2 (exit _ ?_)
  unfold Z47
  refine Ok.some.2 ?_
  obtain rfl : k = s.length := by omega
  rw [List.drop_eq_nil_of_le (Nat.le_refl _)] at h3
  rw [← h3]; simp [Ub, ub]
theorem Zbq {n : Net} (hN : 0 ≤ n.N ∧ n.N ≤ 1000000) : ∀ (ws : List (List Str)) (x last : Int) (xs : List Bool), (∀ w ∈ ws, w.length ≤ 9223372036854775807) → (xs.length : Int) = n.N → 0 ≤ last → last ≤ n.N →
    Ok (Kv (fun (s : Int × List Bool × Int) v => Lq n s.1 s.2.1 s.2.2 v) (x, xs, last) ws) (fun t => match t with
      | .inl s => Ua n.N last xs ws = some s.2.1 ∧ (s.2.1.length : Int) = n.N
      | .inr s => Ua n.N last xs ws = none ∧ s.1 = 70) := by
  intro ws
  induction ws with
  | nil => intro x last xs _ h1 _ _; exact Ok.some.2 ⟨rfl, h1⟩
  | cons w ws ih =>
    intro x last xs hw h1 h2 h3
    refine Ok.bind.2 ?_
    simp only
    unfold Lq
    have t2 : Z02 n x xs last w true = some (.inr (70, xs, last)) := rfl
    have hw0 := hw w (.head _)
    refine Ok.ite.2 ⟨fun h => ?_, fun h => ?_⟩
    · rw [t2]
      refine Ok.some.2 (Ok.some.2 ⟨?_, rfl⟩)
      rw [Ua, if_neg (fun h2 => by omega)]
    · refine Ok.gd.2 ⟨(by (first | omega | (constructor <;> omega) | (simp only [List.length_set, List.length_replicate]; omega) | (simp only [List.length_set, List.length_replicate]; constructor <;> omega))), ?_⟩
      rw [Int.toNat_zero]
      by_cases h0 : w.getD 0 [] = [107]
      · rw [decide_eq_false (by simpa using h0)]
        unfold Z02
        rw [if_neg (by simp)]
        refine Ok.gd.2 ⟨(by (first | omega | (constructor <;> omega) | (simp only [List.length_set, List.length_replicate]; omega) | (simp only [List.length_set, List.length_replicate]; constructor <;> omega))), Ok.gd.2 ⟨(by (first | omega | (constructor <;> omega) | (simp only [List.length_set, List.length_replicate]; omega) | (simp only [List.length_set, List.length_replicate]; constructor <;> omega))), Ok.bind.2 (Vr (Z3n ..) ?_)⟩⟩
        have e1 : (1 : Int).toNat = 1 := rfl
        rw [e1]
        simp only
        refine Ok.ite.2 ⟨fun h4 => Ok.some.2 (Ok.some.2 ⟨?_, rfl⟩), fun h4 => ?_⟩
        · rw [Ua, if_neg (fun h5 => by rw [h5.2] at h4; simp at h4)]
        · have h5 : Jv (w.getD 1 []) (last + 1) n.N = true := by simpa using h4
          have h6 := numB_iff.1 h5
          refine Ok.gd.2 ⟨(by (first | omega | (constructor <;> omega) | (simp only [List.length_set, List.length_replicate]; omega) | (simp only [List.length_set, List.length_replicate]; constructor <;> omega))), Ok.gd.2 ⟨by constructor <;> omega, Ok.some.2 ?_⟩⟩
          simp only
          refine Ok.mono (ih x (Vh (w.getD 1 [])).1 (xs.set ((Vh (w.getD 1 [])).1 - 1).toNat true) (fun w' h => hw w' (.tail _ h)) (by rw [List.length_set]; exact h1) (by omega) h6.2.2) fun t ht => ?_
          rw [Ua, if_pos ⟨⟨by omega, h0⟩, h5⟩]
          exact ht
      · rw [decide_eq_true (by simpa using h0), t2]
        refine Ok.some.2 (Ok.some.2 ⟨?_, rfl⟩)
        rw [Ua, if_neg (fun h5 => h0 h5.1.2)]
theorem Z99 {n : Net} {t : Str} (hk : Uj n.N n.S n.T n.Arcs = 0) (hl : t.length ≤ 4294967296) :
    Ok (Jt n (ub t)) (fun r => (r.2 = 0 ∧ (r.1.length : Int) = n.N ∧ Ua n.N 0 (List.replicate n.N.toNat false) (Vt t) = some r.1) ∨ (r = ([], 70) ∧ Ua n.N 0 (List.replicate n.N.toNat false) (Vt t) = none)) := by
  have hz := Jf hk
  have hll : lenok n.Arcs.length := by omega
  unfold Jt Z06
  refine Ok.bind.2 (Vr (Z0r n hll) ?_)
  rw [if_neg (by rw [hk]; simp)]
  refine Ok.gd.2 ⟨(by (first | omega | (constructor <;> omega) | (simp only [List.length_set, List.length_replicate]; omega) | (simp only [List.length_set, List.length_replicate]; constructor <;> omega))), ?_⟩
  rw [Option.bind_some, Z76 _ t _ hl]
  refine Ok.bind.2 (Ok.mono (Zbq (n := n) (by omega) (Vt t) 0 0 (List.replicate n.N.toNat false) (Z7d hl) (by rw [List.length_replicate]; omega) (by omega) (by omega)) fun r hr => ?_)
  cases r with
  | inl s => obtain ⟨h1, h2⟩ := hr; exact Ok.some.2 (.inl ⟨rfl, h2, h1⟩)
  | inr s =>
    obtain ⟨x, xs, last⟩ := s
    obtain ⟨h1, h2⟩ := hr
    simp only at h2
    subst h2
    exact Ok.some.2 (.inr ⟨rfl, h1⟩)
theorem Zcf {n : Net} {s : List Bool} (hk : Uj n.N n.S n.T n.Arcs = 0) (hs : (s.length : Int) = n.N) : Ok (Jt n (ub (Ub 0 s))) (fun r => r = (s, 0)) := by
 have hz := Jf hk
 have h0 := Z5m s 0 (by omega)
 refine Ok.mono (Z99 hk (by omega)) ?_
 have h1 := Z8i s 0 (by omega)
 have h2 := Z3q n.N s 0 0 [] rfl (by omega) (by omega) (by omega) (by omega)
 rw [List.nil_append, List.nil_append] at h2
 have e : n.N.toNat = s.length := by omega
 rw [h1, e, h2]
 rintro ⟨g, e⟩ (⟨h, -, h4⟩ | ⟨-, h⟩)
 ·
  simp only at h h4
  injection h4 with h4
  rw [h, h4]
 · cases h
end Go.Acq
namespace Go.Acq
open Go
def Ud : List Str → Str
  | [] => []
  | [x] => x
  | x :: y :: r => x ++ 10 :: Ud (y :: r)
def Kk (ls : List Str) : Str := ls.flatMap (· ++ [10])
theorem Z4n : ∀ ls : List Str, Lib.join ls [10] = Ud ls
 | [] => rfl
 | [x] => by simp [Lib.join, List.intercalate, Ud]
 | x :: y :: r => by
  have := Z4n (y :: r)
  unfold Lib.join at this ⊢
  rw [Ud, ← this]
  simp [List.intercalate, List.intersperse]
theorem Z22 : ∀ ls : List Str, ls ≠ [] → Kk ls = Ud ls ++ [10]
 | [], h => absurd rfl h
 | [x], _ => by simp [Kk, Ud]
 | x :: y :: r, _ => by
  have := Z22 (y :: r) (by simp)
  unfold Kk at this ⊢
  rw [List.flatMap_cons, this, Ud]
  simp
theorem trim_cat {ls : List Str} (h : ls ≠ []) : Lib.trimSuffix (Kk ls) [10] = Ud ls := by
 rw [Z22 ls h]
 unfold Lib.trimSuffix Lib.hasSuffix
 rw [if_pos (by rw [List.isSuffixOf_iff_suffix]; exact ⟨_, rfl⟩)]
 simp
theorem Z2g : ∀ (t cur : Str), Kd false 10 t cur = Va t cur
 | [], cur => rfl
 | b :: l, cur => by
  rw [Kd, Va]
  split
  · rw [Z2g l []]; rfl
  · exact Z2g l _
def Ny (l : Str) : Prop := (∀ b ∈ l, b ≠ 10) ∧ l.length ≤ 100
theorem Z7l : ∀ ls : List Str, ls ≠ [] → (∀ l ∈ ls, Ny l) → Kd false 10 (Ud ls) [] = ls
 | [], h, _ => absurd rfl h
 | [x], _, h => by rw [Z2g, Ud, Z5f x [] (h x (.head _)).1]; rfl
 | x :: y :: r, _, h => by
  have := Z7l (y :: r) (by simp) (fun l hl => h l (.tail _ hl))
  rw [Z2g] at this ⊢
  rw [Ud, Z5e x _ [] (h x (.head _)).1, this]; rfl
theorem Z6f : ∀ ls : List Str, (∀ l ∈ ls, Ny l) → Vt (Ud ls) = ls.filterMap Vw
 | [], _ => rfl
 | [x], h => by
  rw [Ud, Zcz x (h x (.head _)).1, List.filterMap_cons]
  cases Vw x <;> rfl
 | x :: y :: r, h => by
  rw [Ud, Z79 x _ (h x (.head _)).1, Z6f (y :: r) (fun l hl => h l (.tail _ hl)), List.filterMap_cons (a := x)]
  cases Vw x <;> rfl
theorem Z25 : ∀ ls : List Str, (∀ l ∈ ls, Ny l) → (Ud ls).length ≤ 101 * ls.length
 | [], _ => by simp [Ud]
 | [x], h => by have := (h x (.head _)).2; simp only [Ud, List.length_singleton]; omega
 | x :: y :: r, h => by
  have h1 := Z25 (y :: r) (fun l hl => h l (.tail _ hl))
  have h2 := (h x (.head _)).2
  rw [Ud, List.length_append, List.length_cons]
  rw [List.length_cons (a := x)]
  omega
def Lc (l : Str) : Prop := Ny l ∧ Vw l = some (Xo l)
theorem Ly : ∀ ls : List Str, (∀ l ∈ ls, Lc l) → ls.filterMap Vw = ls.map Xo
 | [], _ => rfl
 | x :: r, h => by rw [List.filterMap_cons, (h x (.head _)).2, List.map_cons, Ly r (fun l hl => h l (.tail _ hl))]
def Vj : List Arc → List Int → List Str
  | a :: al, x :: xs => (Gw a ++ Yd x) :: Vj al xs
  | _, _ => []
def Vn (n : Net) (f : List Int) : List Str := ([115, 32] ++ Yd (Xy n f)) :: Vj n.Arcs f
theorem Z9h : ∀ (al : List Arc) (f : List Int), Km al f = Kk (Vj al f)
 | [], f => by cases f <;> rfl
 | _ :: _, [] => rfl
 | a :: al, x :: xs => by rw [Km, Vj, Z9h al xs]; unfold Kk; rw [List.flatMap_cons]
theorem solT_cat (n : Net) (f : List Int) : Rc n f = Kk (Vn n f) := by
 unfold Rc Vn
 rw [Z9h]; unfold Kk; rw [List.flatMap_cons]
theorem Z5d : ∀ (al : List Arc) (f : List Int), Z2r al → (∀ x ∈ f, i64ok x) → (∀ l ∈ Vj al f, Lc l) ∧ (Vj al f).map Xo = Ls al f
 | [], f, _, _ => by cases f <;> exact ⟨fun l h => by simp [Vj] at h, rfl⟩
 | _ :: _, [], _, _ => ⟨fun l h => by simp [Vj] at h, rfl⟩
 | a :: al, x :: xs, h, hx => by
  obtain ⟨h1, h2, -⟩ := h a (.head _)
  obtain ⟨c1, d1⟩ := Uq (n := a.fr + 1) (by omega)
  obtain ⟨c2, d2⟩ := Uq (n := a.to + 1) (by omega)
  obtain ⟨c3, d3⟩ := Uq (hx x (.head _))
  have b1 : Vb (102 : UInt8).toNat = false := by rw [Nj]; rfl
  have hw : Xo (Gw a ++ Yd x) = [[102], Yd (a.fr + 1), Yd (a.to + 1), Yd x] := words4 b1 c1.ok c2.ok c3.ok
  obtain ⟨g1, g2⟩ := Z5d al xs (fun b hb => h b (.tail _ hb)) (fun y hy => hx y (.tail _ hy))
  refine ⟨fun l hl => ?_, by rw [Vj, Ls, List.map_cons, hw, g2]⟩
  rw [Vj] at hl
  rcases List.mem_cons.1 hl with rfl | hl
  ·
   refine ⟨⟨fun b hb => ?_, ?_⟩, Z0y rfl (by rw [hw]; simp) (by rw [hw]; exact (show (102 : UInt8) ≠ 99 by decide))⟩
   ·
    unfold Gw at hb
    simp only [List.mem_append, List.mem_cons, List.not_mem_nil, or_false] at hb
    rcases hb with ((((hb | hb) | hb) | hb) | hb) | hb
    · rcases hb with rfl | rfl <;> decide
    · exact c1.ten b hb
    · subst hb; decide
    · exact c2.ten b hb
    · subst hb; decide
    · exact c3.ten b hb
   ·
    have := Z5a (a := a) (by omega) (by omega)
    rw [List.length_append]; omega
  · exact g1 l hl
theorem Z5h : ∀ (al : List Arc) (f : List Int), f.length = al.length → (Vj al f).length = al.length
 | [], f, _ => by cases f <;> rfl
 | _ :: _, [], h => by simp at h
 | a :: al, x :: xs, h => by rw [Vj, List.length_cons, Z5h al xs (by simpa using h)]; rfl
theorem solL_ok {n : Net} {f : List Int} (hw : FwithinP n f) (hc : ∀ a ∈ n.Arcs, a.cap ≤ 9223372036854775807) : (∀ l ∈ Vn n f, Lc l) ∧ (Vn n f).map Xo = [[115], Yd (Xy n f)] :: Ls n.Arcs f ∧ (Vn n f).length = n.Arcs.length + 1 := by
 have he := Z4f hw
 obtain ⟨c1, d1⟩ := Uq (n := Xy n f) (by omega)
 have b1 : Vb (115 : UInt8).toNat = false := by rw [Nj]; rfl
 have hw0 : Xo ([115, 32] ++ Yd (Xy n f)) = [[115], Yd (Xy n f)] := Z2w b1 c1.ok
 obtain ⟨g1, g2⟩ := Z5d n.Arcs f (FwithinP.arcs hw.1 hc) (hw.i64 hc)
 refine ⟨fun l hl => ?_, by unfold Vn; rw [List.map_cons, hw0, g2], by unfold Vn; rw [List.length_cons, Z5h _ _ hw.2.1]⟩
 unfold Vn at hl
 rcases List.mem_cons.1 hl with rfl | hl
 ·
  refine ⟨⟨fun b hb => ?_, ?_⟩, Z0y rfl (by rw [hw0]; simp) (by rw [hw0]; exact (show (115 : UInt8) ≠ 99 by decide))⟩
  ·
   simp only [List.mem_append, List.mem_cons, List.not_mem_nil, or_false] at hb
   rcases hb with hb | hb
   · rcases hb with rfl | rfl <;> decide
   · exact c1.ten b hb
  · simp only [List.length_append, List.length_cons, List.length_nil]; omega
 · exact g1 l hl
def Kj : Nat → List Bool → List Str
  | _, [] => []
  | i, b :: s => if b = true then ([107, 32] ++ Yd (i + 1)) :: Kj (i + 1) s else Kj (i + 1) s
theorem Z7t : ∀ (s : List Bool) (i : Nat), Ub i s = Kk (Kj i s)
 | [], i => rfl
 | b :: s, i => by
  rw [Ub, Kj, Z7t s (i + 1)]
  split
  · unfold Kk; rw [List.flatMap_cons]
  · rfl
theorem Z7p : ∀ (s : List Bool) (i : Nat), i + s.length ≤ 1000000 → (∀ l ∈ Kj i s, Lc l) ∧ (Kj i s).map Xo = Nh i s ∧ (Kj i s).length ≤ s.length
 | [], i, _ => ⟨fun l h => by simp [Kj] at h, rfl, Nat.le_refl _⟩
 | b :: s, i, h => by
  rw [List.length_cons] at h
  obtain ⟨g1, g2, g3⟩ := Z7p s (i + 1) (by omega)
  obtain ⟨c1, d1⟩ := Uq (n := (i : Int) + 1) (by omega)
  have b1 : Vb (107 : UInt8).toNat = false := by rw [Nj]; rfl
  have hw0 : Xo ([107, 32] ++ Yd ((i : Int) + 1)) = [[107], Yd ((i : Int) + 1)] := Z2w b1 c1.ok
  rw [Kj, Nh, List.length_cons]
  split
  ·
   refine ⟨fun l hl => ?_, by rw [List.map_cons, hw0, g2], by rw [List.length_cons]; omega⟩
   rcases List.mem_cons.1 hl with rfl | hl
   ·
    refine ⟨⟨fun b hb => ?_, ?_⟩, Z0y rfl (by rw [hw0]; simp) (by rw [hw0]; exact (show (107 : UInt8) ≠ 99 by decide))⟩
    ·
     simp only [List.mem_append, List.mem_cons, List.not_mem_nil, or_false] at hb
     rcases hb with hb | hb
     · rcases hb with rfl | rfl <;> decide
     · exact c1.ten b hb
    · simp only [List.length_append, List.length_cons, List.length_nil]; omega
   · exact g1 l hl
  · exact ⟨g1, g2, by omega⟩
theorem Z41 {N : Int} : ∀ (A : List (List Str)) (last : Int) (xs : List Bool) (u v : List Str) (B : List (List Str)) (r : List Bool), Ua N last xs (A ++ u :: v :: B) = some r → (Vh (u.getD 1 [])).1 + 1 ≤ (Vh (v.getD 1 [])).1
 | [], last, xs, u, v, B, r, h => by
  rw [List.nil_append, Ua] at h
  split at h
  ·
   rw [Ua] at h
   split at h
   ·
    rename_i h2
    exact (numB_iff.1 h2.2).2.1
   · cases h
  · cases h
 | a :: A, last, xs, u, v, B, r, h => by
  rw [List.cons_append, Ua] at h
  split at h
  · exact Z41 A _ _ u v B r h
  · cases h
theorem Ze8 {α : Type} (l : List α) (d : α) {k : Nat} (h : k < l.length) : l.take (k + 1) ++ l.drop k = l.take k ++ l.getD k d :: l.getD k d :: l.drop (k + 1) := by
 have e1 : l.drop k = l.getD k d :: l.drop (k + 1) := by rw [List.drop_eq_getElem_cons h, List.getD_eq_getElem?_getD, List.getElem?_eq_getElem h]; rfl
 have e2 : l.take (k + 1) = l.take k ++ [l.getD k d] := by rw [List.take_succ_eq_append_getElem h, List.getD_eq_getElem?_getD, List.getElem?_eq_getElem h]; rfl
 rw [e1, e2, List.append_assoc]; rfl
theorem Z8y {α : Type} (l : List α) (d : α) {k : Nat} (h : k + 1 < l.length) : l = l.take k ++ l.getD k d :: l.getD (k + 1) d :: l.drop (k + 2) := by
 have e1 : ∀ q, q < l.length → l.drop q = l.getD q d :: l.drop (q + 1) := fun q hq => by rw [List.drop_eq_getElem_cons hq, List.getD_eq_getElem?_getD, List.getElem?_eq_getElem hq]; rfl
 conv => lhs; rw [← List.take_append_drop k l, e1 k (by omega), e1 (k + 1) h]
theorem swap_two {α : Type} (l : List α) (d : α) {k : Nat} (h : k + 1 < l.length) : (l.set (k + 1) (l.getD k d)).set k (l.getD (k + 1) d) = l.take k ++ l.getD (k + 1) d :: l.getD k d :: l.drop (k + 2) := by
 have h2 := Z8y l d h
 generalize l.getD k d = x at *
 generalize l.getD (k + 1) d = y at *
 have hk : (l.take k).length = k := by rw [List.length_take]; omega
 generalize l.take k = A at *
 generalize l.drop (k + 2) = B at *
 subst h2
 rw [List.set_append_right _ _ (by omega), List.set_append_right _ _ (by omega), hk]
 have e : k + 1 - k = 1 := by omega
 rw [e, Nat.sub_self]; rfl
end Go.Acq
namespace Go.Acq
open Go
set_option maxRecDepth 100000 in
theorem Zaq : Z0k = some true := by decide +kernel
def AccF (n : Net) (W : List (List Str)) : Prop := ∃ f ws, W = [[115], Yd (Xy n f)] :: ws ∧ Vu n.Arcs ws = some f
theorem Z2e {n : Net} (hk : Uj n.N n.S n.T n.Arcs = 0) {ls : List Str} (h : ∀ l ∈ ls, Ny l) (hl : ls.length ≤ 1000) : Ok (Kh ls n) (fun r => r = true ↔ AccF n (ls.filterMap Vw)) := by
 have h1 := Z25 ls h
 unfold Kh Nb
 rw [Z4n]
 refine Ok.bind.2 (Ok.gd.2 ⟨⟨by omega, by omega⟩, Ok.some.2 ?_⟩)
 refine Ok.bind.2 (Ok.mono (Zas hk (by omega)) ?_)
 rw [Z6f ls h]
 rintro ⟨g, e⟩ (⟨h2, -, ws, h3, h4⟩ | ⟨h2, h3⟩)
 ·
  simp only at h2 h3 h4 ⊢
  subst h2
  exact Ok.some.2 ⟨fun _ => ⟨g, ws, h3, h4⟩, fun _ => rfl⟩
 ·
  injection h2 with h2 h4
  subst h2 h4
  exact Ok.some.2 ⟨fun h => by simp at h, fun ⟨f, ws, h5, h6⟩ => absurd ⟨f, ws, h5, h6⟩ h3⟩
theorem Z93 {ls : List Str} (h0 : ls ≠ []) (h : ∀ l ∈ ls, Ny l) (hl : ls.length ≤ 1000) : Ok (Nv (bu (ub (Kk ls))) [10]) (fun t => Ok (Lk t [10]) (fun r => r = ls)) := by
 have h1 := Z25 ls h
 have h2 := congrArg List.length (Z22 ls h0)
 rw [List.length_append, List.length_singleton] at h2
 unfold Nv
 rw [bu_ub]
 refine Ok.gd.2 ⟨by unfold slok; omega, Ok.some.2 ?_⟩
 rw [trim_cat h0]
 unfold Lk Z1a
 refine Ok.bind.2 (Ok.gd.2 ⟨⟨by omega, rfl, .inl rfl, rfl⟩, Ok.some.2 (Ok.some.2 ?_)⟩)
 exact Z7l ls h0 h
theorem Z58 {a : Int} {m : Nat} (h : u8ok a) (hm : 0 < m) : ∃ i : Nat, a.tmod (m : Int) = i ∧ i < m := by
 have h1 := Int.tmod_nonneg (m : Int) h.1
 have h2 := Int.tmod_lt_of_pos a (b := (m : Int)) (by omega)
 exact ⟨(a.tmod m).toNat, by omega, by omega⟩
theorem Z88 {al : List Arc} {ws : List (List Str)} {f : List Int} (h : Vu al ws = some f) : ws.length = al.length := (Z69 al ws f h).2.1
theorem p_SaySpoilt {n : Net} {l : List Int} {marks : List Bool} {at3 : Int} (hn : NetIn n) (hl : RowIn l) (hm : marks.length ≤ 9223372036854775807) (ha : u8ok at3) : Z32 n l marks at3 = some true := by
  refine Z1e ?_
  unfold Z32
  refine Ok.bind.2 (Ok.mono (s_Some hn (by omega) (by omega) (by omega) (by omega)) fun r hr => ?_)
  have hlen := hr.arcs
  have hv := hr.verts
  have hends := hr.ends
  obtain ⟨m, hmm, hso⟩ := hr.nat
  have hcaps := Za1 hso
  have hk := hr.check
  have hc : ∀ a ∈ r.Arcs, a.cap ≤ 9223372036854775807 := fun a ha => by
    obtain ⟨i, hi, rfl⟩ := List.mem_iff_getElem.1 ha
    have := (hcaps i hi).2
    rw [List.getD_eq_getElem?_getD, List.getElem?_eq_getElem hi] at this
    simp only [Option.getD_some] at this
    omega
  have hll : lenok r.Arcs.length := by omega
  refine Ok.bind.2 (Ok.mono (s_Within (by omega) (fun i hi => (hcaps i hi).1) hl) fun f hf => ?_)
  have hw : FwithinP r f := ⟨hk, hf.1, fun i hi => ⟨(hf.2.1 i hi).1, (hf.2.1 i hi).2.1⟩⟩
  have hfl := hf.1
  have aw : Ok (Option.bind Z0k fun r81 => some r81) (fun a => a = true) := Ok.bind.2 (Vr Zaq (Ok.some.2 rfl))
  refine Ok.bind.2 (Ok.mono (Z7c hk hc) ?_)
  rintro _ (⟨-, rfl⟩ | ⟨h, -⟩)
  rotate_left
  · exact absurd hw h
  simp only
  rw [if_neg (by simp), solT_cat]
  obtain ⟨q1, q2, q3⟩ := solL_ok hw hc
  have q0 : Vn r f ≠ [] := by unfold Vn; simp
  have q4 : ∃ t, Vn r f = ([115, 32] ++ Yd (Xy r f)) :: t ∧ t = Vj r.Arcs f := ⟨_, rfl, rfl⟩
  have j3 : Ok (Z00 marks at3 r) (fun a => a = true) := by
    unfold Z00 Rz
    obtain ⟨s, hs⟩ : ∃ s, Wc (List.replicate r.N.toNat false) marks = s := ⟨_, rfl⟩
    have hsl : (s.length : Int) = r.N := by rw [← hs, Z9m (n := r.N.toNat) (by rw [List.length_replicate])]; omega
    refine Ok.gd.2 ⟨(by (first | omega | (constructor <;> omega) | (simp only [List.length_set, List.length_replicate]; omega) | (simp only [List.length_set, List.length_replicate]; constructor <;> omega))), ?_⟩
    rw [hs]
    refine Ok.bind.2 (Vr (s_Cut hk hll hsl) ?_)
    simp only
    rw [if_neg (by simp), Z7t]
    obtain ⟨p1, p2, p3⟩ := Z7p s 0 (by omega)
    by_cases p0 : Kj 0 s = []
    · rw [p0]
      unfold Nv Lk Z1a
      refine Ok.bind.2 (Ok.gd.2 ⟨by decide, Ok.some.2 (Ok.bind.2 (Ok.bind.2 (Ok.gd.2 ⟨⟨by decide, rfl, .inl rfl, rfl⟩, Ok.some.2 (Ok.some.2 ?_)⟩)))⟩)
      rw [if_neg (by simp [Kk, ub])]
      exact aw
    · have hR := Zcf hk hsl
      refine Ok.bind.2 (Ok.mono (Z93 p0 (fun l hl => (p1 l hl).1) (by omega)) fun t ht => Ok.bind.2 (Ok.mono ht ?_))
      rintro _ rfl
      have hsd := Z3q r.N s 0 0 [] rfl (by omega) (by omega) (by omega) (by omega)
      rw [List.nil_append, List.nil_append, ← p2] at hsd
      have es : s.length = r.N.toNat := by omega
      rw [es] at hsd
      have hcl : 0 < (Kj 0 s).length := List.length_pos_iff.2 p0
      have hpos : 0 < (ub (Kk (Kj 0 s))).length := by
        rw [Jl, Z22 _ p0, List.length_append, List.length_singleton]; omega
      rw [if_pos (by omega)]
      obtain ⟨i, hi, hil⟩ := Z58 ha hcl
      rw [hi]
      generalize Kj 0 s = L at *
      refine Ok.gd.2 ⟨by constructor <;> omega, Ok.gd.2 ⟨by omega, Ok.gd.2 ⟨by constructor <;> omega, Ok.gd.2 ⟨by constructor <;> omega, Ok.gd.2 ⟨?_, Ok.gd.2 ⟨by constructor <;> omega, Ok.gd.2 ⟨?_, ?_⟩⟩⟩⟩⟩⟩⟩
      · rw [List.length_take]; constructor <;> omega
      · rw [List.length_append, List.length_take, List.length_drop]; constructor <;> omega
      have ei : ((i : Int) + 1).toNat = i + 1 := by omega
      rw [ei, Int.toNat_natCast, Ze8 L [] hil]
      have read70 : ∀ ls : List Str, (∀ l ∈ ls, l ∈ L) → ls.length ≤ 100 → Ua r.N 0 (List.replicate r.N.toNat false) (ls.map Xo) = none → Ok (Nb ls [10]) (fun t => Ok (Jt r (ub t)) (fun z => z.2 = 70)) := by
        intro ls h1 h2 h3
        have h4 : ∀ l ∈ ls, Ny l := fun l hl => (p1 l (h1 l hl)).1
        have h5 := Z25 ls h4
        unfold Nb
        rw [Z4n]
        refine Ok.gd.2 ⟨⟨by omega, by omega⟩, Ok.some.2 (Ok.mono (Z99 hk (by omega)) ?_)⟩
        rw [Z6f ls h4, Ly ls (fun l hl => p1 l (h1 l hl)), h3]
        rintro ⟨g, e⟩ (⟨-, -, h6⟩ | ⟨h6, -⟩)
        · cases h6
        · injection h6
      have hgm : ∀ q, q < L.length → L.getD q [] ∈ L := fun q hq => Jw hq []
      have hsub : ∀ q (l : Str), l ∈ L.take q → l ∈ L := fun q l h => List.mem_of_mem_take h
      have hsub2 : ∀ q (l : Str), l ∈ L.drop q → l ∈ L := fun q l h => List.mem_of_mem_drop h
      refine Ok.bind.2 (Ok.mono (read70 _ (fun l hl => ?_) ?_ ?_) fun t ht => Ok.bind.2 (Ok.mono ht ?_))
      · rcases List.mem_append.1 hl with h | h
        · exact hsub _ _ h
        · rcases List.mem_cons.1 h with rfl | h
          · exact hgm i hil
          · rcases List.mem_cons.1 h with rfl | h
            · exact hgm i hil
            · exact hsub2 _ _ h
      · simp only [List.length_append, List.length_take, List.length_cons, List.length_drop]; omega
      · rw [List.map_append, List.map_cons, List.map_cons]
        cases hz : Ua r.N 0 (List.replicate r.N.toNat false) ((L.take i).map Xo ++ Xo (L.getD i []) :: Xo (L.getD i []) :: (L.drop (i + 1)).map Xo) with
        | none => rfl
        | some z => have := Z41 _ _ _ _ _ _ _ hz; omega
      rintro ⟨g, e⟩ he
      simp only at he ⊢
      subst he
      rw [if_neg (by simp)]
      refine Ok.ite.2 ⟨fun hi0 => ?_, fun _ => aw⟩
      obtain ⟨k, rfl⟩ : ∃ k, i = k + 1 := ⟨i - 1, by omega⟩
      have ek : (((k + 1 : Nat) : Int) - 1).toNat = k := by omega
      have ek2 : (((k + 1 : Nat) : Int)).toNat = k + 1 := by omega
      refine Ok.gd.2 ⟨by constructor <;> omega, Ok.gd.2 ⟨by constructor <;> omega, Ok.gd.2 ⟨by constructor <;> omega, Ok.gd.2 ⟨by constructor <;> omega, Ok.gd.2 ⟨by constructor <;> omega, Ok.gd.2 ⟨by rw [List.length_set]; constructor <;> omega, ?_⟩⟩⟩⟩⟩⟩
      rw [ek, swap_two L [] hil]
      refine Ok.bind.2 (Ok.mono (read70 _ (fun l hl => ?_) ?_ ?_) fun t ht => Ok.bind.2 (Ok.mono ht ?_))
      · rcases List.mem_append.1 hl with h | h
        · exact hsub _ _ h
        · rcases List.mem_cons.1 h with rfl | h
          · exact hgm _ hil
          · rcases List.mem_cons.1 h with rfl | h
            · exact hgm k (by omega)
            · exact hsub2 _ _ h
      · simp only [List.length_append, List.length_take, List.length_cons, List.length_drop]; omega
      · rw [List.map_append, List.map_cons, List.map_cons]
        have h2 := Z8y L [] hil
        rw [h2, List.map_append, List.map_cons, List.map_cons] at hsd
        have h3 := Z41 _ _ _ _ _ _ _ hsd
        cases hz : Ua r.N 0 (List.replicate r.N.toNat false) ((L.take k).map Xo ++ Xo (L.getD (k + 1) []) :: Xo (L.getD k []) :: (L.drop (k + 2)).map Xo) with
        | none => rfl
        | some z => have := Z41 _ _ _ _ _ _ _ hz; omega
      rintro ⟨g, e⟩ he
      simp only at he ⊢
      subst he
      rw [if_neg (by simp)]
      exact aw
  have j2 : Ok (Z1f marks at3 r f) (fun a => a = true) := by
    unfold Z1f
    refine Ok.ite.2 ⟨fun h0 => ?_, fun _ => j3⟩
    obtain ⟨i, hi, hil⟩ := Z58 ha (m := f.length) (by omega)
    rw [hi, Int.toNat_natCast]
    have hcp := hcaps i (by omega)
    refine Ok.gd.2 ⟨by constructor <;> omega, Ok.gd.2 ⟨by omega, Ok.gd.2 ⟨by constructor <;> omega, Ok.gd.2 ⟨by constructor <;> omega, Ok.gd.2 ⟨by constructor <;> omega, Ok.gd.2 ⟨by constructor <;> omega, ?_⟩⟩⟩⟩⟩⟩
    refine Ok.bind.2 (Ok.mono (Z7c hk hc) ?_)
    rintro _ (⟨h, -⟩ | ⟨-, rfl⟩)
    · have := (h.2.2 i (by omega)).2
      rw [List.getD_eq_getElem?_getD, List.getElem?_set_self hil] at this
      simp only [Option.getD_some] at this
      omega
    · simp only
      rw [if_neg (by simp)]
      exact j3
  have j1 : Ok (Ke marks at3 r f false) (fun a => a = true) := by
    unfold Ke
    rw [if_neg (by simp)]
    exact j2
  have hfs := Z7y r.Arcs f (FwithinP.arcs hk hc) hw.2.1 hw.2.2
  have hsw := Z88 hfs
  refine Ok.bind.2 (Ok.mono (Z93 q0 (fun l hl => (q1 l hl).1) (by omega)) fun t ht => Ok.bind.2 (Ok.mono ht ?_))
  rintro _ rfl
  obtain ⟨i, hi, hil⟩ := Z58 ha (m := (Vn r f).length) (by omega)
  rw [hi]
  have ei : ((i : Int) + 1).toNat = i + 1 := by omega
  have e1 : (1 : Int).toNat = 1 := rfl
  rw [ei, Int.toNat_natCast, e1, Int.toNat_zero]
  have hg0 : (Vn r f).getD 0 [] = [115, 32] ++ Yd (Xy r f) := rfl
  have hd1 : (Vn r f).drop 1 = Vj r.Arcs f := rfl
  have hal : (Vj r.Arcs f).length = r.Arcs.length := Z5h _ _ hw.2.1
  have hah := (Z5d r.Arcs f (FwithinP.arcs hk hc) (hw.i64 hc))
  have he := Z4f hw
  obtain ⟨c1, d1⟩ := Uq (n := Xy r f) (by omega)
  have hm0 : [115, 32] ++ Yd (Xy r f) ∈ Vn r f := by unfold Vn; exact .head _
  refine Ok.gd.2 ⟨by constructor <;> omega, Ok.gd.2 ⟨by omega, Ok.gd.2 ⟨by constructor <;> omega, Ok.gd.2 ⟨?_, Ok.gd.2 ⟨by constructor <;> omega, Ok.gd.2 ⟨by constructor <;> omega, Ok.gd.2 ⟨?_, Ok.gd.2 ⟨by constructor <;> omega, Ok.gd.2 ⟨by constructor <;> omega, Ok.gd.2 ⟨?_, Ok.gd.2 ⟨by constructor <;> omega, Ok.gd.2 ⟨?_, ?_⟩⟩⟩⟩⟩⟩⟩⟩⟩⟩⟩⟩
  · rw [List.length_take]; constructor <;> omega
  · rw [List.length_append, List.length_take, List.length_drop]; constructor <;> omega
  · rw [List.length_take]; constructor <;> omega
  · rw [List.length_append, List.length_take, List.length_drop]; constructor <;> omega
  have bad : ∀ ls : List Str, (∀ l ∈ ls, l ∈ Vn r f) → ls.length ≠ r.Arcs.length + 1 → ls.length ≤ 100 → Ok (Kh ls r) (fun z => z = false) := by
    intro ls h1 h2 h3
    refine Ok.mono (Z2e hk (fun l hl => (q1 l (h1 l hl)).1) (by omega)) fun z hz => ?_
    rw [Ly ls (fun l hl => q1 l (h1 l hl))] at hz
    refine Bool.eq_false_iff.2 fun hzt => ?_
    obtain ⟨g, ws, h4, h5⟩ := hz.1 hzt
    have h6 := Z88 h5
    have h7 := congrArg List.length h4
    rw [List.length_map, List.length_cons] at h7
    omega
  refine Ok.bind.2 (Ok.mono (Z2e hk (fun l hl => (q1 l hl).1) (by omega)) fun z hz => ?_)
  rw [Ly _ q1, q2] at hz
  have hzt : z = true := hz.2 ⟨f, _, rfl, hfs⟩
  subst hzt
  rw [if_neg (by simp)]
  refine Ok.bind.2 (Ok.mono (bad _ (fun l hl => ?_) ?_ ?_) ?_)
  · rcases List.mem_append.1 hl with h | h
    · exact List.mem_of_mem_take h
    · exact List.mem_of_mem_drop h
  · rw [List.length_append, List.length_take, List.length_drop]; omega
  · rw [List.length_append, List.length_take, List.length_drop]; omega
  rintro _ rfl
  rw [if_neg (by simp)]
  refine Ok.bind.2 (Ok.mono (bad _ (fun l hl => ?_) ?_ ?_) ?_)
  · rcases List.mem_append.1 hl with h | h
    · exact List.mem_of_mem_take h
    · exact List.mem_of_mem_drop h
  · rw [List.length_append, List.length_take, List.length_drop]; omega
  · rw [List.length_append, List.length_take, List.length_drop]; omega
  rintro _ rfl
  rw [if_neg (by simp), hg0, hd1]
  have hnum : Ok (Kh ([([115, 32] ++ Yd (Xy r f)) ++ [48]] ++ Vj r.Arcs f) r) (fun z => z = false) := by
    have c48 : cleanT (Yd (Xy r f) ++ [48]) := ⟨by simp, fun b hb => by
      rcases List.mem_append.1 hb with h | h
      · exact c1.2 b h
      · rw [List.mem_singleton.1 h]; decide⟩
    have b1 : Vb (115 : UInt8).toNat = false := by rw [Nj]; rfl
    have hw0 : Xo (([115, 32] ++ Yd (Xy r f)) ++ [48]) = [[115], Yd (Xy r f) ++ [48]] := by rw [List.append_assoc]; exact Z2w b1 c48.ok
    have hok0 : Lc (([115, 32] ++ Yd (Xy r f)) ++ [48]) := by
      refine ⟨⟨fun b hb => ?_, ?_⟩, Z0y rfl (by rw [hw0]; simp) (by rw [hw0]; exact (show (115 : UInt8) ≠ 99 by decide))⟩
      · rw [List.append_assoc] at hb
        rcases List.mem_append.1 hb with h | h
        · simp only [List.mem_cons, List.not_mem_nil, or_false] at h
          rcases h with rfl | rfl <;> decide
        · exact c48.ten b h
      · simp only [List.length_append, List.length_cons, List.length_nil]; omega
    have hall : ∀ l ∈ [([115, 32] ++ Yd (Xy r f)) ++ [48]] ++ Vj r.Arcs f, Lc l := fun l hl => by
      rcases List.mem_append.1 hl with h | h
      · rw [List.mem_singleton.1 h]; exact hok0
      · exact hah.1 l h
    refine Ok.mono (Z2e hk (fun l hl => (hall l hl).1) (by rw [List.length_append, List.length_singleton]; omega)) fun z hz => ?_
    rw [Ly _ hall, List.map_append, hah.2, List.map_cons, List.map_nil, hw0, List.cons_append, List.nil_append] at hz
    refine Bool.eq_false_iff.2 fun hzt => ?_
    obtain ⟨g, ws, h4, h5⟩ := hz.1 hzt
    injection h4 with h4 h6
    subst h6
    rw [hfs] at h5
    injection h5 with h5
    subst h5
    injection h4 with _ h4
    injection h4 with h4 _
    have := congrArg List.length h4
    rw [List.length_append, List.length_singleton] at this
    omega
  have hsl0 : slok (([115, 32] ++ Yd (Xy r f)) ++ ([48] : Str)).length := by
    simp only [slok, List.length_append, List.length_cons, List.length_nil]; omega
  have last : ∀ b : Bool, Ok (gd (inb 0 (Vn r f).length) <| gd (slok (([115, 32] ++ Yd (Xy r f)) ++ ([48] : Str)).length) <| gd (0 ≤ (1 : Int) ∧ (1 : Int) ≤ ((Vn r f).length : Int)) <| gd (apok ([([115, 32] ++ Yd (Xy r f)) ++ ([48] : Str)] ++ Vj r.Arcs f).length 16) <|
      Option.bind (Kh ([([115, 32] ++ Yd (Xy r f)) ++ ([48] : Str)] ++ Vj r.Arcs f) r) fun r143 => if r143 = true then (gd (inb 0 (Vn r f).length) <| Ke marks at3 r f (decide (¬(([115, 32] ++ Yd (Xy r f)) = ([115, 32, 48] : Str))))) else Ke marks at3 r f false) (fun a => a = true) := by
    intro _
    refine Ok.gd.2 ⟨by constructor <;> omega, Ok.gd.2 ⟨hsl0, Ok.gd.2 ⟨by constructor <;> omega, Ok.gd.2 ⟨?_, Ok.bind.2 (Ok.mono hnum ?_)⟩⟩⟩⟩
    · rw [List.length_append, List.length_singleton]; constructor <;> omega
    · rintro _ rfl
      rw [if_neg (by simp)]
      exact j1
  refine Ok.ite.2 ⟨fun h1 => ?_, fun _ => last true⟩
  refine Ok.gd.2 ⟨by constructor <;> omega, Ok.gd.2 ⟨by constructor <;> omega, Ok.gd.2 ⟨by constructor <;> omega, Ok.gd.2 ⟨?_, ?_⟩⟩⟩⟩
  · rw [List.length_append, List.length_singleton]; constructor <;> omega
  have hrot : Ok (Kh (Vj r.Arcs f ++ [[115, 32] ++ Yd (Xy r f)]) r) (fun z => z = false) := by
    have hall : ∀ l ∈ Vj r.Arcs f ++ [[115, 32] ++ Yd (Xy r f)], Lc l := fun l hl => by
      rcases List.mem_append.1 hl with h | h
      · exact hah.1 l h
      · rw [List.mem_singleton.1 h]; exact q1 _ hm0
    refine Ok.mono (Z2e hk (fun l hl => (hall l hl).1) (by rw [List.length_append, List.length_singleton]; omega)) fun z hz => ?_
    rw [Ly _ hall, List.map_append, hah.2] at hz
    refine Bool.eq_false_iff.2 fun hzt => ?_
    obtain ⟨g, ws, h4, h5⟩ := hz.1 hzt
    cases hA : r.Arcs with
    | nil => rw [hA] at q3; simp only [List.length_nil] at q3; omega
    | cons a al =>
      cases hF : f with
      | nil => rw [hA, hF] at hfl; simp at hfl
      | cons x xs =>
        rw [hA, hF, Ls, List.cons_append] at h4
        injection h4 with h4 _
        injection h4 with h4 _
        cases h4
  refine Ok.bind.2 (Ok.mono hrot ?_)
  rintro _ rfl
  rw [if_neg (by simp)]
  exact last true
end Go.Acq
