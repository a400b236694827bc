/- Texts of this claim, one behind the other. -/
import Derived.Test.YtfdhelnfgfaeaaaA5
import Derived.Test.YtfdhelnfgfaeaaaA2
set_option linter.unusedVariables false
set_option linter.unusedSimpArgs false
namespace Go.Acq
open Go
set_option linter.unusedSimpArgs false
set_option linter.unusedVariables false
section dfs
variable {n : Net} {m : Nat} {f : List Int} {out : List (List Int)}
def past (n : Net) (out : List (List Int)) (dn : List Bool) (u q : Nat) : Prop := ∀ j, j < q → dn.getD (n.Arcs.getD ((out.getD u []).getD j 0).toNat default).to.toNat false = true
inductive Chain (n : Net) (f : List Int) (out : List (List Int)) (at_ : List Int) (dn : List Bool) : List Nat → List Nat → Prop
  | root (r : Nat) : Chain n f out at_ dn [r] []
  | step {v u e : Nat} {ps es : List Nat} (h1 : e < n.Arcs.length) (h2 : 0 < f.getD e 0) (h3 : (n.Arcs.getD e default).fr = (u : Int)) (h4 : (n.Arcs.getD e default).to = (v : Int))
      (h5 : ∃ q : Nat, at_.getD u 0 = ((q + 1 : Nat) : Int) ∧ (out.getD u []).getD q 0 = (e : Int) ∧ past n out dn u q) (h6 : Chain n f out at_ dn (u :: ps) es) : Chain n f out at_ dn (v :: u :: ps) (e :: es)
theorem past.mono {dn dn' : List Bool} {u q : Nat} (h : past n out dn u q) (hd : ∀ x, dn.getD x false = true → dn'.getD x false = true) : past n out dn' u q := fun j hj => hd _ (h j hj)
theorem Chain.mono {at_ at' : List Int} {dn dn' : List Bool} {pv es : List Nat} (h : Chain n f out at_ dn pv es) (hd : ∀ x, dn.getD x false = true → dn'.getD x false = true) (ha : ∀ x, x ∈ pv.tail → at'.getD x 0 = at_.getD x 0) : Chain n f out at' dn' pv es := by
 induction h with
 | root r => exact .root r
 | step h1 h2 h3 h4 h5 h6 ih =>
  obtain ⟨q, q1, q2, q3⟩ := h5
  refine .step h1 h2 h3 h4 ⟨q, by rw [ha _ (.head _)]; exact q1, q2, q3.mono hd⟩ (ih fun x hx => ha x ?_)
  exact .tail _ hx
theorem Chain.len {at_ : List Int} {dn : List Bool} {pv es : List Nat} (h : Chain n f out at_ dn pv es) : pv.length = es.length + 1 := by
 induction h with
 | root r => rfl
 | step _ _ _ _ _ _ ih => simp only [List.length_cons] at ih ⊢; omega
theorem Chain.at {at_ : List Int} {dn : List Bool} {pv es : List Nat} (h : Chain n f out at_ dn pv es) : ∀ i, i < es.length → es.getD i 0 < n.Arcs.length ∧ 0 < f.getD (es.getD i 0) 0 ∧ (n.Arcs.getD (es.getD i 0) default).fr = (pv.getD (i + 1) 0 : Int) ∧ (n.Arcs.getD (es.getD i 0) default).to = (pv.getD i 0 : Int) := by
 induction h with
 | root r => intro i hi; simp at hi
 | step h1 h2 h3 h4 h5 h6 ih =>
  intro i hi
  cases i with
  | zero => exact ⟨h1, h2, h3, h4⟩
  | succ i =>
   have := ih i (by simpa using hi)
   simpa using this
structure DI (n : Net) (m : Nat) (f : List Int) (out : List (List Int)) (at_ : List Int) (dn : List Bool) : Prop where
  la : at_.length = m
  ld : dn.length = m
  lo : ∀ u, u < m → 0 ≤ at_.getD u 0 ∧ at_.getD u 0 ≤ ((out.getD u []).length : Int)
  rank : ∃ (ρ : Nat → Nat) (c : Nat), ∀ u, u < m → dn.getD u false = true → ρ u < c ∧ ∀ k, k < n.Arcs.length → 0 < f.getD k 0 → (n.Arcs.getD k default).fr = (u : Int) → dn.getD (n.Arcs.getD k default).to.toNat false = true ∧ ρ (n.Arcs.getD k default).to.toNat < ρ u
structure WI (n : Net) (m : Nat) (f : List Int) (out : List (List Int)) (r v : Nat) (pv es : List Nat) (at_ : List Int) (dn on : List Bool) (way : List Int) : Prop where
  di : DI n m f out at_ dn
  ch : Chain n f out at_ dn (v :: pv) es
  nd : (v :: pv).Nodup
  lt : ∀ u, u ∈ v :: pv → u < m
  way : way = es.reverse.map fun e : Nat => (e : Int)
  lon : on.length = m
  on : ∀ u, u < m → (on.getD u false = true ↔ u ∈ v :: pv)
  open_ : ∀ u, u ∈ v :: pv → dn.getD u false = false
  pst : past n out dn v (at_.getD v 0).toNat
  fresh : ∀ u, u < m → dn.getD u false = false → u ∉ v :: pv → at_.getD u 0 = 0
  root : ∃ pre, v :: pv = pre ++ [r]
structure EI (n : Net) (m : Nat) (f : List Int) (out : List (List Int)) (at_ : List Int) (dn on : List Bool) (way : List Int) : Prop where
  di : DI n m f out at_ dn
  way : way = []
  lon : on.length = m
  on : ∀ u, u < m → on.getD u false = false
  fresh : ∀ u, u < m → dn.getD u false = false → at_.getD u 0 = 0
theorem WI.begin {at_ : List Int} {dn on : List Bool} {way : List Int} {v : Nat} (h : EI n m f out at_ dn on way) (hv : v < m) (hd : dn.getD v false = false) : WI n m f out v v [] [] at_ dn (on.set v true) way := by
 refine ⟨h.di, .root v, by simp, fun u hu => ?_, h.way, by rw [List.length_set]; exact h.lon, fun u hu => ?_, fun u hu => ?_, fun j hj => ?_, fun u hu hdu _ => h.fresh u hu hdu, [], rfl⟩
 · rw [List.mem_singleton] at hu; subst hu; exact hv
 ·
  rw [Zcf, h.lon, List.mem_singleton]
  by_cases e : v = u
  · rw [if_pos ⟨e, hv⟩]; exact ⟨fun _ => e.symm, fun _ => rfl⟩
  · rw [if_neg (fun h => e h.1), h.on u hu]; exact ⟨fun h => (by cases h), fun h => absurd h.symm e⟩
 · rw [List.mem_singleton] at hu; subst hu; exact hd
 · rw [h.fresh v hv hd] at hj; simp at hj
theorem WI.skip {r v q : Nat} {pv es : List Nat} {at_ : List Int} {dn on : List Bool} {way : List Int} (h : WI n m f out r v pv es at_ dn on way) (hq : at_.getD v 0 = (q : Int)) (hl : q < (out.getD v []).length)
    (hd : dn.getD (n.Arcs.getD ((out.getD v []).getD q 0).toNat default).to.toNat false = true) : WI n m f out r v pv es (at_.set v ((q : Int) + 1)) dn on way := by
  have hv := h.lt v (.head _)
  have hne : ∀ u, u ∈ pv → v ≠ u := fun u hu e => by subst e; exact (List.nodup_cons.1 h.nd).1 hu
  refine ⟨⟨by rw [List.length_set]; exact h.di.la, h.di.ld, fun u hu => ?_, h.di.rank⟩, h.ch.mono (fun _ h => h) (fun x hx => Z4b (hne x hx)), h.nd, h.lt, h.way, h.lon, h.on, h.open_, ?_, fun u hu hdu hup => ?_, h.root⟩
  · have := h.di.lo u hu
    rw [Zcf, h.di.la]
    split
    · rename_i e; rw [← e.1]; omega
    · exact this
  · rw [Z7l (by rw [h.di.la]; exact hv)]
    intro j hj
    rcases Nat.lt_or_ge j q with h1 | h1
    · exact h.pst j (by rw [hq]; omega)
    · rw [show j = q by omega]; exact hd
  · have h1 : v ≠ u := fun e => hup (by rw [← e]; exact .head _)
    rw [Z4b h1]; exact h.fresh u hu hdu hup
theorem WI.push {r v q w k : Nat} {pv es : List Nat} {at_ : List Int} {dn on : List Bool} {way : List Int} (h : WI n m f out r v pv es at_ dn on way) (hq : at_.getD v 0 = (q : Int)) (hl : q < (out.getD v []).length)
    (hk : (out.getD v []).getD q 0 = (k : Int)) (hkl : k < n.Arcs.length) (hf : 0 < f.getD k 0) (hfr : (n.Arcs.getD k default).fr = (v : Int)) (hto : (n.Arcs.getD k default).to = (w : Int)) (hw : w < m) (hon : on.getD w false = false) (hd : dn.getD w false = false) :
    WI n m f out r w (v :: pv) (k :: es) (at_.set v ((q : Int) + 1)) dn (on.set w true) (way ++ [(k : Int)]) := by
  have hv := h.lt v (.head _)
  have hwn : w ∉ v :: pv := fun hm => by have := (h.on w hw).2 hm; rw [hon] at this; cases this
  have hvw : v ≠ w := fun e => hwn (e ▸ .head _)
  have hne : ∀ u, u ∈ pv → v ≠ u := fun u hu e => by subst e; exact (List.nodup_cons.1 h.nd).1 hu
  have hw0 := h.fresh w hw hd hwn
  refine ⟨⟨by rw [List.length_set]; exact h.di.la, h.di.ld, fun u hu => ?_, h.di.rank⟩, .step hkl hf hfr hto ⟨q, by rw [Z7l (by rw [h.di.la]; exact hv)]; omega, hk, fun j hj => h.pst j (by rw [hq]; omega)⟩ (h.ch.mono (fun _ h => h) (fun x hx => Z4b (hne x hx))), List.nodup_cons.2 ⟨hwn, h.nd⟩, fun u hu => ?_, ?_, by rw [List.length_set]; exact h.lon, fun u hu => ?_, fun u hu => ?_, ?_, fun u hu hdu hup => ?_, (by obtain ⟨pre, e⟩ := h.root; exact ⟨w :: pre, by rw [e]; rfl⟩)⟩
  · have := h.di.lo u hu
    rw [Zcf, h.di.la]
    split
    · rename_i e; rw [← e.1]; omega
    · exact this
  · rcases List.mem_cons.1 hu with rfl | hu
    · exact hw
    · exact h.lt u hu
  · rw [h.way, List.reverse_cons, List.map_append]; rfl
  · rw [Zcf, h.lon]
    by_cases e : w = u
    · rw [if_pos ⟨e, hw⟩]; exact ⟨fun _ => e ▸ .head _, fun _ => rfl⟩
    · rw [if_neg (fun h => e h.1), h.on u hu]
      exact ⟨fun h => .tail _ h, fun h => by rcases List.mem_cons.1 h with h | h; (exact absurd h.symm e); exact h⟩
  · rcases List.mem_cons.1 hu with rfl | hu
    · exact hd
    · exact h.open_ u hu
  · rw [Z4b hvw, hw0]; intro j hj; simp at hj
  · have h1 : v ≠ u := fun e => hup (e ▸ .tail _ (.head _))
    rw [Z4b h1]; exact h.fresh u hu hdu (fun hm => hup (.tail _ hm))
theorem WI.fin {r v : Nat} {pv es : List Nat} {at_ : List Int} {dn on : List Bool} {way : List Int} (ho : OutIs n m f out) (h : WI n m f out r v pv es at_ dn on way) (hq : at_.getD v 0 = ((out.getD v []).length : Int)) :
    DI n m f out at_ (dn.set v true) := by
  have hv := h.lt v (.head _)
  have hdv := h.open_ v (.head _)
  obtain ⟨ρ, c, hρ⟩ := h.di.rank
  refine ⟨h.di.la, by rw [List.length_set]; exact h.di.ld, h.di.lo, fun x => if x = v then c else ρ x, c + 1, fun u hu hd => ?_⟩
  rw [Zcf, h.di.ld] at hd
  by_cases e : v = u
  · subst e
    simp only [if_true]
    refine ⟨by omega, fun k hk hf hfr => ?_⟩
    obtain ⟨q, hq1, hq2⟩ := ho.in hv hk hf hfr
    have h1 := h.pst q (by rw [hq]; omega)
    rw [hq2, Int.toNat_natCast] at h1
    have h2 : (n.Arcs.getD k default).to.toNat ≠ v := fun e => by rw [e, hdv] at h1; cases h1
    have hlt : (n.Arcs.getD k default).to.toNat < m := by
      rcases Nat.lt_or_ge (n.Arcs.getD k default).to.toNat m with h3 | h3
      · exact h3
      · rw [List.getD_eq_getElem?_getD, List.getElem?_eq_none (by rw [h.di.ld]; exact h3)] at h1; cases h1
    rw [if_neg h2]
    exact ⟨by rw [Z4b (Ne.symm h2)]; exact h1, (hρ _ hlt h1).1⟩
  · rw [if_neg (fun h => e h.1)] at hd
    obtain ⟨h1, h2⟩ := hρ u hu hd
    simp only [if_neg (show ¬ u = v from fun h => e h.symm)]
    refine ⟨by omega, fun k hk hf hfr => ?_⟩
    obtain ⟨h3, h4⟩ := h2 k hk hf hfr
    have h5 : (n.Arcs.getD k default).to.toNat ≠ v := fun e => by rw [e, hdv] at h3; cases h3
    rw [if_neg h5]
    exact ⟨by rw [Z4b (Ne.symm h5)]; exact h3, h4⟩
theorem Zne {dn : List Bool} {v : Nat} : ∀ x, dn.getD x false = true → (dn.set v true).getD x false = true := by
 intro x hx
 rw [Zcf]; split
 · rfl
 · exact hx
theorem WI.pop {r v u e : Nat} {ps es : List Nat} {at_ : List Int} {dn on : List Bool} {way : List Int} (ho : OutIs n m f out) (h : WI n m f out r v (u :: ps) (e :: es) at_ dn on way) (hq : at_.getD v 0 = ((out.getD v []).length : Int)) :
    WI n m f out r u ps es at_ (dn.set v true) (on.set v false) (es.reverse.map fun e : Nat => (e : Int)) ∧ (n.Arcs.getD e default).fr = (u : Int) ∧ e < n.Arcs.length := by
  have hv := h.lt v (.head _)
  have hfin := h.fin ho hq
  have hnd := List.nodup_cons.1 h.nd
  cases h.ch with
  | step h1 h2 h3 h4 h5 h6 =>
  obtain ⟨q, q1, q2, q3⟩ := h5
  refine ⟨⟨hfin, h6.mono Zne (fun _ _ => rfl), hnd.2, fun x hx => h.lt x (.tail _ hx), rfl, by rw [List.length_set]; exact h.lon, fun x hx => ?_, fun x hx => ?_, ?_, fun x hx hdx hup => ?_, ?_⟩, h3, h1⟩
  · rw [Zcf, h.lon]
    by_cases e : v = x
    · subst e; rw [if_pos ⟨rfl, hv⟩]; exact ⟨fun h => (by cases h), fun hm => absurd hm hnd.1⟩
    · rw [if_neg (fun h => e h.1), h.on x hx]
      exact ⟨fun h => by rcases List.mem_cons.1 h with h | h; (exact absurd h.symm e); exact h, fun h => .tail _ h⟩
  · have h1 : v ≠ x := fun e => hnd.1 (by rw [e]; exact hx)
    rw [Z4b h1]; exact h.open_ x (.tail _ hx)
  · rw [q1, Int.toNat_natCast]
    intro j hj
    rcases Nat.lt_or_ge j q with h7 | h7
    · exact Zne _ (q3 j h7)
    · rw [show j = q by omega, q2, Int.toNat_natCast, h4, Int.toNat_natCast]
      exact Z7l (by rw [h.di.ld]; exact hv)
  · have hxv : v ≠ x := fun e => by subst e; rw [Z7l (by rw [h.di.ld]; exact hv)] at hdx; cases hdx
    rw [Z4b hxv] at hdx
    exact h.fresh x hx hdx (fun hm => by rcases List.mem_cons.1 hm with h | h; (exact hxv h.symm); exact hup h)
  · obtain ⟨pre, e⟩ := h.root
    cases pre with
    | nil => simp at e
    | cons x pre => exact ⟨pre, by simpa using (List.cons.inj e).2⟩
theorem WI.last {r v : Nat} {at_ : List Int} {dn on : List Bool} {way : List Int} (ho : OutIs n m f out) (h : WI n m f out r v [] [] at_ dn on way) (hq : at_.getD v 0 = ((out.getD v []).length : Int)) :
    EI n m f out at_ (dn.set v true) (on.set v false) way ∧ (dn.set v true).getD r false = true := by
  have hv := h.lt v (.head _)
  have hrv : r = v := by
    obtain ⟨pre, e⟩ := h.root
    cases pre with
    | nil => simpa using e.symm
    | cons x pre => simp at e
  refine ⟨⟨h.fin ho hq, by rw [h.way]; rfl, by rw [List.length_set]; exact h.lon, fun u hu => ?_, fun u hu hd => ?_⟩, by rw [hrv]; exact Z7l (by rw [h.di.ld]; exact hv)⟩
  · rw [Zcf, h.lon]
    by_cases e : v = u
    · rw [if_pos ⟨e, hv⟩]
    · rw [if_neg (fun h => e h.1), Bool.eq_false_iff]
      intro h1
      have := (h.on u hu).1 h1
      rw [List.mem_singleton] at this; exact e this.symm
  · have hxv : v ≠ u := fun e => by subst e; rw [Z7l (by rw [h.di.ld]; exact hv)] at hd; cases hd
    rw [Z4b hxv] at hd
    exact h.fresh u hu hd (by rw [List.mem_singleton]; exact fun e => hxv e.symm)
end dfs
end Go.Acq
namespace Go.Acq
open Go
set_option linter.unusedSimpArgs false
set_option linter.unusedVariables false
theorem appR {α : Type} {xs ys : List α} {i : Nat} {d : α} (h : xs.length ≤ i) : (xs ++ ys).getD i d = ys.getD (i - xs.length) d := by
 rw [List.getD_eq_getElem?_getD, List.getElem?_append_right h, ← List.getD_eq_getElem?_getD]
theorem appL {α : Type} {xs ys : List α} {i : Nat} {d : α} (h : i < xs.length) : (xs ++ ys).getD i d = xs.getD i d := by
 rw [List.getD_eq_getElem?_getD, List.getElem?_append_left h, ← List.getD_eq_getElem?_getD]
def smI : List Int → Int
  | [] => 0
  | x :: xs => x + smI xs
def cT : List Bool → Nat
  | [] => 0
  | b :: bs => (if b = true then 1 else 0) + cT bs
theorem Zjv : ∀ {xs : List Int} {i : Nat} {y : Int}, i < xs.length → smI (xs.set i y) = smI xs - xs.getD i 0 + y
 | [], i, y, h => by simp at h
 | x :: xs, 0, y, _ => by simp [smI]; omega
 | x :: xs, i + 1, y, h => by
  have := Zjv (xs := xs) (i := i) (y := y) (by simpa using h)
  simp only [List.set_cons_succ, smI, this, List.getD_cons_succ]; omega
theorem smI_le {B : Nat} : ∀ {xs : List Int}, (∀ i, i < xs.length → 0 ≤ xs.getD i 0 ∧ xs.getD i 0 ≤ B) → 0 ≤ smI xs ∧ smI xs ≤ (xs.length * B : Nat)
 | [], _ => by simp [smI]
 | x :: xs, h => by
  have h1 := smI_le (B := B) (xs := xs) (fun i hi => by have := h (i + 1) (by simpa using hi); simpa using this)
  have h2 := h 0 (by simp)
  simp only [List.getD_cons_zero] at h2
  simp only [smI, List.length_cons, Nat.add_mul, Nat.one_mul]
  omega
theorem cT_le : ∀ bs : List Bool, cT bs ≤ bs.length
 | [] => Nat.le_refl _
 | b :: bs => by have := cT_le bs; simp only [cT, List.length_cons]; split <;> omega
theorem cT_set : ∀ {bs : List Bool} {i : Nat}, i < bs.length → bs.getD i false = false → cT (bs.set i true) = cT bs + 1
 | [], i, h, _ => by simp at h
 | b :: bs, 0, _, h => by simp only [List.getD_cons_zero] at h; subst h; simp [cT]; omega
 | b :: bs, i + 1, h, hb => by
  have := cT_set (bs := bs) (i := i) (by simpa using h) (by simpa using hb)
  simp only [List.set_cons_succ, cT, this]; omega
section
variable {n : Net} {m : Nat} {f : List Int} {out : List (List Int)}
theorem s_closes {way at_ : List Int} {dn on : List Bool} {w : Int} {k : Int} (hl : way.length ≤ 4096) (hin : ∀ j, j < (way ++ [k]).length → ∃ a : Nat, (way ++ [k]).getD j 0 = a ∧ a < n.Arcs.length)
    (hex : ∃ j, j < (way ++ [k]).length ∧ (n.Arcs.getD ((way ++ [k]).getD j 0).toNat default).fr = w) :
    Ok (Z3z (CyclesSearch.mk n out at_ dn on way) w k) (fun c => ∃ i, i < (way ++ [k]).length ∧ c = (way ++ [k]).drop i ∧ (n.Arcs.getD ((way ++ [k]).getD i 0).toNat default).fr = w) := by
  have hl2 : (way ++ [k]).length = way.length + 1 := by simp
  unfold Z3z
  have hc : Z2a way = some way := by
    refine Zef ?_
    unfold Z2a
    exact Ok.gd.2 ⟨by constructor <;> omega, Ok.some.2 rfl⟩
  refine Ok.bind.2 (Z8v hc (Ok.gd.2 ⟨by rw [hl2]; constructor <;> omega, Ok.bind.2 ?_⟩))
  generalize hws : way ++ [k] = ws at *
  unfold Z23
  refine Ok.bind.2 (Z76 (fun x => ∃ i : Nat, x = i ∧ i ≤ ws.length ∧ ∀ j, j < i → (n.Arcs.getD (ws.getD j 0).toNat default).fr ≠ w) (fun x => (ws.length - x).toNat) ⟨0, rfl, by omega, fun j hj => by omega⟩ (by unfold Z3f; omega) ?_)
  rintro x ⟨i, rfl, hi, hno⟩ P next exit
  unfold Z1g
  simp only [Int.toNat_natCast]
  refine Ok.ite.2 ⟨fun hx => ?_, fun hx => ?_⟩
  · obtain ⟨a, ha, hal⟩ := hin i (by omega)
    refine Ok.gd.2 ⟨(by constructor <;> omega), Ok.bind.2 ?_⟩
    unfold Z4d
    rw [ha]
    refine Ok.gd.2 ⟨by show inb (a : Int) n.Arcs.length; constructor <;> omega, Ok.some.2 ?_⟩
    simp only [Int.toNat_natCast]
    refine Ok.ite.2 ⟨fun h => Ok.some.2 (exit _ ?_), fun h => Ok.gd.2 ⟨(by constructor <;> omega), Ok.some.2 (next _ ⟨i + 1, by simp, by omega, fun j hj => ?_⟩ (by omega))⟩⟩
    · have h := of_decide_eq_true h
      refine Ok.some.2 (Ok.gd.2 ⟨(by constructor <;> omega), Ok.some.2 ?_⟩)
      rw [Int.toNat_natCast]
      exact ⟨i, by omega, rfl, by rw [ha, Int.toNat_natCast]; exact h⟩
    · rcases Nat.lt_or_ge j i with h1 | h1
      · exact hno j h1
      · rw [show j = i by omega, ha, Int.toNat_natCast]; exact fun e => h (decide_eq_true e)
  · obtain ⟨j, hj, e⟩ := hex
    exact absurd e (hno j (by omega))
theorem WI.cyc {r v k w i : Nat} {pv es : List Nat} {at_ : List Int} {dn on : List Bool} {way : List Int} (h : WI n m f out r v pv es at_ dn on way) (hkl : k < n.Arcs.length) (hf : 0 < f.getD k 0) (hfr : (n.Arcs.getD k default).fr = (v : Int)) (hto : (n.Arcs.getD k default).to = (w : Int)) (hw : w < m) (hon : on.getD w false = true) :
    (∀ j, j < (way ++ [(k : Int)]).length → ∃ a : Nat, (way ++ [(k : Int)]).getD j 0 = a ∧ a < n.Arcs.length) ∧
    (∃ j, j < (way ++ [(k : Int)]).length ∧ (n.Arcs.getD ((way ++ [(k : Int)]).getD j 0).toNat default).fr = (w : Int)) ∧
    (i < (way ++ [(k : Int)]).length → (n.Arcs.getD ((way ++ [(k : Int)]).getD i 0).toNat default).fr = (w : Int) → Cyc n f ((way ++ [(k : Int)]).drop i)) := by
  have hlen := h.ch.len
  simp only [List.length_cons] at hlen
  have hat := h.ch.at
  have hwl : way.length = es.length := by rw [h.way]; simp
  have hwsl : (way ++ [(k : Int)]).length = es.length + 1 := by simp [hwl]
  have key : ∀ j, j < es.length + 1 → ∃ a : Nat, (way ++ [(k : Int)]).getD j 0 = a ∧ a < n.Arcs.length ∧ 0 < f.getD a 0 ∧ (n.Arcs.getD a default).fr = ((v :: pv).getD (es.length - j) 0 : Int) ∧ (n.Arcs.getD a default).to = (if j = es.length then (w : Int) else ((v :: pv).getD (es.length - (j + 1)) 0 : Int)) := by
    intro j hj
    by_cases e : j = es.length
    · refine ⟨k, by rw [appR (by omega), hwl, e]; simp, hkl, hf, ?_, by rw [if_pos e]; exact hto⟩
      rw [e, Nat.sub_self]; exact hfr
    · obtain ⟨h1, h2, h3, h4⟩ := hat (es.length - (j + 1)) (by omega)
      refine ⟨es.getD (es.length - (j + 1)) 0, ?_, h1, h2, ?_, by rw [if_neg e]; exact h4⟩
      · rw [appL (by omega), h.way, List.getD_eq_getElem?_getD, List.getElem?_map, List.getElem?_reverse (by omega), List.getD_eq_getElem?_getD, show es.length - 1 - j = es.length - (j + 1) by omega, List.getElem?_eq_getElem (by omega)]
        rfl
      · rw [h3, show es.length - (j + 1) + 1 = es.length - j by omega]
  have hinj : ∀ a b, a < es.length + 1 → b < es.length + 1 → (v :: pv).getD a 0 = (v :: pv).getD b 0 → a = b := by
    intro a b ha hb e
    have hl : (v :: pv).length = es.length + 1 := by simp [hlen]
    rw [List.getD_eq_getElem?_getD, List.getD_eq_getElem?_getD, List.getElem?_eq_getElem (by omega), List.getElem?_eq_getElem (by omega)] at e
    exact (List.getElem_inj h.nd).1 e
  refine ⟨fun j hj => ?_, ?_, fun hi hfi => ?_⟩
  · obtain ⟨a, h1, h2, -⟩ := key j (by omega)
    exact ⟨a, h1, h2⟩
  · obtain ⟨p, hp, e⟩ := List.getElem_of_mem ((h.on w hw).1 hon)
    have hp2 : p < es.length + 1 := by simp at hp; omega
    refine ⟨es.length - p, by omega, ?_⟩
    obtain ⟨a, h1, h2, h3, h4, -⟩ := key (es.length - p) (by omega)
    rw [h1, Int.toNat_natCast, h4, show es.length - (es.length - p) = p by omega, List.getD_eq_getElem?_getD, List.getElem?_eq_getElem hp, e]; rfl
  · have hdl : ((way ++ [(k : Int)]).drop i).length = es.length + 1 - i := by rw [List.length_drop, hwsl]
    have hdg : ∀ j, ((way ++ [(k : Int)]).drop i).getD j 0 = (way ++ [(k : Int)]).getD (i + j) 0 := fun j => by
      rw [List.getD_eq_getElem?_getD, List.getElem?_drop, ← List.getD_eq_getElem?_getD]
    refine ⟨by omega, fun j hj => ?_, fun a b ha hb e => ?_⟩
    · rw [hdl] at hj ⊢
      obtain ⟨a, h1, h2, h3, h4, h5⟩ := key (i + j) (by omega)
      refine ⟨a, by rw [hdg]; exact h1, h2, h3, ?_⟩
      rw [h5, hdg]
      by_cases hj2 : j + 1 = es.length + 1 - i
      · rw [if_pos (by omega), hj2, Nat.mod_self, Nat.add_zero]; exact hfi.symm
      · rw [if_neg (by omega), Nat.mod_eq_of_lt (by omega)]
        obtain ⟨b, g1, g2, g3, g4, -⟩ := key (i + (j + 1)) (by omega)
        rw [g1, Int.toNat_natCast, g4]
        congr 2
    · rw [hdl] at ha hb
      rw [hdg, hdg] at e
      obtain ⟨x, h1, h2, h3, h4, -⟩ := key (i + a) (by omega)
      obtain ⟨y, g1, g2, g3, g4, -⟩ := key (i + b) (by omega)
      rw [h1, g1, Int.toNat_natCast, Int.toNat_natCast, h4, g4] at e
      have := hinj _ _ (by omega) (by omega) (Int.natCast_inj.1 e)
      omega
end
end Go.Acq
namespace Go.Acq
open Go
set_option linter.unusedSimpArgs false
set_option linter.unusedVariables false
section
variable {n : Net} {m : Nat} {f : List Int} {out : List (List Int)}
theorem DI.sm {at_ : List Int} {dn : List Bool} (ho : OutIs n m f out) (h : DI n m f out at_ dn) : 0 ≤ smI at_ ∧ smI at_ ≤ ((m * n.Arcs.length : Nat) : Int) := by
 have := smI_le (B := n.Arcs.length) (xs := at_) (fun i hi => by
  rw [h.la] at hi
  have h1 := h.lo i hi
  have h2 := ho.len hi
  omega)
 rw [h.la] at this
 exact this
theorem s_inFrom {A : List Int} {D O : List Bool} {W : List Int} (hm2 : m ≤ 4096) (hl : n.Arcs.length ≤ 16384) (he : Z5e m n.Arcs) (ho : OutIs n m f out) {r v : Nat} {pv es : List Nat} {at0 : List Int} {dn on : List Bool} {way : List Int} (h : WI n m f out r v pv es at0 dn on way) :
    Ok (Z1t (fun s => Z2w (CyclesSearch.mk n out A D O W) (v : Int) dn on way s) Z3f at0) (fun o => match o with
      | .inl (c, _) => Cyc n f c
      | .inr (.inl (w, at', dn', on', way')) => ∃ w' k : Nat, w = w' ∧ dn' = dn ∧ WI n m f out r w' (v :: pv) (k :: es) at' dn on' way' ∧ smI at0 < smI at'
      | .inr (.inr at') => WI n m f out r v pv es at' dn on way ∧ at'.getD v 0 = ((out.getD v []).length : Int) ∧ smI at0 ≤ smI at') := by
  have hv := h.lt v (.head _)
  have hlo := ho.len hv
  have h1 := h.ch.len
  have hwl : way.length = es.length := by rw [h.way]; simp
  have hpl : es.length + 1 ≤ m := by
    have := List.Nodup.length_le_of_subset h.nd (l₂ := List.range m) (fun u hu => List.mem_range.2 (h.lt u hu))
    rw [h1, List.length_range] at this; exact this
  refine Z76 (fun a => WI n m f out r v pv es a dn on way ∧ smI at0 ≤ smI a) (fun a => ((out.getD v []).length - a.getD v 0).toNat) ⟨h, Int.le_refl _⟩ (by
    have := (h.di.lo v hv).1
    unfold Z3f; omega) ?_
  rintro a ⟨hW, hs⟩ P next exit
  unfold Z2w
  have hal := hW.di.la
  have hdl := hW.di.ld
  have hol := hW.lon
  have hoo := ho.1
  obtain ⟨q, hq⟩ : ∃ q : Nat, a.getD v 0 = (q : Int) := ⟨(a.getD v 0).toNat, (Int.toNat_of_nonneg (hW.di.lo v hv).1).symm⟩
  simp only [Int.toNat_natCast, hq]
  refine Ok.gd.2 ⟨(by constructor <;> omega), Ok.gd.2 ⟨(by constructor <;> omega), Ok.ite.2 ⟨fun hx => ?_, fun hx => ?_⟩⟩⟩
  · have hql : q < (out.getD v []).length := by omega
    obtain ⟨k, hk, hkl, hf, hfr⟩ := ho.at hv hql
    have e1 := he k hkl true
    simp only [vtx, if_true] at e1
    obtain ⟨w, hto⟩ : ∃ w : Nat, (n.Arcs.getD k default).to = (w : Int) := ⟨(n.Arcs.getD k default).to.toNat, by omega⟩
    have hw : w < m := by omega
    simp only [hk, hto, Int.toNat_natCast]
    refine Ok.gd.2 ⟨(by constructor <;> omega), Ok.gd.2 ⟨(by constructor <;> omega), Ok.gd.2 ⟨(by constructor <;> omega), Ok.gd.2 ⟨(by constructor <;> omega), Ok.gd.2 ⟨(by constructor <;> omega), Ok.gd.2 ⟨(by constructor <;> omega), Ok.gd.2 ⟨(by constructor <;> omega), Ok.gd.2 ⟨(by constructor <;> omega), Ok.ite.2 ⟨fun hon => ?_, fun hon => Ok.gd.2 ⟨(by constructor <;> omega), Ok.ite.2 ⟨fun hd => ?_, fun hd => ?_⟩⟩⟩⟩⟩⟩⟩⟩⟩⟩⟩
    · obtain ⟨c1, c2, c3⟩ := hW.cyc (i := 0) hkl hf hfr hto hw hon
      refine Ok.bind.2 (Ok.mono (s_closes (by omega) c1 c2) ?_)
      rintro c ⟨i, hi, rfl, hfi⟩
      exact Ok.some.2 (exit _ ((hW.cyc (i := i) hkl hf hfr hto hw hon).2.2 hi hfi))
    · have hdw : dn.getD w false = false := by simpa using hd
      have hp := hW.push hq hql hk hkl hf hfr hto hw (Bool.eq_false_iff.2 hon) hdw
      refine Ok.gd.2 ⟨by simp only [List.length_append, List.length_singleton]; constructor <;> omega, Ok.gd.2 ⟨(by constructor <;> omega), Ok.some.2 (exit _ ⟨w, k, rfl, rfl, hp, ?_⟩)⟩⟩
      rw [Zjv (by omega), hq]; omega
    · have hdw : dn.getD w false = true := by simpa using hd
      have hp := hW.skip hq hql (by rw [hk, Int.toNat_natCast, hto, Int.toNat_natCast]; exact hdw)
      refine Ok.some.2 (next _ ⟨hp, ?_⟩ ?_)
      · rw [Zjv (by omega), hq]; omega
      · rw [Z7l (by omega), hq]; omega
  · have := hW.di.lo v hv
    exact Ok.some.2 (exit _ ⟨hW, by omega, hs⟩)
theorem s_from (hm2 : m ≤ 4096) (hl : n.Arcs.length ≤ 16384) (he : Z5e m n.Arcs) (ho : OutIs n m f out) {v : Nat} {at0 : List Int} {dn0 on0 : List Bool} {way0 : List Int} (h : EI n m f out at0 dn0 on0 way0) (hv : v < m) (hd : dn0.getD v false = false) :
    Ok (Z4h (CyclesSearch.mk n out at0 dn0 on0 way0) v) (fun r => Cyc n f r.1 ∨ (r.1 = [] ∧ ∃ at' dn' on', r.2 = CyclesSearch.mk n out at' dn' on' [] ∧ EI n m f out at' dn' on' [] ∧ dn'.getD v false = true ∧ ∀ u, dn0.getD u false = true → dn'.getD u false = true)) := by
  have hlon := h.lon
  have hML : m * n.Arcs.length ≤ 4096 * 16384 := Nat.mul_le_mul hm2 hl
  unfold Z4h
  refine Ok.gd.2 ⟨by show inb (v : Int) on0.length; constructor <;> omega, Ok.bind.2 ?_⟩
  simp only [Int.toNat_natCast]
  refine Z76 (fun s => (∀ u, dn0.getD u false = true → s.2.2.1.getD u false = true) ∧ ((∃ (w : Nat) (pv es : List Nat), s.1 = w ∧ WI n m f out v w pv es s.2.1 s.2.2.1 s.2.2.2.1 s.2.2.2.2) ∨ (s.1 = -1 ∧ EI n m f out s.2.1 s.2.2.1 s.2.2.2.1 s.2.2.2.2 ∧ s.2.2.1.getD v false = true)))
    (fun s => (((m * n.Arcs.length : Nat) : Int) - smI s.2.1).toNat + (m - cT s.2.2.1)) ⟨fun u hu => hu, .inl ⟨v, [], [], rfl, WI.begin h hv hd⟩⟩ (by
      have := h.di.sm ho
      unfold Z3f; simp only; omega) ?_
  rintro ⟨x, a, dn, on, way⟩ ⟨hmo, hI⟩ P next exit
  simp only at hmo hI next ⊢
  unfold Z3p
  rcases hI with ⟨w, pv, es, rfl, hW⟩ | ⟨rfl, hE, hdv⟩
  · refine Ok.ite.2 ⟨fun _ => ?_, fun hx => absurd (Int.natCast_nonneg w) hx⟩
    refine Ok.bind.2 (Ok.mono (s_inFrom hm2 hl he ho hW) ?_)
    have hsm := hW.di.sm ho
    rintro (⟨c, st⟩ | ⟨w2, at', dn', on', way'⟩ | at') hr
    · exact Ok.some.2 (exit _ (Ok.some.2 (.inl hr)))
    · obtain ⟨w', k, rfl, rfl, hW', hlt⟩ := hr
      have hsm' := hW'.di.sm ho
      exact Ok.some.2 (next _ ⟨hmo, .inl ⟨w', w :: pv, k :: es, rfl, hW'⟩⟩ (by simp only; omega))
    · obtain ⟨hW', hfull, hle⟩ := hr
      have hsm' := hW'.di.sm ho
      have hwm := hW'.lt w (.head _)
      have hdw := hW'.open_ w (.head _)
      have hdl := hW'.di.ld
      have hol := hW'.lon
      have hcs := cT_set (bs := dn) (i := w) (by omega) hdw
      have hcl := cT_le (dn.set w true)
      rw [List.length_set, hdl] at hcl
      have hmo' : ∀ u, dn0.getD u false = true → (dn.set w true).getD u false = true := fun u hu => Zne u (hmo u hu)
      have hway := hW'.way
      have hch := hW'.ch.len
      unfold Z4m Z4y
      simp only [Int.toNat_natCast]
      cases es with
      | nil =>
        have hpv : pv = [] := by simpa using hch
        subst hpv
        obtain ⟨hE, hdr⟩ := hW'.last ho hfull
        refine Ok.bind.2 (Ok.gd.2 ⟨(by constructor <;> omega), Ok.gd.2 ⟨(by constructor <;> omega), Ok.ite.2 ⟨fun _ => Ok.some.2 ?_, fun hx => absurd (by rw [hway]; rfl) hx⟩⟩⟩)
        exact Ok.some.2 (next _ ⟨hmo', .inr ⟨rfl, hE, hdr⟩⟩ (by simp only; omega))
      | cons e es =>
        cases pv with
        | nil => simp at hch
        | cons u ps =>
          obtain ⟨hW2, hfr, hel⟩ := hW'.pop ho hfull
          have hwl : way.length = es.length + 1 := by rw [hway]; simp
          have hpl := List.Nodup.length_le_of_subset hW'.nd (l₂ := List.range m) (fun u hu => List.mem_range.2 (hW'.lt u hu))
          rw [hch, List.length_range, List.length_cons] at hpl
          have hlast : way.getD es.length 0 = (e : Int) := by
            rw [hway, List.getD_eq_getElem?_getD, List.getElem?_map, List.reverse_cons, List.getElem?_append_right (by simp)]
            simp
          have htake : way.take es.length = es.reverse.map fun e : Nat => (e : Int) := by
            rw [hway, List.reverse_cons, List.map_append, List.take_left' (by simp)]
          have hi : ((way.length : Int) - 1).toNat = es.length := by omega
          refine Ok.bind.2 (Ok.gd.2 ⟨(by constructor <;> omega), Ok.gd.2 ⟨(by constructor <;> omega), Ok.ite.2 ⟨fun hx => absurd hx (by omega), fun _ => ?_⟩⟩⟩)
          simp only [hi, hlast, Int.toNat_natCast, htake, hfr]
          refine Ok.gd.2 ⟨(by constructor <;> omega), Ok.gd.2 ⟨(by constructor <;> omega), Ok.gd.2 ⟨(by constructor <;> omega), Ok.gd.2 ⟨(by constructor <;> omega), Ok.gd.2 ⟨by show inb (e : Int) n.Arcs.length; constructor <;> omega, Ok.some.2 ?_⟩⟩⟩⟩⟩
          exact Ok.some.2 (next _ ⟨hmo', .inl ⟨u, ps, es, rfl, hW2⟩⟩ (by simp only; omega))
  · refine Ok.ite.2 ⟨fun hx => absurd hx (by omega), fun _ => Ok.some.2 (exit _ ?_)⟩
    unfold Z4l
    have := hE.way
    subst this
    exact Ok.some.2 (.inr ⟨rfl, a, dn, on, rfl, hE, hdv, hmo⟩)
theorem Zmu (hm : n.N = m) (hm2 : m ≤ 4096) (hl : n.Arcs.length ≤ 16384) (he : Z5e m n.Arcs) (hf : f.length = n.Arcs.length) :
    Ok (Z4q n f) (fun r => Cyc n f r ∨ (r = [] ∧ Acyc n f)) := by
  unfold Z4q
  refine Ok.bind.2 (Ok.mono (Zmw hm hm2 he hl hf) ?_)
  rintro s ⟨out, rfl, ho⟩
  simp only
  refine Ok.bind.2 (Z76 (fun s => ∃ k : Nat, s.2.2.2.2 = k ∧ k ≤ m ∧ EI n m f out s.1 s.2.1 s.2.2.1 s.2.2.2.1 ∧ ∀ u, u < k → s.2.1.getD u false = true) (fun s => (m - s.2.2.2.2).toNat)
    ⟨0, rfl, by omega, ⟨⟨List.length_replicate, List.length_replicate, fun u hu => by rw [Z1w]; omega, fun _ => 0, 0, fun u hu hd => (by rw [Z1w] at hd; cases hd)⟩, rfl, List.length_replicate, fun u _ => Z1w .., fun u _ _ => Z1w ..⟩, fun u hu => by omega⟩ (by unfold Z3f; simp only; omega) ?_)
  rintro ⟨a, dn, on, way, x⟩ ⟨k, h1, hk, hE, hdn⟩ P next exit
  simp only at h1 hE hdn next ⊢
  subst h1
  have hdl := hE.di.ld
  unfold Z5t
  simp only [Int.toNat_natCast]
  refine Ok.ite.2 ⟨fun hx => ?_, fun hx => ?_⟩
  · refine Ok.gd.2 ⟨(by constructor <;> omega), Ok.ite.2 ⟨fun hd => ?_, fun hd => ?_⟩⟩
    · refine Ok.gd.2 ⟨(by constructor <;> omega), Ok.some.2 (next _ ⟨k + 1, by simp, by omega, hE, fun u hu => ?_⟩ (by simp only; omega))⟩
      rcases Nat.lt_or_ge u k with h | h
      · exact hdn u h
      · rw [show u = k by omega]; exact hd
    · have hw := hE.way
      subst hw
      refine Ok.bind.2 (Ok.mono (s_from (v := k) hm2 hl he ho hE (by omega) (Bool.eq_false_iff.2 hd)) ?_)
      rintro ⟨c, st⟩ (hc | ⟨h1, a', dn', on', h2, hE', hd', hmo⟩)
      · simp only at hc ⊢
        exact Ok.ite.2 ⟨fun _ => Ok.some.2 (exit _ (Ok.some.2 (.inl hc))), fun h => absurd (by have := hc.1; omega) h⟩
      · simp only at h1 h2 ⊢
        subst h1; subst h2
        refine Ok.ite.2 ⟨fun h => absurd h (by simp), fun _ => Ok.gd.2 ⟨(by constructor <;> omega), Ok.some.2 (next _ ⟨k + 1, by simp, by omega, hE', fun u hu => ?_⟩ (by simp only; omega))⟩⟩
        rcases Nat.lt_or_ge u k with h | h
        · exact hmo u (hdn u h)
        · rw [show u = k by omega]; exact hd'
  · refine Ok.some.2 (exit _ ?_)
    unfold Z7a
    refine Ok.some.2 (.inr ⟨rfl, ?_⟩)
    obtain ⟨ρ, c, hρ⟩ := hE.di.rank
    refine ⟨ρ, fun j hj hfj => ?_⟩
    have e0 := he j hj false
    simp only [vtx, Bool.false_eq_true, if_false] at e0
    have hu : (n.Arcs.getD j default).fr.toNat < m := by omega
    exact ((hρ _ hu (hdn _ (by omega))).2 j hj hfj (by omega)).2
theorem FwithinP.vert {n : Net} {f : List Int} (h : FwithinP n f) : ∃ m : Nat, n.N = m ∧ 2 ≤ m ∧ m ≤ 4096 ∧ n.Arcs.length ≤ 16384 ∧ Z5e m n.Arcs ∧ f.length = n.Arcs.length := by
 have hz := Z2u h.1
 obtain ⟨m, hm⟩ : ∃ m : Nat, n.N = m := ⟨n.N.toNat, by omega⟩
 exact ⟨m, hm, by omega, by omega, by omega, Zdx (by rw [← hm]; exact hz.2.2.2.1), h.2.1⟩
theorem s_Find {n : Net} {f : List Int} (hl : lenok n.Arcs.length) : Ok (Z8j n f) (fun r => (¬ FwithinP n f ∧ r = ([], 20)) ∨ (FwithinP n f ∧ r.2 = 0 ∧ Z4q n f = some r.1 ∧ (Cyc n f r.1 ∨ (r.1 = [] ∧ Acyc n f)))) := by
 unfold Z8j
 refine Ok.bind.2 (Ok.mono (Zdt hl) fun b hb => Ok.ite.2 ⟨fun h => Ok.some.2 (.inl ⟨fun h2 => (by rw [hb.2 h2] at h; cases h), rfl⟩), fun h => ?_⟩)
 have hw : FwithinP n f := hb.1 (by cases b; exact absurd rfl h; rfl)
 obtain ⟨m, hm, -, hm2, hl2, he, hfl⟩ := hw.vert
 obtain ⟨c, hc, hc2⟩ := Zmu hm hm2 hl2 he hfl
 exact Ok.bind.2 (Z8v hc (Ok.some.2 (.inr ⟨hw, rfl, hc, hc2⟩)))
end
end Go.Acq
namespace Go.Acq
open Go
set_option linter.unusedSimpArgs false
set_option linter.unusedVariables false
def Zdy (al : List Arc) (f : List Int) (rem : Nat → Bool) (w : Nat) : Nat → Nat
  | 0 => 0
  | k + 1 => Zdy al f rem w k + (if 0 < f.getD k 0 ∧ (al.getD k default).to = (w : Int) ∧ rem k = false then 1 else 0)
theorem Zi5 {al : List Arc} {f : List Int} {rem : Nat → Bool} {w : Nat} : ∀ k, Zdy al f rem w k ≤ k
 | 0 => Nat.le_refl _
 | k + 1 => by have := Zi5 (al := al) (f := f) (rem := rem) (w := w) k; simp only [Zdy]; split <;> omega
theorem Zdk {al : List Arc} {f : List Int} {rem rem' : Nat → Bool} {w : Nat} : ∀ {K : Nat}, (∀ k, k < K → 0 < f.getD k 0 → rem' k = rem k) → Zdy al f rem' w K = Zdy al f rem w K
 | 0, _ => rfl
 | K + 1, h => by
  simp only [Zdy]
  rw [Zdk (K := K) fun k hk => h k (by omega)]
  by_cases hf : 0 < f.getD K 0
  · rw [h K (by omega) hf]
  · rw [if_neg (fun h => hf h.1), if_neg (fun h => hf h.1)]
theorem Zei {al : List Arc} {f : List Int} {rem rem' : Nat → Bool} {w k0 : Nat} : ∀ {K : Nat}, k0 < K → 0 < f.getD k0 0 → rem k0 = true → rem' k0 = false → (∀ k, k < K → k ≠ k0 → 0 < f.getD k 0 → rem' k = rem k) →
    Zdy al f rem' w K = Zdy al f rem w K + if (al.getD k0 default).to = (w : Int) then 1 else 0
  | 0, h, _, _, _, _ => by omega
  | K + 1, h, hf, h1, h2, h3 => by
    simp only [Zdy]
    by_cases e : k0 = K
    · subst e
      have e0 : (if 0 < f.getD k0 0 ∧ (al.getD k0 default).to = (w : Int) ∧ rem k0 = false then 1 else 0) = 0 := if_neg (fun h => (by rw [h1] at h; cases h.2.2))
      rw [Zdk (K := k0) (rem := rem) fun k hk => h3 k (by omega) (by omega), e0]
      by_cases hw : (al.getD k0 default).to = (w : Int)
      · rw [if_pos ⟨hf, hw, h2⟩, if_pos hw]
      · rw [if_neg (fun h => hw h.2.1), if_neg hw]
    · rw [Zei (K := K) (by omega) hf h1 h2 fun k hk => h3 k (by omega)]
      by_cases hfK : 0 < f.getD K 0
      · rw [h3 K (by omega) (fun h => e h.symm) hfK]; omega
      · have e1 : ∀ b : Bool, (if 0 < f.getD K 0 ∧ (al.getD K default).to = (w : Int) ∧ b = false then 1 else 0) = 0 := fun b => if_neg (fun h => hfK h.1)
        rw [e1, e1]; omega
theorem cntIn_zero {al : List Arc} {f : List Int} {rem : Nat → Bool} {w : Nat} : ∀ {K : Nat}, Zdy al f rem w K = 0 ↔ ∀ k, k < K → 0 < f.getD k 0 → (al.getD k default).to = (w : Int) → rem k = true
 | 0 => ⟨fun _ k hk => by omega, fun _ => rfl⟩
 | K + 1 => by
  have ih := cntIn_zero (al := al) (f := f) (rem := rem) (w := w) (K := K)
  simp only [Zdy]
  constructor
  ·
   intro h k hk hf ht
   by_cases e : k = K
   ·
    subst e
    cases hr : rem k with
    | true => rfl
    | false => rw [if_pos ⟨hf, ht, hr⟩] at h; omega
   · exact ih.1 (by omega) k (by omega) hf ht
  ·
   intro h
   rw [ih.2 fun k hk => h k (by omega), if_neg (fun g => by have := h K (by omega) g.1 g.2.1; rw [this] at g; cases g.2.2)]
theorem s_BinS {xs : List Int} {w : Int} (hl : xs.length ≤ 1000000000) : Ok (Z3a xs w) (fun r => 0 ≤ r.1 ∧ r.1 ≤ (xs.length : Int)) := by
 unfold Z3a
 refine Ok.bind.2 (Z76 (fun s => 0 ≤ s.1 ∧ s.1 ≤ s.2 ∧ s.2 ≤ (xs.length : Int)) (fun s => (s.2 - s.1).toNat) ⟨by simp, by simp, by simp⟩ (by unfold Z3f; simp only; omega) ?_)
 rintro ⟨i, j⟩ ⟨h1, h2, h3⟩ P next exit
 simp only at h1 h2 h3 next ⊢
 unfold Z2l
 have hless : ∀ x y : Int, ∃ b, Z7o x y = some b := fun x y => by
  unfold Z7o Z71
  simp [Option.bind]
 have hh : i < j → i ≤ Int.fdiv (i + j) (2 ^ 1) ∧ Int.fdiv (i + j) (2 ^ 1) < j := fun h => by
  rw [Int.fdiv_eq_ediv_of_nonneg _ (by omega)]
  omega
 refine Ok.ite.2 ⟨fun hx => ?_, fun hx => Ok.some.2 (exit _ ?_)⟩
 ·
  obtain ⟨g1, g2⟩ := hh hx
  obtain ⟨b, hb⟩ := hless (xs.getD (Int.fdiv (i + j) (2 ^ 1)).toNat 0) w
  refine Ok.gd.2 ⟨(by constructor <;> omega), Ok.gd.2 ⟨by constructor <;> omega, Ok.gd.2 ⟨(by constructor <;> omega), Ok.gd.2 ⟨(by constructor <;> omega), Ok.bind.2 (Z8v hb (Ok.ite.2 ⟨fun _ => Ok.gd.2 ⟨(by constructor <;> omega), Ok.some.2 (next _ ⟨by simp only; omega, by simp only; omega, h3⟩ (by simp only; omega))⟩, fun _ => Ok.some.2 (next _ ⟨h1, g1, by simp only; omega⟩ (by simp only; omega))⟩))⟩⟩⟩⟩
 ·
  unfold Z3l
  have e : i = j := by omega
  refine Ok.ite.2 ⟨fun hy => Ok.gd.2 ⟨(by constructor <;> omega), Ok.ite.2 ⟨fun _ => Ok.some.2 ⟨h1, by simp only; omega⟩, fun _ => Ok.gd.2 ⟨(by constructor <;> omega), ?_⟩⟩⟩, fun _ => Ok.some.2 ⟨h1, by simp only; omega⟩⟩
  unfold Z53
  refine Ok.bind.2 (Ok.some.2 (Ok.ite.2 ⟨fun h => absurd h (by simp), fun _ => Ok.some.2 ⟨h1, by simp only; omega⟩⟩))
section
variable {n : Net} {m : Nat} {f : List Int} {out : List (List Int)}
def CntP (n : Net) (m : Nat) (f : List Int) (left : List Int) (rem : Nat → Bool) : Prop := left.length = m ∧ ∀ w, w < m → left.getD w 0 = (Zdy n.Arcs f rem w n.Arcs.length : Nat)
theorem s_count (hm2 : m ≤ 4096) (hl : n.Arcs.length ≤ 16384) (he : Z5e m n.Arcs) (ho : OutIs n m f out) {A : List Int} {D O : List Bool} {W : List Int} :
    Ok (Z1t (fun s => Z4t n (CyclesSearch.mk n out A D O W) s.1 s.2) Z3f (List.replicate m (0 : Int), 0)) (fun left => CntP n m f left fun _ => false) := by
  have hoo := ho.1
  refine Z76 (fun s => ∃ x : Nat, s.2 = x ∧ x ≤ m ∧ ∃ rem, CntP n m f s.1 rem ∧ ∀ k, k < n.Arcs.length → 0 < f.getD k 0 → (rem k = false ↔ (n.Arcs.getD k default).fr < (x : Int))) (fun s => (m - s.2).toNat)
    ⟨0, rfl, by omega, fun _ => true, ⟨List.length_replicate, fun w hw => by rw [Z1w, cntIn_zero.2 (fun _ _ _ _ => rfl)]; rfl⟩, fun k hk _ => by
      have := he k hk false
      simp only [vtx, Bool.false_eq_true, if_false] at this
      exact ⟨fun h => (by cases h), fun h => by omega⟩⟩ (by unfold Z3f; simp only; omega) ?_
  rintro ⟨left, x'⟩ ⟨x, h1, hx, rem, ⟨hll, hc⟩, hrem⟩ P next exit
  simp only at h1 hll hc next ⊢
  subst h1
  unfold Z4t
  simp only [Int.toNat_natCast]
  refine Ok.ite.2 ⟨fun hlt => ?_, fun hge => Ok.some.2 (exit _ ⟨hll, fun w hw => ?_⟩)⟩
  · have hxm : x < m := by omega
    have hlo := ho.len hxm
    have hnd : (out.getD x []).Nodup := by rw [ho.2 x hxm]; exact Zed _
    refine Ok.gd.2 ⟨(by constructor <;> omega), Ok.bind.2 ?_⟩
    refine Z76 (fun s => ∃ q : Nat, s.2 = q ∧ q ≤ (out.getD x []).length ∧ ∃ rem, CntP n m f s.1 rem ∧ ∀ k, k < n.Arcs.length → 0 < f.getD k 0 → (rem k = false ↔ (n.Arcs.getD k default).fr < (x : Int) ∨ ∃ p, p < q ∧ (out.getD x []).getD p 0 = (k : Int))) (fun s => ((out.getD x []).length - s.2).toNat)
      ⟨0, rfl, by omega, rem, ⟨hll, hc⟩, fun k hk hf => ⟨fun h => .inl ((hrem k hk hf).1 h), fun h => by rcases h with h | ⟨p, hp, -⟩; (exact (hrem k hk hf).2 h); omega⟩⟩ (by unfold Z3f; simp only; omega) ?_
    rintro ⟨left, y⟩ ⟨q, h1, hq, rem, ⟨hll, hc⟩, hrem⟩ P' next' exit'
    simp only at h1 hll hc next' ⊢
    subst h1
    unfold Z5w
    simp only [Int.toNat_natCast]
    refine Ok.ite.2 ⟨fun hy => ?_, fun hy => Ok.some.2 (exit' _ ?_)⟩
    · have hql : q < (out.getD x []).length := by omega
      obtain ⟨k, hk, hkl, hf, hfr⟩ := ho.at hxm hql
      have e1 := he k hkl true
      simp only [vtx, if_true] at e1
      obtain ⟨w, hto⟩ : ∃ w : Nat, (n.Arcs.getD k default).to = (w : Int) := ⟨(n.Arcs.getD k default).to.toNat, by omega⟩
      have hw : w < m := by omega
      have hcw := hc w hw
      have hcl := Zi5 (al := n.Arcs) (f := f) (rem := rem) (w := w) n.Arcs.length
      have hrk : rem k = true := by
        cases h : rem k with
        | true => rfl
        | false =>
          rcases (hrem k hkl hf).1 h with h2 | ⟨p, hp, h2⟩
          · omega
          · have e : p = q := by
              have g1 : (out.getD x [])[p]'(by omega) = (out.getD x [])[q] := by
                rw [List.getD_eq_getElem?_getD, List.getElem?_eq_getElem (by omega)] at h2 hk
                exact h2.trans hk.symm
              exact (List.getElem_inj hnd).1 g1
            omega
      simp only [hk, hto, Int.toNat_natCast, hcw]
      refine Ok.gd.2 ⟨(by constructor <;> omega), Ok.gd.2 ⟨(by constructor <;> omega), Ok.gd.2 ⟨(by constructor <;> omega), Ok.gd.2 ⟨(by constructor <;> omega), Ok.gd.2 ⟨(by constructor <;> omega), Ok.gd.2 ⟨(by constructor <;> omega), Ok.some.2 (next' _ ⟨q + 1, by simp, by omega, fun j => if j = k then false else rem j, ⟨by simp only [List.length_set]; exact hll, fun u hu => ?_⟩, fun j hj hfj => ?_⟩ (by simp only; omega))⟩⟩⟩⟩⟩⟩
      · rw [Zei hkl hf hrk (if_pos rfl) (fun j _ hne _ => if_neg hne), hto]
        simp only [Zcf, hll]
        by_cases e : w = u
        · subst e; rw [if_pos ⟨rfl, hw⟩, if_pos rfl]; omega
        · rw [if_neg (fun h => e h.1), if_neg (by omega), hc u hu]; rfl
      · by_cases e : j = k
        · subst e
          simp only [if_true]
          exact ⟨fun _ => .inr ⟨q, by omega, hk⟩, fun _ => trivial⟩
        · simp only [if_neg e]
          rw [hrem j hj hfj]
          constructor
          · rintro (h | ⟨p, hp, h⟩)
            · exact .inl h
            · exact .inr ⟨p, by omega, h⟩
          · rintro (h | ⟨p, hp, h⟩)
            · exact .inl h
            · rcases Nat.lt_or_ge p q with h2 | h2
              · exact .inr ⟨p, h2, h⟩
              · rw [show p = q by omega, hk] at h; exact absurd (Int.natCast_inj.1 h).symm e
    · unfold Z7f
      refine Ok.gd.2 ⟨(by constructor <;> omega), Ok.some.2 (next _ ⟨x + 1, by simp, by omega, rem, ⟨hll, hc⟩, fun k hk hf => ?_⟩ (by simp only; omega))⟩
      rw [hrem k hk hf]
      constructor
      · rintro (h | ⟨p, hp, h⟩)
        · omega
        · obtain ⟨k', hk', -, -, hfr⟩ := ho.at hxm (q := p) (by omega)
          rw [hk'] at h
          rw [← Int.natCast_inj.1 h, hfr]; omega
      · intro h
        by_cases e : (n.Arcs.getD k default).fr = (x : Int)
        · obtain ⟨p, hp, h2⟩ := ho.in hxm hk hf e
          exact .inr ⟨p, by omega, h2⟩
        · exact .inl (by omega)
  · rw [hc w hw, Zdk (rem := fun _ => false) (rem' := rem) fun k hk hf => (hrem k hk hf).2 (by
      have := he k hk false
      simp only [vtx, Bool.false_eq_true, if_false] at this
      omega)]
theorem s_free {left : List Int} (hm2 : m ≤ 4096) (hll : left.length = m) :
    Ok (Z1t (fun s => Z4s left s.1 s.2) Z3f ([], 0)) (fun fr => fr = ((List.range m).filter fun v => left.getD v 0 = 0).map fun v : Nat => (v : Int)) := by
  refine Z76 (fun s => ∃ x : Nat, s.2 = x ∧ x ≤ m ∧ s.1 = ((List.range x).filter fun v => left.getD v 0 = 0).map fun v : Nat => (v : Int)) (fun s => (m - s.2).toNat) ⟨0, rfl, by omega, rfl⟩ (by unfold Z3f; simp only; omega) ?_
  rintro ⟨fr, x'⟩ ⟨x, h1, hx, h2⟩ P next exit
  simp only at h1 h2 next ⊢
  subst h1
  have hfl : fr.length ≤ x := by rw [h2, List.length_map]; have := List.length_filter_le (fun v => decide (left.getD v 0 = 0)) (List.range x); rw [List.length_range] at this; exact this
  unfold Z4s
  simp only [Int.toNat_natCast]
  refine Ok.ite.2 ⟨fun hlt => Ok.gd.2 ⟨(by constructor <;> omega), Ok.ite.2 ⟨fun h0 => Ok.gd.2 ⟨by rw [List.length_append]; simp only [List.length_singleton]; constructor <;> omega, Ok.gd.2 ⟨(by constructor <;> omega), Ok.some.2 (next _ ⟨x + 1, by simp, by omega, ?_⟩ (by simp only; omega))⟩⟩, fun h0 => Ok.gd.2 ⟨(by constructor <;> omega), Ok.some.2 (next _ ⟨x + 1, by simp, by omega, ?_⟩ (by simp only; omega))⟩⟩⟩, fun hge => Ok.some.2 (exit _ ?_)⟩
  · rw [List.range_succ, List.filter_append, List.map_append, ← h2, List.filter_cons_of_pos (by simpa using h0)]; rfl
  · rw [List.range_succ, List.filter_append, List.map_append, ← h2, List.filter_cons_of_neg (by simpa using h0)]; simp
  · rw [h2, show x = m by omega]
end
end Go.Acq
namespace Go.Acq
open Go
set_option linter.unusedSimpArgs false
set_option linter.unusedVariables false
section
variable {n : Net} {m : Nat} {f : List Int} {out : List (List Int)}
def OrdP (n : Net) (f : List Int) (o : List Int) : Prop := ∀ i, i < o.length → ∀ k, k < n.Arcs.length → 0 < f.getD k 0 → (n.Arcs.getD k default).to = o.getD i 0 → ∃ j, j < i ∧ o.getD j 0 = (n.Arcs.getD k default).fr
structure RowP (m : Nat) (o : List Int) : Prop where
  nd : o.Nodup
  lt : ∀ x, x ∈ o → ∃ v : Nat, x = v ∧ v < m
theorem RowP.len {o : List Int} (h : RowP m o) : o.length ≤ m := by
 have := List.Nodup.length_le_of_subset h.nd (l₂ := (List.range m).map fun v : Nat => (v : Int)) (fun x hx => by
  obtain ⟨v, rfl, hv⟩ := h.lt x hx
  exact List.mem_map.2 ⟨v, List.mem_range.2 hv, rfl⟩)
 rw [List.length_map, List.length_range] at this
 exact this
theorem RowP.perm {o o' : List Int} (h : RowP m o) (hp : List.Perm o o') : RowP m o' := ⟨(List.Perm.nodup_iff hp).1 h.nd, fun x hx => h.lt x ((List.Perm.mem_iff hp).2 hx)⟩
theorem RowP.left {o o' : List Int} (h : RowP m (o ++ o')) : RowP m o := ⟨(List.nodup_append.1 h.nd).1, fun x hx => h.lt x (List.mem_append_left _ hx)⟩
structure KP (n : Net) (m : Nat) (f : List Int) (out : List (List Int)) (o left fr : List Int) (rem : Nat → Bool) : Prop where
  cnt : CntP n m f left rem
  row : RowP m (o ++ fr)
  zero : ∀ v : Nat, v < m → ((v : Int) ∈ o ++ fr ↔ left.getD v 0 = 0)
  ord : OrdP n f o
  none : (∀ k, k < n.Arcs.length → ¬ 0 < f.getD k 0) → o ++ fr = (List.range m).map fun v : Nat => (v : Int)
theorem ins_perm (fr : List Int) (i : Nat) (w : Int) : List.Perm (fr.take i ++ [w] ++ fr.drop i) (w :: fr) := by
 have h1 : List.Perm (fr.take i ++ [w] ++ fr.drop i) ([w] ++ fr.take i ++ fr.drop i) := List.Perm.append_right _ List.perm_append_comm
 have e : [w] ++ fr.take i ++ fr.drop i = w :: fr := by rw [List.append_assoc, List.take_append_drop]; rfl
 rw [e] at h1
 exact h1
theorem KP.start (ho : OutIs n m f out) {left : List Int} (h : CntP n m f left fun _ => false) : KP n m f out [] left (((List.range m).filter fun v => left.getD v 0 = 0).map fun v : Nat => (v : Int)) fun _ => false := by
 refine ⟨h, ⟨?_, fun x hx => ?_⟩, fun v hv => ?_, fun i hi => by simp at hi, fun hn => ?_⟩
 ·
  rw [List.nil_append]
  refine List.pairwise_map.2 (List.Pairwise.imp (fun {a b} hab => ?_) (List.Pairwise.filter _ List.nodup_range))
  exact fun e => hab (Int.natCast_inj.1 e)
 ·
  rw [List.nil_append] at hx
  obtain ⟨v, hv, rfl⟩ := List.mem_map.1 hx
  exact ⟨v, rfl, List.mem_range.1 (List.mem_filter.1 hv).1⟩
 ·
  rw [List.nil_append, List.mem_map]
  constructor
  ·
   rintro ⟨u, hu, e⟩
   rw [← Int.natCast_inj.1 e]
   simpa using (List.mem_filter.1 hu).2
  ·
   intro h0
   exact ⟨v, List.mem_filter.2 ⟨List.mem_range.2 hv, by simpa using h0⟩, rfl⟩
 ·
  rw [List.nil_append, List.filter_eq_self.2]
  intro v hv
  have hv := List.mem_range.1 hv
  rw [decide_eq_true_eq, h.2 v hv, cntIn_zero.2 (fun k hk hf _ => absurd hf (hn k hk))]; rfl
theorem s_round (hm2 : m ≤ 4096) (hl : n.Arcs.length ≤ 16384) (he : Z5e m n.Arcs) (ho : OutIs n m f out) {A : List Int} {D O : List Bool} {W : List Int} {o left fr : List Int} {rem : Nat → Bool} (h : KP n m f out o left fr rem) (hr : ∀ k, k < n.Arcs.length → 0 < f.getD k 0 → (rem k = true ↔ (n.Arcs.getD k default).fr ∈ o)) {v : Nat} (hfr : fr.getD 0 0 = (v : Int)) (hf0 : 0 < fr.length) :
    Ok (Z1t (fun s => Z4r n (CyclesSearch.mk n out A D O W) o fr s.1 s.2.1 s.2.2) Z3f (left, fr.drop 1, 0)) (fun r => r.2.1 = o ++ [(v : Int)] ∧ ∃ rem', KP n m f out (o ++ [(v : Int)]) r.1 r.2.2 rem' ∧ ∀ k, k < n.Arcs.length → 0 < f.getD k 0 → (rem' k = true ↔ (n.Arcs.getD k default).fr ∈ o ++ [(v : Int)])) := by
  obtain ⟨fr', rfl⟩ : ∃ fr', fr = (v : Int) :: fr' := by
    cases fr with
    | nil => simp at hf0
    | cons x fr' => simp only [List.getD_cons_zero] at hfr; subst hfr; exact ⟨fr', rfl⟩
  have happ : o ++ (v : Int) :: fr' = (o ++ [(v : Int)]) ++ fr' := by simp
  obtain ⟨v', e, hvm⟩ := h.row.lt (v : Int) (by simp)
  have e := Int.natCast_inj.1 e
  subst e
  have hvo : (v : Int) ∉ o := fun hm => by
    have := (List.nodup_append.1 h.row.nd).2.2 _ hm _ (.head _)
    exact this rfl
  have hlv : left.getD v 0 = 0 := (h.zero v hvm).1 (by simp)
  have hnd : (out.getD v []).Nodup := by rw [ho.2 v hvm]; exact Zed _
  have hlo := ho.len hvm
  have hord : OrdP n f (o ++ [(v : Int)]) := by
    intro i hi k hk hf hto
    rw [List.length_append, List.length_singleton] at hi
    by_cases e : i < o.length
    · rw [appL e] at hto
      obtain ⟨j, hj, e2⟩ := h.ord i e k hk hf hto
      exact ⟨j, hj, by rw [appL (by omega)]; exact e2⟩
    · rw [appR (by omega), show i - o.length = 0 by omega] at hto
      have h0 : Zdy n.Arcs f rem v n.Arcs.length = 0 := by
        have := h.cnt.2 v hvm
        omega
      have := (hr k hk hf).1 (cntIn_zero.1 h0 k hk hf hto)
      obtain ⟨j, hj, e2⟩ := List.getElem_of_mem this
      exact ⟨j, by omega, by rw [appL hj, List.getD_eq_getElem?_getD, List.getElem?_eq_getElem hj, e2]; rfl⟩
  rw [List.drop_succ_cons, List.drop_zero]
  refine Z76 (fun s => ∃ q : Nat, s.2.2 = q ∧ q ≤ (out.getD v []).length ∧ ∃ rem, KP n m f out (o ++ [(v : Int)]) s.1 s.2.1 rem ∧ ∀ k, k < n.Arcs.length → 0 < f.getD k 0 → (rem k = true ↔ (n.Arcs.getD k default).fr ∈ o ∨ ∃ p, p < q ∧ (out.getD v []).getD p 0 = (k : Int))) (fun s => ((out.getD v []).length - s.2.2).toNat)
    ⟨0, rfl, by omega, rem, ⟨h.cnt, by rw [← happ]; exact h.row, fun u hu => by rw [← happ]; exact h.zero u hu, hord, fun hn => by rw [← happ]; exact h.none hn⟩, fun k hk hf => by
      rw [hr k hk hf]
      exact ⟨fun h => .inl h, fun h => by rcases h with h | ⟨p, hp, -⟩; (exact h); omega⟩⟩ (by unfold Z3f; simp only; omega) ?_
  rintro ⟨left, fr, y⟩ ⟨q, h1, hq, rem, hK, hrem⟩ P next exit
  simp only at h1 hK next ⊢
  subst h1
  have hoo := ho.1
  have hll := hK.cnt.1
  have hrl := hK.row.len
  rw [List.length_append, List.length_append] at hrl
  unfold Z4r
  simp only [List.getD_cons_zero, Int.toNat_natCast, show (0 : Int).toNat = 0 from rfl]
  refine Ok.ite.2 ⟨fun hy => ?_, fun hy => Ok.some.2 (exit _ ⟨rfl, rem, hK, fun k hk hf => ?_⟩)⟩
  · have hql : q < (out.getD v []).length := by omega
    obtain ⟨k, hk, hkl, hf, hfk⟩ := ho.at hvm hql
    have e1 := he k hkl true
    simp only [vtx, if_true] at e1
    obtain ⟨w, hto⟩ : ∃ w : Nat, (n.Arcs.getD k default).to = (w : Int) := ⟨(n.Arcs.getD k default).to.toNat, by omega⟩
    have hw : w < m := by omega
    have hcw := hK.cnt.2 w hw
    have hcl := Zi5 (al := n.Arcs) (f := f) (rem := rem) (w := w) n.Arcs.length
    have hrk : rem k = false := by
      rw [Bool.eq_false_iff]
      intro h2
      rcases (hrem k hkl hf).1 h2 with h3 | ⟨p, hp, h3⟩
      · rw [hfk] at h3; exact hvo h3
      · have e : p = q := by
          have g1 : (out.getD v [])[p]'(by omega) = (out.getD v [])[q] := by
            rw [List.getD_eq_getElem?_getD, List.getElem?_eq_getElem (by omega)] at h3 hk
            exact h3.trans hk.symm
          exact (List.getElem_inj hnd).1 g1
        omega
    have hflip := fun u => Zei (al := n.Arcs) (f := f) (rem := fun j => if j = k then true else rem j) (rem' := rem) (w := u) (k0 := k) (K := n.Arcs.length) hkl hf (if_pos rfl) hrk (fun j _ hne _ => (if_neg hne).symm)
    have hfw := hflip w
    rw [if_pos hto] at hfw
    have hwn : (w : Int) ∉ (o ++ [(v : Int)]) ++ fr := fun hm => by
      have := (hK.zero w hw).1 hm
      omega
    have hcnt' : CntP n m f (left.set w (left.getD w 0 - 1)) (fun j => if j = k then true else rem j) := ⟨by rw [List.length_set]; exact hll, fun u hu => by
      have := hflip u
      have h2 := hK.cnt.2 u hu
      rw [hto] at this
      rw [Zcf, hll]
      by_cases e : w = u
      · subst e; rw [if_pos ⟨rfl, hw⟩]; omega
      · rw [if_neg (fun h => e h.1)]; rw [if_neg (by omega)] at this; omega⟩
    have hrem' : ∀ j, j < n.Arcs.length → 0 < f.getD j 0 → ((if j = k then true else rem j) = true ↔ (n.Arcs.getD j default).fr ∈ o ∨ ∃ p, p < q + 1 ∧ (out.getD v []).getD p 0 = (j : Int)) := by
      intro j hj hfj
      by_cases e : j = k
      · subst e
        rw [if_pos rfl]
        exact ⟨fun _ => .inr ⟨q, by omega, hk⟩, fun _ => rfl⟩
      · rw [if_neg e, hrem j hj hfj]
        constructor
        · rintro (h | ⟨p, hp, h⟩)
          · exact .inl h
          · exact .inr ⟨p, by omega, h⟩
        · rintro (h | ⟨p, hp, h⟩)
          · exact .inl h
          · rcases Nat.lt_or_ge p q with h2 | h2
            · exact .inr ⟨p, h2, h⟩
            · rw [show p = q by omega, hk] at h; exact absurd (Int.natCast_inj.1 h).symm e
    have hnone : ¬ ∀ k, k < n.Arcs.length → ¬ 0 < f.getD k 0 := fun h => h k hkl hf
    simp only [hk, hto, Int.toNat_natCast, List.length_set, Z7l (show w < left.length by omega)]
    refine Ok.gd.2 ⟨(by constructor <;> omega), Ok.gd.2 ⟨(by constructor <;> omega), Ok.gd.2 ⟨(by constructor <;> omega), Ok.gd.2 ⟨by rw [hcw]; constructor <;> omega, Ok.gd.2 ⟨(by constructor <;> omega), Ok.gd.2 ⟨(by constructor <;> omega), Ok.ite.2 ⟨fun h0 => ?_, fun h0 => ?_⟩⟩⟩⟩⟩⟩⟩
    · refine Ok.bind.2 (Ok.mono (s_BinS (by omega)) ?_)
      rintro ⟨i, b⟩ ⟨hi0, hi1⟩
      simp only at hi0 hi1 ⊢
      unfold Z65
      refine Ok.bind.2 (Ok.gd.2 ⟨⟨hi0, hi1, by simp, by rw [List.length_append]; simp only [List.length_singleton]; constructor <;> omega⟩, Ok.some.2 ?_⟩)
      have hp := ins_perm fr i.toNat (w : Int)
      have hp2 : List.Perm ((w : Int) :: ((o ++ [(v : Int)]) ++ fr)) ((o ++ [(v : Int)]) ++ (fr.take i.toNat ++ [(w : Int)] ++ fr.drop i.toNat)) :=
        List.perm_middle.symm.trans (List.Perm.append_left _ hp.symm)
      have hrow : RowP m ((w : Int) :: ((o ++ [(v : Int)]) ++ fr)) := ⟨List.nodup_cons.2 ⟨hwn, hK.row.nd⟩, fun x hx => by
        rcases List.mem_cons.1 hx with rfl | hx
        · exact ⟨w, rfl, hw⟩
        · exact hK.row.lt x hx⟩
      refine Ok.gd.2 ⟨(by constructor <;> omega), Ok.some.2 (next _ ⟨q + 1, by simp, by omega, _, ⟨hcnt', hrow.perm hp2, fun u hu => ?_, hord, fun hn => absurd hn hnone⟩, hrem'⟩ (by simp only; omega))⟩
      rw [← List.Perm.mem_iff hp2, List.mem_cons, hK.zero u hu, Zcf, hll]
      by_cases e : w = u
      · subst e
        rw [if_pos ⟨rfl, hw⟩]
        exact ⟨fun _ => h0, fun _ => .inl rfl⟩
      · rw [if_neg (fun h => e h.1)]
        exact ⟨fun h => by rcases h with h | h; (exact absurd (Int.natCast_inj.1 h).symm e); exact h, fun h => .inr h⟩
    · refine Ok.gd.2 ⟨(by constructor <;> omega), Ok.some.2 (next _ ⟨q + 1, by simp, by omega, _, ⟨hcnt', hK.row, fun u hu => ?_, hord, fun hn => absurd hn hnone⟩, hrem'⟩ (by simp only; omega))⟩
      rw [Zcf, hll]
      by_cases e : w = u
      · subst e
        rw [if_pos ⟨rfl, hw⟩]
        exact ⟨fun h => absurd h hwn, fun h => absurd h h0⟩
      · rw [if_neg (fun h => e h.1)]; exact hK.zero u hu
  · rw [hrem k hk hf, List.mem_append, List.mem_singleton]
    constructor
    · rintro (h | ⟨p, hp, h⟩)
      · exact .inl h
      · obtain ⟨k', hk', -, -, hfk⟩ := ho.at hvm (q := p) (by omega)
        rw [hk'] at h
        rw [← Int.natCast_inj.1 h]; exact .inr hfk
    · rintro (h | h)
      · exact .inl h
      · obtain ⟨p, hp, h2⟩ := ho.in hvm hk hf h
        exact .inr ⟨p, by omega, h2⟩
def Topo (n : Net) (m : Nat) (f : List Int) (o : List Int) : Prop := o.length = m ∧ RowP m o ∧ OrdP n f o
theorem Topo.mem {o : List Int} (h : Topo n m f o) {v : Nat} (hv : v < m) : (v : Int) ∈ o := by
 apply Classical.byContradiction
 intro hn
 have : RowP m ((v : Int) :: o) := ⟨List.nodup_cons.2 ⟨hn, h.2.1.nd⟩, fun x hx => by
  rcases List.mem_cons.1 hx with rfl | hx
  · exact ⟨v, rfl, hv⟩
  · exact h.2.1.lt x hx⟩
 have := this.len
 rw [List.length_cons, h.1] at this
 omega
theorem Topo.acyc {o : List Int} (he : Z5e m n.Arcs) (h : Topo n m f o) : Acyc n f := by
 refine ⟨fun v => m - o.idxOf (v : Int), fun k hk hf => ?_⟩
 have e0 := he k hk false
 have e1 := he k hk true
 simp only [vtx, Bool.false_eq_true, if_false, if_true] at e0 e1
 have hto := h.mem (v := (n.Arcs.getD k default).to.toNat) (by omega)
 rw [Int.toNat_of_nonneg e1.1] at hto
 show m - o.idxOf (((n.Arcs.getD k default).to.toNat : Nat) : Int) < m - o.idxOf (((n.Arcs.getD k default).fr.toNat : Nat) : Int)
 rw [Int.toNat_of_nonneg e1.1, Int.toNat_of_nonneg e0.1]
 have hi := List.idxOf_lt_length_of_mem hto
 have hg : o.getD (o.idxOf (n.Arcs.getD k default).to) 0 = (n.Arcs.getD k default).to := by
  rw [List.getD_eq_getElem?_getD, List.getElem?_eq_getElem hi]
  exact List.getElem_idxOf hi
 obtain ⟨j, hj, e⟩ := h.2.2 _ hi k hk hf hg.symm
 have hjl : j < o.length := by omega
 have hle : o.idxOf (n.Arcs.getD k default).fr ≤ j := by
  rw [List.getD_eq_getElem?_getD, List.getElem?_eq_getElem hjl] at e
  have e : o[j] = (n.Arcs.getD k default).fr := e
  have hm : (n.Arcs.getD k default).fr ∈ o := e ▸ List.getElem_mem hjl
  have h2 := List.getElem_idxOf (List.idxOf_lt_length_of_mem hm)
  have := (List.getElem_inj h.2.1.nd (i := o.idxOf (n.Arcs.getD k default).fr) (j := j)).1 (h2.trans e.symm)
  omega
 have := h.1
 omega
theorem Zn1 (ρ : Nat → Nat) : ∀ m : Nat, ∃ B, ∀ v, v < m → ρ v ≤ B
 | 0 => ⟨0, fun v hv => by omega⟩
 | m + 1 => by
  obtain ⟨B, hB⟩ := Zn1 ρ m
  refine ⟨max B (ρ m), fun v hv => ?_⟩
  rcases Nat.lt_or_ge v m with h | h
  · have := hB v h; omega
  · rw [show v = m by omega]; omega
theorem s_Order (hl : lenok n.Arcs.length) : Ok (Z7n n f) (fun r => (¬ FwithinP n f ∧ r = ([], false)) ∨
    (FwithinP n f ∧ (r.2 = true → Topo n n.N.toNat f r.1) ∧ (r.2 = false → r.1 = [] ∧ ¬ Acyc n f) ∧ ((∀ k, k < n.Arcs.length → ¬ 0 < f.getD k 0) → r = ((List.range n.N.toNat).map fun v : Nat => (v : Int), true)))) := by
  unfold Z7n
  refine Ok.bind.2 (Ok.mono (Zdt hl) fun b hb => Ok.ite.2 ⟨fun h => Ok.some.2 (.inl ⟨fun h2 => (by rw [hb.2 h2] at h; cases h), rfl⟩), fun h => ?_⟩)
  have hw : FwithinP n f := hb.1 (by cases b; exact absurd rfl h; rfl)
  obtain ⟨m, hm, -, hm2, hl2, he, hfl⟩ := hw.vert
  refine Ok.bind.2 (Ok.mono (Zmw hm hm2 he hl2 hfl) ?_)
  rintro s ⟨out, rfl, ho⟩
  rw [hm, Int.toNat_natCast]
  refine Ok.gd.2 ⟨(by constructor <;> omega), Ok.bind.2 (Ok.mono (s_count hm2 hl2 he ho) fun left hc => ?_)⟩
  unfold Z7e
  refine Ok.bind.2 (Ok.mono (s_free hm2 hc.1) fun fr hfr => ?_)
  unfold Z7d
  have hst := KP.start ho hc
  rw [← hfr] at hst
  refine Ok.bind.2 (Z76 (fun s => ∃ rem, KP n m f out s.2.1 s.1 s.2.2 rem ∧ ∀ k, k < n.Arcs.length → 0 < f.getD k 0 → (rem k = true ↔ (n.Arcs.getD k default).fr ∈ s.2.1)) (fun s => m - s.2.1.length) ⟨_, hst, fun k hk hf => ⟨fun h => (by cases h), fun h => (by cases h)⟩⟩ (by unfold Z3f; simp only; omega) ?_)
  rintro ⟨left, o, fr⟩ ⟨rem, hK, hr⟩ P next exit
  simp only at hK hr next ⊢
  have hrl := hK.row.len
  rw [List.length_append] at hrl
  have hoo := ho.1
  unfold Z5v
  refine Ok.ite.2 ⟨fun hf => ?_, fun hf => Ok.some.2 (exit _ ?_)⟩
  · have hf0 : 0 < fr.length := by omega
    obtain ⟨v, hv, hvm⟩ := hK.row.lt (fr.getD 0 0) (List.mem_append_right _ (Z5d hf0 0))
    simp only [show (0 : Int).toNat = 0 from rfl, show (1 : Int).toNat = 1 from rfl, hv]
    refine Ok.gd.2 ⟨(by constructor <;> omega), Ok.gd.2 ⟨(by constructor <;> omega), Ok.gd.2 ⟨by rw [List.length_append]; simp only [List.length_singleton]; constructor <;> omega, Ok.gd.2 ⟨(by constructor <;> omega), Ok.bind.2 (Ok.mono (s_round hm2 hl2 he ho hK hr hv hf0) ?_)⟩⟩⟩⟩
    rintro ⟨left', o', fr'⟩ ⟨h1, rem', hK', hr'⟩
    simp only at h1 hK' ⊢
    subst h1
    exact Ok.some.2 (next _ ⟨rem', hK', hr'⟩ (by simp only [List.length_append, List.length_singleton]; omega))
  · have hfn : fr = [] := List.eq_nil_of_length_eq_zero (by omega)
    subst hfn
    have hrow := hK.row
    have hzero := hK.zero
    have hnone := hK.none
    rw [List.append_nil] at hrow hnone
    simp only [List.append_nil] at hzero
    unfold Z7c
    refine Ok.ite.2 ⟨fun hlt => Ok.some.2 (.inr ⟨hw, fun h => (by cases h), fun _ => ⟨rfl, ?_⟩, fun hn => ?_⟩), fun hge => Ok.some.2 (.inr ⟨hw, fun _ => ⟨by show o.length = m; omega, hrow, hK.ord⟩, fun h => (by cases h), fun hn => ?_⟩)⟩
    · rintro ⟨ρ, hρ⟩
      obtain ⟨B, hB⟩ := Zn1 ρ m
      have key : ∀ N, ∃ v, v < m ∧ (v : Int) ∉ o ∧ N ≤ ρ v := by
        intro N
        induction N with
        | zero =>
          apply Classical.byContradiction
          intro hno
          have : RowP m ((List.range m).map fun v : Nat => (v : Int)) := ⟨List.pairwise_map.2 (List.Pairwise.imp (fun {a b} hab e => hab (Int.natCast_inj.1 e)) List.nodup_range), fun x hx => by
            obtain ⟨v, hv, rfl⟩ := List.mem_map.1 hx
            exact ⟨v, rfl, List.mem_range.1 hv⟩⟩
          have := List.Nodup.length_le_of_subset this.nd (l₂ := o) (fun x hx => by
            obtain ⟨v, hv, rfl⟩ := List.mem_map.1 hx
            exact Classical.byContradiction fun h => hno ⟨v, List.mem_range.1 hv, h, Nat.zero_le _⟩)
          rw [List.length_map, List.length_range] at this
          omega
        | succ N ih =>
          obtain ⟨v, hv, hvo, hN⟩ := ih
          have h0 : ¬ left.getD v 0 = 0 := fun h => hvo ((hzero v hv).2 h)
          have hc := hK.cnt.2 v hv
          have h1 : ¬ Zdy n.Arcs f rem v n.Arcs.length = 0 := by omega
          have h2 : ¬ ∀ k, k < n.Arcs.length → 0 < f.getD k 0 → (n.Arcs.getD k default).to = (v : Int) → rem k = true := fun h => h1 (cntIn_zero.2 h)
          obtain ⟨k, h3⟩ := Classical.not_forall.1 h2
          simp only [Classical.not_imp] at h3
          obtain ⟨hk, hfk, hto, hrk⟩ := h3
          have e0 := he k hk false
          simp only [vtx, Bool.false_eq_true, if_false] at e0
          have := hρ k hk hfk
          rw [hto, Int.toNat_natCast] at this
          refine ⟨(n.Arcs.getD k default).fr.toNat, by omega, ?_, by omega⟩
          rw [Int.toNat_of_nonneg e0.1]
          exact fun hm => hrk ((hr k hk hfk).2 hm)
      obtain ⟨v, hv, -, hN⟩ := key (B + 1)
      have := hB v hv
      omega
    · have := hnone hn
      rw [this, List.length_map, List.length_range] at hlt
      omega
    · rw [hnone hn]
end
end Go.Acq
namespace Go.Acq
open Go
set_option linter.unusedSimpArgs false
set_option linter.unusedVariables false
def Zkg (f : List Int) : Nat → Nat
  | 0 => 0
  | k + 1 => Zkg f k + (if 0 < f.getD k 0 then 1 else 0)
theorem Zn3 (f : List Int) : ∀ k, Zkg f k ≤ k
 | 0 => Nat.le_refl _
 | k + 1 => by have := Zn3 f k; simp only [Zkg]; split <;> omega
theorem Zip {f g : List Int} : ∀ {k : Nat}, (∀ i, i < k → g.getD i 0 ≤ f.getD i 0) → Zkg g k ≤ Zkg f k
 | 0, _ => Nat.le_refl _
 | k + 1, h => by
  have := Zip (k := k) fun i hi => h i (by omega)
  have := h k (by omega)
  simp only [Zkg]; split <;> split <;> omega
theorem Zn2 {f g : List Int} {a : Nat} : ∀ {k : Nat}, (∀ i, i < k → g.getD i 0 ≤ f.getD i 0) → a < k → 0 < f.getD a 0 → g.getD a 0 ≤ 0 → Zkg g k < Zkg f k
 | 0, _, h, _, _ => by omega
 | k + 1, h, ha, hf, hg => by
  by_cases e : a = k
  ·
   subst e
   have := Zip (k := a) fun i hi => h i (by omega)
   simp only [Zkg]
   rw [if_neg (show ¬ 0 < g.getD a 0 by omega), if_pos hf]; omega
  ·
   have := Zn2 (k := k) (fun i hi => h i (by omega)) (by omega) hf hg
   have := h k (by omega)
   simp only [Zkg]; split <;> split <;> omega
theorem Zk0 {al : List Arc} {f : List Int} {i : Nat} {y : Int} (hi : i < f.length) (v : Int) : ∀ k, ex al (f.set i y) v k = ex al f v k + if i < k then ((if (al.getD i default).to = v then y - f.getD i 0 else 0) - (if (al.getD i default).fr = v then y - f.getD i 0 else 0)) else 0
 | 0 => by simp [ex]
 | k + 1 => by
  have ih := Zk0 (al := al) hi v (y := y) k
  simp only [ex]
  rw [ih]
  by_cases e : i = k
  ·
   subst e
   rw [if_neg (show ¬ i < i by omega), if_pos (show i < i + 1 by omega), Z7l hi]
   split <;> split <;> omega
  ·
   rw [Z4b e]
   by_cases e2 : i < k
   · rw [if_pos e2, if_pos (show i < k + 1 by omega)]; omega
   · rw [if_neg e2, if_neg (show ¬ i < k + 1 by omega)]; omega
structure Canc (n : Net) (f g : List Int) : Prop where
  len : g.length = n.Arcs.length
  le : ∀ i, i < n.Arcs.length → 0 ≤ g.getD i 0 ∧ g.getD i 0 ≤ f.getD i 0
  ex : ∀ v, ex n.Arcs g v n.Arcs.length = ex n.Arcs f v n.Arcs.length
  all : ∀ a, a < n.Arcs.length → (∀ f' c, (∀ i, i < n.Arcs.length → f'.getD i 0 ≤ f.getD i 0) → Cyc n f' c → ∃ j, j < c.length ∧ c.getD j 0 = (a : Int)) → ∀ b, b < n.Arcs.length → f.getD b 0 - g.getD b 0 ≤ f.getD a 0 - g.getD a 0
theorem Canc.refl {n : Net} {f : List Int} (hl : f.length = n.Arcs.length) (h : ∀ i, i < n.Arcs.length → 0 ≤ f.getD i 0) : Canc n f f := ⟨hl, fun i hi => ⟨h i hi, Int.le_refl _⟩, fun _ => rfl, fun a _ _ b _ => by omega⟩
theorem Canc.trans {n : Net} {f g h : List Int} (h1 : Canc n f g) (h2 : Canc n g h) : Canc n f h :=
 ⟨h2.len, fun i hi => by have := h1.le i hi; have := h2.le i hi; omega, fun v => (h2.ex v).trans (h1.ex v), fun a ha hc b hb => by
  have e1 := h1.all a ha hc b hb
  have e2 := h2.all a ha (fun f' c hf' hcy => hc f' c (fun i hi => by have := hf' i hi; have := h1.le i hi; omega) hcy) b hb
  omega⟩
theorem Canc.within {n : Net} {f g : List Int} (h : Canc n f g) (hw : FwithinP n f) : FwithinP n g := ⟨hw.1, h.len, fun i hi => by have := h.le i hi; have := hw.2.2 i hi; omega⟩
section
variable {n : Net} {f c : List Int}
theorem s_least (hc : Cyc n f c) (hf : f.length = n.Arcs.length) (hl : n.Arcs.length ≤ 16384) (hcl : c.length ≤ n.Arcs.length) :
    Ok (Z1t (fun s => Z4f f c s.1 s.2) Z3f (f.getD (c.getD 0 0).toNat 0, 0)) (fun d => (∀ j, j < c.length → d ≤ f.getD (c.getD j 0).toNat 0) ∧ ∃ j, j < c.length ∧ d = f.getD (c.getD j 0).toNat 0) := by
  refine Z76 (fun s => ∃ j : Nat, s.2 = j ∧ j ≤ c.length ∧ (∀ i, i < j → s.1 ≤ f.getD (c.getD i 0).toNat 0) ∧ ∃ i, i < c.length ∧ s.1 = f.getD (c.getD i 0).toNat 0) (fun s => (c.length - s.2).toNat) ⟨0, rfl, by omega, fun i hi => by omega, 0, hc.1, rfl⟩ (by unfold Z3f; simp only; omega) ?_
  rintro ⟨d, x⟩ ⟨j, h1, hj, h2, h3⟩ P next exit
  simp only at h1 h2 h3 next ⊢
  subst h1
  unfold Z4f
  simp only [Int.toNat_natCast]
  refine Ok.ite.2 ⟨fun hx => ?_, fun hx => Ok.some.2 (exit _ ⟨fun i hi => h2 i (by omega), h3⟩)⟩
  obtain ⟨k, hk, hkl, hfk, -⟩ := hc.2.1 j (by omega)
  simp only [hk]
  refine Ok.gd.2 ⟨(by constructor <;> omega), Ok.gd.2 ⟨(by constructor <;> omega), Ok.gd.2 ⟨(by constructor <;> omega), Ok.some.2 (next _ ⟨j + 1, by simp, by omega, fun i hi => ?_, ?_⟩ (by simp only; omega))⟩⟩⟩
  · simp only [Int.toNat_natCast]
    rcases Nat.lt_or_ge i j with h | h
    · have := h2 i h; omega
    · rw [show i = j by omega, hk, Int.toNat_natCast]; omega
  · simp only [Int.toNat_natCast]
    obtain ⟨i, hi, e⟩ := h3
    by_cases hle : d ≤ f.getD k 0
    · exact ⟨i, hi, by rw [Int.min_eq_left hle]; exact e⟩
    · exact ⟨j, by omega, by rw [Int.min_eq_right (by omega), hk, Int.toNat_natCast]⟩
theorem Cyc.arc_inj (hc : Cyc n f c) {i j : Nat} (hi : i < c.length) (hj : j < c.length) (h : c.getD i 0 = c.getD j 0) : i = j := hc.2.2 i j hi hj (by rw [h])
theorem Cyc.len (hc : Cyc n f c) : c.length ≤ n.Arcs.length := by
 have hnd : (c.map Int.toNat).Nodup := by
  refine List.pairwise_iff_getElem.2 fun i j hi hj hij h => ?_
  rw [List.length_map] at hi hj
  rw [List.getElem_map, List.getElem_map] at h
  obtain ⟨a, ha, -⟩ := hc.2.1 i (by omega)
  obtain ⟨b, hb, -⟩ := hc.2.1 j hj
  have e1 : c.getD i 0 = c[i] := by rw [List.getD_eq_getElem?_getD, List.getElem?_eq_getElem (by omega)]; rfl
  have e2 : c.getD j 0 = c[j] := by rw [List.getD_eq_getElem?_getD, List.getElem?_eq_getElem hj]; rfl
  have := hc.arc_inj (i := i) (j := j) (by omega) hj (by rw [ha, hb]; rw [← e1, ← e2, ha, hb, Int.toNat_natCast, Int.toNat_natCast] at h; rw [h])
  omega
 have := List.Nodup.length_le_of_subset hnd (l₂ := List.range n.Arcs.length) (fun u hu => by
  obtain ⟨x, hx, rfl⟩ := List.mem_map.1 hu
  obtain ⟨i, hi, rfl⟩ := List.getElem_of_mem hx
  obtain ⟨a, ha, hal, -⟩ := hc.2.1 i hi
  have e1 : c.getD i 0 = c[i] := by rw [List.getD_eq_getElem?_getD, List.getElem?_eq_getElem hi]; rfl
  rw [← e1, ha, Int.toNat_natCast]
  exact List.mem_range.2 hal)
 rw [List.length_map, List.length_range] at this
 exact this
theorem s_take {d : Int} (hc : Cyc n f c) (hw : FwithinP n f) (hl : n.Arcs.length ≤ 16384) (hd0 : 0 < d) (hd : ∀ j, j < c.length → d ≤ f.getD (c.getD j 0).toNat 0) :
    Ok (Z1t (fun s => Z4e c d s.1 s.2) Z3f (f, 0)) (fun g => Canc n f g ∧ ∀ j, j < c.length → g.getD (c.getD j 0).toNat 0 = f.getD (c.getD j 0).toNat 0 - d) := by
  have hcl := hc.len
  have hfl := hw.2.1
  refine Z76 (fun s => ∃ j : Nat, s.2 = j ∧ j ≤ c.length ∧ s.1.length = n.Arcs.length ∧ (∀ i, i < n.Arcs.length → (s.1.getD i 0 = f.getD i 0 ∧ ∀ p, p < j → c.getD p 0 ≠ (i : Int)) ∨ (s.1.getD i 0 = f.getD i 0 - d ∧ ∃ p, p < j ∧ c.getD p 0 = (i : Int))) ∧
    ∀ v, ex n.Arcs s.1 v n.Arcs.length = ex n.Arcs f v n.Arcs.length + (if (n.Arcs.getD (c.getD 0 0).toNat default).fr = v then d else 0) - (if (n.Arcs.getD (c.getD (j % c.length) 0).toNat default).fr = v then d else 0))
    (fun s => (c.length - s.2).toNat) ⟨0, rfl, by omega, hfl, fun i hi => .inl ⟨rfl, fun p hp => by omega⟩, fun v => by rw [Nat.zero_mod]; simp only; omega⟩ (by unfold Z3f; simp only; omega) ?_
  rintro ⟨xs, x⟩ ⟨j, h1, hj, hxl, hxs, hex⟩ P next exit
  simp only at h1 hxl hxs hex next ⊢
  subst h1
  unfold Z4e
  simp only [Int.toNat_natCast]
  refine Ok.ite.2 ⟨fun hx => ?_, fun hx => ?_⟩
  · have hjl : j < c.length := by omega
    obtain ⟨k, hk, hkl, hfk, hto⟩ := hc.2.1 j hjl
    have hdk := hd j hjl
    rw [hk, Int.toNat_natCast] at hdk
    have hwk := hw.2.2 k hkl
    have ht1 := hw.tot (k + 1) (by omega)
    have ht0 := hw.tot k (by omega)
    simp only [tot] at ht1
    have hxk : xs.getD k 0 = f.getD k 0 := by
      rcases hxs k hkl with h | ⟨-, p, hp, e⟩
      · exact h.1
      · have := hc.arc_inj (i := p) (j := j) (by omega) hjl (by rw [e, hk]); omega
    simp only [hk, Int.toNat_natCast, hxk]
    refine Ok.gd.2 ⟨(by constructor <;> omega), Ok.gd.2 ⟨(by constructor <;> omega), Ok.gd.2 ⟨(by constructor <;> omega), Ok.gd.2 ⟨(by constructor <;> omega), Ok.gd.2 ⟨(by constructor <;> omega), Ok.some.2 (next _ ⟨j + 1, by simp, by omega, by simp [hxl], fun i hi => ?_, fun v => ?_⟩ (by simp only; omega))⟩⟩⟩⟩⟩
    · by_cases e : k = i
      · subst e
        exact .inr ⟨Z7l (by omega), j, by omega, hk⟩
      · simp only [Z4b e]
        rcases hxs i hi with ⟨h, h2⟩ | ⟨h, p, hp, h2⟩
        · refine .inl ⟨h, fun p hp => ?_⟩
          rcases Nat.lt_or_ge p j with h3 | h3
          · exact h2 p h3
          · rw [show p = j by omega, hk]; omega
        · exact .inr ⟨h, p, by omega, h2⟩
    · simp only
      rw [Zk0 (by omega), if_pos hkl, hex v, hxk, Nat.mod_eq_of_lt hjl, hk, Int.toNat_natCast, hto]
      split <;> split <;> split <;> omega
  · have e : j = c.length := by omega
    subst e
    refine Ok.some.2 (exit _ ⟨⟨hxl, fun i hi => ?_, fun v => ?_, fun a ha hca b hb => ?_⟩, fun p hp => ?_⟩)
    · have := hw.2.2 i hi
      rcases hxs i hi with ⟨h, -⟩ | ⟨h, p, hp, h2⟩
      · omega
      · have := hd p hp
        rw [h2, Int.toNat_natCast] at this; omega
    · rw [hex v, Nat.mod_self]; omega
    · obtain ⟨p, hp, h2⟩ := hca f c (fun i _ => Int.le_refl _) hc
      have ea : xs.getD a 0 = f.getD a 0 - d := by
        rcases hxs a ha with ⟨-, h⟩ | ⟨h, -⟩
        · exact absurd h2 (h p hp)
        · exact h
      rcases hxs b hb with ⟨h, -⟩ | ⟨h, -⟩ <;> omega
    · obtain ⟨k, hk, hkl, -⟩ := hc.2.1 p hp
      rw [hk, Int.toNat_natCast]
      rcases hxs k hkl with ⟨-, h⟩ | ⟨h, -⟩
      · exact absurd hk (h p hp)
      · exact h
theorem s_Cancel (hl : lenok n.Arcs.length) : Ok (Z70 n f) (fun r => (¬ FwithinP n f ∧ r = ([], 0, 20)) ∨
    (FwithinP n f ∧ r.2.2 = 0 ∧ Canc n f r.1 ∧ Acyc n r.1 ∧ Z4q n r.1 = some [] ∧ 0 ≤ r.2.1 ∧ r.2.1 ≤ Zkg f n.Arcs.length ∧ (Acyc n f → r.1 = f ∧ r.2.1 = 0) ∧ (¬ Acyc n f → 0 < r.2.1))) := by
  unfold Z70
  refine Ok.bind.2 (Ok.mono (Zdt hl) fun b hb => Ok.ite.2 ⟨fun h => Ok.some.2 (.inl ⟨fun h2 => (by rw [hb.2 h2] at h; cases h), rfl⟩), fun h => ?_⟩)
  have hw : FwithinP n f := hb.1 (by cases b; exact absurd rfl h; rfl)
  obtain ⟨m, hm, -, hm2, hl2, he, hfl⟩ := hw.vert
  have hcl : Z1v f = some f := by
    refine Zef ?_
    unfold Z1v
    exact Ok.gd.2 ⟨by constructor <;> omega, Ok.some.2 rfl⟩
  refine Ok.bind.2 (Z8v hcl (Ok.bind.2 ?_))
  have hpl := Zn3 f n.Arcs.length
  refine Z76 (fun s => Canc n f s.1 ∧ 0 ≤ s.2 ∧ s.2 + Zkg s.1 n.Arcs.length ≤ Zkg f n.Arcs.length ∧ (Acyc n f → s.1 = f ∧ s.2 = 0) ∧ (¬ Acyc n f → (s.1 = f ∧ s.2 = 0) ∨ 0 < s.2)) (fun s => Zkg s.1 n.Arcs.length) ⟨Canc.refl hfl fun i hi => (hw.2.2 i hi).1, by simp only; omega, by simp only; omega, fun _ => ⟨rfl, rfl⟩, fun _ => .inl ⟨rfl, rfl⟩⟩ (by unfold Z3f; simp only; omega) ?_
  rintro ⟨g, k⟩ ⟨hC, hk0, hk, hA, hB⟩ P next exit
  simp only at hC hk0 hk hA hB next ⊢
  have hwg := hC.within hw
  unfold Z5b
  obtain ⟨c, hc1, hc2⟩ := Zmu hm hm2 hl2 he hC.len
  refine Ok.bind.2 (Z8v hc1 (Ok.ite.2 ⟨fun hx => ?_, fun hx => ?_⟩))
  · have hcn : c = [] := List.eq_nil_of_length_eq_zero (by omega)
    subst hcn
    have hacy : Acyc n g := by
      rcases hc2 with h | h
      · have := h.1; simp at this
      · exact h.2
    refine Ok.some.2 (exit _ (Ok.some.2 (.inr ⟨hw, rfl, hC, hacy, hc1, hk0, (by show k ≤ _; omega), hA, fun h => ?_⟩)))
    rcases hB h with ⟨h1, -⟩ | h1
    · subst h1; exact absurd hacy h
    · exact h1
  · have hcy : Cyc n g c := by
      rcases hc2 with h | h
      · exact h
      · rw [h.1] at hx; exact absurd rfl hx
    have hnA : ¬ Acyc n f := fun h => by
      have := (hA h).1
      subst this
      exact hcy.not h
    have hcl := hcy.len
    obtain ⟨k0, hk0', hk0l, hk0f, -⟩ := hcy.2.1 0 hcy.1
    have hgl := hC.len
    simp only [show (0 : Int).toNat = 0 from rfl]
    refine Ok.gd.2 ⟨by have := hcy.1; constructor <;> omega, Ok.gd.2 ⟨by simp only [hk0']; constructor <;> omega, Ok.bind.2 (Ok.mono (s_least hcy hC.len hl2 hcl) ?_)⟩⟩
    rintro d ⟨hd1, p, hp, hd2⟩
    unfold Z6u
    obtain ⟨a, ha, hal, haf, -⟩ := hcy.2.1 p hp
    rw [ha, Int.toNat_natCast] at hd2
    refine Ok.bind.2 (Ok.mono (s_take hcy hwg hl2 (by omega) hd1) ?_)
    rintro g2 ⟨hC2, hg2⟩
    unfold Z6t
    have h0 := hg2 p hp
    rw [ha, Int.toNat_natCast] at h0
    have hlt := Zn2 (f := g) (g := g2) (a := a) (k := n.Arcs.length) (fun i hi => (hC2.le i hi).2) hal haf (by omega)
    exact Ok.gd.2 ⟨by constructor <;> omega, Ok.some.2 (next _ ⟨hC.trans hC2, by simp only; omega, by simp only; omega, fun h => absurd h hnA, fun _ => .inr (by simp only; omega)⟩ hlt)⟩
end
end Go.Acq
namespace Go.Acq
open Go
set_option linter.unusedSimpArgs false
def FirstAt (l : List Int) (x : Int) (r : Nat) : Prop := r ≤ l.length ∧ (∀ k, k < r → l.getD k 0 < x) ∧ (r < l.length → x ≤ l.getD r 0)
theorem Zin {l : List Int} {x : Int} (hl : l.length ≤ 4611686018427387904) (hm : ∀ i j, i ≤ j → j < l.length → l.getD i 0 ≤ l.getD j 0) : Ok (Z5r l x) (fun r => ∃ n : Nat, r = n ∧ FirstAt l x n) := by
 unfold Z5r Z3x
 refine Ok.bind.2 (Ok.bind.2 (Z76 (fun s => ∃ i j : Nat, s = ((i : Int), (j : Int)) ∧ i ≤ j ∧ j ≤ l.length ∧ (∀ k, k < i → l.getD k 0 < x) ∧ (j < l.length → x ≤ l.getD j 0)) (fun s => (s.2 - s.1).toNat) ⟨0, l.length, rfl, by omega, by omega, fun k h => by omega, fun h => by omega⟩ (by unfold Z3f; omega) ?_))
 rintro s ⟨i, j, rfl, h1, h2, h3, h4⟩ P next exit
 unfold Z2i Z64
 have next : ∀ i' j' : Nat, i' ≤ j' → j' ≤ l.length → (∀ k, k < i' → l.getD k 0 < x) → (j' < l.length → x ≤ l.getD j' 0) → j' - i' < j - i → P (.inl ((i' : Int), (j' : Int))) := fun i' j' a b c d e => next _ ⟨i', j', rfl, a, b, c, d⟩ (by simp only; omega)
 simp only
 refine Ok.ite.2 ⟨fun hx => ?_, fun hx => Ok.some.2 (exit _ ?_)⟩
 ·
  have hd : Int.fdiv ((i : Int) + j) (2 ^ 1) = ((i + j) / 2 : Nat) := by rw [Int.fdiv_eq_ediv_of_nonneg _ (by omega)]; omega
  simp only [hd, Int.toNat_natCast]
  refine Ok.gd.2 ⟨(by omega), Ok.gd.2 ⟨(by omega), Ok.gd.2 ⟨(by omega), Ok.bind.2 (Ok.gd.2 ⟨(by omega), Ok.some.2 (Ok.ite.2 ⟨fun hb => ?_, fun hb => ?_⟩)⟩)⟩⟩⟩
  ·
   have hb : l.getD ((i + j) / 2) 0 < x := by
    have : ¬ x ≤ l.getD ((i + j) / 2) 0 := by simpa using hb
    omega
   refine Ok.gd.2 ⟨(by omega), Ok.some.2 ?_⟩
   have := next ((i + j) / 2 + 1) j (by omega) h2 (fun k hk => by have := hm k ((i + j) / 2) (by omega) (by omega); omega) h4 (by omega)
   rwa [show (((i + j) / 2 + 1 : Nat) : Int) = (((i + j) / 2 : Nat) : Int) + 1 by omega] at this
  ·
   have hb : x ≤ l.getD ((i + j) / 2) 0 := by
    have : ¬ ¬ x ≤ l.getD ((i + j) / 2) 0 := by simpa using hb
    omega
   exact Ok.some.2 (next i ((i + j) / 2) (by omega) (by omega) h3 (fun _ => hb) (by omega))
 ·
  unfold Z3d
  have : i = j := by omega
  subst this
  exact Ok.some.2 (Ok.some.2 ⟨i, rfl, h2, h3, h4⟩)
theorem s_Len (c : Csr) : Zbi c = some (c.Head.length : Int) := rfl
theorem s_Tail {n : Net} {m : Nat} {c : Csr} (hc : CsrIs n m c) (he : Z5e m n.Arcs) (hm : m ≤ 4096) (hl : n.Arcs.length ≤ 16384) {i : Nat} {s : Bool} (hi : i < n.Arcs.length) (hne : (n.Arcs.getD i default).fr ≠ (n.Arcs.getD i default).to) :
    Zac c (pos n.Arcs i s : Nat) = some (vtx (n.Arcs.getD i default) s, true) := by
  refine Zef ?_
  have hp := Zda (s := s) hi hne he
  have hbs := Z9h (al := n.Arcs) (v := m) (by omega) (by omega)
  have lf := hc.ok.lf
  have lh := hc.ok.lh
  unfold Zac
  refine Ok.ite.2 ⟨fun h => by omega, fun _ => Ok.bind.2 (Z8v (s_Len c) ?_)⟩
  unfold Z8l
  refine Ok.ite.2 ⟨fun h => by have := of_decide_eq_true h; omega, fun _ => Ok.gd.2 ⟨(by omega), ?_⟩⟩
  refine Ok.bind.2 (Ok.mono (Zin (by omega) fun a b hab hb => ?_) ?_)
  · rw [hc.ok.hf a (by omega), hc.ok.hf b (by omega)]
    have := Z69 (al := n.Arcs) hab
    omega
  rintro r ⟨k, rfl, g1, g2, g3⟩
  have hv := he i hi s
  obtain ⟨v, hv'⟩ : ∃ v : Nat, vtx (n.Arcs.getD i default) s = v := ⟨(vtx (n.Arcs.getD i default) s).toNat, by omega⟩
  have hcl := Zer (s := s) hi hne hv.1
  have hpos : pos n.Arcs i s = Z1e n.Arcs v + cnt n.Arcs v i := by unfold pos; rw [hv', Int.toNat_natCast]
  rw [hv'] at hv hcl ⊢
  rw [Int.toNat_natCast] at hcl
  have hb1 : Z1e n.Arcs (v + 1) = Z1e n.Arcs v + cnt n.Arcs v n.Arcs.length := rfl
  have e : k = v + 1 := by
    rcases Nat.lt_trichotomy k (v + 1) with h | h | h
    · have h3 := g3 (by omega)
      rw [hc.ok.hf k (by omega)] at h3
      have := Z69 (al := n.Arcs) (show k ≤ v by omega)
      omega
    · exact h
    · have h3 := g2 (v + 1) h
      rw [hc.ok.hf (v + 1) (by omega)] at h3
      omega
  subst e
  refine Ok.gd.2 ⟨(by omega), Ok.some.2 ?_⟩
  simp
end Go.Acq
namespace Go.Acq
open Go
set_option linter.unusedSimpArgs false
theorem Zj1 {α : Type} {xs ys : List α} {d : α} {i : Nat} (h : i < xs.length) : (xs ++ ys).getD i d = xs.getD i d := by
 rw [List.getD_eq_getElem?_getD, List.getElem?_append_left h, List.getD_eq_getElem?_getD]
theorem Zj0 {α : Type} {xs ys : List α} {d : α} {i : Nat} (h : xs.length ≤ i) : (xs ++ ys).getD i d = ys.getD (i - xs.length) d := by
 rw [List.getD_eq_getElem?_getD, List.getElem?_append_right h, List.getD_eq_getElem?_getD]
theorem pos_row {al : List Arc} {i v : Nat} {s : Bool} (hi : i < al.length) (hne : (al.getD i default).fr ≠ (al.getD i default).to) (h0 : 0 ≤ vtx (al.getD i default) s) (h1 : Z1e al v ≤ pos al i s) (h2 : pos al i s < Z1e al (v + 1)) : vtx (al.getD i default) s = v ∧ pos al i s = Z1e al v + cnt al v i := by
 obtain ⟨u, hu⟩ : ∃ u : Nat, vtx (al.getD i default) s = u := ⟨(vtx (al.getD i default) s).toNat, by omega⟩
 have hcl := Zer (s := s) hi hne h0
 have hpos : pos al i s = Z1e al u + cnt al u i := by unfold pos; rw [hu, Int.toNat_natCast]
 rw [hu, Int.toNat_natCast] at hcl
 have hb1 : Z1e al (u + 1) = Z1e al u + cnt al u al.length := rfl
 have : u = v := by
  rcases Nat.lt_trichotomy u v with h | h | h
  · have := Z69 (al := al) (show u + 1 ≤ v by omega); omega
  · exact h
  · have := Z69 (al := al) (show v + 1 ≤ u by omega); omega
 subst this
 exact ⟨hu, hpos⟩
end Go.Acq
namespace Go.Acq
open Go
set_option linter.unusedSimpArgs false
def inS (c : List Bool) (v : Int) : Bool := c.getD v.toNat false
def acK (al : List Arc) (f : List Int) (c : List Bool) : Nat → Int
  | 0 => 0
  | k + 1 => acK al f c k + (if inS c (al.getD k default).fr = true ∧ inS c (al.getD k default).to = false then f.getD k 0 else 0) - (if inS c (al.getD k default).fr = false ∧ inS c (al.getD k default).to = true then f.getD k 0 else 0)
def totC (al : List Arc) : Nat → Int
  | 0 => 0
  | k + 1 => totC al k + (al.getD k default).cap
theorem Zkc (al : List Arc) : ∀ k, k ≤ al.length → totC al k = tot (al.map (·.cap)) k
 | 0, _ => rfl
 | k + 1, hk => by
  simp only [totC, tot, Zkc al k (by omega)]
  rw [List.getD_eq_getElem?_getD, List.getD_eq_getElem?_getD, List.getElem?_map, List.getElem?_eq_getElem (show k < al.length by omega)]; rfl
theorem Zna {al : List Arc} {i : Nat} (hi : i < al.length) : (al.map (·.cap)).getD i 0 = (al.getD i default).cap := by
 rw [List.getD_eq_getElem?_getD, List.getD_eq_getElem?_getD, List.getElem?_map, List.getElem?_eq_getElem hi]; rfl
theorem Zk1 {n : Net} (h : Zan n.N n.S n.T n.Arcs = 0) (hc : ∀ i, i < n.Arcs.length → 0 ≤ (n.Arcs.getD i default).cap) : FwithinP n (n.Arcs.map (·.cap)) :=
 ⟨h, by simp, fun i hi => by rw [Zna hi]; exact ⟨hc i hi, Int.le_refl _⟩⟩
theorem Zh2 {n : Net} (h : Zan n.N n.S n.T n.Arcs = 0) : ∀ i, i < n.Arcs.length → 0 ≤ (n.Arcs.getD i default).cap := fun i hi => by
 have := List.all_eq_true.1 (Z2u h).2.2.2.2.1 _ (Z5d hi default)
 simpa [Znf] using this
theorem Zmo {n : Net} (h : Zan n.N n.S n.T n.Arcs = 0) : ∀ k, k ≤ n.Arcs.length → 0 ≤ totC n.Arcs k ∧ totC n.Arcs k ≤ 4611686018427387904 := fun k hk => by
 rw [Zkc _ k hk]
 have := (Zk1 h (Zh2 h)).tot k (by simpa using hk)
 exact this
end Go.Acq
namespace Go.Acq
open Go
set_option linter.unusedSimpArgs false
inductive Reach (G : Nat → Nat → Prop) (s : Nat) : Nat → Prop
  | refl : Reach G s s
  | step {u v : Nat} : Reach G s u → G u v → Reach G s v
theorem Reach.trans {G : Nat → Nat → Prop} {a b c : Nat} (h : Reach G a b) (g : Reach G b c) : Reach G a c := by
 induction g with
 | refl => exact h
 | step _ h2 ih => exact .step ih h2
theorem Reach.mono {G K : Nat → Nat → Prop} {a b : Nat} (h : Reach G a b) (hk : ∀ u v, G u v → K u v) : Reach K a b := by
 induction h with
 | refl => exact .refl
 | step _ h2 ih => exact .step ih (hk _ _ h2)
def tc (l : List Bool) : Nat → Nat
  | 0 => 0
  | k + 1 => tc l k + if l.getD k false = true then 1 else 0
theorem tc_le (l : List Bool) : ∀ k, tc l k ≤ k
 | 0 => Nat.le_refl _
 | k + 1 => by have := tc_le l k; simp only [tc]; split <;> omega
theorem tc_set {l : List Bool} {i : Nat} (hi : i < l.length) (hf : l.getD i false = false) : ∀ k : Nat, tc (l.set i true) k = tc l k + (if i < k then 1 else 0)
 | 0 => by simp [tc]
 | k + 1 => by
  have ih := tc_set hi hf k
  simp only [tc, ih, Zcf]
  by_cases c : i = k
  ·
   subst c
   rw [if_neg (show ¬ i < i by omega), if_pos (show i = i ∧ i < l.length from ⟨rfl, hi⟩), hf, if_pos rfl, if_pos (show i < i + 1 by omega)]; rfl
  ·
   rw [if_neg (show ¬(i = k ∧ i < l.length) from fun h => c h.1)]
   by_cases c2 : i < k
   · rw [if_pos c2, if_pos (show i < k + 1 by omega)]; omega
   · rw [if_neg c2, if_neg (show ¬ i < k + 1 by omega)]; omega
structure MetI (G : Nat → Nat → Prop) (s m : Nat) (xs : List Bool) (row : List Int) : Prop where
  len : xs.length = m
  nat : ∀ q, q < row.length → ∃ v : Nat, row.getD q 0 = v ∧ v < m ∧ xs.getD v false = true ∧ Reach G s v
  has : ∀ v, v < m → xs.getD v false = true → ∃ q, q < row.length ∧ row.getD q 0 = (v : Int)
  cnt : row.length = tc xs m
theorem MetI.le {G : Nat → Nat → Prop} {s m : Nat} {xs : List Bool} {row : List Int} (h : MetI G s m xs row) : row.length ≤ m := by rw [h.cnt]; exact tc_le _ _
theorem MetI.put {G : Nat → Nat → Prop} {s m v : Nat} {xs : List Bool} {row : List Int} (h : MetI G s m xs row) (hv : v < m) (hf : xs.getD v false = false) (hr : Reach G s v) : MetI G s m (xs.set v true) (row ++ [(v : Int)]) := by
 have hl := h.len
 refine ⟨by simp [hl], fun q hq => ?_, fun u hu hx => ?_, ?_⟩
 ·
  rw [List.length_append, List.length_singleton] at hq
  rcases Nat.lt_or_ge q row.length with h1 | h1
  ·
   obtain ⟨u, h2, h3, h4, h5⟩ := h.nat q h1
   refine ⟨u, by rw [Zj1 h1]; exact h2, h3, ?_, h5⟩
   rw [Zcf]; split
   · rfl
   · exact h4
  ·
   refine ⟨v, ?_, hv, by rw [Zcf, if_pos ⟨rfl, by omega⟩], hr⟩
   rw [Zj0 h1, show q - row.length = 0 by omega]; rfl
 ·
  rw [Zcf] at hx
  by_cases c : v = u
  ·
   refine ⟨row.length, by simp, ?_⟩
   rw [Zj0 (Nat.le_refl _), Nat.sub_self, ← c]; rfl
  ·
   rw [if_neg (fun h => c h.1)] at hx
   obtain ⟨q, h1, h2⟩ := h.has u hu hx
   exact ⟨q, by rw [List.length_append]; omega, by rw [Zj1 h1]; exact h2⟩
 · rw [List.length_append, List.length_singleton, tc_set (by omega) hf, if_pos hv, h.cnt]
def OpenA (n : Net) (f : List Int) (u v : Nat) : Prop := ∃ i, i < n.Arcs.length ∧ (n.Arcs.getD i default).fr ≠ (n.Arcs.getD i default).to ∧
  (((n.Arcs.getD i default).fr = u ∧ (n.Arcs.getD i default).to = v ∧ f.getD i 0 < (n.Arcs.getD i default).cap) ∨ ((n.Arcs.getD i default).to = u ∧ (n.Arcs.getD i default).fr = v ∧ 0 < f.getD i 0))
end Go.Acq
namespace Go.Acq
open Go
set_option linter.unusedSimpArgs false
def Zfh (al : List Arc) (f : List Int) (c : List Bool) (j : Int) : Nat → Int
  | 0 => 0
  | k + 1 => Zfh al f c j k - (if (al.getD k default).fr < j ∧ inS c (al.getD k default).fr = false then f.getD k 0 else 0) + (if (al.getD k default).to < j ∧ inS c (al.getD k default).to = false then f.getD k 0 else 0)
theorem Zgr {al : List Arc} {f : List Int} {c : List Bool} (j : Int) : ∀ k, Zfh al f c (j + 1) k = Zfh al f c j k + (if inS c j = false then ex al f j k else 0)
 | 0 => by simp [Zfh, ex]
 | k + 1 => by
  have ih := Zgr (al := al) (f := f) (c := c) j k
  simp only [Zfh, ex, ih]
  have e1 : ∀ x : Int, (if x < j + 1 ∧ inS c x = false then f.getD k 0 else 0) = (if x < j ∧ inS c x = false then f.getD k 0 else 0) + (if x = j ∧ inS c j = false then f.getD k 0 else 0) := fun x => by
   by_cases h1 : x < j
   ·
    by_cases h3 : inS c x = false
    · rw [if_pos ⟨by omega, h3⟩, if_pos ⟨h1, h3⟩, if_neg (fun h => by omega)]; omega
    · rw [if_neg (fun h => h3 h.2), if_neg (fun h => h3 h.2), if_neg (fun h => by omega)]; omega
   ·
    by_cases h2 : x = j
    ·
     subst h2
     by_cases h3 : inS c x = false
     · rw [if_pos ⟨by omega, h3⟩, if_neg (fun h => h1 h.1), if_pos ⟨rfl, h3⟩]; omega
     · rw [if_neg (fun h => h3 h.2), if_neg (fun h => h3 h.2), if_neg (fun h => h3 h.2)]; omega
    · rw [if_neg (fun h => by omega), if_neg (fun h => by omega), if_neg (fun h => h2 h.1)]; omega
  rw [e1, e1]
  by_cases h : inS c j = false
  ·
   simp only [h, and_true, if_true]
   omega
  ·
   simp only [h, Bool.not_eq_false, and_false, if_false, ite_false, reduceCtorEq]
   omega
theorem Zgs {al : List Arc} {f : List Int} {c : List Bool} {m : Nat} (he : Z5e m al) : ∀ k, k ≤ al.length → Zfh al f c 0 k = 0
 | 0, _ => rfl
 | k + 1, hk => by
  have h0 := he k hk false
  have h1 := he k hk true
  simp only [vtx, Bool.false_eq_true, if_false, if_true] at h0 h1
  simp only [Zfh, Zgs he k (by omega)]
  rw [if_neg (fun h => by omega), if_neg (fun h => by omega)]; rfl
theorem Zis {al : List Arc} {f : List Int} {c : List Bool} {m : Nat} (he : Z5e m al) : ∀ k, k ≤ al.length → Zfh al f c m k = acK al f c k
 | 0, _ => rfl
 | k + 1, hk => by
  have h0 := he k hk false
  have h1 := he k hk true
  simp only [vtx, Bool.false_eq_true, if_false, if_true] at h0 h1
  simp only [Zfh, acK, Zis he k (by omega)]
  obtain ⟨A, hA⟩ : ∃ A, al.getD k default = A := ⟨_, rfl⟩
  obtain ⟨F, hF⟩ : ∃ F, f.getD k 0 = F := ⟨_, rfl⟩
  rw [hA] at h0 h1 ⊢
  rw [hF]
  cases a : inS c A.fr <;> cases b : inS c A.to <;> simp [h0.2, h1.2] <;> omega
end Go.Acq
namespace Go.Acq
open Go
set_option linter.unusedSimpArgs false
def hd (c : Csr) (j : Nat) : Nat := (c.Head.getD j 0).toNat
def rv (c : Csr) (j : Nat) : Nat := (c.Rev.getD j 0).toNat
def fs (c : Csr) (v : Nat) : Nat := (c.First.getD v 0).toNat
def tl (c : Csr) (j : Nat) : Nat := hd c (rv c j)
def bk (c : Csr) (j : Nat) : Bool := c.Back.getD j false
def cp (c : Csr) (j : Nat) : Int := max (c.Cap.getD j 0) (c.Cap.getD (rv c j) 0)
structure Row (n : Net) (m L : Nat) (c : Csr) : Prop where
  is : CsrIs n m c
  chk : Zan n.N n.S n.T n.Arcs = 0
  hm : n.N = m
  hL : Z1e n.Arcs m = L
section row
variable {n : Net} {m L : Nat} {c : Csr}
theorem Row.he (r : Row n m L c) : Z5e m n.Arcs := Zdx (by rw [← r.hm]; exact (Z2u r.chk).2.2.2.1)
theorem Row.bd (r : Row n m L c) : 2 ≤ m ∧ m ≤ 4096 ∧ n.Arcs.length ≤ 16384 ∧ L ≤ 67108864 := by
 have hz := Z2u r.chk
 have := r.hm
 have hb := Z9h (al := n.Arcs) (v := m) (by omega) (by omega)
 have := r.hL
 omega
theorem Row.ends (r : Row n m L c) : (∃ S : Nat, n.S = S ∧ c.S = S ∧ S < m) ∧ (∃ T : Nat, n.T = T ∧ c.T = T ∧ T < m) ∧ n.S ≠ n.T ∧ c.N = m := by
 have hz := Z2u r.chk
 simp only [Z4u, decide_eq_true_eq] at hz
 have h1 := r.hm
 have h2 := r.is.hS
 have h3 := r.is.hT
 exact ⟨⟨n.S.toNat, by omega, by omega, by omega⟩, ⟨n.T.toNat, by omega, by omega, by omega⟩, hz.2.2.1.2.2, r.is.hN⟩
theorem Row.caps (r : Row n m L c) : ∀ i, i < n.Arcs.length → 0 ≤ (n.Arcs.getD i default).cap ∧ (n.Arcs.getD i default).cap ≤ 4611686018427387904 := fun i hi => by
 have h0 := Zh2 r.chk i hi
 have h1 := Zmo r.chk (i + 1) hi
 have h2 := Zmo r.chk i (by omega)
 simp only [totC] at h1
 omega
theorem Row.lens (r : Row n m L c) : c.First.length = m + 1 ∧ c.Head.length = L ∧ c.Rev.length = L ∧ c.Cap.length = L ∧ c.Arc.length = L ∧ c.Back.length = L := by
 have h := r.is.ok
 rw [← r.hL]
 exact ⟨h.lf, h.lh, h.lr, h.lc, h.la, h.lb⟩
theorem Row.at (r : Row n m L c) {j : Nat} (hj : j < L) : ∃ i s, i < n.Arcs.length ∧ (n.Arcs.getD i default).fr ≠ (n.Arcs.getD i default).to ∧ pos n.Arcs i s = j ∧ c.Head.getD j 0 = (hd c j : Nat) ∧ (hd c j : Int) = vtx (n.Arcs.getD i default) (!s) ∧ (tl c j : Int) = vtx (n.Arcs.getD i default) s ∧
    c.Rev.getD j 0 = (rv c j : Nat) ∧ rv c j = pos n.Arcs i (!s) ∧ c.Cap.getD j 0 = (if s then 0 else (n.Arcs.getD i default).cap) ∧ c.Arc.getD j 0 = i ∧ bk c j = s := by
  obtain ⟨i, s, hi, hne, hp, q1, q2, q3, q4, q5⟩ := r.is.ok.place (by rw [r.hL]; exact hj)
  have hv := r.he i hi (!s)
  have hv2 := r.he i hi s
  have hr : rv c j = pos n.Arcs i (!s) := by unfold rv; rw [q2, Int.toNat_natCast]
  refine ⟨i, s, hi, hne, hp, by unfold hd; omega, by unfold hd; omega, ?_, by unfold rv; omega, hr, q3, q4, q5⟩
  unfold tl hd
  rw [hr, (r.is.ok.hat i hi hne (!s)).1, Bool.not_not]; omega
theorem Row.head (r : Row n m L c) {j : Nat} (hj : j < L) : c.Head.getD j 0 = (hd c j : Nat) ∧ hd c j < m := by
 obtain ⟨i, s, hi, hne, hp, q1, q2, q3, q4, q5, q6, q7, q8⟩ := r.at hj
 have hv := r.he i hi (!s)
 exact ⟨q1, by omega⟩
theorem Row.rev (r : Row n m L c) {j : Nat} (hj : j < L) : c.Rev.getD j 0 = (rv c j : Nat) ∧ rv c j < L ∧ rv c (rv c j) = j ∧ rv c j ≠ j := by
 obtain ⟨i, s, hi, hne, hp, q1, q2, q3, q4, q5, q6, q7, q8⟩ := r.at hj
 have hq : pos n.Arcs i (!s) < L := by rw [← r.hL]; exact Zda hi hne r.he
 refine ⟨q4, by rw [q5]; exact hq, ?_, fun e => ?_⟩
 ·
  have := (r.is.ok.hat i hi hne (!s)).2.1
  rw [q5]; unfold rv; rw [this, Int.toNat_natCast, Bool.not_not, hp]
 ·
  have := (Zbv r.he hi hi hne hne (q5.symm.trans (e.trans hp.symm))).2
  cases s <;> cases this
theorem Row.tlh (r : Row n m L c) {j : Nat} (hj : j < L) : tl c j < m ∧ tl c (rv c j) = hd c j ∧ hd c (rv c j) = tl c j ∧ tl c j ≠ hd c j := by
 obtain ⟨i, s, hi, hne, hp, q1, q2, q3, q4, q5, q6, q7, q8⟩ := r.at hj
 have hv := r.he i hi s
 refine ⟨by omega, ?_, rfl, fun e => ?_⟩
 · unfold tl; rw [(r.rev hj).2.2.1]
 ·
  apply hne
  have : vtx (n.Arcs.getD i default) s = vtx (n.Arcs.getD i default) (!s) := by omega
  cases s <;> simpa [vtx, eq_comm] using this
theorem Row.back (r : Row n m L c) {j : Nat} (hj : j < L) : bk c (rv c j) = !bk c j := by
 obtain ⟨i, s, hi, hne, hp, q1, q2, q3, q4, q5, q6, q7, q8⟩ := r.at hj
 unfold bk at q8 ⊢
 rw [q5, (r.is.ok.hat i hi hne (!s)).2.2.2.2, q8]
theorem Row.first (r : Row n m L c) : (∀ v, v ≤ m → c.First.getD v 0 = (fs c v : Nat) ∧ fs c v = Z1e n.Arcs v) ∧ fs c 0 = 0 ∧ fs c m = L ∧ ∀ v, v < m → fs c v ≤ fs c (v + 1) ∧ fs c (v + 1) ≤ L := by
 have h : ∀ v, v ≤ m → c.First.getD v 0 = (fs c v : Nat) ∧ fs c v = Z1e n.Arcs v := fun v hv => by
  have := r.is.ok.hf v hv
  unfold fs; rw [this, Int.toNat_natCast]; exact ⟨rfl, rfl⟩
 refine ⟨h, by rw [(h 0 (by omega)).2]; rfl, by rw [(h m (Nat.le_refl _)).2]; exact r.hL, fun v hv => ?_⟩
 rw [(h v (by omega)).2, (h (v + 1) (by omega)).2, ← r.hL]
 exact ⟨Z69 (by omega), Z69 (by omega)⟩
theorem Row.range (r : Row n m L c) {j u : Nat} (hj : j < L) (hu : u < m) : (fs c u ≤ j ∧ j < fs c (u + 1)) ↔ tl c j = u := by
 obtain ⟨i, s, hi, hne, hp, q1, q2, q3, q4, q5, q6, q7, q8⟩ := r.at hj
 have hv := r.he i hi s
 have f1 := (r.first.1 u (by omega)).2
 have f2 := (r.first.1 (u + 1) (by omega)).2
 constructor
 ·
  rintro ⟨h1, h2⟩
  have := (pos_row (v := u) hi hne hv.1 (by omega) (by omega)).1
  omega
 ·
  intro h
  have hcl := Zer (s := s) hi hne hv.1
  have hpos : pos n.Arcs i s = Z1e n.Arcs (vtx (n.Arcs.getD i default) s).toNat + cnt n.Arcs (vtx (n.Arcs.getD i default) s).toNat i := rfl
  have e : (vtx (n.Arcs.getD i default) s).toNat = u := by omega
  rw [e] at hcl hpos
  have hb1 : Z1e n.Arcs (u + 1) = Z1e n.Arcs u + cnt n.Arcs u n.Arcs.length := rfl
  omega
theorem Row.cap (r : Row n m L c) {j : Nat} (hj : j < L) : 0 ≤ c.Cap.getD j 0 ∧ c.Cap.getD j 0 + c.Cap.getD (rv c j) 0 = cp c j ∧ cp c (rv c j) = cp c j ∧ 0 ≤ cp c j ∧ cp c j ≤ 4611686018427387904 ∧ (bk c j = true → c.Cap.getD j 0 = 0) := by
 obtain ⟨i, s, hi, hne, hp, q1, q2, q3, q4, q5, q6, q7, q8⟩ := r.at hj
 have hc := r.caps i hi
 have h2 : c.Cap.getD (rv c j) 0 = if (!s) then 0 else (n.Arcs.getD i default).cap := by rw [q5]; exact (r.is.ok.hat i hi hne (!s)).2.2.1
 have h3 := (r.rev hj).2.2.1
 unfold cp
 rw [h3, q6, h2, q8]
 cases s
 · simp only [Bool.not_false, if_true, Bool.false_eq_true, if_false, false_implies, and_true]; omega
 · simp only [Bool.not_true, if_true, Bool.false_eq_true, if_false, true_implies, and_true]; omega
theorem Row.cpPos (r : Row n m L c) {i : Nat} (hi : i < n.Arcs.length) (hne : (n.Arcs.getD i default).fr ≠ (n.Arcs.getD i default).to) (s : Bool) : cp c (pos n.Arcs i s) = (n.Arcs.getD i default).cap ∧ rv c (pos n.Arcs i s) = pos n.Arcs i (!s) ∧ pos n.Arcs i s < L := by
 have z := r.is.ok.hat i hi hne s
 have z2 := r.is.ok.hat i hi hne (!s)
 have hc := r.caps i hi
 have hr : rv c (pos n.Arcs i s) = pos n.Arcs i (!s) := by unfold rv; rw [z.2.1, Int.toNat_natCast]
 refine ⟨?_, hr, by rw [← r.hL]; exact Zda hi hne r.he⟩
 unfold cp
 rw [hr, z.2.2.1, z2.2.2.1]
 cases s <;> simp only [Bool.not_true, Bool.not_false, if_true, Bool.false_eq_true, if_false] <;> omega
theorem Row.tailM (r : Row n m L c) {j : Nat} (hj : j < L) : Zac c (j : Nat) = some (((tl c j : Nat) : Int), true) := by
 obtain ⟨i, s, hi, hne, hp, q1, q2, q3, q4, q5, q6, q7, q8⟩ := r.at hj
 have b := r.bd
 have := s_Tail r.is r.he (by omega) (by omega) (s := s) hi hne
 rw [hp] at this
 rw [this, q3]
theorem Zim {S X : Type} {y : S → Int → Option (S ⊕ X)} {s0 : S} {u : Nat} (r : Row n m L c) (hu : u < m) (I : Nat → S → Prop) (J : X → Prop) (h0 : I (fs c u) s0)
    (hstep : ∀ j s, fs c u ≤ j → j < fs c (u + 1) → I j s → Ok (y s (j : Nat)) (fun t => match t with | .inl s' => I (j + 1) s' | .inr x => J x)) :
    Ok (Z61 y c (u : Nat) (.inl s0)) (fun t => match t with | .inl s => I (fs c (u + 1)) s | .inr x => J x) := by
  have lf := r.lens.1
  have b := r.bd
  have f1 := (r.first.1 u (by omega)).1
  have f2 := (r.first.1 (u + 1) (by omega)).1
  have f3 := r.first.2.2.2 u hu
  have e1 : ((u : Int) + 1).toNat = u + 1 := by omega
  unfold Z61
  simp only [Int.toNat_natCast, f1]
  refine Ok.gd.2 ⟨(by omega), Ok.bind.2 (Z76 (fun s => ∃ (k : Nat) (st : S), s = ((k : Int), Sum.inl st) ∧ fs c u ≤ k ∧ k ≤ fs c (u + 1) ∧ I k st) (fun s => (fs c (u + 1) - s.1).toNat) ⟨fs c u, s0, rfl, Nat.le_refl _, f3.1, h0⟩ (by unfold Z3f; simp only; omega) ?_)⟩
  rintro s ⟨k, st, rfl, hk0, hk, hI⟩ P next exit
  unfold Z6z
  simp only [Int.toNat_natCast, e1, f2]
  refine Ok.gd.2 ⟨(by omega), Ok.gd.2 ⟨(by omega), Ok.ite.2 ⟨fun hx => ?_, fun hx => Ok.some.2 (exit _ (Ok.some.2 ?_))⟩⟩⟩
  · refine Ok.bind.2 ?_
    show Ok (y st _) _
    refine Ok.mono (hstep k st hk0 (by omega) hI) ?_
    rintro (s' | x) hr
    · exact Ok.ite.2 ⟨fun h => by simp at h, fun _ => Ok.gd.2 ⟨(by omega), Ok.some.2 (next _ ⟨k + 1, s', by simp, by omega, by omega, hr⟩ (by simp only; omega))⟩⟩
    · exact Ok.ite.2 ⟨fun _ => Ok.some.2 (exit _ (Ok.some.2 hr)), fun h => by simp at h⟩
  · obtain rfl : k = fs c (u + 1) := by omega
    exact hI
def flN (al : List Arc) (R : List Int) : List Int := (List.range al.length).map fun i => if (al.getD i default).fr = (al.getD i default).to then 0 else R.getD (pos al i true) 0
theorem Znb (al : List Arc) (R : List Int) : (flN al R).length = al.length := by simp [flN]
theorem Za3 {al : List Arc} {R : List Int} {i : Nat} (h : i < al.length) : (flN al R).getD i 0 = if (al.getD i default).fr = (al.getD i default).to then 0 else R.getD (pos al i true) 0 := by
 unfold flN
 rw [List.getD_eq_getElem?_getD, List.getElem?_map, List.getElem?_range h]; rfl
structure ResOK (n : Net) (m L : Nat) (c : Csr) (R X : List Int) : Prop where
  lr : R.length = L
  lx : X.length = m
  res : ∀ j, j < L → 0 ≤ R.getD j 0 ∧ R.getD j 0 + R.getD (rv c j) 0 = cp c j
  ex : ∀ v : Nat, v < m → X.getD v 0 = ex n.Arcs (flN n.Arcs R) v n.Arcs.length
theorem Zla {R : List Int} (r : Row n m L c) (h : ∀ j, j < L → 0 ≤ R.getD j 0 ∧ R.getD j 0 + R.getD (rv c j) 0 = cp c j) : FwithinP n (flN n.Arcs R) := by
 refine ⟨r.chk, Znb _ _, fun i hi => ?_⟩
 rw [Za3 hi]
 have hc := r.caps i hi
 by_cases e : (n.Arcs.getD i default).fr = (n.Arcs.getD i default).to
 · rw [if_pos e]; omega
 ·
  rw [if_neg e]
  obtain ⟨a1, a2, a3⟩ := r.cpPos hi e true
  have h1 := h _ a3
  have h2 := h _ (r.rev a3).2.1
  omega
theorem ResOK.within {R X : List Int} (h : ResOK n m L c R X) (r : Row n m L c) : FwithinP n (flN n.Arcs R) := Zla r h.res
theorem Zc7 {f : List Int} (hw : FwithinP n f) (v : Int) : -4611686018427387904 ≤ ex n.Arcs f v n.Arcs.length ∧ ex n.Arcs f v n.Arcs.length ≤ 4611686018427387904 := by
 have := ex_le (al := n.Arcs) v (fun i hi => (hw.2.2 i hi).1) n.Arcs.length (Nat.le_refl _)
 have := hw.tot n.Arcs.length (Nat.le_refl _)
 omega
theorem ResOK.bnd {R X : List Int} (h : ResOK n m L c R X) (r : Row n m L c) {v : Nat} (hv : v < m) : -4611686018427387904 ≤ X.getD v 0 ∧ X.getD v 0 ≤ 4611686018427387904 := by
 rw [h.ex v hv]; exact Zc7 (h.within r) v
theorem ResOK.rle {R X : List Int} (h : ResOK n m L c R X) (r : Row n m L c) {j : Nat} (hj : j < L) : 0 ≤ R.getD j 0 ∧ R.getD j 0 ≤ cp c j ∧ R.getD j 0 ≤ 4611686018427387904 := by
 have h1 := h.res j hj
 have h2 := h.res _ (r.rev hj).2.1
 have h3 := r.cap hj
 omega
def mvR (c : Csr) (R : List Int) (j : Nat) (d : Int) : List Int := (R.set j (R.getD j 0 - d)).set (rv c j) (R.getD (rv c j) 0 + d)
def mvX (c : Csr) (X : List Int) (j : Nat) (d : Int) : List Int := (X.set (tl c j) (X.getD (tl c j) 0 - d)).set (hd c j) (X.getD (hd c j) 0 + d)
theorem Zbx {R : List Int} {j k : Nat} {d : Int} (r : Row n m L c) (hl : R.length = L) (hj : j < L) : (mvR c R j d).getD k 0 = if k = rv c j then R.getD (rv c j) 0 + d else if k = j then R.getD j 0 - d else R.getD k 0 := by
 have := r.rev hj
 unfold mvR
 rw [Zcf, Zcf, List.length_set]
 by_cases c1 : k = rv c j
 · rw [if_pos ⟨c1.symm, by omega⟩, if_pos c1]
 ·
  rw [if_neg fun h => c1 h.1.symm, if_neg c1]
  by_cases c2 : k = j
  · rw [if_pos ⟨c2.symm, by omega⟩, if_pos c2]
  · rw [if_neg fun h => c2 h.1.symm, if_neg c2]
theorem Zf3 {X : List Int} {j k : Nat} {d : Int} (r : Row n m L c) (hl : X.length = m) (hj : j < L) : (mvX c X j d).getD k 0 = X.getD k 0 - (if tl c j = k then d else 0) + (if hd c j = k then d else 0) := by
 have h1 := r.tlh hj
 have h2 := r.head hj
 unfold mvX
 rw [Zcf, Zcf, List.length_set]
 by_cases c1 : hd c j = k
 ·
  subst c1
  rw [if_pos ⟨rfl, by omega⟩, if_neg h1.2.2.2, if_pos rfl]; omega
 ·
  rw [if_neg fun h => c1 h.1]
  by_cases c2 : tl c j = k
  ·
   subst c2
   rw [if_pos ⟨rfl, by omega⟩, if_pos rfl, if_neg c1]; omega
  · rw [if_neg fun h => c2 h.1, if_neg c2, if_neg c1]; omega
theorem ex_bump {al : List Arc} {f g : List Int} {i : Nat} {δ : Int} {K : Nat} (v : Int) (hi : i < K) (h : ∀ k, k < K → g.getD k 0 = f.getD k 0 + if k = i then δ else 0) :
    ex al g v K = ex al f v K + ((if (al.getD i default).to = v then δ else 0) - (if (al.getD i default).fr = v then δ else 0)) := by
  have key : ∀ k, k ≤ K → ex al g v k = ex al f v k + if i < k then ((if (al.getD i default).to = v then δ else 0) - (if (al.getD i default).fr = v then δ else 0)) else 0 := by
    intro k
    induction k with
    | zero => intro _; rw [if_neg (by omega)]; rfl
    | succ k ih =>
      intro hk
      simp only [ex]
      rw [ih (by omega), h k (by omega)]
      by_cases e : k = i
      · subst e
        rw [if_neg (show ¬ k < k by omega), if_pos rfl, if_pos (show k < k + 1 by omega)]
        split <;> split <;> omega
      · rw [if_neg e]
        by_cases e2 : i < k
        · rw [if_pos e2, if_pos (show i < k + 1 by omega)]; simp only [Int.add_zero]; omega
        · rw [if_neg e2, if_neg (show ¬ i < k + 1 by omega)]; simp only [Int.add_zero]
  rw [key K (Nat.le_refl _), if_pos hi]
theorem ResOK.move {R X : List Int} {j : Nat} {d : Int} (h : ResOK n m L c R X) (r : Row n m L c) (hj : j < L) (d0 : 0 ≤ d) (d1 : d ≤ R.getD j 0) : ResOK n m L c (mvR c R j d) (mvX c X j d) := by
 have hr := r.rev hj
 have hlr := h.lr
 have hlx := h.lx
 refine ⟨by simp [mvR, hlr], by simp [mvX, hlx], fun k hk => ?_, fun v hv => ?_⟩
 ·
  have hk2 := r.rev hk
  have a := h.res k hk
  have a2 := h.res _ hr.2.1
  have a3 := h.res j hj
  have a4 := r.cap hj
  rw [Zbx r hlr hj, Zbx r hlr hj]
  by_cases c1 : k = rv c j
  ·
   subst c1
   rw [if_pos rfl, hr.2.2.1, if_neg fun e => hr.2.2.2 e.symm, if_pos rfl, a4.2.2.1]; omega
  ·
   by_cases c2 : k = j
   ·
    subst c2
    rw [if_neg c1, if_pos rfl, if_pos rfl]; omega
   ·
    have c3 : rv c k ≠ rv c j := fun e => c2 (by rw [← hk2.2.2.1, e, hr.2.2.1])
    have c4 : rv c k ≠ j := fun e => c1 (by rw [← e, hk2.2.2.1])
    rw [if_neg c1, if_neg c2, if_neg c3, if_neg c4]; exact a
 ·
  obtain ⟨i, s, hi, hne, hp, q1, q2, q3, q4, q5, q6, q7, q8⟩ := r.at hj
  rw [Zf3 r hlx hj, h.ex v hv, ex_bump (f := flN n.Arcs R) (g := flN n.Arcs (mvR c R j d)) (i := i) (δ := if s then -d else d) (v : Int) hi fun k hk => ?_]
  ·
   have t1 : (tl c j = v) ↔ vtx (n.Arcs.getD i default) s = (v : Int) := by rw [← q3]; omega
   have t2 : (hd c j = v) ↔ vtx (n.Arcs.getD i default) (!s) = (v : Int) := by rw [← q2]; omega
   simp only [t1, t2]
   cases s <;> simp only [vtx, Bool.not_false, Bool.not_true, if_true, if_false, Bool.false_eq_true] <;> split <;> split <;> omega
  ·
   rw [Za3 hk, Za3 hk]
   by_cases e : (n.Arcs.getD k default).fr = (n.Arcs.getD k default).to
   ·
    have : k ≠ i := fun e2 => by subst e2; exact hne e
    rw [if_pos e, if_pos e, if_neg this]; rfl
   ·
    rw [if_neg e, if_neg e, Zbx r hlr hj]
    by_cases e2 : k = i
    ·
     subst e2
     cases s
     ·
      have b1 : pos n.Arcs k true = rv c j := by rw [q5]; rfl
      rw [if_pos b1, if_pos rfl, b1]; rfl
     ·
      have b1 : pos n.Arcs k true ≠ rv c j := fun e3 => by rw [q5] at e3; have := (Zbv r.he hk hk e e e3).2; cases this
      rw [if_neg b1, if_pos hp, if_pos rfl, hp]; rfl
    ·
     have b1 : pos n.Arcs k true ≠ rv c j := fun e3 => by rw [q5] at e3; exact e2 (Zbv r.he hk hi e hne e3).1
     have b2 : pos n.Arcs k true ≠ j := fun e3 => by rw [← hp] at e3; exact e2 (Zbv r.he hk hi e hne e3).1
     rw [if_neg b1, if_neg b2, if_neg e2, Int.add_zero]
theorem Zmt {p : Pre} {j : Nat} {d : Int} (r : Row n m L c) (h : ResOK n m L c p.Res p.Ex) (hj : j < L) (d0 : 0 ≤ d) (d1 : d ≤ p.Res.getD j 0) : Za9 c p (j : Nat) d = some ⟨mvR c p.Res j d, mvX c p.Ex j d, p.H⟩ := by
 refine Zef ?_
 obtain ⟨-, lh, lr, -, -, -⟩ := r.lens
 have h1 := r.head hj
 have h2 := r.rev hj
 have h3 := r.tlh hj
 have h4 := r.head h2.2.1
 have hlr := h.lr
 have hlx := h.lx
 have hm := h.move r hj d0 d1
 have b1 := h.bnd r h3.1
 have b2 := hm.bnd r h1.2
 have b3 := h.rle r hj
 have b4 := hm.rle r h2.2.1
 have b5 := h.rle r h2.2.1
 rw [Zf3 r hlx hj, if_neg h3.2.2.2, if_pos rfl] at b2
 rw [Zbx r hlr hj, if_pos rfl] at b4
 have e1 : (p.Res.set j (p.Res.getD j 0 - d)).getD (rv c j) 0 = p.Res.getD (rv c j) 0 := Z4b fun e => h2.2.2.2 e.symm
 have e2 : (p.Ex.set (tl c j) (p.Ex.getD (tl c j) 0 - d)).getD (hd c j) 0 = p.Ex.getD (hd c j) 0 := Z4b h3.2.2.2
 have e3 : c.Head.getD (rv c j) 0 = (tl c j : Nat) := h4.1
 unfold Za9
 simp only [Int.toNat_natCast, h1.1, h2.1, e3, e1, e2, List.length_set, hlr, hlx, lh, lr]
 have i1 : inb (j : Int) L := by constructor <;> omega
 have i2 : inb ((rv c j : Nat) : Int) L := by constructor <;> omega
 have i3 : inb ((tl c j : Nat) : Int) m := by constructor <;> omega
 have i4 : inb ((hd c j : Nat) : Int) m := by constructor <;> omega
 have o1 : i64ok (p.Res.getD j 0 - d) := by constructor <;> omega
 have o2 : i64ok (p.Res.getD (rv c j) 0 + d) := by constructor <;> omega
 have o3 : i64ok (p.Ex.getD (tl c j) 0 - d) := by constructor <;> omega
 have o4 : i64ok (p.Ex.getD (hd c j) 0 + d) := by constructor <;> omega
 refine Ok.gd.2 ⟨i1, Ok.gd.2 ⟨i2, Ok.gd.2 ⟨i1, Ok.gd.2 ⟨o1, Ok.gd.2 ⟨i1, Ok.gd.2 ⟨i1, Ok.gd.2 ⟨i2, Ok.gd.2 ⟨o2, Ok.gd.2 ⟨i2, Ok.gd.2 ⟨i3, Ok.gd.2 ⟨o3, Ok.gd.2 ⟨i3, Ok.gd.2 ⟨i1, Ok.gd.2 ⟨i4, Ok.gd.2 ⟨o4, Ok.gd.2 ⟨i4, Ok.some.2 rfl⟩⟩⟩⟩⟩⟩⟩⟩⟩⟩⟩⟩⟩⟩⟩⟩
theorem Zdu {xs : List Int} (h : xs.length ≤ 1000000000) : Z1v xs = some xs := by
 refine Zef ?_
 unfold Z1v
 exact Ok.gd.2 ⟨by constructor <;> omega, Ok.some.2 rfl⟩
theorem s_CloneI {xs : List Int} (h : xs.length ≤ 1000000000) : Z2a xs = some xs := by
 refine Zef ?_
 unfold Z2a
 exact Ok.gd.2 ⟨by constructor <;> omega, Ok.some.2 rfl⟩
end row
end Go.Acq
namespace Go.Acq
open Go
set_option linter.unusedSimpArgs false
set_option linter.unusedVariables false
def Zi0 (al : List Arc) (v : Nat) : Nat → List Int
  | 0 => []
  | k + 1 => Zi0 al v k ++ (if (al.getD k default).to = (v : Int) then [(k : Int)] else [])
theorem intoK_mem {al : List Arc} {v : Nat} {x : Int} : ∀ {k : Nat}, x ∈ Zi0 al v k ↔ ∃ i : Nat, i < k ∧ x = i ∧ (al.getD i default).to = (v : Int)
 | 0 => by simp [Zi0]
 | k + 1 => by
  rw [Zi0, List.mem_append, intoK_mem (k := k)]
  constructor
  ·
   rintro (⟨i, h1, h2⟩ | h)
   · exact ⟨i, by omega, h2⟩
   ·
    split at h
    · rename_i h2; rw [List.mem_singleton] at h; exact ⟨k, by omega, h, h2⟩
    · cases h
  ·
   rintro ⟨i, h1, h2, h3⟩
   rcases Nat.lt_or_ge i k with h | h
   · exact .inl ⟨i, h, h2, h3⟩
   ·
    have e : i = k := by omega
    subst e
    exact .inr (by rw [if_pos h3, h2]; exact .head _)
theorem Zfj {al : List Arc} {v : Nat} : ∀ k, (Zi0 al v k).length ≤ k
 | 0 => Nat.le_refl _
 | k + 1 => by
  have := Zfj (al := al) (v := v) k
  rw [Zi0, List.length_append]
  split <;> simp <;> omega
def IntoIs (n : Net) (m : Nat) (arcs : List (List Int)) : Prop := arcs.length = m ∧ ∀ v, v < m → arcs.getD v [] = Zi0 n.Arcs v n.Arcs.length
theorem IntoIs.at {n : Net} {m : Nat} {arcs : List (List Int)} (h : IntoIs n m arcs) {v q : Nat} (hv : v < m) (hq : q < (arcs.getD v []).length) :
    ∃ k : Nat, (arcs.getD v []).getD q 0 = k ∧ k < n.Arcs.length ∧ (n.Arcs.getD k default).to = (v : Int) := by
  have := Z5d hq 0
  rw [h.2 v hv] at this
  obtain ⟨i, h1, h2, h3⟩ := intoK_mem.1 this
  exact ⟨i, by rw [h.2 v hv]; exact h2, h1, h3⟩
theorem IntoIs.in {n : Net} {m : Nat} {arcs : List (List Int)} (h : IntoIs n m arcs) {v k : Nat} (hv : v < m) (hk : k < n.Arcs.length) (he : (n.Arcs.getD k default).to = (v : Int)) :
    ∃ q, q < (arcs.getD v []).length ∧ (arcs.getD v []).getD q 0 = k := by
  have : (k : Int) ∈ arcs.getD v [] := by rw [h.2 v hv]; exact intoK_mem.2 ⟨k, hk, rfl, he⟩
  obtain ⟨q, hq, e⟩ := List.getElem_of_mem this
  exact ⟨q, hq, by rw [List.getD_eq_getElem?_getD, List.getElem?_eq_getElem hq]; exact e⟩
theorem IntoIs.len {n : Net} {m : Nat} {arcs : List (List Int)} (h : IntoIs n m arcs) {v : Nat} (hv : v < m) : (arcs.getD v []).length ≤ n.Arcs.length := by
 rw [h.2 v hv]; exact Zfj _
theorem Znd {al : List Arc} {f : List Int} {v : Int} : ∀ {k : Nat}, (∀ i, i < k → 0 ≤ f.getD i 0) → (∀ i, i < k → (al.getD i default).to = v → f.getD i 0 = 0) → ex al f v k ≤ 0
 | 0, _, _ => Int.le_refl _
 | k + 1, h0, h => by
  have ih := Znd (k := k) (fun i hi => h0 i (by omega)) fun i hi => h i (by omega)
  have h1 := h0 k (by omega)
  have h2 := h k (by omega)
  rw [ex]
  by_cases e : (al.getD k default).to = v
  · rw [if_pos e, h2 e]; split <;> omega
  · rw [if_neg e]; split <;> omega
structure GB (n : Net) (m : Nat) (f g X : List Int) : Prop where
  len : g.length = n.Arcs.length
  le : ∀ i, i < n.Arcs.length → 0 ≤ g.getD i 0 ∧ g.getD i 0 ≤ f.getD i 0
  lx : X.length = m
  ex : ∀ v : Nat, v < m → X.getD v 0 = ex n.Arcs g v n.Arcs.length
  nn : ∀ v : Nat, v < m → (v : Int) ≠ n.S → 0 ≤ X.getD v 0
  atT : ∀ v : Nat, v < m → (v : Int) = n.T → Acq.ex n.Arcs f v n.Arcs.length ≤ X.getD v 0 ∧ ((∀ i, i < n.Arcs.length → (n.Arcs.getD i default).fr = n.T → f.getD i 0 = 0) → X.getD v 0 = Acq.ex n.Arcs f v n.Arcs.length)
  same : (∀ v : Nat, v < m → (v : Int) ≠ n.S → (v : Int) ≠ n.T → Acq.ex n.Arcs f v n.Arcs.length = 0) → g = f
section
variable {n : Net} {m : Nat} {f g X : List Int}
theorem GB.within (h : GB n m f g X) (hw : FwithinP n f) : FwithinP n g := ⟨hw.1, h.len, fun i hi => by have := h.le i hi; have := hw.2.2 i hi; omega⟩
theorem GB.start (hf : f.length = n.Arcs.length) (h0 : ∀ i, i < n.Arcs.length → 0 ≤ f.getD i 0) (hX : X.length = m) (he : ∀ v : Nat, v < m → X.getD v 0 = Acq.ex n.Arcs f v n.Arcs.length) (hn : ∀ v : Nat, v < m → (v : Int) ≠ n.S → 0 ≤ Acq.ex n.Arcs f v n.Arcs.length) : GB n m f f X :=
 ⟨hf, fun i hi => ⟨h0 i hi, Int.le_refl _⟩, hX, he, fun v hv hS => by rw [he v hv]; exact hn v hv hS, fun v hv hT => by rw [he v hv]; exact ⟨Int.le_refl _, fun _ => rfl⟩, fun _ => rfl⟩
theorem Zfm {u v w : Nat} {d : Int} (hv : v < X.length) (hu : u < X.length) : ((X.set v (X.getD v 0 - d)).set u ((X.set v (X.getD v 0 - d)).getD u 0 + d)).getD w 0 = X.getD w 0 - (if v = w then d else 0) + (if u = w then d else 0) := by
 rw [Zcf, List.length_set]
 by_cases e : u = w
 ·
  subst e
  rw [if_pos ⟨rfl, hu⟩, if_pos rfl, Zcf]
  by_cases e2 : v = u
  ·
   subst e2
   rw [if_pos ⟨rfl, hv⟩, if_pos rfl]
  · rw [if_neg (fun h => e2 h.1), if_neg e2]; omega
 ·
  rw [if_neg (fun h => e h.1), if_neg e, Zcf]
  by_cases e2 : v = w
  ·
   subst e2
   rw [if_pos ⟨rfl, hv⟩, if_pos rfl]; omega
  · rw [if_neg (fun h => e2 h.1), if_neg e2]; omega
theorem GB.give (h : GB n m f g X) {i u v : Nat} {d : Int} (hi : i < n.Arcs.length) (hv : v < m) (hu : u < m) (hto : (n.Arcs.getD i default).to = (v : Int)) (hfr : (n.Arcs.getD i default).fr = (u : Int))
    (hS : (v : Int) ≠ n.S) (hT : (v : Int) ≠ n.T) (h0 : 0 ≤ d) (h1 : d ≤ X.getD v 0) (h2 : d ≤ g.getD i 0) :
    GB n m f (g.set i (g.getD i 0 - d)) ((X.set v (X.getD v 0 - d)).set u ((X.set v (X.getD v 0 - d)).getD u 0 + d)) := by
  have hl := h.len
  have hx := h.lx
  have hg := fun w => Zfm (X := X) (u := u) (v := v) (w := w) (d := d) (by omega) (by omega)
  refine ⟨by rw [List.length_set]; exact hl, fun j hj => ?_, by simp [hx], fun w hw => ?_, fun w hw hwS => ?_, fun w hw hwT => ?_, fun hz => ?_⟩
  · have := h.le j hj
    have := h.le i hi
    by_cases e : i = j
    · subst e; rw [Z7l (by omega)]; omega
    · rw [Z4b e]; omega
  · rw [hg, Zk0 (by omega), if_pos hi, hto, hfr, h.ex w hw]
    by_cases e1 : v = w <;> by_cases e2 : u = w
    · rw [if_pos e1, if_pos e2, if_pos (by omega), if_pos (by omega)]; omega
    · rw [if_pos e1, if_neg e2, if_pos (by omega), if_neg (by omega)]; omega
    · rw [if_neg e1, if_pos e2, if_neg (by omega), if_pos (by omega)]; omega
    · rw [if_neg e1, if_neg e2, if_neg (by omega), if_neg (by omega)]; omega
  · have := h.nn w hw hwS
    rw [hg]
    by_cases e : v = w
    · subst e; rw [if_pos rfl]; split <;> omega
    · rw [if_neg e]; split <;> omega
  · have h3 := h.atT w hw hwT
    rw [hg, if_neg (by omega)]
    refine ⟨by split <;> omega, fun hz => ?_⟩
    have h4 := h3.2 hz
    by_cases e : u = w
    · have h5 := hz i hi (by omega)
      have := h.le i hi
      rw [if_pos e]; omega
    · rw [if_neg e]; omega
  · have e := h.same hz
    have h3 := hz v hv hS hT
    have h4 := h.ex v hv
    rw [e] at h4
    have h5 : d = 0 := by omega
    subst h5
    rw [← e]
    refine Zgz 0 (by rw [List.length_set]) fun j hj => ?_
    by_cases e2 : i = j
    · subst e2; rw [Z7l (by omega)]; omega
    · rw [Z4b e2]
def DoneP (n : Net) (m : Nat) (o X : List Int) (p : Nat) : Prop := ∀ q, p ≤ q → q < m → ∀ v : Nat, o.getD q 0 = (v : Int) → (v : Int) ≠ n.S → (v : Int) ≠ n.T → X.getD v 0 = 0
theorem DoneP.give {o : List Int} {p : Nat} (hd : DoneP n m o X (p + 1)) (ho : Topo n m f o) (hp : p < m) (h : GB n m f g X) {i u v : Nat} {d : Int} (hv : v < m) (hov : o.getD p 0 = (v : Int)) (hu : u < m) (hi : i < n.Arcs.length) (hto : (n.Arcs.getD i default).to = (v : Int)) (hfr : (n.Arcs.getD i default).fr = (u : Int))
    (h0 : 0 ≤ d) (h2 : d ≤ g.getD i 0) : DoneP n m o ((X.set v (X.getD v 0 - d)).set u ((X.set v (X.getD v 0 - d)).getD u 0 + d)) (p + 1) ∧ (0 < d → u ≠ v) := by
  have hx := h.lx
  have hnd := ho.2.1.nd
  have hol := ho.1
  have inj : ∀ q q', q < m → q' < m → o.getD q 0 = o.getD q' 0 → q = q' := fun q q' hq hq' e => by
    rw [List.getD_eq_getElem?_getD, List.getElem?_eq_getElem (by omega), List.getD_eq_getElem?_getD, List.getElem?_eq_getElem (by omega)] at e
    exact (List.getElem_inj hnd).1 e
  have hb : 0 < d → ∃ j, j < p ∧ o.getD j 0 = (u : Int) := fun hd0 => by
    have := h.le i hi
    obtain ⟨j, hj, e⟩ := ho.2.2 p (by omega) i hi (by omega) (hto.trans hov.symm)
    exact ⟨j, hj, e.trans hfr⟩
  refine ⟨fun q h1 h3 w hw hS hT => ?_, fun hd0 e => ?_⟩
  · rw [Zfm (by omega) (by omega), hd q h1 h3 w hw hS hT]
    have e1 : v ≠ w := fun e => by
      subst e
      have := inj p q hp h3 (hov.trans hw.symm)
      omega
    rw [if_neg e1]
    by_cases e2 : u = w
    · subst e2
      rw [if_pos rfl]
      rcases Int.lt_or_le 0 d with h4 | h4
      · obtain ⟨j, hj, e⟩ := hb h4
        have := inj j q (by omega) h3 (e.trans hw.symm)
        omega
      · omega
    · rw [if_neg e2]; omega
  · obtain ⟨j, hj, e2⟩ := hb hd0
    subst e
    have := inj j p (by omega) hp (e2.trans hov.symm)
    omega
theorem GB.done (h : GB n m f g X) {v : Nat} (hv : v < m) (hS : (v : Int) ≠ n.S) (hz : X.getD v 0 = 0 ∨ ∀ i, i < n.Arcs.length → (n.Arcs.getD i default).to = (v : Int) → g.getD i 0 = 0) : X.getD v 0 = 0 := by
 rcases hz with h1 | h1
 · exact h1
 ·
  have h2 := Znd (al := n.Arcs) (f := g) (v := v) (fun i hi => (h.le i hi).1) h1
  have := h.nn v hv hS
  have := h.ex v hv
  omega
structure BackP (n : Net) (f g : List Int) : Prop where
  len : g.length = n.Arcs.length
  le : ∀ i, i < n.Arcs.length → 0 ≤ g.getD i 0 ∧ g.getD i 0 ≤ f.getD i 0
  all : Zka n g (fun x => x = 0) [n.S, n.T]
  atT : ex n.Arcs f n.T n.Arcs.length ≤ ex n.Arcs g n.T n.Arcs.length
  eqT : (∀ i, i < n.Arcs.length → (n.Arcs.getD i default).fr = n.T → f.getD i 0 = 0) → ex n.Arcs g n.T n.Arcs.length = ex n.Arcs f n.T n.Arcs.length
  acyc : Acyc n g
  same : Acyc n f → Zka n f (fun x => x = 0) [n.S, n.T] → g = f
theorem Acyc.le (h : Acyc n f) (hg : ∀ i, i < n.Arcs.length → g.getD i 0 ≤ f.getD i 0) : Acyc n g := by
 obtain ⟨ρ, hρ⟩ := h
 exact ⟨ρ, fun k hk h0 => hρ k hk (by have := hg k hk; omega)⟩
end
end Go.Acq
namespace Go.Acq
open Go
set_option linter.unusedSimpArgs false
set_option linter.unusedVariables false
def owK (n : Net) (f : List Int) : Nat → Int
  | 0 => 0
  | k + 1 => owK n f k + (if (k : Int) ≠ n.S ∧ (k : Int) ≠ n.T then ex n.Arcs f k n.Arcs.length else 0)
theorem Zn4 {n : Net} {m : Nat} {f : List Int} (he : Z5e m n.Arcs) (hS : 0 ≤ n.S) (hT : 0 ≤ n.T) (hne : n.S ≠ n.T) : ∀ k : Nat, owK n f k = part n.Arcs f k n.Arcs.length - (if n.S < k then ex n.Arcs f n.S n.Arcs.length else 0) - (if n.T < k then ex n.Arcs f n.T n.Arcs.length else 0)
 | 0 => by rw [owK, show ((0 : Nat) : Int) = 0 from rfl, Zir he _ (Nat.le_refl _), if_neg (by omega), if_neg (by omega)]; rfl
 | k + 1 => by
  rw [owK, Zn4 he hS hT hne k, Int.natCast_succ, Ziq]
  by_cases e1 : (k : Int) = n.S
  ·
   rw [if_neg (show ¬((k : Int) ≠ n.S ∧ (k : Int) ≠ n.T) from fun h => h.1 e1), if_neg (show ¬ n.S < (k : Int) by omega), if_pos (show n.S < (k : Int) + 1 by omega), e1]
   by_cases e2 : n.T < (k : Int)
   · rw [if_pos (by omega), if_pos (by omega)]; omega
   · rw [if_neg (by omega), if_neg (by omega)]; omega
  ·
   by_cases e2 : (k : Int) = n.T
   ·
    rw [if_neg (show ¬((k : Int) ≠ n.S ∧ (k : Int) ≠ n.T) from fun h => h.2 e2), if_neg (show ¬ n.T < (k : Int) by omega), if_pos (show n.T < (k : Int) + 1 by omega), e2]
    by_cases e3 : n.S < (k : Int)
    · rw [if_pos (by omega), if_pos (by omega)]; omega
    · rw [if_neg (by omega), if_neg (by omega)]; omega
   ·
    rw [if_pos (show (k : Int) ≠ n.S ∧ (k : Int) ≠ n.T from ⟨e1, e2⟩)]
    have h1 : (n.S < (k : Int) + 1) = (n.S < (k : Int)) := by apply propext; omega
    have h2 : (n.T < (k : Int) + 1) = (n.T < (k : Int)) := by apply propext; omega
    simp only [h1, h2]; omega
theorem Zki {n : Net} {f : List Int} {m : Nat} (h : ∀ v : Nat, v < m → (v : Int) ≠ n.S → 0 ≤ ex n.Arcs f v n.Arcs.length) {j : Nat} : ∀ k, j ≤ k → k ≤ m → owK n f j ≤ owK n f k
 | 0, hj, _ => by rw [show j = 0 by omega]; exact Int.le_refl _
 | k + 1, hj, hk => by
  by_cases e : j = k + 1
  · rw [e]; exact Int.le_refl _
  ·
   have := Zki h (j := j) k (by omega) (by omega)
   rw [owK]
   split
   · rename_i h2; have := h k (by omega) h2.1; omega
   · omega
end Go.Acq
namespace Go.Acq
open Go
set_option linter.unusedSimpArgs false
set_option linter.unusedVariables false
theorem aw23 : Z5p = some true := by decide +kernel
section
variable {n : Net} {m : Nat} {f : List Int} {arcs : List (List Int)}
theorem s_into (hm : n.N = m) (hm2 : m ≤ 4096) (he : Z5e m n.Arcs) (hl : n.Arcs.length ≤ 16384) : Ok (Zal n) (fun arcs => IntoIs n m arcs) := by
 unfold Zal
 rw [hm]
 refine Ok.gd.2 ⟨(by omega), Ok.bind.2 ?_⟩
 simp only [Int.toNat_natCast]
 refine Z76 (fun s => ∃ k : Nat, s.2 = k ∧ k ≤ n.Arcs.length ∧ s.1.length = m ∧ ∀ v, v < m → s.1.getD v [] = Zi0 n.Arcs v k) (fun s => (n.Arcs.length - s.2).toNat) ⟨0, rfl, by omega, List.length_replicate, fun v _ => by rw [Z1w]; rfl⟩ (by unfold Z3f; simp only; omega) ?_
 rintro ⟨xs, x⟩ ⟨k, h1, hk, h3, h4⟩ P next exit
 simp only at h1 h3 h4 next ⊢
 subst h1
 unfold Z7p
 simp only [Int.toNat_natCast]
 refine Ok.ite.2 ⟨fun hx => ?_, fun hx => ?_⟩
 ·
  have hkl : k < n.Arcs.length := by omega
  have e0 := he k hkl true
  simp only [vtx, if_true] at e0
  obtain ⟨p, hp⟩ : ∃ p : Nat, (n.Arcs.getD k default).to = p := ⟨(n.Arcs.getD k default).to.toNat, by omega⟩
  rw [hp] at e0
  have h5 := h4 p (by omega)
  have h6 := Zfj (al := n.Arcs) (v := p) k
  simp only [hp, Int.toNat_natCast]
  refine Ok.gd.2 ⟨(by constructor <;> omega), Ok.gd.2 ⟨(by constructor <;> omega), Ok.gd.2 ⟨?_, Ok.gd.2 ⟨(by constructor <;> omega), Ok.some.2 (next _ ⟨k + 1, by simp, by omega, by simp [h3], fun v hv => ?_⟩ (by simp only; omega))⟩⟩⟩⟩
  · rw [List.length_append, h5]; simp only [List.length_singleton]; constructor <;> omega
  ·
   rw [Zcf, h3, h5, Zi0]
   by_cases e : p = v
   · subst e; rw [if_pos ⟨rfl, by omega⟩, if_pos hp]
   · rw [if_neg (fun h => e h.1), if_neg (fun h => by rw [hp] at h; omega), List.append_nil]; exact h4 v hv
 ·
  refine Ok.some.2 (exit _ ?_)
  unfold Z96
  exact Ok.some.2 ⟨h3, fun v hv => by rw [h4 v hv, show k = n.Arcs.length by omega]⟩
theorem DoneP.skip {o X : List Int} {p v : Nat} (hD : DoneP n m o X (p + 1)) (hov : o.getD p 0 = (v : Int)) (h : (v : Int) ≠ n.S → (v : Int) ≠ n.T → X.getD v 0 = 0) : DoneP n m o X p := fun q h1 h2 w hw hS hT => by
 rcases Nat.lt_or_ge p q with h3 | h3
 · exact hD q (by omega) h2 w hw hS hT
 ·
  have e : q = p := by omega
  subst e
  have e : v = w := by have := hov.symm.trans hw; omega
  subst e
  exact h hS hT
theorem s_gifts {g X o : List Int} {p v : Nat} (hm2 : m ≤ 4096) (hl : n.Arcs.length ≤ 16384) (he : Z5e m n.Arcs) (hi : IntoIs n m arcs) (hw : FwithinP n f) (ho : Topo n m f o) (hp : p < m) (hov : o.getD p 0 = (v : Int)) (hv : v < m) (hS : (v : Int) ≠ n.S) (hT : (v : Int) ≠ n.T) (hG : GB n m f g X) (hD : DoneP n m o X (p + 1)) :
    Ok (Z1t (fun s => Z6l n arcs v s.1 s.2.1 s.2.2) Z3f (g, X, 0)) (fun r => GB n m f r.1 r.2 ∧ DoneP n m o r.2 p) := by
  have hal := hi.len hv
  refine Z76 (fun s => ∃ q : Nat, s.2.2 = q ∧ q ≤ (arcs.getD v []).length ∧ GB n m f s.1 s.2.1 ∧ DoneP n m o s.2.1 (p + 1) ∧ (s.2.1.getD v 0 = 0 ∨ ∀ i, i < q → s.1.getD ((arcs.getD v []).getD i 0).toNat 0 = 0)) (fun s => ((arcs.getD v []).length - s.2.2).toNat) ⟨0, rfl, by omega, hG, hD, .inr fun i hi => by omega⟩ (by unfold Z3f; simp only; omega) ?_
  rintro ⟨g, X, y⟩ ⟨q, h1, hq, hG, hD, hz⟩ P next exit
  simp only at h1 hG hD hz next ⊢
  subst h1
  unfold Z6l
  simp only [Int.toNat_natCast]
  refine Ok.ite.2 ⟨fun hy => ?_, fun hy => Ok.some.2 (exit _ ⟨hG, hD.skip hov fun _ _ => hG.done hv hS ?_⟩)⟩
  · obtain ⟨k, hk, hkl, hto⟩ := hi.at hv (q := q) (by omega)
    have e0 := he k hkl false
    simp only [vtx, Bool.false_eq_true, if_false] at e0
    obtain ⟨u, hfr⟩ : ∃ u : Nat, (n.Arcs.getD k default).fr = (u : Int) := ⟨(n.Arcs.getD k default).fr.toNat, by omega⟩
    have hu : u < m := by omega
    simp only [hk, hfr, Int.toNat_natCast]
    have hgk := hG.le k hkl
    have hXv := hG.nn v hv hS
    obtain ⟨d, hd⟩ : ∃ d, min (X.getD v 0) (g.getD k 0) = d := ⟨_, rfl⟩
    simp only [hd]
    have hG2 := hG.give hkl hv hu hto hfr hS hT (d := d) (by omega) (by omega) (by omega)
    obtain ⟨hD2, hne⟩ := hD.give ho hp hG hv hov hu hkl hto hfr (d := d) (by omega) (by omega)
    have hwG := hG.within hw
    have b1 := Zc7 hwG v
    rw [← hG.ex v hv] at b1
    have b2 := Zc7 (hG2.within hw) u
    have hlx := hG.lx
    have hlg := hG.len
    rw [← hG2.ex u hu, Z7l (by rw [List.length_set]; omega)] at b2
    have t1 := hwG.tot (k + 1) (by omega)
    have t0 := hwG.tot k (by omega)
    simp only [tot] at t1
    refine Ok.gd.2 ⟨(by constructor <;> omega), Ok.gd.2 ⟨(by constructor <;> omega), Ok.gd.2 ⟨(by constructor <;> omega), Ok.gd.2 ⟨(by constructor <;> omega), Ok.gd.2 ⟨(by constructor <;> omega), Ok.gd.2 ⟨(by constructor <;> omega), Ok.gd.2 ⟨(by constructor <;> omega), Ok.gd.2 ⟨(by constructor <;> omega), Ok.gd.2 ⟨(by constructor <;> omega), Ok.gd.2 ⟨(by constructor <;> omega), Ok.gd.2 ⟨(by simp only [List.length_set, List.length_replicate]; constructor <;> omega), Ok.gd.2 ⟨(by constructor <;> omega), Ok.gd.2 ⟨(by simp only [List.length_set, List.length_replicate]; constructor <;> omega), Ok.gd.2 ⟨(by constructor <;> omega), Ok.some.2 (next _ ⟨q + 1, by simp, by omega, hG2, hD2, ?_⟩ (by simp only; omega))⟩⟩⟩⟩⟩⟩⟩⟩⟩⟩⟩⟩⟩⟩
    simp only
    rw [Zfm (by omega) (by omega), if_pos rfl]
    rcases hz with h0 | h0
    · left
      have hd0 : d = 0 := by omega
      subst hd0
      split <;> omega
    · by_cases hdx : d = X.getD v 0
      · left
        by_cases hd0 : 0 < d
        · rw [if_neg (hne hd0)]; omega
        · split <;> omega
      · right
        intro i hi2
        rw [Zcf]
        by_cases e : k = ((arcs.getD v []).getD i 0).toNat
        · rw [if_pos ⟨e, by omega⟩]; omega
        · rw [if_neg (fun h => e h.1)]
          rcases Nat.lt_or_ge i q with h | h
          · exact h0 i h
          · rw [show i = q by omega, hk, Int.toNat_natCast] at e; exact absurd rfl e
  · rcases hz with h0 | h0
    · exact .inl h0
    · refine .inr fun k hk hto => ?_
      obtain ⟨q', hq', e⟩ := hi.in hv hk hto
      have := h0 q' (by omega)
      rw [e, Int.toNat_natCast] at this
      exact this
theorem s_each {X o : List Int} (hm2 : m ≤ 4096) (hl : n.Arcs.length ≤ 16384) (he : Z5e m n.Arcs) (hi : IntoIs n m arcs) (hw : FwithinP n f) (ho : Topo n m f o) (hG : GB n m f f X) :
    Ok (Z3o (fun s v => Z48 n arcs s.1 s.2 v.1 v.2) o (.inl (f, X))) (fun t => ∃ g X, t = .inl (g, X) ∧ GB n m f g X ∧ DoneP n m o X 0) := by
  have hol := ho.1
  unfold Z3o
  refine Ok.gd.2 ⟨by rw [hol]; constructor <;> omega, Ok.bind.2 (Z76 (fun s => ∃ (p : Nat) (g X : List Int), s = ((p : Int) - 1, Sum.inl (g, X)) ∧ p ≤ m ∧ GB n m f g X ∧ DoneP n m o X p) (fun s => (s.1 + 1).toNat) ⟨m, f, X, by rw [hol], Nat.le_refl _, hG, fun q h1 h2 => by omega⟩ (by unfold Z3f; simp only; omega) ?_)⟩
  rintro s ⟨p, g, X, rfl, hp, hG, hD⟩ P next exit
  unfold Z2x
  refine Ok.ite.2 ⟨fun hx => ?_, fun hx => Ok.some.2 (exit _ (Ok.some.2 ⟨g, X, rfl, hG, ?_⟩))⟩
  · obtain ⟨p, rfl⟩ : ∃ q, p = q + 1 := ⟨p - 1, by omega⟩
    have e1 : ((p + 1 : Nat) : Int) - 1 = p := by omega
    simp only [e1, Int.toNat_natCast]
    obtain ⟨v, hov, hv⟩ := ho.2.1.lt (o.getD p 0) (Z5d (by omega) 0)
    refine Ok.gd.2 ⟨(by constructor <;> omega), Ok.bind.2 ?_⟩
    show Ok (Z48 n arcs g X p (o.getD p 0)) _
    rw [hov]
    have key : Ok (Z48 n arcs g X p v) (fun t => ∃ g X, t = .inl (g, X) ∧ GB n m f g X ∧ DoneP n m o X p) := by
      unfold Z48
      refine Ok.ite.2 ⟨fun h => Ok.some.2 ⟨g, X, rfl, hG, hD.skip hov fun h2 => absurd h h2⟩, fun hS => Ok.ite.2 ⟨fun h => Ok.some.2 ⟨g, X, rfl, hG, hD.skip hov fun _ h2 => absurd h h2⟩, fun hT => ?_⟩⟩
      have hil := hi.1
      refine Ok.gd.2 ⟨(by constructor <;> omega), Ok.bind.2 (Ok.mono (s_gifts hm2 hl he hi hw ho (by omega) hov hv hS hT hG hD) ?_)⟩
      rintro ⟨g', X'⟩ ⟨h1, h2⟩
      exact Ok.some.2 ⟨g', X', rfl, h1, h2⟩
    refine Ok.mono key ?_
    rintro _ ⟨g', X', rfl, hG', hD'⟩
    exact Ok.ite.2 ⟨fun h => by simp at h, fun _ => Ok.gd.2 ⟨(by constructor <;> omega), Ok.some.2 (next _ ⟨p, g', X', rfl, by omega, hG', hD'⟩ (by simp only; omega))⟩⟩
  · rw [show p = 0 by omega] at hD; exact hD
theorem s_Back (hl : lenok n.Arcs.length) : Ok (Z91 n f) (fun r => (¬ Zka n f (fun x => 0 ≤ x) [n.S] ∧ r = ([], 20)) ∨ (Zka n f (fun x => 0 ≤ x) [n.S] ∧ r.2 = 0 ∧ BackP n f r.1)) := by
 unfold Z91
 refine Ok.bind.2 (Ok.mono (s_Pre hl) fun b hb => Ok.ite.2 ⟨fun h => Ok.some.2 (.inl ⟨fun h2 => (by rw [hb.2 h2] at h; cases h), rfl⟩), fun h => ?_⟩)
 have hP := hb.1 (Zao h)
 obtain ⟨m, hm, -, hm2, hl2, he, hfl⟩ := hP.1.vert
 refine Ok.bind.2 (Ok.mono (s_Cancel hl) ?_)
 rintro ⟨f', t, e⟩ (⟨h, -⟩ | ⟨-, h0, hC, hA, -, -, -, hsame, -⟩)
 · exact absurd hP.1 h
 simp only at h0 hC hA hsame ⊢
 subst h0
 have hw' := hC.within hP.1
 refine Ok.ite.2 ⟨fun h => absurd rfl h, fun _ => Ok.bind.2 (Ok.mono (Zcv hl) ?_)⟩
 rintro ⟨X, e⟩ (⟨-, h1, hxl, hx⟩ | ⟨h, -⟩)
 rotate_left
 · exact absurd hw' h
 simp only at h1 hxl hx ⊢
 subst h1
 rw [hm, Int.toNat_natCast] at hxl hx
 refine Ok.ite.2 ⟨fun h => absurd rfl h, fun _ => Ok.bind.2 (Ok.mono (s_Order hl) ?_)⟩
 rintro ⟨o, b2⟩ (⟨h, -⟩ | ⟨-, h2, h3, -⟩)
 · exact absurd hw' h
 simp only at h2 h3 ⊢
 rw [hm, Int.toNat_natCast] at h2
 have ho : Topo n m f' o := by
  cases b2
  · exact absurd hA (h3 rfl).2
  · exact h2 rfl
 have hz := Z2u hP.1.1
 simp only [Z4u, decide_eq_true_eq] at hz
 have hst : GB n m f' f' X := GB.start hC.len (fun i hi => (hC.le i hi).1) hxl hx fun v hv hS => by
  rw [hC.ex]
  rcases hP.2 v (by omega) with h | h
  · exact h
  · rw [List.mem_singleton] at h; exact absurd h hS
 refine Ok.bind.2 (Ok.mono (s_into hm hm2 he hl2) fun arcs hi => ?_)
 unfold Z55
 refine Ok.bind.2 (Ok.some.2 (Ok.bind.2 (Ok.mono (s_each hm2 hl2 he hi hw' ho hst) ?_)))
 rintro _ ⟨g, Y, rfl, hG, hD⟩
 obtain ⟨T, hT⟩ : ∃ T : Nat, n.T = T := ⟨n.T.toNat, by omega⟩
 have hTm : T < m := by omega
 have h5 := hG.atT T hTm hT.symm
 have h6 := hG.ex T hTm
 refine Ok.some.2 (.inr ⟨hP, rfl, hG.len, fun i hi => ?_, ⟨hG.within hw', fun v hv => ?_⟩, ?_, fun hz => ?_, hA.le fun i hi => (hG.le i hi).2, fun h1 h2 => ?_⟩)
 ·
  have := hG.le i hi
  have := hC.le i hi
  show 0 ≤ g.getD i 0 ∧ g.getD i 0 ≤ _
  omega
 ·
  rw [hm, Int.toNat_natCast] at hv
  by_cases c1 : (v : Int) = n.S
  · exact .inr (by rw [c1]; exact .head _)
  ·
   by_cases c2 : (v : Int) = n.T
   · exact .inr (by rw [c2]; exact .tail _ (.head _))
   ·
    left
    obtain ⟨q, hq, e⟩ := List.getElem_of_mem (ho.mem hv)
    have hol := ho.1
    rw [← hG.ex v hv]
    exact hD q (Nat.zero_le _) (by omega) v (by rw [List.getD_eq_getElem?_getD, List.getElem?_eq_getElem hq]; exact e) c1 c2
 · rw [hT, ← hC.ex]; show _ ≤ ex n.Arcs g _ _; omega
 ·
  rw [hT, ← hC.ex]
  show ex n.Arcs g _ _ = _
  rw [← h6]
  exact h5.2 fun i hi hfr => by
   have := hC.le i hi
   have := hz i hi hfr
   omega
 ·
  have e := (hsame h1).1
  show g = f
  rw [← e]
  refine hG.same fun v hv hS hT => ?_
  rw [e]
  rcases h2.2 v (by omega) with h | h
  · exact h
  ·
   simp only [List.mem_cons, List.not_mem_nil, or_false] at h
   rcases h with h | h
   · exact absurd h hS
   · exact absurd h hT
theorem s_Owed (hl : lenok n.Arcs.length) : Ok (Z90 n f) (fun r => (¬ Zka n f (fun x => 0 ≤ x) [n.S] ∧ r = (0, 20)) ∨ (Zka n f (fun x => 0 ≤ x) [n.S] ∧ r.2 = 0 ∧ 0 ≤ r.1 ∧ r.1 = - ex n.Arcs f n.S n.Arcs.length - ex n.Arcs f n.T n.Arcs.length)) := by
 unfold Z90
 refine Ok.bind.2 (Ok.mono (s_Pre hl) fun b hb => Ok.ite.2 ⟨fun h => Ok.some.2 (.inl ⟨fun h2 => (by rw [hb.2 h2] at h; cases h), rfl⟩), fun h => ?_⟩)
 have hP := hb.1 (Zao h)
 obtain ⟨m, hm, -, hm2, hl2, he, hfl⟩ := hP.1.vert
 refine Ok.bind.2 (Ok.mono (Zcv hl) ?_)
 rintro ⟨X, e⟩ (⟨-, h1, hxl, hx⟩ | ⟨h, -⟩)
 rotate_left
 · exact absurd hP.1 h
 simp only at h1 hxl hx ⊢
 subst h1
 rw [hm, Int.toNat_natCast] at hxl hx
 have hz := Z2u hP.1.1
 simp only [Z4u, decide_eq_true_eq] at hz
 have hnn : ∀ v : Nat, v < m → (v : Int) ≠ n.S → 0 ≤ ex n.Arcs f v n.Arcs.length := fun v hv hS => by
  rcases hP.2 v (by omega) with h | h
  · exact h
  · rw [List.mem_singleton] at h; exact absurd h hS
 have hmo := fun j k => Zki (n := n) (f := f) hnn (j := j) k
 have hend := Zn4 (n := n) (f := f) he (by omega) (by omega) (by omega) m
 rw [Zhy he _ (Nat.le_refl _), if_pos (by omega), if_pos (by omega)] at hend
 have hbS := Zc7 hP.1 n.S
 obtain ⟨T, hT⟩ : ∃ T : Nat, n.T = T := ⟨n.T.toNat, by omega⟩
 have hTn := hnn T (by omega) (by omega)
 rw [← hT] at hTn
 refine Ok.bind.2 (Z76 (fun s => ∃ k : Nat, s.2 = k ∧ k ≤ m ∧ s.1 = owK n f k) (fun s => (m - s.2).toNat) ⟨0, rfl, by omega, rfl⟩ (by unfold Z3f; simp only; omega) ?_)
 rintro ⟨sum, x⟩ ⟨k, h1, hk, h2⟩ P next exit
 simp only at h1 h2 next ⊢
 subst h1; subst h2
 unfold Z7q
 refine Ok.ite.2 ⟨fun hx2 => ?_, fun hx2 => Ok.some.2 (exit _ ?_)⟩
 ·
  have hkm : k < m := by omega
  have hxk := hx k hkm
  have a0 := hmo 0 k (by omega) (by omega)
  have a1 := hmo 0 (k + 1) (by omega) (by omega)
  have a2 := hmo (k + 1) m (by omega) (by omega)
  simp only [owK] at a0 a1 a2
  have no : ¬((k : Int) ≠ n.S ∧ (k : Int) ≠ n.T) → Ok (Z5k X (owK n f k) k false) P := fun hn => by
   unfold Z5k
   refine Ok.ite.2 ⟨fun h => (by cases h), fun _ => Ok.gd.2 ⟨(by constructor <;> omega), Ok.some.2 (next _ ⟨k + 1, by simp, by omega, ?_⟩ (by simp only; omega))⟩⟩
   simp only [owK]
   rw [if_neg hn, Int.add_zero]
  refine Ok.gd.2 ⟨(by constructor <;> omega), Ok.ite.2 ⟨fun hS => ?_, fun hS => no fun h => hS h.1⟩⟩
  by_cases hT2 : (k : Int) = n.T
  · rw [decide_eq_false (fun h => h hT2)]; exact no fun h => h.2 hT2
  ·
   rw [decide_eq_true hT2]
   rw [if_pos ⟨hS, hT2⟩] at a1 a2
   unfold Z5k
   simp only [Int.toNat_natCast, hxk]
   refine Ok.ite.2 ⟨fun _ => Ok.gd.2 ⟨(by constructor <;> omega), Ok.gd.2 ⟨(by constructor <;> omega), Ok.some.2 (next _ ⟨k + 1, by simp, by omega, ?_⟩ (by simp only; omega))⟩⟩, fun h => absurd trivial h⟩
   simp only [owK]
   rw [if_pos ⟨hS, hT2⟩]
 ·
  have e : k = m := by omega
  subst e
  have a0 := hmo 0 k (by omega) (by omega)
  simp only [owK] at a0
  unfold Z97
  exact Ok.some.2 (.inr ⟨hP, rfl, a0, by show owK n f k = _; omega⟩)
end
end Go.Acq
namespace Go.Acq
open Go
set_option linter.unusedSimpArgs false
theorem s_FlowG {n : Net} {m a : Nat} {c : Csr} {res : List Int} (h : CsrIs n m c) (he : Z5e m n.Arcs) (hm : m ≤ 4096) (hl : n.Arcs.length ≤ 16384) (hal : ∀ j, j < Z1e n.Arcs m → c.Arc.getD j 0 < a) (ha : a ≤ 16384)
    (hcap : ∀ i, i < n.Arcs.length → 0 ≤ (n.Arcs.getD i default).cap ∧ (n.Arcs.getD i default).cap ≤ 4611686018427387904) (hr : res.length = Z1e n.Arcs m) :
    Ok (Zad c res a) (fun r => ((∀ j, j < Z1e n.Arcs m → Zdb c.Rev c.Cap res j) ∧ r.2 = 0 ∧ FlowK n.Arcs a res (Z1e n.Arcs m) r.1) ∨ ((∃ j, j < Z1e n.Arcs m ∧ ¬Zdb c.Rev c.Cap res j) ∧ r = ([], 20))) := by
  have hok := h.ok
  have lh := hok.lh
  have lr := hok.lr
  have lc := hok.lc
  have la := hok.la
  have lb := hok.lb
  have hbs := Z9h (al := n.Arcs) (v := m) hm hl
  unfold Zad Zbi
  refine Ok.bind.2 (Ok.some.2 (Ok.ite.2 ⟨fun hx => by omega, fun _ => Ok.ite.2 ⟨fun hx => by omega, fun _ => Ok.ite.2 ⟨fun hx => by omega, fun _ => Ok.bind.2 (Ok.mono (s_over (by omega)) ?_)⟩⟩⟩))
  rintro b rfl
  have hno : ¬ ∃ j, j < c.Arc.length ∧ (a : Int) ≤ c.Arc.getD j 0 := by
    rintro ⟨j, hj, hja⟩
    have := hal j (by omega)
    omega
  unfold Z68
  refine Ok.ite.2 ⟨fun hx => absurd (of_decide_eq_true hx) hno, fun _ => Ok.gd.2 ⟨(by omega), Ok.bind.2 ?_⟩⟩
  refine Z76 (fun s => ∃ k : Nat, s.2 = k ∧ k ≤ Z1e n.Arcs m ∧ FlowK n.Arcs a res k s.1 ∧ ∀ j, j < k → Zdb c.Rev c.Cap res j) (fun s => (Z1e n.Arcs m - s.2).toNat) ⟨0, rfl, by omega, ⟨by simp, fun i => ?_⟩, fun j hj => by omega⟩ (by unfold Z3f; simp only; omega) ?_
  · simp only [Z1w, Nat.not_lt_zero, and_false, if_false]
  rintro ⟨fl, x⟩ ⟨k, g1, g2, g3, g4⟩ P next exit
  simp only at g1 g2 g3 next ⊢
  subst g1
  unfold Z8n
  simp only [Int.toNat_natCast]
  have hfl := g3.1
  refine Ok.ite.2 ⟨fun hx => ?_, fun hx => ?_⟩
  · have hk : k < Z1e n.Arcs m := by omega
    obtain ⟨i, s, hi, hne, hp, q1, q2, q3, q4, q5⟩ := hok.place hk
    have hq : pos n.Arcs i (!s) < Z1e n.Arcs m := Zda hi hne he
    have hp2 : pos n.Arcs i s < Z1e n.Arcs m := Zda hi hne he
    have hci := hcap i hi
    have hia := hal k hk
    rw [q4] at hia
    have r3 : c.Cap.getD (pos n.Arcs i (!s)) 0 = (if (!s) then 0 else (n.Arcs.getD i default).cap) := (hok.hat i hi hne (!s)).2.2.1
    have bad : ¬Zdb c.Rev c.Cap res k → P (.inr (.inl ([], 20))) := fun hr => exit _ (Ok.some.2 (.inr ⟨⟨k, hk, hr⟩, rfl⟩))
    have hmax : max (c.Cap.getD k 0) (c.Cap.getD (c.Rev.getD k 0).toNat 0) = (n.Arcs.getD i default).cap := by
      rw [q2, Int.toNat_natCast, q3, r3]; cases s <;> simp only [Bool.not_false, Bool.not_true, if_true, Bool.false_eq_true, if_false] <;> omega
    have j3 : ∀ t : Bool, (t = true → ¬Zdb c.Rev c.Cap res k) → (t = false → Zdb c.Rev c.Cap res k) → Ok (Z67 c res fl k t) P := by
      intro t t1 t2
      unfold Z67
      simp only [Int.toNat_natCast]
      refine Ok.ite.2 ⟨fun ht => Ok.some.2 (bad (t1 ht)), fun ht => ?_⟩
      have hfk := t2 (by simpa using ht)
      have hall : ∀ j, j < k + 1 → Zdb c.Rev c.Cap res j := fun j hj => by
        rcases Nat.lt_or_ge j k with h | h
        · exact g4 j h
        · rw [show j = k by omega]; exact hfk
      refine Ok.gd.2 ⟨(by omega), Ok.ite.2 ⟨fun hb => ?_, fun hb => ?_⟩⟩
      · have hs : s = true := by rw [q5] at hb; exact hb
        subst hs
        simp only [q4, Int.toNat_natCast]
        refine Ok.gd.2 ⟨(by omega), Ok.gd.2 ⟨(by omega), Ok.gd.2 ⟨(by omega), Ok.some.2 (next _ ⟨k + 1, by simp, by omega, ⟨by simp [hfl], fun i' => ?_⟩, hall⟩ (by simp only; omega))⟩⟩⟩
        simp only
        rw [Zcf]
        by_cases e : i = i'
        · subst e
          rw [if_pos ⟨rfl, by omega⟩, if_pos ⟨hi, hne, by omega⟩, hp]
        · rw [if_neg (fun h => e h.1), g3.2 i']
          by_cases c1 : i' < n.Arcs.length ∧ (n.Arcs.getD i' default).fr ≠ (n.Arcs.getD i' default).to
          · have : pos n.Arcs i' true ≠ k := fun h => e (Zbv he hi c1.1 hne c1.2 (hp.trans h.symm)).1
            by_cases c2 : pos n.Arcs i' true < k
            · rw [if_pos ⟨c1.1, c1.2, c2⟩, if_pos ⟨c1.1, c1.2, by omega⟩]
            · rw [if_neg (fun h => c2 h.2.2), if_neg (fun h => by have := h.2.2; omega)]
          · rw [if_neg (fun h => c1 ⟨h.1, h.2.1⟩), if_neg (fun h => c1 ⟨h.1, h.2.1⟩)]
      · have hs : s = false := by rw [q5] at hb; simpa using hb
        subst hs
        refine Ok.gd.2 ⟨(by omega), Ok.some.2 (next _ ⟨k + 1, by simp, by omega, ⟨hfl, fun i' => ?_⟩, hall⟩ (by simp only; omega))⟩
        rw [g3.2 i']
        by_cases c1 : i' < n.Arcs.length ∧ (n.Arcs.getD i' default).fr ≠ (n.Arcs.getD i' default).to
        · have : pos n.Arcs i' true ≠ k := fun h => by have := (Zbv he hi c1.1 hne c1.2 (hp.trans h.symm)).2; cases this
          by_cases c2 : pos n.Arcs i' true < k
          · rw [if_pos ⟨c1.1, c1.2, c2⟩, if_pos ⟨c1.1, c1.2, by omega⟩]
          · rw [if_neg (fun h => c2 h.2.2), if_neg (fun h => by have := h.2.2; omega)]
        · rw [if_neg (fun h => c1 ⟨h.1, h.2.1⟩), if_neg (fun h => c1 ⟨h.1, h.2.1⟩)]
    have hrev : inb (c.Rev.getD k 0) c.Cap.length := by rw [q2]; constructor <;> omega
    have hrev2 : inb (c.Rev.getD k 0) res.length := by rw [q2]; constructor <;> omega
    refine Ok.gd.2 ⟨(by omega), Ok.gd.2 ⟨(by omega), Ok.gd.2 ⟨(by omega), Ok.gd.2 ⟨hrev, Ok.ite.2 ⟨fun h1 => ?_, fun h1 => Ok.ite.2 ⟨fun h2 => ?_, fun h2 => ?_⟩⟩⟩⟩⟩⟩
    · exact j3 true (fun _ hf => by have := hf.1; omega) (fun h => by cases h)
    · exact j3 true (fun _ hf => by have := hf.2.1; omega) (fun h => by cases h)
    · refine Ok.gd.2 ⟨(by omega), Ok.gd.2 ⟨hrev2, Ok.gd.2 ⟨by rw [hmax]; constructor <;> omega, j3 _ (fun h hf => (of_decide_eq_true h) hf.2.2) (fun h => ⟨by omega, by omega, ?_⟩)⟩⟩⟩
      exact Classical.not_not.1 (of_decide_eq_false h)
  · refine Ok.some.2 (exit _ ?_)
    unfold Za2
    have : k = Z1e n.Arcs m := by omega
    subst this
    exact Ok.some.2 (.inl ⟨g4, rfl, g3⟩)
section row
variable {n : Net} {m L : Nat} {c : Csr}
theorem Zlf {R : List Int} (r : Row n m L c) : (∀ j, j < L → Zdb c.Rev c.Cap R j) ↔ ∀ j, j < L → 0 ≤ R.getD j 0 ∧ R.getD j 0 + R.getD (rv c j) 0 = cp c j := by
 constructor
 ·
  intro h j hj
  have := h j hj
  unfold Zdb at this
  rw [(r.rev hj).1, Int.toNat_natCast] at this
  unfold cp; omega
 ·
  intro h j hj
  have h1 := h j hj
  have h2 := h _ (r.rev hj).2.1
  unfold Zdb
  rw [(r.rev hj).1, Int.toNat_natCast]
  unfold cp at h1; omega
def HeightsP (n : Net) (m : Nat) (h : List Int) : Prop := h.length = m ∧ (∀ s : Nat, n.S = s → h.getD s 0 = m) ∧ (∀ t : Nat, n.T = t → h.getD t 0 = 0) ∧ ∀ v, v < m → 0 ≤ h.getD v 0 ∧ h.getD v 0 < 2 * m
structure PreOK (n : Net) (m L : Nat) (c : Csr) (p : Pre) : Prop where
  ok : ResOK n m L c p.Res p.Ex
  nn : ∀ v, v < m → (v : Int) ≠ n.S → 0 ≤ p.Ex.getD v 0
  hs : HeightsP n m p.H
  val : ∀ j, j < L → 0 < p.Res.getD j 0 → p.H.getD (tl c j) 0 ≤ p.H.getD (hd c j) 0 + 1
structure PreLen (p : Pre) : Prop where
  r : lenok p.Res.length
  x : lenok p.Ex.length
  h : lenok p.H.length
theorem PreOK.len {p : Pre} (h : PreOK n m L c p) (r : Row n m L c) : PreLen p := by
 have := r.bd
 have h1 := h.ok.lr
 have h2 := h.ok.lx
 have h3 := h.hs.1
 exact ⟨by omega, by omega, by omega⟩
end row
end Go.Acq
namespace Go.Acq
open Go
set_option linter.unusedSimpArgs false
def Zgd (n : Net) (X : List Int) (u : Nat) : Prop := (u : Int) ≠ n.S ∧ (u : Int) ≠ n.T ∧ 0 < X.getD u 0
instance (n : Net) (X : List Int) (u : Nat) : Decidable (Zgd n X u) := by unfold Zgd; infer_instance
def Zgc (c : Csr) (p : Pre) (u j : Nat) : Prop := 0 < p.Res.getD j 0 ∧ p.H.getD u 0 = p.H.getD (hd c j) 0 + 1
instance (c : Csr) (p : Pre) (u j : Nat) : Decidable (Zgc c p u j) := by unfold Zgc; infer_instance
def Zcs (n : Net) (c : Csr) (p : Pre) (u : Nat) : Prop := Zgd n p.Ex u ∧ ∀ j, fs c u ≤ j → j < fs c (u + 1) → ¬Zgc c p u j
instance (n : Net) (c : Csr) (p : Pre) (u : Nat) : Decidable (Zcs n c p u) :=
  if h : Zgd n p.Ex u ∧ ∀ j, j < fs c (u + 1) → fs c u ≤ j → ¬Zgc c p u j then .isTrue ⟨h.1, fun j a b => h.2 j b a⟩ else .isFalse fun g => h ⟨g.1, fun j a b => g.2 j b a⟩
def Zgn (p : Nat → Bool) : Nat → List Int
  | 0 => []
  | k + 1 => Zgn p k ++ (if p k = true then [(k : Int)] else [])
theorem Zht (p : Nat → Bool) : ∀ k, (Zgn p k).length ≤ k
 | 0 => Nat.le_refl _
 | k + 1 => by
  have := Zht p k
  simp only [Zgn, List.length_append]
  split <;> simp <;> omega
theorem mem_selN {p : Nat → Bool} {a : Int} : ∀ {k : Nat}, a ∈ Zgn p k ↔ ∃ i : Nat, i < k ∧ p i = true ∧ a = i
 | 0 => by simp [Zgn]
 | k + 1 => by
  simp only [Zgn, List.mem_append, mem_selN (k := k)]
  constructor
  ·
   rintro (⟨i, h1, h2, h3⟩ | h)
   · exact ⟨i, by omega, h2, h3⟩
   ·
    by_cases c : p k = true
    · rw [if_pos c] at h; exact ⟨k, by omega, c, List.mem_singleton.1 h⟩
    · rw [if_neg c] at h; cases h
  ·
   rintro ⟨i, h1, h2, h3⟩
   rcases Nat.lt_or_ge i k with h | h
   · exact .inl ⟨i, h, h2, h3⟩
   ·
    have : i = k := by omega
    subst this
    right; rw [if_pos h2]; exact List.mem_singleton.2 h3
section row
variable {n : Net} {m L : Nat} {c : Csr}
theorem Zhu {p : Pre} {u : Nat} (r : Row n m L c) (lx : p.Ex.length = m) (hu : u < m) : Z62 c p (u : Nat) = some (decide (Zgd n p.Ex u)) := by
 have h2 := r.is.hS
 have h3 := r.is.hT
 unfold Z62 Zgd
 rw [h2, h3]
 by_cases a : (u : Int) ≠ n.S
 ·
  by_cases b : (u : Int) ≠ n.T
  · rw [if_pos a, if_pos b, Zam (by constructor <;> omega), Int.toNat_natCast]; simp [a, b]
  · rw [if_pos a, if_neg b]; simp [b]
 · rw [if_neg a]; simp [a]
def HtB (m : Nat) (h : List Int) : Prop := h.length = m ∧ ∀ v, v < m → -1000000 ≤ h.getD v 0 ∧ h.getD v 0 ≤ 1000000
theorem HeightsP.hb {h : List Int} (r : Row n m L c) (hh : HeightsP n m h) : HtB m h := ⟨hh.1, fun v hv => by have := hh.2.2.2 v hv; have := r.bd; omega⟩
theorem Zcb {p : Pre} {u j : Nat} (r : Row n m L c) (lr : p.Res.length = L) (hb : HtB m p.H) (hu : u < m) (hj : j < L) : Z4g c p (u : Nat) (j : Nat) = some (decide (Zgc c p u j)) := by
 have g1 := r.head hj
 have g2 := hb.2 _ g1.2
 have := hb.1
 have := r.lens.2.1
 unfold Z4g Zgc
 simp only [Int.toNat_natCast, g1.1]
 rw [Zam (by constructor <;> omega)]
 by_cases h : 0 < p.Res.getD j 0
 ·
  rw [if_pos h, Zam (by constructor <;> omega), Zam (by constructor <;> omega), Zam (by constructor <;> omega), Zam (by constructor <;> omega)]
  exact congrArg some (decide_eq_decide.2 ⟨fun e => ⟨h, e⟩, fun e => e.2⟩)
 ·
  rw [if_neg h]
  exact congrArg some (decide_eq_false fun e => h e.1).symm
theorem Zms {p : Pre} {u : Nat} (r : Row n m L c) (lr : p.Res.length = L) (lx : p.Ex.length = m) (hb : HtB m p.H) (hu : u < m) : Ok (Z8w c p (u : Nat)) (fun b => b = decide (Zcs n c p u)) := by
 have hfl := r.first.2.2.2 u hu
 unfold Z8w Z5s
 refine Ok.bind.2 (Ok.some.2 (Ok.bind.2 (Ok.mono (Zim r hu (fun j _ => ∀ i, fs c u ≤ i → i < j → ¬Zgc c p u i) (fun _ => ∃ j, fs c u ≤ j ∧ j < fs c (u + 1) ∧ Zgc c p u j) (fun i h1 h2 => by omega) fun j s h1 h2 h3 => ?_) ?_)))
 ·
  unfold Z6j
  refine Ok.bind.2 (Z8v (Zcb r lr hb hu (by omega)) (Ok.ite.2 ⟨fun h => Ok.some.2 ⟨j, h1, h2, of_decide_eq_true h⟩, fun h => Ok.some.2 fun i h4 h5 => ?_⟩))
  rcases Nat.lt_or_ge i j with h6 | h6
  · exact h3 i h4 h6
  · rw [show i = j by omega]; exact fun h7 => h (decide_eq_true h7)
 ·
  rintro (s | x) h
  ·
   refine Ok.bind.2 (Z8v (Zhu r lx hu) (Ok.some.2 ?_))
   rw [Bool.eq_iff_iff, decide_eq_true_iff, decide_eq_true_iff]
   exact ⟨fun h1 => ⟨h1, h⟩, fun h1 => h1.1⟩
  ·
   obtain ⟨j, h1, h2, h3⟩ := h
   exact Ok.some.2 (decide_eq_false fun h4 => h4.2 j h1 h2 h3).symm
theorem s_all {p : Nat → Bool} {step : List Int → Int → Option ((List Int × Int) ⊕ List Int)} (hm : m ≤ 4096)
    (hs : ∀ (o : List Int) (k : Nat), k ≤ m → o.length ≤ k → step o k = if k < m then (if p k = true then some (.inl (o ++ [(k : Int)], (k : Int) + 1)) else some (.inl (o, (k : Int) + 1))) else some (.inr o)) : Ok (Z1t (fun s => step s.1 s.2) Z3f ([], 0)) (fun o => o = Zgn p m) := by
  refine Z76 (fun s => ∃ k : Nat, s.2 = k ∧ k ≤ m ∧ s.1 = Zgn p k) (fun s => (m - s.2).toNat) ⟨0, rfl, by omega, rfl⟩ (by unfold Z3f; simp only; omega) ?_
  rintro ⟨o, x⟩ ⟨k, h1, hk, ho⟩ P next exit
  simp only at h1 ho next ⊢
  subst h1; subst ho
  rw [hs _ k hk (Zht p k)]
  refine Ok.ite.2 ⟨fun hx => Ok.ite.2 ⟨fun h => Ok.some.2 (next _ ⟨k + 1, by simp, by omega, by simp only [Zgn]; rw [if_pos h]⟩ (by simp only; omega)), fun h => Ok.some.2 (next _ ⟨k + 1, by simp, by omega, by simp only [Zgn]; rw [if_neg h, List.append_nil]⟩ (by simp only; omega))⟩, fun hx => Ok.some.2 (exit _ (by rw [show k = m by omega]))⟩
theorem s_May {p : Pre} (r : Row n m L c) (lr : p.Res.length = L) (lx : p.Ex.length = m) (hb : HtB m p.H) : Zbg c p = some (Zgn (fun j => decide (Zgd n p.Ex (tl c j) ∧ Zgc c p (tl c j) j)) L, Zgn (fun u => decide (Zcs n c p u)) m) := by
 have b := r.bd
 have hN := r.is.hN
 refine Zef ?_
 unfold Zbg
 refine Ok.bind.2 (Z76 (fun s => ∃ k : Nat, s.2 = k ∧ k ≤ m ∧ s.1 = Zgn (fun j => decide (Zgd n p.Ex (tl c j) ∧ Zgc c p (tl c j) j)) (fs c k)) (fun s => (m - s.2).toNat) ⟨0, rfl, by omega, by rw [r.first.2.1]; rfl⟩ (by unfold Z3f; simp only; omega) ?_)
 rintro ⟨o, x⟩ ⟨k, h1, hk, ho⟩ P next exit
 simp only at h1 ho next ⊢
 subst h1
 unfold Z9c
 rw [hN]
 refine Ok.ite.2 ⟨fun hx => ?_, fun hx => Ok.some.2 (exit _ ?_)⟩
 ·
  have hkm : k < m := by omega
  have hfl := r.first.2.2.2 k hkm
  unfold Z5s
  refine Ok.bind.2 (Ok.some.2 (Ok.bind.2 (Ok.mono (Zim r hkm (fun j s => s = Zgn (fun j => decide (Zgd n p.Ex (tl c j) ∧ Zgc c p (tl c j) j)) j) (fun _ => False) ho fun j s g1 g2 g3 => ?_) ?_)))
  ·
   have hjL : j < L := by omega
   have ht := (r.range hjL hkm).1 ⟨g1, g2⟩
   subst g3
   have hle := Zht (fun j => decide (Zgd n p.Ex (tl c j) ∧ Zgc c p (tl c j) j)) j
   have j3 : ∀ (b : Bool) (P : List Int ⊕ Empty → Prop), (P (.inl (Zgn (fun j => decide (Zgd n p.Ex (tl c j) ∧ Zgc c p (tl c j) j)) (j + 1)))) → (b = true ↔ (Zgd n p.Ex k ∧ Zgc c p k j)) → Ok (Z85 (Zgn (fun j => decide (Zgd n p.Ex (tl c j) ∧ Zgc c p (tl c j) j)) j) (j : Nat) b) P := by
    intro b P hP hb
    unfold Z85
    have e : decide (Zgd n p.Ex (tl c j) ∧ Zgc c p (tl c j) j) = b := by rw [ht, Bool.eq_iff_iff, decide_eq_true_iff]; exact hb.symm
    refine Ok.ite.2 ⟨fun h => Ok.gd.2 ⟨?_, Ok.some.2 ?_⟩, fun h => Ok.some.2 ?_⟩
    · rw [List.length_append, List.length_singleton]; constructor <;> omega
    · simp only [Zgn] at hP; rw [if_pos (e.trans h)] at hP; exact hP
    · simp only [Zgn] at hP; rw [if_neg (by rw [e]; exact h), List.append_nil] at hP; exact hP
   unfold Z84
   refine Ok.bind.2 (Z8v (Zhu r lx hkm) (Ok.ite.2 ⟨fun h => Ok.bind.2 (Z8v (Zcb r lr hb hkm hjL) (j3 _ _ rfl ?_)), fun h => j3 false _ rfl ⟨fun h2 => (by cases h2), fun h2 => absurd (decide_eq_true h2.1) h⟩⟩))
   rw [decide_eq_true_iff]
   exact ⟨fun h2 => ⟨of_decide_eq_true h, h2⟩, fun h2 => h2.2⟩
  ·
   rintro (s | x) h
   · exact Ok.gd.2 ⟨(by omega), Ok.some.2 (next _ ⟨k + 1, by simp, by omega, h⟩ (by simp only; omega))⟩
   · exact h.elim
 ·
  obtain rfl : k = m := by omega
  unfold Zay Z8g
  refine Ok.bind.2 (Ok.bind.2 (Ok.mono (s_all (m := k) (p := fun u => decide (Zcs n c p u)) (step := fun o x => Z4c c c p o x) (by omega) fun o q hq hol => ?_) fun o2 ho2 => ?_))
  ·
   unfold Z4c Zby
   rw [hN]
   by_cases h : q < k
   ·
    obtain ⟨b, hb1, hb2⟩ := Zms r lr lx hb h
    rw [if_pos (by omega), if_pos h, hb1]
    simp only [Option.bind_some]
    rw [hb2]
    by_cases h2 : decide (Zcs n c p q) = true
    · rw [if_pos h2, if_pos h2, Zam (by rw [List.length_append, List.length_singleton]; constructor <;> omega), Zam (by constructor <;> omega)]
    · rw [if_neg h2, if_neg h2, Zam (by constructor <;> omega)]
   · rw [if_neg (by omega), if_neg h]
  ·
   unfold Z6r
   refine Ok.some.2 (Ok.some.2 ?_)
   rw [ho, r.first.2.2.1, ho2]
def Zjw (c : Csr) (p : Pre) (j : Nat) : Int := min (p.Ex.getD (tl c j) 0) (p.Res.getD j 0)
def Zio (c : Csr) (p : Pre) (j : Nat) : Pre := ⟨mvR c p.Res j (Zjw c p j), mvX c p.Ex j (Zjw c p j), p.H⟩
theorem s_Copy {p : Pre} (h1 : p.Res.length ≤ 1000000000) (h2 : p.Ex.length ≤ 1000000000) (h3 : p.H.length ≤ 1000000000) : Z8x p = some p := by
 unfold Z8x
 rw [Zdu h1, Zdu h2, s_CloneI h3]; rfl
theorem s_Push {p : Pre} {j : Nat} (r : Row n m L c) (h : ResOK n m L c p.Res p.Ex) (hb : HtB m p.H) (hj : j < L) :
    Zaa c p (j : Nat) = some (if Zgd n p.Ex (tl c j) ∧ Zgc c p (tl c j) j then (Zio c p j, Zjw c p j, 0) else (⟨[], [], []⟩, 0, 30)) := by
  have b := r.bd
  have lr := h.lr
  have lx := h.lx
  have lh := hb.1
  have ht := (r.tlh hj).1
  unfold Zaa
  rw [r.tailM hj]
  simp only [Option.bind_some]
  rw [if_neg (by simp), Zhu r lx ht]
  simp only [Option.bind_some]
  have j1 : Zgd n p.Ex (tl c j) ∧ Zgc c p (tl c j) j → Z56 c p (j : Nat) (tl c j : Nat) false = some (Zio c p j, Zjw c p j, 0) := fun hA => by
    unfold Z56
    rw [if_neg (by simp), s_Copy (by omega) (by omega) (by omega)]
    simp only [Option.bind_some, Int.toNat_natCast]
    have h1 := hA.1.2.2
    have h2 := hA.2.1
    rw [Zam (by constructor <;> omega), Zam (by constructor <;> omega), Zmt r h hj (by omega) (by omega)]
    rfl
  by_cases hA : Zgd n p.Ex (tl c j)
  · rw [if_neg (by simp [hA]), Zcb r lr hb ht hj]
    simp only [Option.bind_some]
    by_cases hB : Zgc c p (tl c j) j
    · rw [if_pos ⟨hA, hB⟩, decide_eq_true hB]; exact j1 ⟨hA, hB⟩
    · rw [if_neg fun h => hB h.2, decide_eq_false hB]
      unfold Z56; rw [if_pos (by decide)]
  · rw [if_pos (by simp [hA]), if_neg fun h => hA h.1]
    unfold Z56; rw [if_pos rfl]
theorem PreOK.push {p : Pre} {j : Nat} (h : PreOK n m L c p) (r : Row n m L c) (hj : j < L) (hA : Zgd n p.Ex (tl c j)) (hB : Zgc c p (tl c j) j) : PreOK n m L c (Zio c p j) := by
 have h1 := hA.2.2
 have h2 := hB.1
 have hD : Zjw c p j = min (p.Ex.getD (tl c j) 0) (p.Res.getD j 0) := rfl
 have hlr := h.ok.lr
 have hlx := h.ok.lx
 have ht := r.tlh hj
 have hr := r.rev hj
 refine ⟨h.ok.move r hj (by omega) (by omega), fun v hv hvS => ?_, h.hs, fun k hk h0 => ?_⟩
 ·
  have := h.nn v hv hvS
  simp only [Zio]
  rw [Zf3 r hlx hj]
  by_cases c1 : tl c j = v
  ·
   subst c1
   rw [if_pos rfl, if_neg fun e => ht.2.2.2 e.symm]; omega
  · rw [if_neg c1]; split <;> omega
 ·
  simp only [Zio] at h0 ⊢
  rw [Zbx r hlr hj] at h0
  by_cases c1 : k = rv c j
  ·
   subst c1
   rw [ht.2.1, ht.2.2.1]
   have := hB.2
   omega
  ·
   rw [if_neg c1] at h0
   by_cases c2 : k = j
   · subst c2; exact h.val k hk h2
   · rw [if_neg c2] at h0; exact h.val k hk h0
def Zld (c : Csr) (p : Pre) (m : Nat) (a : Nat) : Nat → Int
  | 0 => 2 * m
  | k + 1 => if 0 < p.Res.getD (a + k) 0 then min (Zld c p m a k) (p.H.getD (hd c (a + k)) 0) else Zld c p m a k
def Zkj (c : Csr) (p : Pre) (m u : Nat) : Int := Zld c p m (fs c u) (fs c (u + 1) - fs c u)
def Ziv (c : Csr) (p : Pre) (m u : Nat) : Pre := ⟨p.Res, p.Ex, p.H.set u (Zkj c p m u + 1)⟩
theorem Zn5 {p : Pre} {a : Nat} : ∀ {k i : Nat}, i < k → 0 < p.Res.getD (a + i) 0 → Zld c p m a k ≤ p.H.getD (hd c (a + i)) 0
 | 0, _, h, _ => by omega
 | k + 1, i, h, h0 => by
  simp only [Zld]
  rcases Nat.lt_or_ge i k with h1 | h1
  ·
   have := Zn5 h1 h0
   split <;> omega
  ·
   have : i = k := by omega
   subst this
   rw [if_pos h0]; omega
theorem Zn6 (p : Pre) (a : Nat) : ∀ k : Nat, Zld c p m a k ≤ 2 * m ∧ (Zld c p m a k = 2 * m ∨ ∃ i, i < k ∧ 0 < p.Res.getD (a + i) 0 ∧ p.H.getD (hd c (a + i)) 0 = Zld c p m a k)
 | 0 => ⟨Int.le_refl _, .inl rfl⟩
 | k + 1 => by
  obtain ⟨h1, h2⟩ := Zn6 p a k
  simp only [Zld]
  by_cases h : 0 < p.Res.getD (a + k) 0
  ·
   rw [if_pos h]
   refine ⟨by omega, ?_⟩
   by_cases h3 : p.H.getD (hd c (a + k)) 0 ≤ Zld c p m a k
   · exact .inr ⟨k, by omega, h, by omega⟩
   ·
    rcases h2 with h2 | ⟨i, g1, g2, g3⟩
    · exact .inl (by omega)
    · exact .inr ⟨i, by omega, g2, by omega⟩
  ·
   rw [if_neg h]
   refine ⟨h1, ?_⟩
   rcases h2 with h2 | ⟨i, g1, g2, g3⟩
   · exact .inl h2
   · exact .inr ⟨i, by omega, g2, g3⟩
theorem lowV_le {p : Pre} {u j : Nat} (r : Row n m L c) (hu : u < m) (hj : j < L) (ht : tl c j = u) (h0 : 0 < p.Res.getD j 0) : Zkj c p m u ≤ p.H.getD (hd c j) 0 := by
 have h1 := (r.range hj hu).2 ht
 have e : fs c u + (j - fs c u) = j := by omega
 have := Zn5 (c := c) (m := m) (p := p) (a := fs c u) (k := fs c (u + 1) - fs c u) (i := j - fs c u) (by omega) (by rw [e]; exact h0)
 rw [e] at this; exact this
theorem Zjx (p : Pre) {u : Nat} (r : Row n m L c) (hu : u < m) : Zkj c p m u ≤ 2 * m ∧ (Zkj c p m u = 2 * m ∨ ∃ j, j < L ∧ tl c j = u ∧ 0 < p.Res.getD j 0 ∧ p.H.getD (hd c j) 0 = Zkj c p m u) := by
 have hfl := r.first.2.2.2 u hu
 obtain ⟨h1, h2⟩ := Zn6 (c := c) (m := m) p (fs c u) (fs c (u + 1) - fs c u)
 refine ⟨h1, ?_⟩
 rcases h2 with h2 | ⟨i, g1, g2, g3⟩
 · exact .inl h2
 · exact .inr ⟨fs c u + i, by omega, (r.range (by omega) hu).1 ⟨by omega, by omega⟩, g2, g3⟩
theorem s_Lift {p : Pre} {u : Nat} (r : Row n m L c) (lr : p.Res.length = L) (lx : p.Ex.length = m) (hb : HtB m p.H) (hu : u < m) :
    Zab c p (u : Nat) = some (if Zcs n c p u then (Ziv c p m u, 0) else (⟨[], [], []⟩, 30)) := by
  have b := r.bd
  have hN := r.is.hN
  have lh := hb.1
  have llh := r.lens.2.1
  have hfl := r.first.2.2.2 u hu
  refine Zef ?_
  unfold Zab
  rw [if_neg (by omega), hN]
  unfold Z8h
  rw [if_neg (by simp; omega), hN]
  refine Ok.bind.2 (Ok.mono (Zms r lr lx hb hu) ?_)
  rintro q rfl
  by_cases hS : Zcs n c p u
  · rw [if_neg (by simp [hS]), if_pos hS]
    unfold Z5s
    refine Ok.gd.2 ⟨by constructor <;> omega, Ok.bind.2 (Ok.some.2 (Ok.bind.2 (Ok.mono (Zim r hu (fun j s => s = Zld c p m (fs c u) (j - fs c u)) (fun _ => False) (by rw [Nat.sub_self]; rfl) fun j s h1 h2 h3 => ?_) ?_)))⟩
    · have hjL : j < L := by omega
      have g1 := r.head hjL
      have e1 : j + 1 - fs c u = (j - fs c u) + 1 := by omega
      have e2 : fs c u + (j - fs c u) = j := by omega
      subst h3
      unfold Z79
      simp only [Int.toNat_natCast, g1.1]
      refine Ok.gd.2 ⟨by constructor <;> omega, Ok.ite.2 ⟨fun h0 => Ok.gd.2 ⟨by constructor <;> omega, Ok.gd.2 ⟨by constructor <;> omega, Ok.some.2 ?_⟩⟩, fun h0 => Ok.some.2 ?_⟩⟩
      · rw [e1]; simp only [Zld, e2]; rw [if_pos h0]
      · rw [e1]; simp only [Zld, e2]; rw [if_neg h0]
    · rintro (s | x) h
      · simp only at h
        subst h
        have hv := (Zjx p r hu).1
        have hlow : -1000000 ≤ Zkj c p m u := by
          rcases (Zjx p r hu).2 with h | ⟨j, h1, -, -, h4⟩
          · omega
          · have := hb.2 _ (r.head h1).2; omega
        unfold Zkj at hv hlow
        refine Ok.bind.2 (Z8v (s_Copy (by omega) (by omega) (by omega)) (Ok.gd.2 ⟨by constructor <;> omega, Ok.gd.2 ⟨by constructor <;> omega, Ok.some.2 ?_⟩⟩))
        rw [Int.toNat_natCast]; rfl
      · exact h.elim
  · rw [if_pos (by simp [hS]), if_neg hS]; exact Ok.some.2 rfl
def OpenJ (c : Csr) (L : Nat) (R : List Int) (u v : Nat) : Prop := ∃ j, j < L ∧ tl c j = u ∧ hd c j = v ∧ 0 < R.getD j 0
theorem OpenJ.lt {R : List Int} (r : Row n m L c) {u v : Nat} (h : OpenJ c L R u v) : u < m ∧ v < m := by
 obtain ⟨j, h1, h2, h3, _⟩ := h
 exact ⟨by rw [← h2]; exact (r.tlh h1).1, by rw [← h3]; exact (r.head h1).2⟩
theorem Zfk {H : Nat → Int} {G : Nat → Nat → Prop} (hG : ∀ u v, G u v → H u ≤ H v + 1) {u v : Nat} (hr : Reach G u v) : ∀ k : Int, H v ≤ k → k ≤ H u → ∃ w, Reach G u w ∧ H w = k := by
 induction hr with
 | refl => intro k h1 h2; exact ⟨u, .refl, by omega⟩
 | step h1 h2 ih =>
  rename_i x y
  intro k h3 h4
  by_cases c : H x ≤ k
  · exact ih k c h4
  ·
   have := hG _ _ h2
   exact ⟨y, .step h1 h2, by omega⟩
theorem pigeon : ∀ (m : Nat) (f : Nat → Nat), (∀ k, k ≤ m → f k < m) → ∃ i j, i < j ∧ j ≤ m ∧ f i = f j
 | 0, f, h => absurd (h 0 (Nat.le_refl _)) (by omega)
 | m + 1, f, h => by
  by_cases e : ∃ i, i ≤ m ∧ f i = f (m + 1)
  ·
   obtain ⟨i, h1, h2⟩ := e
   exact ⟨i, m + 1, by omega, by omega, h2⟩
  ·
   have ne : ∀ i, i ≤ m → f i ≠ f (m + 1) := fun i hi h2 => e ⟨i, hi, h2⟩
   obtain ⟨i, j, h1, h2, h3⟩ := pigeon m (fun k => if f (m + 1) < f k then f k - 1 else f k) fun k hk => by
    have a := h k (by omega)
    have a2 := h (m + 1) (by omega)
    have a3 := ne k hk
    split <;> omega
   have a1 := ne i (by omega)
   have a2 := ne j (by omega)
   refine ⟨i, j, h1, by omega, ?_⟩
   split at h3 <;> split at h3 <;> omega
theorem Zgt {H : Nat → Int} {a : Int} (h : ∀ k : Nat, k ≤ m → ∃ w, w < m ∧ H w = a + k) : False := by
 have : ∀ k : Nat, ∃ w, k ≤ m → w < m ∧ H w = a + k := fun k => by
  by_cases c : k ≤ m
  · obtain ⟨w, hw⟩ := h k c; exact ⟨w, fun _ => hw⟩
  · exact ⟨0, fun h => absurd h c⟩
 obtain ⟨f, hf⟩ := Classical.axiomOfChoice this
 obtain ⟨i, j, h1, h2, h3⟩ := pigeon m f fun k hk => (hf k hk).1
 have a1 := (hf i (by omega)).2
 have a2 := (hf j h2).2
 rw [h3] at a1
 omega
theorem Zkf {R : List Int} (r : Row n m L c) {u v : Nat} (hu : u < m) (h : Reach (OpenJ c L R) u v) : v < m := by
 induction h with
 | refl => exact hu
 | step _ h2 _ => exact (h2.lt r).2
theorem Zgi {R X : List Int} {S u : Nat} (r : Row n m L c) (h : ResOK n m L c R X) (hS : n.S = S) (nn : ∀ v, v < m → v ≠ S → 0 ≤ X.getD v 0) (hu : u < m) (hx : 0 < X.getD u 0) : Reach (OpenJ c L R) u S := by
 refine Classical.byContradiction fun hno => ?_
 let q : Nat → Bool := fun v => @decide (¬Reach (OpenJ c L R) u v) (Classical.propDecidable _)
 have hq : ∀ v, q v = true ↔ ¬Reach (OpenJ c L R) u v := fun v => @decide_eq_true_iff _ (Classical.propDecidable _)
 obtain ⟨cl, hcl⟩ : ∃ cl : List Bool, cl = (List.range m).map q := ⟨_, rfl⟩
 have inc : ∀ v : Nat, v < m → (inS cl v = true ↔ ¬Reach (OpenJ c L R) u v) := fun v hv => by
  unfold inS
  rw [hcl, Int.toNat_natCast, List.getD_eq_getElem?_getD, List.getElem?_map, List.getElem?_range hv]
  exact hq v
 have inf : ∀ v : Nat, v < m → (inS cl v = false ↔ Reach (OpenJ c L R) u v) := fun v hv => by
  rw [Bool.eq_false_iff, ne_eq, inc v hv]; exact Classical.not_not
 have he := r.he
 have hw := h.within r
 have hac : ∀ k, k ≤ n.Arcs.length → acK n.Arcs (flN n.Arcs R) cl k ≤ 0 := by
  intro k
  induction k with
  | zero => intro _; simp [acK]
  | succ k ih =>
   intro hk
   have h0 := he k hk false
   have h1 := he k hk true
   simp only [vtx, Bool.false_eq_true, if_false, if_true] at h0 h1
   have hf := (hw.2.2 k hk).1
   have ih := ih (by omega)
   simp only [acK]
   by_cases c1 : inS cl (n.Arcs.getD k default).fr = true ∧ inS cl (n.Arcs.getD k default).to = false
   ·
    have hz : (flN n.Arcs R).getD k 0 = 0 := by
     rw [Za3 hk]
     by_cases e : (n.Arcs.getD k default).fr = (n.Arcs.getD k default).to
     · rw [if_pos e]
     ·
      rw [if_neg e]
      obtain ⟨-, a2, a3⟩ := r.cpPos hk e true
      have z := r.is.ok.hat k hk e true
      have z2 := r.is.ok.hat k hk e false
      have nnR := (h.res _ a3).1
      refine Int.le_antisymm (Int.not_lt.1 fun hpos => ?_) nnR
      obtain ⟨p, hp⟩ : ∃ p : Nat, (n.Arcs.getD k default).fr = p := ⟨(n.Arcs.getD k default).fr.toNat, by omega⟩
      obtain ⟨t, ht⟩ : ∃ t : Nat, (n.Arcs.getD k default).to = t := ⟨(n.Arcs.getD k default).to.toNat, by omega⟩
      rw [hp, ht] at c1
      have r1 := (inf t (by omega)).1 c1.2
      refine (inc p (by omega)).1 c1.1 (.step r1 ⟨_, a3, ?_, ?_, hpos⟩)
      · unfold tl hd; rw [a2]; simp only [Bool.not_true]; rw [z2.1]; simp only [vtx, Bool.not_false, if_true, ht]; omega
      · unfold hd; rw [z.1]; simp only [vtx, Bool.not_true, Bool.false_eq_true, if_false, hp]; omega
    rw [if_pos c1, hz]; split <;> omega
   · rw [if_neg c1]; split <;> omega
 have hpc : ∀ j, j ≤ m → 0 ≤ Zfh n.Arcs (flN n.Arcs R) cl j n.Arcs.length ∧ (u < j → 0 < Zfh n.Arcs (flN n.Arcs R) cl j n.Arcs.length) := by
  intro j
  induction j with
  | zero => intro _; rw [show ((0 : Nat) : Int) = 0 from rfl, Zgs he _ (Nat.le_refl _)]; exact ⟨Int.le_refl _, fun h => by omega⟩
  | succ j ih =>
   intro hj
   obtain ⟨i1, i2⟩ := ih (by omega)
   rw [Int.natCast_succ, Zgr]
   by_cases c1 : inS cl j = false
   ·
    rw [if_pos c1, ← h.ex j (by omega)]
    have hjS : j ≠ S := fun e => hno (by rw [← e]; exact (inf j (by omega)).1 c1)
    have := nn j (by omega) hjS
    refine ⟨by omega, fun hlt => ?_⟩
    by_cases e : u = j
    · subst e; omega
    · have := i2 (by omega); omega
   ·
    rw [if_neg c1]
    refine ⟨by omega, fun hlt => ?_⟩
    by_cases e : u = j
    · subst e; exact absurd ((inf u hu).2 .refl) c1
    · have := i2 (by omega); omega
 have := (hpc m (Nat.le_refl _)).2 hu
 rw [Zis he _ (Nat.le_refl _)] at this
 have := hac _ (Nat.le_refl _)
 omega
theorem Ziw {R : List Int} {H : Nat → Int} {S u : Nat} (r : Row n m L c) (hu : u < m) (hval : ∀ j, j < L → 0 < R.getD j 0 → H (tl c j) ≤ H (hd c j) + 1) (hHS : H S = m) (hr : Reach (OpenJ c L R) u S) : H u < 2 * m := by
 refine Int.not_le.1 fun hge => ?_
 refine Zgt (m := m) (H := H) (a := m) fun k hk => ?_
 obtain ⟨w, h1, h2⟩ := Zfk (H := H) (G := OpenJ c L R) (fun a b ⟨j, g1, g2, g3, g4⟩ => by rw [← g2, ← g3]; exact hval j g1 g4) hr (m + k) (by omega) (by omega)
 exact ⟨w, Zkf r hu h1, h2⟩
theorem PreOK.lift {p : Pre} {u : Nat} (h : PreOK n m L c p) (r : Row n m L c) (hu : u < m) (hS : Zcs n c p u) : PreOK n m L c (Ziv c p m u) ∧ p.H.getD u 0 ≤ Zkj c p m u := by
 obtain ⟨⟨S, hnS, -, hSm⟩, ⟨T, hnT, -, hTm⟩, -, -⟩ := r.ends
 have lh := h.hs.1
 obtain ⟨⟨hA1, hA2, hA3⟩, hB⟩ := hS
 have huS : u ≠ S := by omega
 have huT : u ≠ T := by omega
 have hlow : p.H.getD u 0 ≤ Zkj c p m u := by
  have h2 := h.hs.2.2.2 u hu
  rcases (Zjx p r hu).2 with h1 | ⟨j, h1, h3, h4, h5⟩
  · omega
  ·
   have h6 := h.val j h1 h4
   rw [h3] at h6
   have h7 := (r.range h1 hu).2 h3
   have h8 := hB j h7.1 h7.2
   have : p.H.getD u 0 ≠ p.H.getD (hd c j) 0 + 1 := fun e => h8 ⟨h4, e⟩
   omega
 have hHu : ∀ v, (p.H.set u (Zkj c p m u + 1)).getD v 0 = if v = u then Zkj c p m u + 1 else p.H.getD v 0 := fun v => by
  rw [Zcf]
  by_cases e : v = u
  · rw [if_pos ⟨e.symm, by omega⟩, if_pos e]
  · rw [if_neg fun h => e h.1.symm, if_neg e]
 have hval : ∀ j, j < L → 0 < p.Res.getD j 0 → (p.H.set u (Zkj c p m u + 1)).getD (tl c j) 0 ≤ (p.H.set u (Zkj c p m u + 1)).getD (hd c j) 0 + 1 := fun j hj h0 => by
  have ht := r.tlh hj
  rw [hHu, hHu]
  by_cases c1 : tl c j = u
  ·
   have := lowV_le r hu hj c1 h0
   rw [if_pos c1, if_neg fun e => ht.2.2.2 (c1.trans e.symm)]; omega
  ·
   rw [if_neg c1]
   have := h.val j hj h0
   by_cases c2 : hd c j = u
   · rw [if_pos c2]; rw [c2] at this; omega
   · rw [if_neg c2]; exact this
 have hreach := Zgi r h.ok hnS (fun v hv hvS => h.nn v hv (by omega)) hu hA3
 have hbound := Ziw (H := fun v => (p.H.set u (Zkj c p m u + 1)).getD v 0) r hu hval (by simp only [hHu]; rw [if_neg fun e => huS e.symm]; exact h.hs.2.1 S hnS) hreach
 simp only [hHu, if_true] at hbound
 refine ⟨⟨h.ok, h.nn, ⟨by simp [Ziv, lh], fun s hs => ?_, fun t ht => ?_, fun v hv => ?_⟩, hval⟩, hlow⟩
 · simp only [Ziv]; rw [hHu, if_neg (by omega)]; exact h.hs.2.1 s hs
 · simp only [Ziv]; rw [hHu, if_neg (by omega)]; exact h.hs.2.2.1 t ht
 ·
  have h1 := h.hs.2.2.2 v hv
  have h2 := h.hs.2.2.2 u hu
  simp only [Ziv]; rw [hHu]
  by_cases e : v = u
  · rw [if_pos e]; omega
  · rw [if_neg e]; exact h1
end row
end Go.Acq
namespace Go.Acq
open Go
set_option linter.unusedSimpArgs false
theorem Zix {α : Type} {z v : α} {k i : Int} : ∀ mp : List (Int × α), Zn9 z i (putM k v mp) = if i = k then v else Zn9 z i mp
 | [] => by simp only [putM, Zn9]
 | x :: mp => by
  simp only [putM]
  by_cases h : k = x.1
  ·
   rw [if_pos h]; simp only [Zn9]
   by_cases e : i = k
   · rw [if_pos e, if_pos e]
   · rw [if_neg e, if_neg e, if_neg (by omega)]
  ·
   rw [if_neg h]; simp only [Zn9]
   by_cases e : i = x.1
   · rw [if_pos e, if_pos e, if_neg (by omega)]
   · rw [if_neg e, if_neg e, Zix mp]
theorem Zhx {α : Type} {v : α} {k : Int} : ∀ {mp : List (Int × α)} {x : Int × α}, x ∈ putM k v mp → x.1 = k ∨ ∃ y, y ∈ mp ∧ y.1 = x.1
 | [], x, h => by simp only [putM, List.mem_singleton] at h; left; rw [h]
 | y :: mp, x, h => by
  simp only [putM] at h
  by_cases e : k = y.1
  ·
   rw [if_pos e] at h
   rcases List.mem_cons.1 h with h | h
   · left; rw [h]
   · exact .inr ⟨x, List.mem_cons_of_mem _ h, rfl⟩
  ·
   rw [if_neg e] at h
   rcases List.mem_cons.1 h with h | h
   · exact .inr ⟨y, List.mem_cons_self, by rw [h]⟩
   ·
    rcases Zhx h with h | ⟨z, h1, h2⟩
    · exact .inl h
    · exact .inr ⟨z, List.mem_cons_of_mem _ h1, h2⟩
def Apart {α : Type} : List (Int × α) → Prop
  | [] => True
  | x :: mp => (∀ y, y ∈ mp → y.1 ≠ x.1) ∧ Apart mp
theorem Apart.put {α : Type} {v : α} {k : Int} : ∀ {mp : List (Int × α)}, Apart mp → Apart (putM k v mp)
 | [], _ => ⟨fun y h => (by cases h), trivial⟩
 | x :: mp, h => by
  simp only [putM]
  by_cases e : k = x.1
  · rw [if_pos e]; exact ⟨fun y hy => by rw [e]; exact h.1 y hy, h.2⟩
  ·
   rw [if_neg e]
   refine ⟨fun y hy => ?_, Apart.put h.2⟩
   rcases Zhx hy with h1 | ⟨z, h1, h2⟩
   · rw [h1]; exact e
   · rw [← h2]; exact h.1 z h1
theorem Apart.at {α : Type} {z : α} (d : Int × α) : ∀ {mp : List (Int × α)} {j : Nat}, Apart mp → j < mp.length → Zn9 z (mp.getD j d).1 mp = (mp.getD j d).2
 | [], j, _, h => by simp at h
 | x :: mp, 0, _, _ => by simp [Zn9]
 | x :: mp, j + 1, h, hj => by
  have hj' : j < mp.length := by simpa using hj
  have hm := h.1 _ (Z5d hj' d)
  show Zn9 z (mp.getD j d).1 (x :: mp) = (mp.getD j d).2
  simp only [Zn9]
  rw [if_neg hm]; exact Apart.at d h.2 hj'
theorem Apart.inj {α : Type} (d : Int × α) : ∀ {mp : List (Int × α)} {i j : Nat}, Apart mp → i < mp.length → j < mp.length → (mp.getD i d).1 = (mp.getD j d).1 → i = j
 | [], i, _, _, h, _, _ => by simp at h
 | x :: mp, 0, 0, _, _, _, _ => rfl
 | x :: mp, 0, j + 1, h, _, hj, e => absurd e.symm (h.1 _ (Z5d (by simpa using hj) d))
 | x :: mp, i + 1, 0, h, hi, _, e => absurd e (h.1 _ (Z5d (by simpa using hi) d))
 | x :: mp, i + 1, j + 1, h, hi, hj, e => congrArg (· + 1) (Apart.inj d h.2 (by simpa using hi) (by simpa using hj) e)
def hfr (n : Net) (h : Hop) : Int := if h.Back = true then (n.Arcs.getD h.Arc.toNat default).to else (n.Arcs.getD h.Arc.toNat default).fr
def hto (n : Net) (h : Hop) : Int := if h.Back = true then (n.Arcs.getD h.Arc.toNat default).fr else (n.Arcs.getD h.Arc.toNat default).to
def hok (n : Net) (h : Hop) : Prop := 0 ≤ h.Arc ∧ h.Arc < n.Arcs.length
def WayK (n : Net) (l : List Hop) (k : Nat) : Prop := (∀ i, i < k → hok n (l.getD i default)) ∧ ∀ i, i + 1 < k → hfr n (l.getD (i + 1) default) = hto n (l.getD i default)
def Zmi (l : List Hop) (i : Int) : Nat → Int
  | 0 => 0
  | k + 1 => Zmi l i k + (if (l.getD k default).Arc = i then (if (l.getD k default).Back = true then -1 else 1) else 0)
structure MapIs (n : Net) (mp : List (Int × Int)) (l : List Hop) (k : Nat) : Prop where
  val : ∀ i, Zn9 0 i mp = Zmi l i k
  key : ∀ x, x ∈ mp → 0 ≤ x.1 ∧ x.1 < n.Arcs.length
  apart : Apart mp
theorem MapIs.put {n : Net} {mp : List (Int × Int)} {l : List Hop} {k : Nat} (h : MapIs n mp l k) (hk : hok n (l.getD k default)) {v : Int} (hv : v = Zmi l (l.getD k default).Arc k + (if (l.getD k default).Back = true then -1 else 1)) : MapIs n (putM (l.getD k default).Arc v mp) l (k + 1) := by
 refine ⟨fun i => ?_, fun x hx => ?_, h.apart.put⟩
 ·
  rw [Zix]
  simp only [Zmi]
  by_cases e : i = (l.getD k default).Arc
  · rw [if_pos e, if_pos e.symm, hv, e]
  · rw [if_neg e, if_neg (fun h => e h.symm), h.val, Int.add_zero]
 ·
  rcases Zhx hx with h1 | ⟨y, h1, h2⟩
  · rw [h1]; exact hk
  · rw [← h2]; exact h.key y h1
end Go.Acq
namespace Go.Acq
open Go
set_option linter.unusedSimpArgs false
def fits (n : Net) (f : List Int) (i : Nat) (c d : Int) : Prop := 0 ≤ f.getD i 0 + d * c ∧ f.getD i 0 + d * c ≤ (n.Arcs.getD i default).cap
theorem Zmp {a b : Int} (ha : 0 ≤ a) (hb : 0 < b) : 0 ≤ a.tdiv b ∧ a.tdiv b ≤ a := by
 rw [Int.tdiv_eq_ediv_of_nonneg ha]
 exact ⟨Int.ediv_nonneg ha (by omega), Int.ediv_le_self b ha⟩
end Go.Acq
namespace Go.Acq
open Go
set_option linter.unusedSimpArgs false
section row
variable {n : Net} {m L : Nat} {c : Csr}
theorem Zjz {al : List Arc} {f : List Int} {v : Int} : ∀ {k : Nat}, (∀ i, i < k → f.getD i 0 = 0) → ex al f v k = 0
 | 0, _ => rfl
 | k + 1, h => by simp only [ex]; rw [Zjz fun i hi => h i (by omega), h k (by omega)]; simp
theorem s_Begin (r : Row n m L c) : Ok (Z7z c) (fun p => PreOK n m L c p) := by
 have b := r.bd
 obtain ⟨⟨S, hS, hcS, hSm⟩, ⟨T, hT, hcT, hTm⟩, hne, hN⟩ := r.ends
 obtain ⟨-, -, -, lc, -, -⟩ := r.lens
 have hfl := r.first.2.2.2 S hSm
 unfold Z7z
 refine Ok.bind.2 (Z8v (Zdu (by omega)) ?_)
 rw [hN, hcS]
 simp only [Int.toNat_natCast]
 obtain ⟨H0, hH0⟩ : ∃ H0, (List.replicate m (0 : Int)).set S m = H0 := ⟨_, rfl⟩
 have hHl : H0.length = m := by rw [← hH0]; simp
 have hHv : ∀ v, H0.getD v 0 = if v = S then (m : Int) else 0 := fun v => by
  rw [← hH0, Zcf, List.length_replicate, Z1w]
  by_cases e : v = S
  · rw [if_pos ⟨e.symm, hSm⟩, if_pos e]
  · rw [if_neg fun h => e h.1.symm, if_neg e]
 rw [hH0]
 unfold Z5s
 refine Ok.gd.2 ⟨(by omega), Ok.gd.2 ⟨(by omega), Ok.gd.2 ⟨by rw [List.length_replicate]; constructor <;> omega, Ok.bind.2 (Ok.some.2 (Ok.bind.2 (Ok.mono (Zim r hSm
  (fun k s => ResOK n m L c s.1 s.2 ∧ (∀ v, v < m → v ≠ S → 0 ≤ s.2.getD v 0) ∧ ∀ i, fs c S ≤ i → i < k → s.1.getD i 0 = 0) (fun _ => False) ⟨⟨lc, by simp, fun j hj => ?_, fun v hv => ?_⟩, fun v hv _ => by rw [Z1w]; exact Int.le_refl _, fun i h1 h2 => by omega⟩ fun j s h1 h2 h3 => ?_) ?_)))⟩⟩⟩
 · have := r.cap hj; exact ⟨this.1, this.2.1⟩
 ·
  rw [Z1w, Zjz fun i hi => ?_]
  rw [Za3 hi]
  by_cases e : (n.Arcs.getD i default).fr = (n.Arcs.getD i default).to
  · rw [if_pos e]
  · rw [if_neg e, (r.is.ok.hat i hi e true).2.2.1]; rfl
 ·
  obtain ⟨xs, ys⟩ := s
  obtain ⟨g1, g2, g3⟩ := h3
  simp only at g1 g2 g3
  have hjL : j < L := by omega
  have ht := (r.range hjL hSm).1 ⟨h1, h2⟩
  have htl := r.tlh hjL
  have hrv := r.rev hjL
  have hle := g1.rle r hjL
  have hxl := g1.lr
  unfold Z5j
  rw [hN, hcS]
  simp only [Int.toNat_natCast, hH0]
  refine Ok.gd.2 ⟨(by omega), Ok.bind.2 (Z8v (Zmt (p := ⟨xs, ys, H0⟩) r g1 hjL hle.1 (Int.le_refl _)) (Ok.some.2 ⟨g1.move r hjL hle.1 (Int.le_refl _), fun v hv hvS => ?_, fun i h4 h5 => ?_⟩))⟩
  ·
   simp only
   rw [Zf3 r g1.lx hjL, ht, if_neg fun e => hvS e.symm]
   have := g2 v hv hvS
   split <;> omega
  ·
   simp only
   have hiL : i < L := by omega
   have hti := (r.range hiL hSm).1 ⟨h4, by omega⟩
   rw [Zbx r hxl hjL, if_neg fun e => by rw [e, htl.2.1] at hti; exact htl.2.2.2 (ht.trans hti.symm)]
   by_cases e : i = j
   · rw [if_pos e]; omega
   · rw [if_neg e]; exact g3 i h4 (by omega)
 ·
  rintro (⟨xs, ys⟩ | x) h
  ·
   obtain ⟨g1, g2, g3⟩ := h
   simp only at g1 g2 g3
   refine Ok.some.2 ⟨g1, fun v hv hvS => g2 v hv (by omega), ⟨hHl, fun s hs => ?_, fun t ht => ?_, fun v hv => ?_⟩, fun j hj h0 => ?_⟩
   · simp only; rw [hHv, if_pos (by omega)]
   · simp only; rw [hHv, if_neg (by omega)]
   · simp only; rw [hHv]; split <;> omega
   ·
    simp only at h0 ⊢
    rw [hHv, hHv]
    by_cases e : tl c j = S
    ·
     have := (r.range hj hSm).2 e
     rw [g3 j this.1 this.2] at h0; omega
    · rw [if_neg e]; split <;> omega
  · exact h.elim
def StepP (n : Net) (m L : Nat) (c : Csr) (was p : Pre) : Prop :=
  (∃ j, j < L ∧ Zgd n was.Ex (tl c j) ∧ Zgc c was (tl c j) j ∧ p = Zio c was j) ∨ (∃ u, u < m ∧ Zcs n c was u ∧ p = Ziv c was m u)
theorem PreOK.hb {p : Pre} (h : PreOK n m L c p) (r : Row n m L c) : HtB m p.H := h.hs.hb r
theorem PreOK.step {was p : Pre} (h : PreOK n m L c was) (r : Row n m L c) (hs : StepP n m L c was p) : PreOK n m L c p := by
 rcases hs with ⟨j, h1, h2, h3, rfl⟩ | ⟨u, h1, h2, rfl⟩
 · exact h.push r h1 h2 h3
 · exact (h.lift r h1 h2).1
def Zdc (n : Net) (L : Nat) (c : Csr) (p : Pre) : List Int := Zgn (fun j => decide (Zgd n p.Ex (tl c j) ∧ Zgc c p (tl c j) j)) L
def Zbt (n : Net) (m : Nat) (c : Csr) (p : Pre) : List Int := Zgn (fun u => decide (Zcs n c p u)) m
theorem PreOK.may {p : Pre} (h : PreOK n m L c p) (r : Row n m L c) : Zbg c p = some (Zdc n L c p, Zbt n m c p) := s_May r h.ok.lr h.ok.lx (h.hb r)
theorem idx_lt {k : Int} {l : List Int} (hk : 0 ≤ k) (hl : 0 < l.length) : inb ((k.tdiv 2).tmod (l.length : Int)) l.length := by
 have h1 : 0 ≤ k.tdiv 2 := (Zmp hk (by omega)).1
 have := Zgm h1 (show (0 : Int) < l.length by omega)
 exact ⟨this.1, this.2⟩
theorem push_at {p : Pre} {i : Nat} (h : PreOK n m L c p) (r : Row n m L c) (hi : i < (Zdc n L c p).length) : ∃ j, j < L ∧ Zgd n p.Ex (tl c j) ∧ Zgc c p (tl c j) j ∧ (Zdc n L c p).getD i 0 = (j : Nat) ∧ Zaa c p ((Zdc n L c p).getD i 0) = some (Zio c p j, Zjw c p j, 0) := by
 obtain ⟨j, h1, h2, h3⟩ := mem_selN.1 (Z5d hi 0)
 have h2 := of_decide_eq_true h2
 refine ⟨j, h1, h2.1, h2.2, h3, ?_⟩
 have h3' : (Zdc n L c p).getD i 0 = (j : Nat) := h3
 rw [h3', s_Push r h.ok (h.hb r) h1, if_pos h2]
theorem lift_at {p : Pre} {i : Nat} (h : PreOK n m L c p) (r : Row n m L c) (hi : i < (Zbt n m c p).length) : ∃ u, u < m ∧ Zcs n c p u ∧ (Zbt n m c p).getD i 0 = (u : Nat) ∧ Zab c p ((Zbt n m c p).getD i 0) = some (Ziv c p m u, 0) := by
 obtain ⟨u, h1, h2, h3⟩ := mem_selN.1 (Z5d hi 0)
 have h2 := of_decide_eq_true h2
 have h3' : (Zbt n m c p).getD i 0 = (u : Nat) := h3
 refine ⟨u, h1, h2, h3', ?_⟩
 rw [h3', s_Lift r h.ok.lr h.ok.lx (h.hb r) h1, if_pos h2]
theorem row_of {m : Nat} (hc : CsrIs n m c) (hm : n.N = m) (hk : Zan n.N n.S n.T n.Arcs = 0) : Row n m (Z1e n.Arcs m) c := ⟨hc, hk, hm, rfl⟩
end row
end Go.Acq
namespace Go.Acq
open Go
set_option linter.unusedSimpArgs false
set_option linter.unusedVariables false
section row
variable {n : Net} {m L : Nat} {c : Csr}
theorem open_j {R : List Int} (r : Row n m L c) (hR : ∀ j, j < L → 0 ≤ R.getD j 0 ∧ R.getD j 0 + R.getD (rv c j) 0 = cp c j) {u v : Nat} (h : OpenA n (flN n.Arcs R) u v) : OpenJ c L R u v := by
 obtain ⟨i, hi, hne, h⟩ := h
 rw [Za3 hi, if_neg hne] at h
 have ha : ∀ s, hd c (pos n.Arcs i s) = (vtx (n.Arcs.getD i default) (!s)).toNat := fun s => by unfold hd; rw [(r.is.ok.hat i hi hne s).1]
 have ht : ∀ s, tl c (pos n.Arcs i s) = (vtx (n.Arcs.getD i default) s).toNat := fun s => by unfold tl; rw [(r.cpPos hi hne s).2.1, ha, Bool.not_not]
 have e0 := r.he i hi false
 have e1 := r.he i hi true
 obtain ⟨c1, c2, c3⟩ := r.cpPos hi hne false
 obtain ⟨d1, d2, d3⟩ := r.cpPos hi hne true
 have hf := hR _ c3
 simp only [Bool.not_false, Bool.not_true] at c2 d2
 rw [c2, c1] at hf
 rcases h with ⟨a1, a2, a3⟩ | ⟨a1, a2, a3⟩
 ·
  refine ⟨pos n.Arcs i false, c3, ?_, ?_, by omega⟩
  · rw [ht]; simp only [vtx, Bool.false_eq_true, if_false]; omega
  · rw [ha]; simp only [vtx, Bool.not_false, if_true]; omega
 ·
  refine ⟨pos n.Arcs i true, d3, ?_, ?_, by omega⟩
  · rw [ht]; simp only [vtx, if_true]; omega
  · rw [ha]; simp only [vtx, Bool.not_true, Bool.false_eq_true, if_false]; omega
theorem PreOK.far {p : Pre} {S T : Nat} (h : PreOK n m L c p) (r : Row n m L c) (hS : n.S = S) (hT : n.T = T) : ¬Reach (OpenA n (flN n.Arcs p.Res)) S T := fun hr => by
 obtain ⟨⟨S', hS', -, hSm⟩, ⟨T', hT', -, hTm⟩, -, -⟩ := r.ends
 have hr2 : Reach (OpenJ c L p.Res) S T := hr.mono fun u v ho => open_j r h.ok.res ho
 have hp := Zfk (H := fun v => p.H.getD v 0) (G := OpenJ c L p.Res) (fun u v ⟨j, hj, h1, h2, h3⟩ => by have := h.val j hj h3; rw [h1, h2] at this; exact this) hr2
 have h1 := h.hs.2.1 S hS
 have h2 := h.hs.2.2.1 T hT
 simp only [h1, h2] at hp
 refine Zgt (m := m) (H := fun v => p.H.getD v 0) (a := 0) fun k hk => ?_
 obtain ⟨w, hw, he⟩ := hp k (by omega) (by omega)
 exact ⟨w, Zkf r (by omega) hw, by omega⟩
theorem PreOK.flow {p : Pre} (h : PreOK n m L c p) (r : Row n m L c) (ha : ∀ u, u < m → ¬Zgd n p.Ex u) : Zka n (flN n.Arcs p.Res) (fun x => x = 0) [n.S, n.T] := by
 refine ⟨h.ok.within r, fun v hv => ?_⟩
 have hm := r.hm
 by_cases hc : (v : Int) ∈ [n.S, n.T]
 · exact .inr hc
 ·
  left
  simp only [List.mem_cons, List.not_mem_nil, or_false, not_or] at hc
  have hvm : v < m := by omega
  have h1 := h.nn v hvm hc.1
  have h2 := h.ok.ex v hvm
  have h3 : ¬0 < p.Ex.getD v 0 := fun h0 => ha v hvm ⟨hc.1, hc.2, h0⟩
  omega
theorem s_FlowR {R : List Int} (r : Row n m L c) (hr : R.length = L) (hR : ∀ j, j < L → 0 ≤ R.getD j 0 ∧ R.getD j 0 + R.getD (rv c j) 0 = cp c j) : Ok (Zad c R (n.Arcs.length : Int)) (fun t => t = (flN n.Arcs R, 0)) := by
 have hbd := r.bd
 refine Ok.mono (s_FlowG r.is r.he hbd.2.1 hbd.2.2.1 (fun j hj => ?_) hbd.2.2.1 r.caps (by rw [r.hL]; exact hr)) ?_
 ·
  rw [r.hL] at hj
  obtain ⟨i, s, hi, _, _, _, _, _, _, _, _, h, _⟩ := r.at hj
  omega
 rintro ⟨f, e⟩ (⟨-, h1, h2⟩ | ⟨⟨j, hj, hn⟩, -⟩)
 ·
  simp only at h1 h2
  subst h1
  rw [show f = flN n.Arcs R from Zgz 0 (by rw [h2.1, Znb]) fun i hi => by
   rw [h2.1] at hi
   rw [h2.2 i, Za3 hi]
   by_cases hne : (n.Arcs.getD i default).fr = (n.Arcs.getD i default).to
   · rw [if_pos hne, if_neg (fun h => h.2.1 hne)]
   · rw [if_neg hne, if_pos ⟨hi, hne, Zda hi hne r.he⟩]]
 ·
  rw [r.hL] at hj
  exact absurd ((Zlf r).2 hR j hj) hn
end row
end Go.Acq
namespace Go.Acq
open Go
set_option linter.unusedSimpArgs false
set_option linter.unusedVariables false
section
variable {n : Net} {m L : Nat} {c : Csr}
def TZ (c : Csr) (L T : Nat) (R : List Int) : Prop := ∀ k, k < L → hd c k = T → bk c k = true → R.getD k 0 = 0
theorem TZ.move {R : List Int} {T j : Nat} {d : Int} (h : TZ c L T R) (r : Row n m L c) (hl : R.length = L) (hj : j < L) (hT : tl c j ≠ T) (d0 : 0 ≤ d) (d1 : d ≤ R.getD j 0) : TZ c L T (mvR c R j d) := fun k hk h1 h2 => by
 rw [Zbx r hl hj]
 by_cases e : k = rv c j
 ·
  subst e
  exact absurd ((r.tlh hj).2.2.1.symm.trans h1) hT
 ·
  rw [if_neg e]
  by_cases e2 : k = j
  ·
   subst e2
   have := h k hk h1 h2
   rw [if_pos rfl]; omega
  · rw [if_neg e2]; exact h k hk h1 h2
theorem TZ.flow {R : List Int} {T : Nat} (h : TZ c L T R) (r : Row n m L c) (hT : n.T = T) : ∀ i, i < n.Arcs.length → (n.Arcs.getD i default).fr = n.T → (flN n.Arcs R).getD i 0 = 0 := fun i hi hf => by
 rw [Za3 hi]
 by_cases e : (n.Arcs.getD i default).fr = (n.Arcs.getD i default).to
 · rw [if_pos e]
 ·
  rw [if_neg e]
  have z := r.is.ok.hat i hi e true
  refine h _ (r.cpPos hi e true).2.2 ?_ z.2.2.2.2
  unfold hd
  rw [z.1]
  simp only [vtx, Bool.not_true, Bool.false_eq_true, if_false]
  omega
theorem s_BeginT (r : Row n m L c) {T : Nat} (hT : n.T = T) : Ok (Z7z c) (fun p => TZ c L T p.Res) := by
 have b := r.bd
 obtain ⟨⟨S, hS, hcS, hSm⟩, ⟨T', hT', hcT, hTm⟩, hne, hN⟩ := r.ends
 obtain ⟨-, -, -, lc, -, -⟩ := r.lens
 have hfl := r.first.2.2.2 S hSm
 unfold Z7z
 refine Ok.bind.2 (Z8v (Zdu (by omega)) ?_)
 rw [hN, hcS]
 simp only [Int.toNat_natCast]
 obtain ⟨H0, hH0⟩ : ∃ H0, (List.replicate m (0 : Int)).set S m = H0 := ⟨_, rfl⟩
 rw [hH0]
 unfold Z5s
 refine Ok.gd.2 ⟨(by omega), Ok.gd.2 ⟨(by omega), Ok.gd.2 ⟨by rw [List.length_replicate]; constructor <;> omega, Ok.bind.2 (Ok.some.2 (Ok.bind.2 (Ok.mono (Zim r hSm
  (fun k s => ResOK n m L c s.1 s.2 ∧ TZ c L T s.1) (fun _ => False) ⟨⟨lc, by simp, fun j hj => ?_, fun v hv => ?_⟩, fun k hk h1 h2 => (r.cap hk).2.2.2.2.2 h2⟩ fun j s h1 h2 h3 => ?_) ?_)))⟩⟩⟩
 · have := r.cap hj; exact ⟨this.1, this.2.1⟩
 ·
  rw [Z1w, Zjz fun i hi => ?_]
  rw [Za3 hi]
  by_cases e : (n.Arcs.getD i default).fr = (n.Arcs.getD i default).to
  · rw [if_pos e]
  · rw [if_neg e, (r.is.ok.hat i hi e true).2.2.1]; rfl
 ·
  obtain ⟨xs, ys⟩ := s
  obtain ⟨g1, g2⟩ := h3
  simp only at g1 g2
  have hjL : j < L := by omega
  have ht := (r.range hjL hSm).1 ⟨h1, h2⟩
  have hle := g1.rle r hjL
  have hxl := g1.lr
  unfold Z5j
  rw [hN, hcS]
  simp only [Int.toNat_natCast, hH0]
  exact Ok.gd.2 ⟨(by omega), Ok.bind.2 (Z8v (Zmt (p := ⟨xs, ys, H0⟩) r g1 hjL hle.1 (Int.le_refl _)) (Ok.some.2 ⟨g1.move r hjL hle.1 (Int.le_refl _), g2.move r hxl hjL (by omega) hle.1 (Int.le_refl _)⟩))⟩
 ·
  rintro (⟨xs, ys⟩ | x) h
  · exact Ok.some.2 h.2
  · exact h.elim
theorem TZ.push {p : Pre} {T j : Nat} (h : TZ c L T p.Res) (hp : PreOK n m L c p) (r : Row n m L c) (hT : n.T = T) (hj : j < L) (hA : Zgd n p.Ex (tl c j)) : TZ c L T (Zio c p j).Res := by
 have h1 := hp.ok.rle r hj
 have h2 := hA.2.1
 have h3 := hA.2.2
 have hD : Zjw c p j = min (p.Ex.getD (tl c j) 0) (p.Res.getD j 0) := rfl
 exact h.move r hp.ok.lr hj (by omega) (by omega) (by omega)
theorem ok_and {α : Type} {x : Option α} {P Q : α → Prop} (h1 : Ok x P) (h2 : Ok x Q) : Ok x (fun a => P a ∧ Q a) := by
 obtain ⟨a, e, hP⟩ := h1
 obtain ⟨b, e2, hQ⟩ := h2
 rw [e] at e2
 injection e2 with e2
 subst e2
 exact ⟨a, e, hP, hQ⟩
end
end Go.Acq
namespace Go.Acq
open Go
set_option linter.unusedSimpArgs false
end Go.Acq
namespace Go.Acq
open Go
set_option linter.unusedSimpArgs false
structure ByteRow (l : List Int) : Prop where
  row : ∀ x, x ∈ l → u8ok x
  len : l.length ≤ 9223372036854775807
theorem Zdw {α : Type} {xs : List α} {y d : α} {i : Nat} (h : i < xs.length) : (xs ++ [y]).getD i d = xs.getD i d := by
 rw [List.getD_eq_getElem?_getD, List.getElem?_append_left h, List.getD_eq_getElem?_getD]
theorem Zdv {α : Type} {xs : List α} {y d : α} {i : Nat} (h : i = xs.length) : (xs ++ [y]).getD i d = y := by
 subst h
 rw [List.getD_eq_getElem?_getD, List.getElem?_append_right (Nat.le_refl _)]; simp
structure PathP (n : Net) (v : Int) (l : List Hop) (w : Int) : Prop where
  way : WayK n l l.length
  start : 0 < l.length → hfr n (l.getD 0 default) = v
  fin : w = if l.length = 0 then v else hto n (l.getD (l.length - 1) default)
theorem PathP.nil (n : Net) (v : Int) : PathP n v [] v := ⟨⟨fun i h => by simp at h, fun i h => by simp at h⟩, fun h => by simp at h, rfl⟩
theorem PathP.app {n : Net} {v w : Int} {l : List Hop} (h : PathP n v l w) {p : Hop} (hp : hok n p) (hw : hfr n p = w) : PathP n v (l ++ [p]) (hto n p) := by
 refine ⟨⟨fun i hi => ?_, fun i hi => ?_⟩, fun _ => ?_, ?_⟩
 ·
  rw [List.length_append, List.length_singleton] at hi
  rcases Nat.lt_or_ge i l.length with h1 | h1
  · rw [Zdw h1]; exact h.way.1 i h1
  · rw [Zdv (by omega)]; exact hp
 ·
  rw [List.length_append, List.length_singleton] at hi
  rcases Nat.lt_or_ge (i + 1) l.length with h1 | h1
  · rw [Zdw h1, Zdw (by omega)]; exact h.way.2 i h1
  · rw [Zdv (by omega), Zdw (by omega), hw, h.fin, if_neg (by omega), show l.length - 1 = i by omega]
 ·
  rcases Nat.lt_or_ge 0 l.length with h1 | h1
  · rw [Zdw h1]; exact h.start h1
  · rw [Zdv (by omega), hw, h.fin, if_pos (by omega)]
 · rw [List.length_append, List.length_singleton, if_neg (by omega), Nat.add_sub_cancel, Zdv rfl]
def one (a b : Int) : Int := if a = b then 1 else 0
def Zlg (h : Hop) : Hop := ⟨h.Arc, !h.Back⟩
theorem hfr_flip (n : Net) (h : Hop) : hfr n (Zlg h) = hto n h := by
 unfold hfr hto Zlg
 cases hB : h.Back <;> simp
theorem hto_flip (n : Net) (h : Hop) : hto n (Zlg h) = hfr n h := by
 unfold hfr hto Zlg
 cases hB : h.Back <;> simp
def BackIs (l b : List Hop) : Prop := b.length = l.length ∧ ∀ q, q < l.length → b.getD q default = Zlg (l.getD (l.length - 1 - q) default)
theorem BackIs.way {n : Net} {l b : List Hop} (h : BackIs l b) (hw : WayK n l l.length) : WayK n b b.length := by
 rw [h.1]
 refine ⟨fun i hi => ?_, fun i hi => ?_⟩
 · rw [h.2 i hi]; exact hw.1 _ (by omega)
 ·
  rw [h.2 i (by omega), h.2 (i + 1) hi, hfr_flip, hto_flip]
  have := hw.2 (l.length - 1 - (i + 1)) (by omega)
  rw [show l.length - 1 - (i + 1) + 1 = l.length - 1 - i by omega] at this
  exact this.symm
theorem BackIs.cnt {l b : List Hop} (h : BackIs l b) (i : Int) : Zmi b i b.length = -Zmi l i l.length := by
 have key : ∀ q, q ≤ l.length → Zmi b i q = Zmi l i (l.length - q) - Zmi l i l.length := by
  intro q
  induction q with
  | zero => intro _; simp only [Zmi, Nat.sub_zero]; omega
  | succ q ih =>
   intro hq
   have e : l.length - q = (l.length - 1 - q) + 1 := by omega
   have ih := ih (by omega)
   rw [e] at ih
   simp only [Zmi] at ih ⊢
   rw [ih, h.2 q (by omega), show l.length - (q + 1) = l.length - 1 - q by omega]
   simp only [Zlg]
   by_cases c : (l.getD (l.length - 1 - q) default).Arc = i
   ·
    by_cases hB : (l.getD (l.length - 1 - q) default).Back = true
    · simp only [c, hB, if_true, Bool.not_true, Bool.false_eq_true, if_false]; omega
    · simp only [c, if_true, Bool.eq_false_iff.2 hB, Bool.not_false, Bool.false_eq_true, if_false]; omega
   · simp only [c, if_false]; omega
 rw [h.1, key _ (Nat.le_refl _), Nat.sub_self]
 simp only [Zmi]; omega
end Go.Acq
namespace Go.Acq
open Go
set_option linter.unusedSimpArgs false
set_option linter.unusedVariables false
theorem PreOK.pre {n : Net} {m L : Nat} {c : Csr} {p : Pre} (h : PreOK n m L c p) (r : Row n m L c) : Zka n (flN n.Arcs p.Res) (fun x => 0 ≤ x) [n.S] := ⟨h.ok.within r, fun v hv => by
 have hm := r.hm
 by_cases e : (v : Int) = n.S
 · exact .inr (by rw [e]; exact .head _)
 ·
  left
  have := h.nn v (by omega) e
  rw [h.ok.ex v (by omega)] at this
  exact this⟩
def MvP (q : Net) (m : Nat) (f : List Int) : Prop := ∃ L c p, Row q m L c ∧ PreOK q m L c p ∧ f = flN q.Arcs p.Res ∧ ∀ T : Nat, q.T = T → TZ c L T p.Res
theorem s_moved {q : Net} {m : Nat} {moves : List Int} (hm : q.N = m) (hk : Zan q.N q.S q.T q.Arcs = 0) (hll : lenok q.Arcs.length) (hmv : ByteRow moves) :
    Ok (Z4j q moves) (fun t => t.1 = q ∧ t.2.2 = true ∧ MvP q m t.2.1) := by
  have hml := hmv.len
  obtain ⟨mv, hmE⟩ : ∃ mv, moves.take (min (moves.length : Int) 80).toNat = mv := ⟨_, rfl⟩
  have hb : ∀ x, x ∈ mv → u8ok x := fun x hx => hmv.row x (by rw [← hmE] at hx; exact List.mem_of_mem_take hx)
  have hl80 : mv.length ≤ 80 := by rw [← hmE, List.length_take]; omega
  unfold Z4j
  refine Ok.bind.2 (Ok.mono (s_Make hm hk hll) ?_)
  rintro ⟨c, e⟩ ⟨hc, h0⟩
  simp only at hc h0 ⊢
  subst h0
  have r := row_of hc hm hk
  obtain ⟨L, hL⟩ : ∃ L, Z1e q.Arcs m = L := ⟨_, rfl⟩
  rw [hL] at r
  obtain ⟨-, ⟨T, hT, -, hTm⟩, -, -⟩ := r.ends
  rw [if_neg (by simp)]
  refine Ok.bind.2 (Ok.mono (ok_and (s_Begin r) (s_BeginT r hT)) fun p0 hp0 => Ok.gd.2 ⟨by constructor <;> omega, Ok.bind.2 ?_⟩)
  refine Z76 (fun s => ∃ k : Nat, s.2.2.2.2 = k ∧ k ≤ mv.length ∧ s.1 = 0 ∧ PreOK q m L c ⟨s.2.1, s.2.2.1, s.2.2.2.1⟩ ∧ TZ c L T s.2.1) (fun s => (mv.length - s.2.2.2.2).toNat) ⟨0, rfl, by omega, rfl, hp0⟩ (by unfold Z3f; simp only; omega) ?_
  rintro ⟨e, R, X, H, x⟩ ⟨k, h1, hk1, h2, hp, hz⟩ P next exit
  simp only at h1 h2 hp hz next ⊢
  subst h1; subst h2
  unfold Z3q
  simp only [hmE]
  refine Ok.ite.2 ⟨fun hx => ?_, fun hx => Ok.some.2 (exit _ ?_)⟩
  · have hbk := hb _ (Z5d (show k < mv.length by omega) 0)
    simp only [Int.toNat_natCast]
    refine Ok.gd.2 ⟨(by constructor <;> omega), Ok.bind.2 (Z8v (hp.may r) (Ok.gd.2 ⟨(by constructor <;> omega), ?_⟩))⟩
    have hdv := Zmp (show 0 ≤ mv.getD k 0 by omega) (show (0 : Int) < 2 by omega)
    have j3 : ∀ y : Pre, PreOK q m L c y → TZ c L T y.Res → Ok (Z2f q k 0 y.Res y.Ex y.H) P := fun y hy hyz => by
      unfold Z2f
      rw [if_neg (by simp)]
      exact Ok.gd.2 ⟨(by constructor <;> omega), Ok.some.2 (next _ ⟨k + 1, by simp, by omega, rfl, hy, hyz⟩ (by simp only; omega))⟩
    have j2 : ∀ b : Bool, (b = true → 0 < (Zdc q L c ⟨R, X, H⟩).length) → Ok (Z2g q moves c 0 R X H k (Zdc q L c ⟨R, X, H⟩) (Zbt q m c ⟨R, X, H⟩) b) P := by
      intro b hb
      unfold Z2g
      simp only [hmE, Int.toNat_natCast]
      refine Ok.ite.2 ⟨fun h => ?_, fun h => Ok.ite.2 ⟨fun h2 => ?_, fun h2 => j3 ⟨R, X, H⟩ hp hz⟩⟩
      · have hlen := hb h
        have hi := idx_lt (k := mv.getD k 0) (by omega) hlen
        obtain ⟨i, hie⟩ : ∃ i : Nat, ((mv.getD k 0).tdiv 2).tmod ((Zdc q L c ⟨R, X, H⟩).length : Int) = i := ⟨_, (Int.toNat_of_nonneg hi.1).symm⟩
        rw [hie] at hi
        simp only [hie]
        obtain ⟨j, g1, g2, g3, -, g4⟩ := push_at hp r (show i < (Zdc q L c ⟨R, X, H⟩).length by have := hi.2; omega)
        refine Ok.gd.2 ⟨⟨by omega, by constructor <;> omega⟩, Ok.gd.2 ⟨(by omega), Ok.gd.2 ⟨hi, ?_⟩⟩⟩
        rw [Int.toNat_natCast, g4]
        refine Ok.bind.2 (Ok.some.2 ?_)
        exact j3 _ (hp.push r g1 g2 g3) (TZ.push hz hp r hT g1 g2)
      · have hi := idx_lt (k := mv.getD k 0) (by omega) (show 0 < (Zbt q m c ⟨R, X, H⟩).length by omega)
        obtain ⟨i, hie⟩ : ∃ i : Nat, ((mv.getD k 0).tdiv 2).tmod ((Zbt q m c ⟨R, X, H⟩).length : Int) = i := ⟨_, (Int.toNat_of_nonneg hi.1).symm⟩
        rw [hie] at hi
        simp only [hie]
        obtain ⟨u, g1, g2, -, g4⟩ := lift_at hp r (show i < (Zbt q m c ⟨R, X, H⟩).length by have := hi.2; omega)
        refine Ok.gd.2 ⟨⟨by omega, by constructor <;> omega⟩, Ok.gd.2 ⟨(by omega), Ok.gd.2 ⟨hi, ?_⟩⟩⟩
        rw [Int.toNat_natCast, g4]
        refine Ok.bind.2 (Ok.some.2 ?_)
        exact j3 _ (hp.lift r g1 g2).1 hz
    refine Ok.ite.2 ⟨fun h => (have h' : 0 < ((Zdc q L c ⟨R, X, H⟩).length : Int) := h; Ok.ite.2 ⟨fun _ => j2 true fun _ => by omega, fun _ => j2 _ fun _ => by omega⟩), fun h => j2 false fun h2 => (by cases h2)⟩
  · simp only
    unfold Z4n
    refine Ok.bind.2 (Ok.mono (s_FlowR r hp.ok.lr hp.ok.res) ?_)
    rintro _ rfl
    exact Ok.some.2 ⟨rfl, rfl, L, c, ⟨R, X, H⟩, r, hp, rfl, fun T' hT' => by rw [show T' = T by omega]; exact hz⟩
theorem s_some {n : Net} {moves : List Int} (hn : NetIn n) (hmv : ByteRow moves) : Ok (Z4w n moves) (fun t => Made t.1 12 30 ∧ t.2.2 = true ∧ ∃ m : Nat, t.1.N = m ∧ MvP t.1 m t.2.1) := by
 unfold Z4w
 refine Ok.bind.2 (Ok.mono (s_Some hn (by omega) (by omega) (by omega) (by omega)) fun q hr => ?_)
 obtain ⟨m, hm, hso⟩ := hr.nat
 have hlen := hr.arcs
 refine Ok.bind.2 (Ok.mono (s_moved hm hr.check (by omega) hmv) ?_)
 rintro ⟨q', f, b⟩ ⟨h1, h2, h3⟩
 simp only at h1 h2 h3
 subst h1
 exact Ok.some.2 ⟨hr, h2, m, hm, h3⟩
end Go.Acq
namespace Go.Acq
open Go
set_option linter.unusedSimpArgs false
set_option linter.unusedVariables false
section
variable {n : Net} {m : Nat} {f g : List Int}
theorem Zkh (h : ∀ v : Nat, v < m → (v : Int) ≠ n.S → (v : Int) ≠ n.T → ex n.Arcs f v n.Arcs.length = 0) : ∀ k, k ≤ m → owK n f k = 0
 | 0, _ => rfl
 | k + 1, hk => by
  rw [owK, Zkh h k (by omega)]
  split
  · rename_i h2; rw [h k (by omega) h2.1 h2.2]; rfl
  · rfl
theorem flow_ST (h : Zka n f (fun x => x = 0) [n.S, n.T]) : ex n.Arcs f n.S n.Arcs.length + ex n.Arcs f n.T n.Arcs.length = 0 := by
 obtain ⟨m, hm, -, hm2, hl2, he, hfl⟩ := h.1.vert
 have hz := Z2u h.1.1
 simp only [Z4u, decide_eq_true_eq] at hz
 have hend := Zn4 (n := n) (f := f) he (by omega) (by omega) (by omega) m
 rw [Zhy he _ (Nat.le_refl _), if_pos (by omega), if_pos (by omega), Zkh (m := m) (fun v hv hS hT => ?_) m (Nat.le_refl _)] at hend
 · omega
 ·
  rcases h.2 v (by omega) with h | h
  · exact h
  ·
   simp only [List.mem_cons, List.not_mem_nil, or_false] at h
   rcases h with h | h
   · exact absurd h hS
   · exact absurd h hT
theorem BackP.pre (h : BackP n f g) (hf : Zka n f (fun x => 0 ≤ x) [n.S]) : Zka n g (fun x => 0 ≤ x) [n.S] := by
 refine ⟨h.all.1, fun v hv => ?_⟩
 have hz := Z2u hf.1.1
 simp only [Z4u, decide_eq_true_eq] at hz
 rcases h.all.2 v hv with h1 | h1
 · exact .inl (by omega)
 ·
  simp only [List.mem_cons, List.not_mem_nil, or_false] at h1
  rcases h1 with h1 | h1
  · exact .inr (by rw [h1]; exact .head _)
  ·
   left
   have h2 := h.atT
   rcases hf.2 v hv with h3 | h3
   · rw [h1] at h3 ⊢; omega
   · rw [List.mem_singleton] at h3; omega
end
end Go.Acq
namespace Go.Acq
open Go
set_option linter.unusedSimpArgs false
set_option linter.unusedVariables false
theorem p_BackFlow {n : Net} {moves : List Int} (hn : NetIn n) (hmv : ByteRow moves) : Z4o n moves = some true := by
 refine Zef ?_
 unfold Z4o
 refine Ok.bind.2 (Ok.mono (s_some hn hmv) ?_)
 rintro ⟨q, f, b⟩ ⟨hr, hb, m, hm, L, c, p, r, hp, hf, hz⟩
 simp only at hr hb hm r hp hf hz ⊢
 have hlen := hr.arcs
 have hll : lenok q.Arcs.length := by omega
 have hP := hp.pre r
 obtain ⟨⟨S, hS, -, hSm⟩, ⟨T, hT, -, hTm⟩, -, -⟩ := r.ends
 have hzf := (hz T hT).flow r hT
 rw [← hf] at hP hzf
 have hfl := hP.1.2.1
 subst hb
 rw [if_neg (by simp)]
 refine Ok.bind.2 (Ok.mono (s_Pre hll) fun b hb => ?_)
 rw [hb.2 hP, if_neg (by simp)]
 refine Ok.bind.2 (Ok.mono (s_Back hll) ?_)
 rintro ⟨g, e⟩ (⟨h, -⟩ | ⟨-, h1, hB⟩)
 · exact absurd hP h
 simp only at h1 hB ⊢
 subst h1
 have hgl := hB.len
 have heq := hB.eqT hzf
 have hst := flow_ST hB.all
 refine Ok.bind.2 (Ok.mono (s_Owed hll) ?_)
 rintro ⟨o, e⟩ (⟨h, -⟩ | ⟨-, h1, ho0, ho⟩)
 · exact absurd hP h
 simp only at h1 ho0 ho ⊢
 subst h1
 refine Ok.bind.2 (Ok.mono (Zcv hll) ?_)
 rintro ⟨x, e⟩ (⟨-, h1, hxl, hx⟩ | ⟨h, -⟩)
 rotate_left
 · exact absurd hP.1 h
 simp only at h1 hxl hx ⊢
 subst h1
 refine Ok.bind.2 (Ok.mono (Zcv hll) ?_)
 rintro ⟨y, e⟩ (⟨-, h1, hyl, hy⟩ | ⟨h, -⟩)
 rotate_left
 · exact absurd hB.all.1 h
 simp only at h1 hyl hy ⊢
 subst h1
 rw [hm, Int.toNat_natCast] at hxl hx hyl hy
 have hbT := Zc7 hP.1 q.T
 rw [if_neg (by simp)]
 unfold Z35 Z34 Z33
 rw [if_neg (by simp), if_neg (by simp), if_neg (by simp)]
 refine Ok.bind.2 (Ok.mono (s_Right hll) fun b hb => ?_)
 rw [hb.2 hB.all]
 unfold Z32
 rw [if_neg (by simp)]
 unfold Z31
 rw [if_neg (by simpa using ho0)]
 refine Ok.bind.2 (Z76 (fun y => ∃ i : Nat, y = i ∧ i ≤ g.length) (fun y => (g.length - y).toNat) ⟨0, rfl, by omega⟩ (by unfold Z3f; omega) ?_)
 rintro z ⟨i, rfl, hi⟩ P next exit
 unfold Z2y
 simp only [Int.toNat_natCast]
 refine Ok.ite.2 ⟨fun hz => ?_, fun hz => Ok.some.2 (exit _ ?_)⟩
 ·
  have h2 := hB.le i (by omega)
  exact Ok.gd.2 ⟨(by constructor <;> omega), Ok.gd.2 ⟨(by constructor <;> omega), Ok.ite.2 ⟨fun h => absurd h (by omega), fun _ => Ok.gd.2 ⟨(by constructor <;> omega), Ok.ite.2 ⟨fun h => absurd h (by omega), fun _ => Ok.gd.2 ⟨(by constructor <;> omega), Ok.some.2 (next _ ⟨i + 1, by simp, by omega⟩ (by omega))⟩⟩⟩⟩⟩⟩
 ·
  simp only
  unfold Z3y
  refine Ok.bind.2 (Ok.mono (s_Find hll) ?_)
  rintro ⟨c, e1⟩ (⟨h, -⟩ | ⟨-, h1, -, h2⟩)
  · exact absurd hB.all.1 h
  simp only at h1 h2 ⊢
  subst h1
  have hc : c = [] := by
   rcases h2 with h2 | h2
   · exact absurd hB.acyc h2.not
   · exact h2.1
  subst hc
  have hxS := hx S hSm
  have hxT := hx T hTm
  have hyS := hy S hSm
  have hyT := hy T hTm
  rw [hS, hT] at ho hst
  rw [hT] at heq hbT
  unfold Z30 Z2z Z2t
  simp only [hS, hT, Int.toNat_natCast, hxS, hxT, hyS, hyT]
  rw [if_pos trivial, if_pos (by simp)]
  refine Ok.gd.2 ⟨(by constructor <;> omega), Ok.gd.2 ⟨(by constructor <;> omega), ?_⟩⟩
  rw [if_pos (decide_eq_true heq)]
  refine Ok.gd.2 ⟨(by constructor <;> omega), Ok.gd.2 ⟨(by constructor <;> omega), Ok.gd.2 ⟨(by constructor <;> omega), ?_⟩⟩⟩
  rw [if_pos (by omega)]
  exact Ok.bind.2 (Z8v aw23 (Ok.some.2 rfl))
end Go.Acq
