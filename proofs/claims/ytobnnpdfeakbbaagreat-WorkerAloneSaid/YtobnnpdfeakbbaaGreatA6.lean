/- Texts of this claim, one behind the other. -/
import Derived.Test.YtobnnpdfeakbbaaGreatA5
set_option linter.unusedVariables false
set_option linter.unusedSimpArgs false
namespace Go.Acq
open Go
def Z1b (c : Csr) (u : Nat) (lf : Nat → Int) (Hs : List Int) (low : Int) : Prop :=
  (∀ a, fs c u ≤ a → a < fs c (u + 1) → 0 < lf a → low ≤ Hs.getD (hd c a) 0) ∧ ∃ g, fs c u ≤ g ∧ g < fs c (u + 1) ∧ 0 < lf g ∧ Hs.getD (hd c g) 0 = low
structure PushE (c : Csr) (m L : Nat) (l Hs : List Int) (e : Evt) (u g : Nat) : Prop where
  hw : e.What = 1
  hu : e.U = u ∧ u < m
  hg : e.Arc = g ∧ fs c u ≤ g ∧ g < fs c (u + 1)
  low : Z1b c u (fun a => l.getD a 0 + if a = g then e.D else 0) Hs e.Low
  hh : Hs.getD (hd c g) 0 = e.Low ∧ e.H = e.Low + 1 ∧ 0 ≤ e.Low ∧ e.Low ≤ m
  hd : 0 ≤ e.D ∧ e.D ≤ 1125899906842624
structure LiftE (c : Csr) (m L : Nat) (l Hs : List Int) (e : Evt) (u : Nat) : Prop where
  hw : e.What = 2
  hu : e.U = u ∧ u < m
  low : Z1b c u (fun a => l.getD a 0) Hs e.Low
  hh : 0 ≤ e.Low ∧ e.Low ≤ m
inductive Post (c : Csr) (m L R : Nat) (t : Int) (w : WorkerWorker) (l Hs : List Int) : Prop
  | no : w.has = false → SI c m L R (t + 1) w l Hs → Post c m L R t w l Hs
  | push (u g : Nat) : w.has = true → PushE c m L l Hs w.event u g → SI c m L R (t + 1) w l Hs → Post c m L R t w l Hs
  | lift (u : Nat) : w.has = true → LiftE c m L l Hs w.event u → SI c m L R (t + 1) w l (Hs.set u w.event.H) → Post c m L R t w l Hs
theorem Vd {w : WorkerWorker} (h : w.limit ≠ 0) : Wv w = some (decide (w.at_ = 25)) := by
 unfold Wv Z00
 simp only [Option.bind_some, decide_eq_true_eq, if_neg h]
theorem Xc {w : WorkerWorker} {b : CellsBank} {P : Bool × WorkerWorker × CellsBank → Prop} (h : 1 ≤ w.limit) (hp : ∀ d, P (d, w, b)) : Ok (Option.bind (Wv w) fun rd => some (rd, w, b)) P := by
 rw [Vd (by omega)]
 exact Ok.bind.2 (Ok.some.2 (Ok.some.2 (hp _)))
section ph
variable {c : Csr} {m L R : Nat} {t : Int} {w : WorkerWorker} {l : List Int} {u : Nat}
theorem Ph.i0 (h : Ph c m L R t w l u) (e : w.at_ = 0) : PaI m L R t 5 w.pop.part := by cases h <;> first | (exfalso; omega) | assumption
theorem Ph.i5 (h : Ph c m L R t w l u) (e : w.at_ = 5) : w.h = l.getD (L + m + u) 0 := by cases h <;> first | (exfalso; omega) | assumption
theorem Ph.i6 (h : Ph c m L R t w l u) (e : w.at_ = 6) : ∃ a : Nat, w.h = l.getD (L + m + u) 0 ∧ w.e = l.getD (L + u) 0 ∧ 0 < w.e ∧ w.a = a ∧ fs c u ≤ a ∧ a < fs c (u + 1) ∧ ScI c m L l u a w.target w.low w.room := by
 cases h
 case left a _ p0 p1 p2 p3 p4 p5 p6 => exact ⟨a, p0, p1, p2, p3, p4, p5, p6⟩
 all_goals (exfalso; omega)
theorem Ph.i7 (h : Ph c m L R t w l u) (e : w.at_ = 7) : ∃ a : Nat, w.h = l.getD (L + m + u) 0 ∧ w.e = l.getD (L + u) 0 ∧ 0 < w.e ∧ w.a = a ∧ fs c u ≤ a ∧ a < fs c (u + 1) ∧ ScI c m L l u a w.target w.low w.room ∧ w.d = l.getD a 0 ∧ 0 < w.d := by
 cases h
 case low a _ p0 p1 p2 p3 p4 p5 p6 p7 p8 => exact ⟨a, p0, p1, p2, p3, p4, p5, p6, p7, p8⟩
 all_goals (exfalso; omega)
theorem Ph.i8 (h : Ph c m L R t w l u) (e : w.at_ = 8) : w.h = l.getD (L + m + u) 0 ∧ w.e = l.getD (L + u) 0 ∧ 0 < w.e ∧ ScI c m L l u (fs c (u + 1)) w.target w.low w.room ∧ 0 ≤ w.target ∧ w.low < w.h := by
 cases h <;> first | (exfalso; omega) | (refine ⟨?_, ?_, ?_, ?_, ?_, ?_⟩ <;> assumption)
theorem Ph.i9 (h : Ph c m L R t w l u) (e : w.at_ = 9) : ∃ g : Nat, w.h = l.getD (L + m + u) 0 ∧ w.e = l.getD (L + u) 0 ∧ w.target = g ∧ g < L ∧ tl c g = u ∧ 0 < w.d ∧ w.d ≤ w.e ∧ w.d ≤ 1125899906842624 ∧ RsI c m L (l.set (rv c g) (l.getD (rv c g) 0 + w.d)) := by
 cases h
 case back a _ p0 p1 p2 p3 p4 p5 p6 p7 p8 => exact ⟨a, p0, p1, p2, p3, p4, p5, p6, p7, p8⟩
 all_goals (exfalso; omega)
theorem Ph.i10 (h : Ph c m L R t w l u) (e : w.at_ = 10) : ∃ g : Nat, w.h = l.getD (L + m + u) 0 ∧ w.e = l.getD (L + u) 0 ∧ w.target = g ∧ g < L ∧ tl c g = u ∧ 0 < w.d ∧ w.d ≤ w.e ∧ w.d ≤ 1125899906842624 := by
 cases h
 case frm a _ p0 p1 p2 p3 p4 p5 p6 p7 => exact ⟨a, p0, p1, p2, p3, p4, p5, p6, p7⟩
 all_goals (exfalso; omega)
theorem Ph.i11 (h : Ph c m L R t w l u) (e : w.at_ = 11) : ∃ g : Nat, w.h = l.getD (L + m + u) 0 ∧ w.e = l.getD (L + u) 0 ∧ 0 ≤ w.e ∧ w.target = g ∧ g < L ∧ tl c g = u ∧ 0 < w.d ∧ w.d ≤ 1125899906842624 := by
 cases h
 case to a _ p0 p1 p2 p3 p4 p5 p6 p7 => exact ⟨a, p0, p1, p2, p3, p4, p5, p6, p7⟩
 all_goals (exfalso; omega)
theorem Ph.im (h : Ph c m L R t w l u) (e : w.at_ = 12 ∨ w.at_ = 13 ∨ w.at_ = 16 ∨ w.at_ = 17) : w.h = l.getD (L + m + u) 0 ∧ w.e = l.getD (L + u) 0 ∧ 0 ≤ w.e := by
 cases h <;> first | (exfalso; omega) | (refine ⟨?_, ?_, ?_⟩ <;> assumption)
theorem Ph.i14 (h : Ph c m L R t w l u) (e : w.at_ = 14) : w.h = l.getD (L + m + u) 0 ∧ w.e = l.getD (L + u) 0 ∧ 0 ≤ w.e ∧ PaI m L R t 3 w.put.part ∧ 0 ≤ w.put.v ∧ w.put.v < m := by
 cases h <;> first | (exfalso; omega) | (refine ⟨?_, ?_, ?_, ?_, ?_, ?_⟩ <;> assumption)
theorem Ph.i15 (h : Ph c m L R t w l u) (e : w.at_ = 15) : w.h = l.getD (L + m + u) 0 ∧ w.e = l.getD (L + u) 0 ∧ 0 < w.e ∧ ScI c m L l u (fs c (u + 1)) w.target w.low w.room ∧ 0 ≤ w.target ∧ w.h ≤ w.low := by
 cases h <;> first | (exfalso; omega) | (refine ⟨?_, ?_, ?_, ?_, ?_, ?_⟩ <;> assumption)
theorem Ph.i18 (h : Ph c m L R t w l u) (e : w.at_ = 18 ∨ w.at_ = 19) : w.h = l.getD (L + m + u) 0 := by cases h <;> first | (exfalso; omega) | assumption
theorem Ph.i20 (h : Ph c m L R t w l u) (e : w.at_ = 20) : w.h = l.getD (L + m + u) 0 ∧ w.e = l.getD (L + u) 0 ∧ 0 < w.e := by
 cases h <;> first | (exfalso; omega) | (refine ⟨?_, ?_, ?_⟩ <;> assumption)
theorem Ph.i24 (h : Ph c m L R t w l u) (e : w.at_ = 24) : ArI m L R w.arrive := by cases h <;> first | (exfalso; omega) | assumption
theorem Ph.no1 (h : Ph c m L R t w l u) : 0 ≤ w.at_ ∧ w.at_ ≤ 25 ∧ w.at_ ≠ 1 := by cases h <;> omega
end ph
section steps
variable {n : Net} {m L R : Nat} {c : Csr} {t : Int} {w : WorkerWorker} {l Hs : List Int} {u : Nat}
theorem Ja {q : Nat} {x : Int} (r : Row n m L c) (hs2 : ∀ v, v < m → Hs.getD v 0 = l.getD (L + m + v) 0) (bk : Bk m L R t l) (rs : RsI c m L l) (t0 : 0 ≤ t) (h1 : L + 2 * m ≤ q)
    (h3 : q < L + 3 * m + 6 → -(100 + (t + 1)) ≤ x ∧ x ≤ 100 + (t + 1)) (h4 : L + 3 * m + 6 ≤ q → 0 ≤ x ∧ x < m) :
    (∀ v, v < m → Hs.getD v 0 = (l.set q x).getD (L + m + v) 0) ∧ Bk m L R (t + 1) (l.set q x) ∧ RsI c m L (l.set q x) ∧ ∀ p, p < L + 2 * m → (l.set q x).getD p 0 = l.getD p 0 :=
  ⟨fun v hv => by rw [Xq (by omega)]; exact hs2 v hv, (bk.up (by omega)).set (fun _ _ => by omega) (fun _ _ => by omega) (fun _ h => h3 h) (fun h _ => h4 h), rs.other r (by omega) (.inr h1), fun p hp => Xq (by omega)⟩
theorem Zbh {P : WorkerWorker → Prop} (r : Row n m L c) (hc : w.c = c) (hu : w.u = u) (hum : u < m) (h1 : fs c u = fs c (u + 1) → P { w with at_ := 18, a := fs c u, target := -1 }) (h2 : fs c u < fs c (u + 1) → P { w with at_ := 6, a := fs c u, target := -1 }) : Ok (Z0g w) P := by
 obtain ⟨xc, xl, xid, xlim, xat, xpop, xsteal, xput, xarr, xfrom, xu, xv, xh, xe, xwakes, xholds, xlifts, xev, xhas, xa, xtarget, xroom, xd, xlow⟩ := w
 simp only at hc hu h1 h2
 subst hc hu
 have bd := r.bd
 have f1 := (r.first.1 u (by omega)).1
 have f2 := (r.first.1 (u + 1) (by omega)).1
 have f3 := r.first.2.2.2 u hum
 have lf := r.lens.1
 unfold Z0g
 simp only [lf, show (u : Int) + 1 = ((u + 1 : Nat) : Int) by omega, Int.toNat_natCast, f1, f2]
 refine Ok.gd.2 ⟨by constructor <;> omega, Ok.gd.2 ⟨by constructor <;> omega, Ok.gd.2 ⟨by constructor <;> omega, Ok.ite.2 ⟨fun h => Ok.some.2 (h1 (by omega)), fun h => Ok.some.2 (h2 (by omega))⟩⟩⟩⟩
theorem Z91 {P : WorkerWorker → Prop} {a : Nat} (r : Row n m L c) (hc : w.c = c) (hu : w.u = u) (hum : u < m) (ha : w.a = a) (hal : a < fs c (u + 1)) (h1 : a + 1 < fs c (u + 1) → P { w with at_ := 6, a := (a : Int) + 1 }) (h2 : a + 1 = fs c (u + 1) → w.target < 0 → P { w with at_ := 18, a := (a : Int) + 1 })
    (h3 : a + 1 = fs c (u + 1) → 0 ≤ w.target → w.low < w.h → P { w with at_ := 8, a := (a : Int) + 1 }) (h4 : a + 1 = fs c (u + 1) → 0 ≤ w.target → w.h ≤ w.low → P { w with at_ := 15, a := (a : Int) + 1 }) : Ok (Z0o w) P := by
  obtain ⟨xc, xl, xid, xlim, xat, xpop, xsteal, xput, xarr, xfrom, xu, xv, xh, xe, xwakes, xholds, xlifts, xev, xhas, xa, xtarget, xroom, xd, xlow⟩ := w
  simp only at hc hu ha h1 h2 h3 h4
  subst hc hu ha
  have bd := r.bd
  have f2 := (r.first.1 (u + 1) (by omega)).1
  have f3 := r.first.2.2.2 u hum
  have lf := r.lens.1
  unfold Z0o
  simp only [lf, show (u : Int) + 1 = ((u + 1 : Nat) : Int) by omega, Int.toNat_natCast, f2]
  refine Ok.gd.2 ⟨by constructor <;> omega, Ok.gd.2 ⟨by constructor <;> omega, Ok.gd.2 ⟨by constructor <;> omega, Ok.ite.2 ⟨fun h => Ok.some.2 (h1 (by omega)), fun h => Ok.ite.2 ⟨fun h' => Ok.some.2 (h2 (by omega) h'), fun h' => Ok.ite.2 ⟨fun h'' => Ok.some.2 (h3 (by omega) (by omega) h''), fun h'' => Ok.some.2 (h4 (by omega) (by omega) (by omega))⟩⟩⟩⟩⟩⟩
theorem ScI.none {low room : Int} : ScI c m L l u (fs c u) (-1) low room := ⟨fun _ a h1 h2 => by omega, fun h => by omega⟩
theorem ScI.skip {a : Nat} {tg low room : Int} (h : ScI c m L l u a tg low room) (h0 : l.getD a 0 ≤ 0) : ScI c m L l u (a + 1) tg low room :=
 ⟨fun ht b h1 h2 => by
  by_cases e : b = a
  · rw [e]; exact h0
  · exact h.neg ht b h1 (by omega), fun ht => by
  obtain ⟨g, g1, g2, g3, g4, g5, g6, g7⟩ := h.pos ht
  refine ⟨g, g1, g2, by omega, g4, g5, g6, fun b h1 h2 h3 => ?_⟩
  by_cases e : b = a
  · rw [e] at h3; omega
  · exact g7 b h1 (by omega) h3⟩
theorem ScI.keep {a : Nat} {tg low room : Int} (h : ScI c m L l u a tg low room) (ht : 0 ≤ tg) (h0 : low ≤ l.getD (L + m + hd c a) 0) : ScI c m L l u (a + 1) tg low room :=
 ⟨fun h => by omega, fun ht => by
  obtain ⟨g, g1, g2, g3, g4, g5, g6, g7⟩ := h.pos ht
  refine ⟨g, g1, g2, by omega, g4, g5, g6, fun b h1 h2 h3 => ?_⟩
  by_cases e : b = a
  · rw [e]; exact h0
  · exact g7 b h1 (by omega) h3⟩
theorem ScI.new {a : Nat} {tg low room : Int} (h : ScI c m L l u a tg low room) (hf : fs c u ≤ a) (hp : 0 < l.getD a 0) (h0 : tg < 0 ∨ l.getD (L + m + hd c a) 0 < low) : ScI c m L l u (a + 1) a (l.getD (L + m + hd c a) 0) (l.getD a 0) :=
 ⟨fun h => by omega, fun _ => ⟨a, rfl, hf, by omega, hp, rfl, rfl, fun b h1 h2 h3 => by
  by_cases e : b = a
  · rw [e]; omega
  ·
   rcases h0 with h0 | h0
   · have := h.neg h0 b h1 (by omega); omega
   ·
    by_cases ht : 0 ≤ tg
    ·
     obtain ⟨g, g1, g2, g3, g4, g5, g6, g7⟩ := h.pos ht
     have := g7 b h1 (by omega) h3; omega
    · have := h.neg (by omega) b h1 (by omega); omega⟩⟩
theorem ScI.low {tg low room : Int} (r : Row n m L c) (hum : u < m) (hs2 : ∀ v, v < m → Hs.getD v 0 = l.getD (L + m + v) 0) (h : ScI c m L l u (fs c (u + 1)) tg low room) (ht : 0 ≤ tg) : Z1b c u (fun a => l.getD a 0) Hs low := by
 obtain ⟨g, g1, g2, g3, g4, g5, g6, g7⟩ := h.pos ht
 have f3 := r.first.2.2.2 u hum
 refine ⟨fun b h1 h2 h3 => ?_, g, g2, g3, g4, ?_⟩
 · rw [hs2 _ (r.head (by omega)).2]; exact g7 b h1 h2 h3
 · rw [hs2 _ (r.head (by omega)).2]; exact g6.symm
theorem PaI.new {k : Int} (bd : 2 ≤ m) (hk : 0 ≤ k) (t0 : 0 ≤ t) : PaI m L R t k ⟨Xj m L R, 0, 0, 0, 0, 0, false, false⟩ := ⟨rfl, rfl, rfl, ⟨by simp only; omega, by simp only; omega⟩, ⟨by simp only; omega, by simp only; omega⟩, ⟨by simp only; omega, by simp only; omega⟩, ⟨by simp only; omega, by simp only; omega⟩⟩
theorem s_Top (hb : L ≤ 67108864 ∧ m ≤ 4096 ∧ R ≤ 8192) : Rh (Xj m L R) 0 = some ((L + 3 * m + 4 : Nat) : Int) := by
 unfold Rh Xj
 simp only
 rw [Vn (by constructor <;> omega), Vn (by constructor <;> omega), Vn (by constructor <;> omega)]
 exact congrArg some (by omega)
theorem Zb0 (hb : L ≤ 67108864 ∧ m ≤ 4096 ∧ R ≤ 8192) : Rg (Xj m L R) 0 = some ((L + 3 * m + 5 : Nat) : Int) := by
 unfold Rg
 rw [s_Top hb, Option.bind_some, Vn (by constructor <;> omega)]
 exact congrArg some (by omega)
theorem Zbp {x : Int} (hb : L ≤ 67108864 ∧ m ≤ 4096 ∧ R ≤ 8192) (hR : 1 ≤ R) : ∃ q : Nat, Ra (Xj m L R) 0 x = some (q : Int) ∧ L + 3 * m + 6 ≤ q ∧ q < L + 3 * m + R + 6 := by
 have h := band_le (x := x) (k := R - 1) (by omega)
 have e : ((R - 1 : Nat) : Int) = (R : Int) - 1 := by omega
 rw [e] at h
 have k : Ra (Xj m L R) 0 x = some (((L + 3 * m + 4 : Nat) : Int) + 2 + Gy .i64 x ((R : Int) - 1)) := by
  refine Rz ?_
  unfold Ra
  refine Ok.bind.2 (Yp (s_Top hb) ?_)
  simp only [Xj]
  exact Ok.gd.2 ⟨by constructor <;> omega, Ok.gd.2 ⟨by constructor <;> omega, Ok.gd.2 ⟨by constructor <;> omega, Ok.some.2 rfl⟩⟩⟩
 exact ⟨(((L + 3 * m + 4 : Nat) : Int) + 2 + Gy .i64 x ((R : Int) - 1)).toNat, k.trans (congrArg some (by omega)), by omega, by omega⟩
theorem k2 (r : Row n m L c) (hR : 1 ≤ R ∧ R ≤ 8192) (t0 : 0 ≤ t ∧ t ≤ 8000) (h : SB c m L R t w l Hs u) (e : w.at_ = 2) : Ok (Xo w ⟨l⟩) (fun x => Post c m L R t x.2.1 x.2.2.l Hs) := by
 have p := True.intro
 obtain ⟨hc, hl, hid, hlim, hli, ⟨hu, hum⟩, hv, ⟨hs1, hs2⟩, bk, rs, ph⟩ := h
 have bd := r.bd
 have bl := bk.len
 obtain ⟨-, -, -, hN⟩ := r.ends
 obtain ⟨xc, xl, xid, xlim, xat, xpop, xsteal, xput, xarr, xfrom, xu, xv, xh, xe, xwakes, xholds, xlifts, xev, xhas, xa, xtarget, xroom, xd, xlow⟩ := w
 simp only at hc hl hid hlim hli hu hv rs e p
 subst hc hl hid hu e
 unfold Xo
 rw [Vd (by simp only; omega)]
 simp only [Option.bind_some, reduceCtorEq, decide_eq_true_eq, Int.reduceEq, if_false, if_true, ↓reduceIte, Xj]
 have rs := rs (by omega)
 unfold Z85 Z19 Z0r Z4g Z4x Z1f Lv Z0q
 have hl := Us (l := l) (i := (L : Int) + 3 * m + 1) (q := L + 3 * m + 1) (by omega) (by omega)
 simp only [Option.bind_some, Bool.not_false, if_true, hl]
 refine Ok.bind.2 (Ok.ite.2 ⟨fun _ => Ok.some.2 (Xc hlim fun _ => .no rfl ⟨u, rfl, rfl, rfl, hlim, ⟨(by first | omega | (simp only; omega) | (constructor <;> simp; done) | (simp; done)), (by first | omega | (simp only; omega) | (constructor <;> simp; done) | (simp; done))⟩, ⟨rfl, hum⟩, hv, ⟨hs1, hs2⟩, bk.up (by omega), fun _ => rs, .arr rfl ⟨rfl, (by first | omega | (simp only; omega) | (constructor <;> simp; done) | (simp; done)), (by first | omega | (simp only; omega) | (constructor <;> simp; done) | (simp; done))⟩⟩),
  fun _ => Ok.some.2 (Xc hlim fun _ => .no rfl ⟨u, rfl, rfl, rfl, hlim, ⟨(by first | omega | (simp only; omega) | (constructor <;> simp; done) | (simp; done)), (by first | omega | (simp only; omega) | (constructor <;> simp; done) | (simp; done))⟩, ⟨rfl, hum⟩, hv, ⟨hs1, hs2⟩, bk.up (by omega), fun _ => rs, .idle (by simp)⟩)⟩)
theorem k3 (r : Row n m L c) (hR : 1 ≤ R ∧ R ≤ 8192) (t0 : 0 ≤ t ∧ t ≤ 8000) (h : SB c m L R t w l Hs u) (e : w.at_ = 3) : Ok (Xo w ⟨l⟩) (fun x => Post c m L R t x.2.1 x.2.2.l Hs) := by
 have p := True.intro
 obtain ⟨hc, hl, hid, hlim, hli, ⟨hu, hum⟩, hv, ⟨hs1, hs2⟩, bk, rs, ph⟩ := h
 have bd := r.bd
 have bl := bk.len
 obtain ⟨-, -, -, hN⟩ := r.ends
 obtain ⟨xc, xl, xid, xlim, xat, xpop, xsteal, xput, xarr, xfrom, xu, xv, xh, xe, xwakes, xholds, xlifts, xev, xhas, xa, xtarget, xroom, xd, xlow⟩ := w
 simp only at hc hl hid hlim hli hu hv rs e p
 subst hc hl hid hu e
 unfold Xo
 rw [Vd (by simp only; omega)]
 simp only [Option.bind_some, reduceCtorEq, decide_eq_true_eq, Int.reduceEq, if_false, if_true, ↓reduceIte, Xj]
 have rs := rs (by omega)
 unfold Z5m Z5f Z7w Z94 Z7r Z9q Lv Z0q Lr Z17
 have hl := Us (l := l) (i := (L : Int) + 3 * m) (q := L + 3 * m) (by omega) (by omega)
 simp only [Option.bind_some, Bool.not_false, if_true, hl]
 refine Ok.bind.2 (Ok.ite.2 ⟨fun _ => Ok.some.2 (Xc hlim fun _ => .no rfl ⟨u, rfl, rfl, rfl, hlim, ⟨(by first | omega | (simp only; omega) | (constructor <;> simp; done) | (simp; done)), (by first | omega | (simp only; omega) | (constructor <;> simp; done) | (simp; done))⟩, ⟨rfl, hum⟩, hv, ⟨hs1, hs2⟩, bk.up (by omega), fun _ => rs, .arr rfl ⟨rfl, (by first | omega | (simp only; omega) | (constructor <;> simp; done) | (simp; done)), (by first | omega | (simp only; omega) | (constructor <;> simp; done) | (simp; done))⟩⟩), fun _ => Ok.some.2 (Xc hlim fun _ => .no rfl ⟨u, rfl, rfl, rfl, hlim, ⟨(by first | omega | (simp only; omega) | (constructor <;> simp; done) | (simp; done)), (by first | omega | (simp only; omega) | (constructor <;> simp; done) | (simp; done))⟩, ⟨rfl, hum⟩, hv, ⟨hs1, hs2⟩, bk.up (by omega), fun _ => rs, .take rfl (PaI.new (by omega) (by omega) (by omega))⟩)⟩)
theorem k4 (r : Row n m L c) (hR : 1 ≤ R ∧ R ≤ 8192) (t0 : 0 ≤ t ∧ t ≤ 8000) (h : SB c m L R t w l Hs u) (e : w.at_ = 4) : Ok (Xo w ⟨l⟩) (fun x => Post c m L R t x.2.1 x.2.2.l Hs) := by
 have p := True.intro
 obtain ⟨hc, hl, hid, hlim, hli, ⟨hu, hum⟩, hv, ⟨hs1, hs2⟩, bk, rs, ph⟩ := h
 have bd := r.bd
 have bl := bk.len
 obtain ⟨-, -, -, hN⟩ := r.ends
 obtain ⟨xc, xl, xid, xlim, xat, xpop, xsteal, xput, xarr, xfrom, xu, xv, xh, xe, xwakes, xholds, xlifts, xev, xhas, xa, xtarget, xroom, xd, xlow⟩ := w
 simp only at hc hl hid hlim hli hu hv rs e p
 subst hc hl hid hu e
 unfold Xo
 rw [Vd (by simp only; omega)]
 simp only [Option.bind_some, reduceCtorEq, decide_eq_true_eq, Int.reduceEq, if_false, if_true, ↓reduceIte, Xj]
 have rs := rs (by omega)
 unfold Z5z Kn
 dsimp only
 have hl := Us (l := l) (i := (L : Int) + m + u) (q := L + m + u) (by omega) (by omega)
 refine Ok.bind.2 (Ok.gd.2 ⟨by constructor <;> omega, Ok.bind.2 (Yp hl (Ok.bind.2 (Ok.ite.2 ⟨fun _ => Ok.some.2 (Ok.some.2 (Xc hlim fun _ => .no rfl ⟨u, rfl, rfl, rfl, hlim, ⟨(by first | omega | (simp only; omega) | (constructor <;> simp; done) | (simp; done)), (by first | omega | (simp only; omega) | (constructor <;> simp; done) | (simp; done))⟩, ⟨rfl, hum⟩, hv, ⟨hs1, hs2⟩, bk.up (by omega), fun _ => rs, .free (.inl rfl) rfl⟩)), fun _ => Ok.some.2 (Ok.some.2 (Xc hlim fun _ => .no rfl ⟨u, rfl, rfl, rfl, hlim, ⟨(by first | omega | (simp only; omega) | (constructor <;> simp; done) | (simp; done)), (by first | omega | (simp only; omega) | (constructor <;> simp; done) | (simp; done))⟩, ⟨rfl, hum⟩, hv, ⟨hs1, hs2⟩, bk.up (by omega), fun _ => rs, .exc rfl rfl⟩))⟩)))⟩)
theorem k5 (r : Row n m L c) (hR : 1 ≤ R ∧ R ≤ 8192) (t0 : 0 ≤ t ∧ t ≤ 8000) (h : SB c m L R t w l Hs u) (e : w.at_ = 5) : Ok (Xo w ⟨l⟩) (fun x => Post c m L R t x.2.1 x.2.2.l Hs) := by
 have p := h.ph.i5 e
 obtain ⟨hc, hl, hid, hlim, hli, ⟨hu, hum⟩, hv, ⟨hs1, hs2⟩, bk, rs, ph⟩ := h
 have bd := r.bd
 have bl := bk.len
 obtain ⟨-, -, -, hN⟩ := r.ends
 obtain ⟨xc, xl, xid, xlim, xat, xpop, xsteal, xput, xarr, xfrom, xu, xv, xh, xe, xwakes, xholds, xlifts, xev, xhas, xa, xtarget, xroom, xd, xlow⟩ := w
 simp only at hc hl hid hlim hli hu hv rs e p
 subst hc hl hid hu e
 unfold Xo
 rw [Vd (by simp only; omega)]
 simp only [Option.bind_some, reduceCtorEq, decide_eq_true_eq, Int.reduceEq, if_false, if_true, ↓reduceIte, Xj]
 have rs := rs (by omega)
 unfold Z9d
 dsimp only
 have hl := Us (l := l) (i := (L : Int) + u) (q := L + u) (by omega) (by omega)
 refine Ok.bind.2 (Ok.gd.2 ⟨by constructor <;> omega, Ok.bind.2 (Yp hl (Ok.ite.2 ⟨fun _ => Ok.some.2 (Xc hlim fun _ => .no rfl ⟨u, rfl, rfl, rfl, hlim, ⟨(by first | omega | (simp only; omega) | (constructor <;> simp; done) | (simp; done)), (by first | omega | (simp only; omega) | (constructor <;> simp; done) | (simp; done))⟩, ⟨rfl, hum⟩, hv, ⟨hs1, hs2⟩, bk.up (by omega), fun _ => rs, .free (.inl rfl) p⟩), fun h0 => Ok.bind.2 (Zbh r rfl rfl hum (fun _ => Ok.some.2 (Xc hlim fun _ => .no rfl ⟨u, rfl, rfl, rfl, hlim, ⟨(by first | omega | (simp only; omega) | (constructor <;> simp; done) | (simp; done)), (by first | omega | (simp only; omega) | (constructor <;> simp; done) | (simp; done))⟩, ⟨rfl, hum⟩, hv, ⟨hs1, hs2⟩, bk.up (by omega), fun _ => rs, .free (.inl rfl) p⟩)) fun h1 => Ok.some.2 (Xc hlim fun _ => .no rfl ⟨u, rfl, rfl, rfl, hlim, ⟨(by first | omega | (simp only; omega) | (constructor <;> simp; done) | (simp; done)), (by first | omega | (simp only; omega) | (constructor <;> simp; done) | (simp; done))⟩, ⟨rfl, hum⟩, hv, ⟨hs1, hs2⟩, bk.up (by omega), fun _ => rs, .left _ rfl p rfl (by simp only; omega) rfl (Nat.le_refl _) h1 ScI.none⟩))⟩))⟩)
theorem k6 (r : Row n m L c) (hR : 1 ≤ R ∧ R ≤ 8192) (t0 : 0 ≤ t ∧ t ≤ 8000) (h : SB c m L R t w l Hs u) (e : w.at_ = 6) : Ok (Xo w ⟨l⟩) (fun x => Post c m L R t x.2.1 x.2.2.l Hs) := by
 have p := h.ph.i6 e
 obtain ⟨hc, hl, hid, hlim, hli, ⟨hu, hum⟩, hv, ⟨hs1, hs2⟩, bk, rs, ph⟩ := h
 have bd := r.bd
 have bl := bk.len
 obtain ⟨-, -, -, hN⟩ := r.ends
 obtain ⟨xc, xl, xid, xlim, xat, xpop, xsteal, xput, xarr, xfrom, xu, xv, xh, xe, xwakes, xholds, xlifts, xev, xhas, xa, xtarget, xroom, xd, xlow⟩ := w
 simp only at hc hl hid hlim hli hu hv rs e p
 subst hc hl hid hu e
 unfold Xo
 rw [Vd (by simp only; omega)]
 simp only [Option.bind_some, reduceCtorEq, decide_eq_true_eq, Int.reduceEq, if_false, if_true, ↓reduceIte, Xj]
 have rs := rs (by omega)
 obtain ⟨a, p1, p2, p3, rfl, p5, p6, p7⟩ := p
 have f3 := r.first.2.2.2 u hum
 unfold Z5n
 dsimp only
 have hl := Us (l := l) (i := (0 : Int) + a) (q := a) (by omega) (by omega)
 refine Ok.bind.2 (Ok.gd.2 ⟨by constructor <;> omega, Ok.bind.2 (Yp hl (Ok.ite.2 ⟨fun h0 => Ok.some.2 (Xc hlim fun _ => .no rfl ⟨u, rfl, rfl, rfl, hlim, ⟨(by first | omega | (simp only; omega) | (constructor <;> simp; done) | (simp; done)), (by first | omega | (simp only; omega) | (constructor <;> simp; done) | (simp; done))⟩, ⟨rfl, hum⟩, hv, ⟨hs1, hs2⟩, bk.up (by omega), fun _ => rs, .low a rfl p1 p2 p3 rfl p5 p6 p7 rfl h0⟩), fun h0 => Ok.bind.2 (Z91 (a := a) r rfl rfl hum rfl p6 (fun h1 => Ok.some.2 (Xc hlim fun _ => .no rfl ⟨u, rfl, rfl, rfl, hlim, ⟨(by first | omega | (simp only; omega) | (constructor <;> simp; done) | (simp; done)), (by first | omega | (simp only; omega) | (constructor <;> simp; done) | (simp; done))⟩, ⟨rfl, hum⟩, hv, ⟨hs1, hs2⟩, bk.up (by omega), fun _ => rs, .left (a + 1) rfl p1 p2 p3 (by simp) (by omega) h1 (p7.skip (by omega))⟩))
  (fun _ _ => Ok.some.2 (Xc hlim fun _ => .no rfl ⟨u, rfl, rfl, rfl, hlim, ⟨(by first | omega | (simp only; omega) | (constructor <;> simp; done) | (simp; done)), (by first | omega | (simp only; omega) | (constructor <;> simp; done) | (simp; done))⟩, ⟨rfl, hum⟩, hv, ⟨hs1, hs2⟩, bk.up (by omega), fun _ => rs, .free (.inl rfl) p1⟩)) (fun h1 h2 h3 => Ok.some.2 (Xc hlim fun _ => .no rfl ⟨u, rfl, rfl, rfl, hlim, ⟨(by first | omega | (simp only; omega) | (constructor <;> simp; done) | (simp; done)), (by first | omega | (simp only; omega) | (constructor <;> simp; done) | (simp; done))⟩, ⟨rfl, hum⟩, hv, ⟨hs1, hs2⟩, bk.up (by omega), fun _ => rs, .push rfl p1 p2 p3 (h1 ▸ p7.skip (by omega)) h2 h3⟩)) fun h1 h2 h3 => Ok.some.2 (Xc hlim fun _ => .no rfl ⟨u, rfl, rfl, rfl, hlim, ⟨(by first | omega | (simp only; omega) | (constructor <;> simp; done) | (simp; done)), (by first | omega | (simp only; omega) | (constructor <;> simp; done) | (simp; done))⟩, ⟨rfl, hum⟩, hv, ⟨hs1, hs2⟩, bk.up (by omega), fun _ => rs, .lift rfl p1 p2 p3 (h1 ▸ p7.skip (by omega)) h2 h3⟩))⟩))⟩)
theorem k7 (r : Row n m L c) (hR : 1 ≤ R ∧ R ≤ 8192) (hcp : ∀ a, a < L → cp c a ≤ 1125899906842624) (t0 : 0 ≤ t ∧ t ≤ 8000) (h : SB c m L R t w l Hs u) (e : w.at_ = 7) : Ok (Xo w ⟨l⟩) (fun x => Post c m L R t x.2.1 x.2.2.l Hs) := by
 have p := h.ph.i7 e
 obtain ⟨hc, hl, hid, hlim, hli, ⟨hu, hum⟩, hv, ⟨hs1, hs2⟩, bk, rs, ph⟩ := h
 have bd := r.bd
 have bl := bk.len
 obtain ⟨-, -, -, hN⟩ := r.ends
 obtain ⟨xc, xl, xid, xlim, xat, xpop, xsteal, xput, xarr, xfrom, xu, xv, xh, xe, xwakes, xholds, xlifts, xev, xhas, xa, xtarget, xroom, xd, xlow⟩ := w
 simp only at hc hl hid hlim hli hu hv rs e p
 subst hc hl hid hu e
 unfold Xo
 rw [Vd (by simp only; omega)]
 simp only [Option.bind_some, reduceCtorEq, decide_eq_true_eq, Int.reduceEq, if_false, if_true, ↓reduceIte, Xj]
 have rs := rs (by omega)
 obtain ⟨a, p1, p2, p3, rfl, p5, p6, p7, rfl, p9⟩ := p
 have f3 := r.first.2.2.2 u hum
 have g1 := r.head (j := a) (by omega)
 have lh := r.lens.2.1
 unfold Z79 Z2i Z45
 dsimp only
 simp only [Int.toNat_natCast, g1.1, lh]
 have hl := Us (l := l) (i := (L : Int) + m + (hd xc a : Nat)) (q := L + m + hd xc a) (by omega) (by omega)
 have tk : ∀ (h0 : xtarget < 0 ∨ l.getD (L + m + hd xc a) 0 < xlow), _ := fun h0 => p7.new p5 p9 h0
 refine Ok.bind.2 (Ok.gd.2 ⟨by constructor <;> omega, Ok.gd.2 ⟨by constructor <;> omega, Ok.bind.2 (Yp hl (Ok.ite.2 ⟨fun h0 => Ok.ite.2 ⟨fun _ => Ok.bind.2 (Z91 (a := a) r rfl rfl hum rfl p6 (fun h1 => Ok.some.2 (Xc hlim fun _ => .no rfl ⟨u, rfl, rfl, rfl, hlim, ⟨(by first | omega | (simp only; omega) | (constructor <;> simp; done) | (simp; done)), (by first | omega | (simp only; omega) | (constructor <;> simp; done) | (simp; done))⟩, ⟨rfl, hum⟩, hv, ⟨hs1, hs2⟩, bk.up (by omega), fun _ => rs, .left (a + 1) rfl p1 p2 p3 (by simp) (by omega) h1 (tk (.inl h0))⟩))
  (fun _ h2 => absurd h2 (by simp only; omega)) (fun h1 h2 h3 => Ok.some.2 (Xc hlim fun _ => .no rfl ⟨u, rfl, rfl, rfl, hlim, ⟨(by first | omega | (simp only; omega) | (constructor <;> simp; done) | (simp; done)), (by first | omega | (simp only; omega) | (constructor <;> simp; done) | (simp; done))⟩, ⟨rfl, hum⟩, hv, ⟨hs1, hs2⟩, bk.up (by omega), fun _ => rs, .push rfl p1 p2 p3 (h1 ▸ (tk (.inl h0))) h2 h3⟩)) fun h1 h2 h3 => Ok.some.2 (Xc hlim fun _ => .no rfl ⟨u, rfl, rfl, rfl, hlim, ⟨(by first | omega | (simp only; omega) | (constructor <;> simp; done) | (simp; done)), (by first | omega | (simp only; omega) | (constructor <;> simp; done) | (simp; done))⟩, ⟨rfl, hum⟩, hv, ⟨hs1, hs2⟩, bk.up (by omega), fun _ => rs, .lift rfl p1 p2 p3 (h1 ▸ (tk (.inl h0))) h2 h3⟩)), fun h => (by simp at h)⟩,
  fun h0 => Ok.ite.2 ⟨fun h4 => Ok.bind.2 (Z91 (a := a) r rfl rfl hum rfl p6 (fun h1 => Ok.some.2 (Xc hlim fun _ => .no rfl ⟨u, rfl, rfl, rfl, hlim, ⟨(by first | omega | (simp only; omega) | (constructor <;> simp; done) | (simp; done)), (by first | omega | (simp only; omega) | (constructor <;> simp; done) | (simp; done))⟩, ⟨rfl, hum⟩, hv, ⟨hs1, hs2⟩, bk.up (by omega), fun _ => rs, .left (a + 1) rfl p1 p2 p3 (by simp) (by omega) h1 (tk (.inr (of_decide_eq_true h4)))⟩))
  (fun _ h2 => absurd h2 (by simp only; omega)) (fun h1 h2 h3 => Ok.some.2 (Xc hlim fun _ => .no rfl ⟨u, rfl, rfl, rfl, hlim, ⟨(by first | omega | (simp only; omega) | (constructor <;> simp; done) | (simp; done)), (by first | omega | (simp only; omega) | (constructor <;> simp; done) | (simp; done))⟩, ⟨rfl, hum⟩, hv, ⟨hs1, hs2⟩, bk.up (by omega), fun _ => rs, .push rfl p1 p2 p3 (h1 ▸ (tk (.inr (of_decide_eq_true h4)))) h2 h3⟩)) fun h1 h2 h3 => Ok.some.2 (Xc hlim fun _ => .no rfl ⟨u, rfl, rfl, rfl, hlim, ⟨(by first | omega | (simp only; omega) | (constructor <;> simp; done) | (simp; done)), (by first | omega | (simp only; omega) | (constructor <;> simp; done) | (simp; done))⟩, ⟨rfl, hum⟩, hv, ⟨hs1, hs2⟩, bk.up (by omega), fun _ => rs, .lift rfl p1 p2 p3 (h1 ▸ (tk (.inr (of_decide_eq_true h4)))) h2 h3⟩)), fun h4 => Ok.bind.2 (Z91 (a := a) r rfl rfl hum rfl p6 (fun h1 => Ok.some.2 (Xc hlim fun _ => .no rfl ⟨u, rfl, rfl, rfl, hlim, ⟨(by first | omega | (simp only; omega) | (constructor <;> simp; done) | (simp; done)), (by first | omega | (simp only; omega) | (constructor <;> simp; done) | (simp; done))⟩, ⟨rfl, hum⟩, hv, ⟨hs1, hs2⟩, bk.up (by omega), fun _ => rs, .left (a + 1) rfl p1 p2 p3 (by simp) (by omega) h1 (p7.keep (by omega) (by simpa using h4))⟩))
  (fun _ h2 => absurd h2 h0) (fun h1 h2 h3 => Ok.some.2 (Xc hlim fun _ => .no rfl ⟨u, rfl, rfl, rfl, hlim, ⟨(by first | omega | (simp only; omega) | (constructor <;> simp; done) | (simp; done)), (by first | omega | (simp only; omega) | (constructor <;> simp; done) | (simp; done))⟩, ⟨rfl, hum⟩, hv, ⟨hs1, hs2⟩, bk.up (by omega), fun _ => rs, .push rfl p1 p2 p3 (h1 ▸ (p7.keep (by omega) (by simpa using h4))) h2 h3⟩)) fun h1 h2 h3 => Ok.some.2 (Xc hlim fun _ => .no rfl ⟨u, rfl, rfl, rfl, hlim, ⟨(by first | omega | (simp only; omega) | (constructor <;> simp; done) | (simp; done)), (by first | omega | (simp only; omega) | (constructor <;> simp; done) | (simp; done))⟩, ⟨rfl, hum⟩, hv, ⟨hs1, hs2⟩, bk.up (by omega), fun _ => rs, .lift rfl p1 p2 p3 (h1 ▸ (p7.keep (by omega) (by simpa using h4))) h2 h3⟩))⟩⟩))⟩⟩)
theorem k8 (r : Row n m L c) (hR : 1 ≤ R ∧ R ≤ 8192) (hcp : ∀ a, a < L → cp c a ≤ 1125899906842624) (t0 : 0 ≤ t ∧ t ≤ 8000) (h : SB c m L R t w l Hs u) (e : w.at_ = 8) : Ok (Xo w ⟨l⟩) (fun x => Post c m L R t x.2.1 x.2.2.l Hs) := by
 have p := h.ph.i8 e
 obtain ⟨hc, hl, hid, hlim, hli, ⟨hu, hum⟩, hv, ⟨hs1, hs2⟩, bk, rs, ph⟩ := h
 have bd := r.bd
 have bl := bk.len
 obtain ⟨-, -, -, hN⟩ := r.ends
 obtain ⟨xc, xl, xid, xlim, xat, xpop, xsteal, xput, xarr, xfrom, xu, xv, xh, xe, xwakes, xholds, xlifts, xev, xhas, xa, xtarget, xroom, xd, xlow⟩ := w
 simp only at hc hl hid hlim hli hu hv rs e p
 subst hc hl hid hu e
 unfold Xo
 rw [Vd (by simp only; omega)]
 simp only [Option.bind_some, reduceCtorEq, decide_eq_true_eq, Int.reduceEq, if_false, if_true, ↓reduceIte, Xj]
 have rs := rs (by omega)
 obtain ⟨p1, p2, p3, p4, p5, p6⟩ := p
 have lw := p4.low r hum hs2 p5
 obtain ⟨g, rfl, q2, q3, q4, rfl, q6, q7⟩ := p4.pos p5
 have f3 := r.first.2.2.2 u hum
 have hgL : g < L := by omega
 have g1 := r.head hgL
 have k1 := r.rev hgL
 have tg := (r.range hgL hum).1 ⟨q2, q3⟩
 have nn := rs.nn g hgL
 have nn2 := rs.nn _ k1.2.1
 have cg := hcp g hgL
 have vg := rs.val g hgL q4
 rw [tg] at vg
 have hh := bk.hh _ g1.2
 obtain ⟨d, hd⟩ : ∃ d, min xe (l.getD g 0) = d := ⟨_, rfl⟩
 have m1 := Int.min_le_left xe (l.getD g 0)
 have m2 := Int.min_le_right xe (l.getD g 0)
 have m3 : 0 < min xe (l.getD g 0) := Int.lt_min.2 ⟨p3, q4⟩
 unfold Z8s Z1j
 dsimp only
 rw [hd] at m1 m2 m3
 simp only [hd]
 have ha := Jy (l := l) (i := (0 : Int) + g) (q := g) (d := -d) (by omega) (by omega) (by constructor <;> omega)
 have hsame : ∀ q, L ≤ q → (l.set g (l.getD g 0 + -d)).getD q 0 = l.getD q 0 := fun q hq => Xq (by omega)
 refine Ok.bind.2 (Ok.gd.2 ⟨by constructor <;> omega, Ok.gd.2 ⟨by constructor <;> omega, Ok.bind.2 (Yp ha (Ok.bind.2 (Ok.some.2 (Ok.some.2 (Xc hlim fun _ => .push u g rfl ⟨rfl, ⟨rfl, hum⟩, ⟨rfl, q2, q3⟩, ?_, ⟨?_, ?_, ?_, ?_⟩, ⟨by simp only; omega, by simp only; omega⟩⟩
  ⟨u, rfl, rfl, rfl, hlim, ⟨(by first | omega | (simp only; omega) | (constructor <;> simp; done) | (simp; done)), (by first | omega | (simp only; omega) | (constructor <;> simp; done) | (simp; done))⟩, ⟨rfl, hum⟩, hv, ⟨hs1, fun v hv => by rw [hsame _ (by omega)]; exact hs2 v hv⟩, (bk.up (by omega)).set (fun _ _ => by omega) (fun _ _ => by omega) (fun _ _ => by omega) (fun _ _ => by omega), fun h => absurd rfl h, .back g rfl ?_ ?_ rfl hgL tg m3 m1 (by simp only; omega) ?_⟩)))))⟩⟩)
 ·
  have e : (fun a => (l.set g (l.getD g 0 + -d)).getD a 0 + if a = g then d else 0) = fun a => l.getD a 0 := by
   funext a
   rw [Ws]
   by_cases c1 : a = g
   · subst c1; rw [if_pos ⟨rfl, by omega⟩, if_pos rfl]; omega
   · rw [if_neg (fun h => c1 h.1.symm), if_neg c1]; omega
  show Z1b xc u (fun a => (l.set g (l.getD g 0 + -d)).getD a 0 + if a = g then d else 0) Hs xlow
  rw [e]; exact lw
 ·
  show Hs.getD (Go.Acq.hd xc g) 0 = xlow
  rw [hs2 _ g1.2]; exact q6.symm
 · simp only; omega
 · simp only; omega
 · simp only; omega
 · show xh = _; rw [hsame _ (by omega)]; exact p1
 · show xe = _; rw [hsame _ (by omega)]; exact p2
 ·
  rw [Xq (show g ≠ rv xc g from fun h => k1.2.2.2 h.symm)]
  exact rs.push r (by omega) hgL (by omega) m2 (by rw [tg]; omega)
theorem k9 (r : Row n m L c) (hR : 1 ≤ R ∧ R ≤ 8192) (hcp : ∀ a, a < L → cp c a ≤ 1125899906842624) (t0 : 0 ≤ t ∧ t ≤ 8000) (h : SB c m L R t w l Hs u) (e : w.at_ = 9) : Ok (Xo w ⟨l⟩) (fun x => Post c m L R t x.2.1 x.2.2.l Hs) := by
 have p := h.ph.i9 e
 obtain ⟨hc, hl, hid, hlim, hli, ⟨hu, hum⟩, hv, ⟨hs1, hs2⟩, bk, rs, ph⟩ := h
 have bd := r.bd
 have bl := bk.len
 obtain ⟨-, -, -, hN⟩ := r.ends
 obtain ⟨xc, xl, xid, xlim, xat, xpop, xsteal, xput, xarr, xfrom, xu, xv, xh, xe, xwakes, xholds, xlifts, xev, xhas, xa, xtarget, xroom, xd, xlow⟩ := w
 simp only at hc hl hid hlim hli hu hv rs e p
 subst hc hl hid hu e
 unfold Xo
 rw [Vd (by simp only; omega)]
 simp only [Option.bind_some, reduceCtorEq, decide_eq_true_eq, Int.reduceEq, if_false, if_true, ↓reduceIte, Xj]
 obtain ⟨g, p1, p2, rfl, hgL, tg, p6, p7, p8, p9⟩ := p
 have k1 := r.rev hgL
 have lr := r.lens.2.2.1
 have nn := p9.nn _ k1.2.1
 have cg := hcp _ k1.2.1
 rw [Ws, if_pos ⟨rfl, by omega⟩, k1.2.2.1, Xq k1.2.2.2] at nn
 have nn2 := p9.nn g hgL
 rw [Xq k1.2.2.2] at nn2
 unfold Z9f
 dsimp only
 simp only [Int.toNat_natCast, k1.1, lr]
 have ha := Jy (l := l) (i := (0 : Int) + (rv xc g : Nat)) (q := rv xc g) (d := xd) (by omega) (by omega) (by constructor <;> omega)
 have hsame : ∀ q, L ≤ q → (l.set (rv xc g) (l.getD (rv xc g) 0 + xd)).getD q 0 = l.getD q 0 := fun q hq => Xq (by omega)
 refine Ok.bind.2 (Ok.gd.2 ⟨by constructor <;> omega, Ok.gd.2 ⟨by constructor <;> omega, Ok.bind.2 (Yp ha (Ok.some.2 (Xc hlim fun _ => .no rfl
  ⟨u, rfl, rfl, rfl, hlim, ⟨(by first | omega | (simp only; omega) | (constructor <;> simp; done) | (simp; done)), (by first | omega | (simp only; omega) | (constructor <;> simp; done) | (simp; done))⟩, ⟨rfl, hum⟩, hv, ⟨hs1, fun v hv => by rw [hsame _ (by omega)]; exact hs2 v hv⟩, (bk.up (by omega)).set (fun _ _ => by omega) (fun _ _ => by omega) (fun _ _ => by omega) (fun _ _ => by omega), fun _ => p9, .frm g rfl (by rw [hsame _ (by omega)]; exact p1) (by rw [hsame _ (by omega)]; exact p2) rfl hgL tg p6 p7 p8⟩)))⟩⟩)
theorem k10 (r : Row n m L c) (hR : 1 ≤ R ∧ R ≤ 8192) (hcp : ∀ a, a < L → cp c a ≤ 1125899906842624) (t0 : 0 ≤ t ∧ t ≤ 8000) (h : SB c m L R t w l Hs u) (e : w.at_ = 10) : Ok (Xo w ⟨l⟩) (fun x => Post c m L R t x.2.1 x.2.2.l Hs) := by
 have p := h.ph.i10 e
 obtain ⟨hc, hl, hid, hlim, hli, ⟨hu, hum⟩, hv, ⟨hs1, hs2⟩, bk, rs, ph⟩ := h
 have bd := r.bd
 have bl := bk.len
 obtain ⟨-, -, -, hN⟩ := r.ends
 obtain ⟨xc, xl, xid, xlim, xat, xpop, xsteal, xput, xarr, xfrom, xu, xv, xh, xe, xwakes, xholds, xlifts, xev, xhas, xa, xtarget, xroom, xd, xlow⟩ := w
 simp only at hc hl hid hlim hli hu hv rs e p
 subst hc hl hid hu e
 unfold Xo
 rw [Vd (by simp only; omega)]
 simp only [Option.bind_some, reduceCtorEq, decide_eq_true_eq, Int.reduceEq, if_false, if_true, ↓reduceIte, Xj]
 have rs := rs (by omega)
 obtain ⟨g, p1, p2, rfl, hgL, tg, p6, p7, p8⟩ := p
 have hx := bk.ex u hum
 unfold Z6e
 dsimp only
 have ha := Jy (l := l) (i := (L : Int) + u) (q := L + u) (d := -xd) (by omega) (by omega) (by constructor <;> omega)
 have hsame : ∀ q, L + m ≤ q → (l.set (L + u) (l.getD (L + u) 0 + -xd)).getD q 0 = l.getD q 0 := fun q hq => Xq (by omega)
 refine Ok.bind.2 (Ok.gd.2 ⟨by constructor <;> omega, Ok.gd.2 ⟨by constructor <;> omega, Ok.bind.2 (Yp ha (Ok.some.2 (Xc hlim fun _ => .no rfl
  ⟨u, rfl, rfl, rfl, hlim, ⟨(by first | omega | (simp only; omega) | (constructor <;> simp; done) | (simp; done)), (by first | omega | (simp only; omega) | (constructor <;> simp; done) | (simp; done))⟩, ⟨rfl, hum⟩, hv, ⟨hs1, fun v hv => by rw [hsame _ (by omega)]; exact hs2 v hv⟩, (bk.up (by omega)).set (fun _ _ => by omega) (fun _ _ => by omega) (fun _ _ => by omega) (fun _ _ => by omega), fun _ => rs.other r (by omega) (.inl (by omega)), .to g rfl (by rw [hsame _ (by omega)]; exact p1) (by rw [Ws, if_pos ⟨rfl, by omega⟩]) (by simp only at p2 ⊢; omega) rfl hgL tg p6 p8⟩)))⟩⟩)
theorem k11 (r : Row n m L c) (hR : 1 ≤ R ∧ R ≤ 8192) (hcp : ∀ a, a < L → cp c a ≤ 1125899906842624) (t0 : 0 ≤ t ∧ t ≤ 8000) (h : SB c m L R t w l Hs u) (e : w.at_ = 11) : Ok (Xo w ⟨l⟩) (fun x => Post c m L R t x.2.1 x.2.2.l Hs) := by
 have p := h.ph.i11 e
 obtain ⟨hc, hl, hid, hlim, hli, ⟨hu, hum⟩, hv, ⟨hs1, hs2⟩, bk, rs, ph⟩ := h
 have bd := r.bd
 have bl := bk.len
 obtain ⟨-, -, -, hN⟩ := r.ends
 obtain ⟨xc, xl, xid, xlim, xat, xpop, xsteal, xput, xarr, xfrom, xu, xv, xh, xe, xwakes, xholds, xlifts, xev, xhas, xa, xtarget, xroom, xd, xlow⟩ := w
 simp only at hc hl hid hlim hli hu hv rs e p
 subst hc hl hid hu e
 unfold Xo
 rw [Vd (by simp only; omega)]
 simp only [Option.bind_some, reduceCtorEq, decide_eq_true_eq, Int.reduceEq, if_false, if_true, ↓reduceIte, Xj]
 have rs := rs (by omega)
 obtain ⟨g, p1, p2, p3, rfl, hgL, tg, p6, p8⟩ := p
 have g1 := r.head hgL
 have g2 := r.tlh hgL
 have lh := r.lens.2.1
 have hx := bk.ex _ g1.2
 unfold Z6f Kn
 dsimp only
 simp only [Int.toNat_natCast, g1.1, lh]
 have ha := Jy (l := l) (i := (L : Int) + (hd xc g : Nat)) (q := L + hd xc g) (d := xd) (by omega) (by omega) (by constructor <;> omega)
 have hsame : ∀ q, q ≠ L + hd xc g → (l.set (L + hd xc g) (l.getD (L + hd xc g) 0 + xd)).getD q 0 = l.getD q 0 := fun q hq => Xq (by omega)
 have fin : ∀ x : Int, (x = 12 ∨ x = 13 ∨ x = 16 ∨ x = 17) → Post xc m L R t ⟨xc, ⟨m, L, 1, R, 0, L, L + m, L + 2 * m, L + 3 * m, L + 3 * m + 1, L + 3 * m + 2, L + 3 * m + 3, L + 3 * m + 4, L + 3 * m + R + 6⟩, 0, xlim, x, xpop, xsteal, xput, xarr, xfrom, u, (hd xc g : Nat), xh, xe, xwakes, xholds, xlifts, xev, false, xa, g, xroom, xd, xlow⟩ (l.set (L + hd xc g) (l.getD (L + hd xc g) 0 + xd)) Hs := fun x hx4 => .no rfl
  ⟨u, rfl, rfl, rfl, hlim, ⟨(by first | omega | (simp only; omega) | (constructor <;> simp; done) | (simp; done)), (by first | omega | (simp only; omega) | (constructor <;> simp; done) | (simp; done))⟩, ⟨rfl, hum⟩, ⟨by simp only; omega, by simp only; omega⟩, ⟨hs1, fun v hv => by rw [hsame _ (by omega)]; exact hs2 v hv⟩, (bk.up (by omega)).set (fun _ _ => by omega) (fun _ _ => by omega) (fun _ _ => by omega) (fun _ _ => by omega), fun _ => rs.other r (by omega) (.inl (by omega)), .mid hx4 (by rw [hsame _ (by omega)]; exact p1) (by rw [hsame _ (by omega)]; exact p2) p3⟩
 refine Ok.bind.2 (Ok.gd.2 ⟨by constructor <;> omega, Ok.gd.2 ⟨by constructor <;> omega, Ok.bind.2 (Yp ha (Ok.ite.2 ⟨fun _ => Ok.bind.2 (Ok.ite.2 ⟨fun _ => Ok.some.2 (Ok.some.2 (Xc hlim fun _ => fin 17 (by simp))), fun h => (by simp at h)⟩), fun _ => Ok.ite.2 ⟨fun _ => Ok.bind.2 (Ok.ite.2 ⟨fun _ => Ok.some.2 (Ok.some.2 (Xc hlim fun _ => fin 17 (by simp))), fun h => (by simp at h)⟩), fun _ => Ok.bind.2 (Ok.ite.2 ⟨fun _ => Ok.some.2 (Ok.some.2 (Xc hlim fun _ => fin 17 (by simp))), fun _ => Ok.some.2 (Ok.some.2 (Xc hlim fun _ => fin 12 (by simp)))⟩)⟩⟩))⟩⟩)
end steps
end Go.Acq
namespace Go.Acq
open Go
section steps
variable {n : Net} {m L R : Nat} {c : Csr} {t : Int} {w : WorkerWorker} {l Hs : List Int} {u : Nat}
theorem k12 (r : Row n m L c) (hR : 1 ≤ R ∧ R ≤ 8192) (hcp : ∀ a, a < L → cp c a ≤ 1125899906842624) (t0 : 0 ≤ t ∧ t ≤ 8000) (h : SB c m L R t w l Hs u) (e : w.at_ = 12) : Ok (Xo w ⟨l⟩) (fun x => Post c m L R t x.2.1 x.2.2.l Hs) := by
 have p := h.ph.im (by omega)
 obtain ⟨hc, hl, hid, hlim, hli, ⟨hu, hum⟩, hv, ⟨hs1, hs2⟩, bk, rs, ph⟩ := h
 have bd := r.bd
 have bl := bk.len
 obtain ⟨-, -, -, hN⟩ := r.ends
 obtain ⟨xc, xl, xid, xlim, xat, xpop, xsteal, xput, xarr, xfrom, xu, xv, xh, xe, xwakes, xholds, xlifts, xev, xhas, xa, xtarget, xroom, xd, xlow⟩ := w
 simp only at hc hl hid hlim hli hu hv rs e p
 subst hc hl hid hu e
 unfold Xo
 rw [Vd (by simp only; omega)]
 simp only [Option.bind_some, reduceCtorEq, decide_eq_true_eq, Int.reduceEq, if_false, if_true, ↓reduceIte, Xj]
 have rs := rs (by omega)
 obtain ⟨p1, p2, p3⟩ := p
 obtain ⟨v, rfl⟩ : ∃ v : Nat, xv = v := ⟨xv.toNat, by omega⟩
 have hf := bk.oth (L + 2 * m + v) (by omega) (by omega)
 have ha := s_CAS (l := l) (i := (L : Int) + 2 * m + v) (q := L + 2 * m + v) (old := 0) (v := 1) (by omega) (by omega)
 obtain ⟨g1, g2, g3, g4⟩ := Ja (q := L + 2 * m + v) (x := if l.getD (L + 2 * m + v) 0 = 0 then 1 else l.getD (L + 2 * m + v) 0) r hs2 bk rs t0.1 (by omega) (fun _ => by split <;> omega) (fun _ => by omega)
 unfold Z7v Z0s Z22 Z4c Z24 Kn
 dsimp only
 refine Ok.bind.2 (Ok.bind.2 (Ok.gd.2 ⟨by constructor <;> omega, Ok.some.2 ?_⟩))
 dsimp only
 refine Ok.bind.2 (Ok.bind.2 (Ok.some.2 (Ok.ite.2 ⟨fun _ => Ok.bind.2 (Yp ha (Ok.some.2 (Ok.bind.2 (Ok.some.2 (Ok.bind.2 (Ok.ite.2 ⟨fun _ => Ok.some.2 (Ok.some.2 (Xc hlim fun _ => .no rfl ⟨u, rfl, rfl, rfl, hlim, ⟨(by first | omega | (simp only; omega) | (constructor <;> simp; done) | (simp; done)), (by first | omega | (simp only; omega) | (constructor <;> simp; done) | (simp; done))⟩, ⟨rfl, hum⟩, hv, ⟨hs1, g1⟩, g2, fun _ => g3, .mid (by simp) (by rw [g4 _ (by omega)]; exact p1) (by rw [g4 _ (by omega)]; exact p2) p3⟩)),
  fun _ => Ok.some.2 (Ok.some.2 (Xc hlim fun _ => .no rfl ⟨u, rfl, rfl, rfl, hlim, ⟨(by first | omega | (simp only; omega) | (constructor <;> simp; done) | (simp; done)), (by first | omega | (simp only; omega) | (constructor <;> simp; done) | (simp; done))⟩, ⟨rfl, hum⟩, hv, ⟨hs1, g1⟩, g2, fun _ => g3, .mid (by simp) (by rw [g4 _ (by omega)]; exact p1) (by rw [g4 _ (by omega)]; exact p2) p3⟩))⟩)))))), fun h => (by simp at h)⟩)))
theorem k13 (r : Row n m L c) (hR : 1 ≤ R ∧ R ≤ 8192) (hcp : ∀ a, a < L → cp c a ≤ 1125899906842624) (t0 : 0 ≤ t ∧ t ≤ 8000) (h : SB c m L R t w l Hs u) (e : w.at_ = 13) : Ok (Xo w ⟨l⟩) (fun x => Post c m L R t x.2.1 x.2.2.l Hs) := by
 have p := h.ph.im (by omega)
 obtain ⟨hc, hl, hid, hlim, hli, ⟨hu, hum⟩, hv, ⟨hs1, hs2⟩, bk, rs, ph⟩ := h
 have bd := r.bd
 have bl := bk.len
 obtain ⟨-, -, -, hN⟩ := r.ends
 obtain ⟨xc, xl, xid, xlim, xat, xpop, xsteal, xput, xarr, xfrom, xu, xv, xh, xe, xwakes, xholds, xlifts, xev, xhas, xa, xtarget, xroom, xd, xlow⟩ := w
 simp only at hc hl hid hlim hli hu hv rs e p
 subst hc hl hid hu e
 unfold Xo
 rw [Vd (by simp only; omega)]
 simp only [Option.bind_some, reduceCtorEq, decide_eq_true_eq, Int.reduceEq, if_false, if_true, ↓reduceIte, Xj]
 have rs := rs (by omega)
 obtain ⟨p1, p2, p3⟩ := p
 have hf := bk.oth (L + 3 * m) (by omega) (by omega)
 have ha := Jy (l := l) (i := (L : Int) + 3 * m) (q := L + 3 * m) (d := 1) (by omega) (by omega) (by constructor <;> omega)
 obtain ⟨g1, g2, g3, g4⟩ := Ja (q := L + 3 * m) (x := l.getD (L + 3 * m) 0 + 1) r hs2 bk rs t0.1 (by omega) (fun _ => by omega) (fun _ => by omega)
 unfold Z8z Z6i Z0k Z93 Z6r Rt Z6h
 simp only [Option.bind_some, Bool.not_false, if_true, ha]
 exact Xc hlim fun _ => .no rfl ⟨u, rfl, rfl, rfl, hlim, ⟨(by first | omega | (simp only; omega) | (constructor <;> simp; done) | (simp; done)), (by first | omega | (simp only; omega) | (constructor <;> simp; done) | (simp; done))⟩, ⟨rfl, hum⟩, hv, ⟨hs1, g1⟩, g2, fun _ => g3, .put rfl (by rw [g4 _ (by omega)]; exact p1) (by rw [g4 _ (by omega)]; exact p2) p3 (PaI.new (by omega) (by omega) (by omega)) hv.1 hv.2⟩
theorem k15 (r : Row n m L c) (hR : 1 ≤ R ∧ R ≤ 8192) (hcp : ∀ a, a < L → cp c a ≤ 1125899906842624) (t0 : 0 ≤ t ∧ t ≤ 8000) (h : SB c m L R t w l Hs u) (e : w.at_ = 15) : Ok (Xo w ⟨l⟩) (fun x => Post c m L R t x.2.1 x.2.2.l Hs) := by
 have p := h.ph.i15 e
 obtain ⟨hc, hl, hid, hlim, hli, ⟨hu, hum⟩, hv, ⟨hs1, hs2⟩, bk, rs, ph⟩ := h
 have bd := r.bd
 have bl := bk.len
 obtain ⟨-, -, -, hN⟩ := r.ends
 obtain ⟨xc, xl, xid, xlim, xat, xpop, xsteal, xput, xarr, xfrom, xu, xv, xh, xe, xwakes, xholds, xlifts, xev, xhas, xa, xtarget, xroom, xd, xlow⟩ := w
 simp only at hc hl hid hlim hli hu hv rs e p
 subst hc hl hid hu e
 unfold Xo
 rw [Vd (by simp only; omega)]
 simp only [Option.bind_some, reduceCtorEq, decide_eq_true_eq, Int.reduceEq, if_false, if_true, ↓reduceIte, Xj]
 have rs := rs (by omega)
 obtain ⟨p1, p2, p3, p4, p5, p6⟩ := p
 have lw := p4.low r hum hs2 p5
 obtain ⟨g, rfl, q2, q3, q4, rfl, q6, q7⟩ := p4.pos p5
 have f3 := r.first.2.2.2 u hum
 have hgL : g < L := by omega
 have g1 := r.head hgL
 have hh := bk.hh _ g1.2
 have hu' := bk.hh u hum
 unfold Z6j Z1j Kn
 dsimp only
 simp only [hN]
 obtain ⟨x, hx⟩ : ∃ x, min (xlow + 1) (m : Int) = x := ⟨_, rfl⟩
 have m1 := Int.min_le_left (xlow + 1) (m : Int)
 have m2 := Int.min_le_right (xlow + 1) (m : Int)
 have m3 : xh ≤ min (xlow + 1) (m : Int) := Int.le_min.2 ⟨by omega, by omega⟩
 rw [hx] at m1 m2 m3
 simp only [hx]
 have ha := Kj (l := l) (i := (L : Int) + m + u) (q := L + m + u) (v := x) (by omega) (by omega)
 have hsame : ∀ q, q ≠ L + m + u → (l.set (L + m + u) x).getD q 0 = l.getD q 0 := fun q hq => Xq (by omega)
 have rs' : RsI xc m L (l.set (L + m + u) x) := rs.lift r (by omega) hum (fun a ha1 ha2 ha3 => by
  have hr := (r.range ha1 hum).2 ha2
  have := q7 a hr.1 hr.2 ha3; omega) (by omega)
 have lw' : Z1b xc u (fun a => (l.set (L + m + u) x).getD a 0) Hs xlow := by
  refine ⟨fun a h1 h2 h3 => lw.1 a h1 h2 ?_, ?_⟩
  · simp only at h3 ⊢; rw [hsame _ (by omega)] at h3; exact h3
  ·
   obtain ⟨g', z1, z2, z3, z4⟩ := lw.2
   exact ⟨g', z1, z2, by simp only at z3 ⊢; rw [hsame _ (by omega)]; exact z3, z4⟩
 have fin : ∀ y : Int, (y = 12 ∨ y = 13 ∨ y = 16 ∨ y = 17) → Post xc m L R t ⟨xc, ⟨m, L, 1, R, 0, L, L + m, L + 2 * m, L + 3 * m, L + 3 * m + 1, L + 3 * m + 2, L + 3 * m + 3, L + 3 * m + 4, L + 3 * m + R + 6⟩, 0, xlim, y, xpop, xsteal, xput, xarr, xfrom, u, xv, x, xe, xwakes, xholds, xlifts + 1, ⟨0, 2, u, 0, 0, x, xlow⟩, true, xa, g, l.getD g 0, xd, xlow⟩ (l.set (L + m + u) x) Hs := fun y hy => .lift u rfl ⟨rfl, ⟨rfl, hum⟩, lw', by simp only; omega⟩
  ⟨u, rfl, rfl, rfl, hlim, ⟨by simp only; omega, by simp only; omega⟩, ⟨rfl, hum⟩, hv, ⟨by rw [List.length_set]; exact hs1, fun v hv => by
   rw [Ws, Ws, hs1]
   by_cases c1 : u = v
   · subst c1; rw [if_pos ⟨rfl, hum⟩, if_pos ⟨rfl, by omega⟩]
   · rw [if_neg (fun h => c1 h.1), if_neg (fun h => c1 (by omega))]; exact hs2 v hv⟩, (bk.up (by omega)).set (fun _ _ => by omega) (fun _ _ => by omega) (fun _ _ => by omega) (fun _ _ => by omega), fun _ => rs', .mid hy (by simp only; rw [Ws, if_pos ⟨rfl, by omega⟩]) (by rw [hsame _ (by omega)]; exact p2) (by simp only; omega)⟩
 refine Ok.bind.2 (Ok.gd.2 ⟨by constructor <;> omega, Ok.gd.2 ⟨by constructor <;> omega, Ok.bind.2 (Yp ha (Ok.bind.2 (Ok.some.2 (Ok.gd.2 ⟨by constructor <;> omega, Ok.bind.2 (Ok.ite.2 ⟨fun _ => Ok.some.2 (Ok.some.2 (Xc hlim fun _ => fin 16 (by simp))), fun _ => Ok.some.2 (Ok.some.2 (Xc hlim fun _ => fin 17 (by simp)))⟩)⟩))))⟩⟩)
theorem k16 (r : Row n m L c) (hR : 1 ≤ R ∧ R ≤ 8192) (hcp : ∀ a, a < L → cp c a ≤ 1125899906842624) (t0 : 0 ≤ t ∧ t ≤ 8000) (h : SB c m L R t w l Hs u) (e : w.at_ = 16) : Ok (Xo w ⟨l⟩) (fun x => Post c m L R t x.2.1 x.2.2.l Hs) := by
 have p := h.ph.im (by omega)
 obtain ⟨hc, hl, hid, hlim, hli, ⟨hu, hum⟩, hv, ⟨hs1, hs2⟩, bk, rs, ph⟩ := h
 have bd := r.bd
 have bl := bk.len
 obtain ⟨-, -, -, hN⟩ := r.ends
 obtain ⟨xc, xl, xid, xlim, xat, xpop, xsteal, xput, xarr, xfrom, xu, xv, xh, xe, xwakes, xholds, xlifts, xev, xhas, xa, xtarget, xroom, xd, xlow⟩ := w
 simp only at hc hl hid hlim hli hu hv rs e p
 subst hc hl hid hu e
 unfold Xo
 rw [Vd (by simp only; omega)]
 simp only [Option.bind_some, reduceCtorEq, decide_eq_true_eq, Int.reduceEq, if_false, if_true, ↓reduceIte, Xj]
 have rs := rs (by omega)
 obtain ⟨p1, p2, p3⟩ := p
 have ha := Kj (l := l) (i := (L : Int) + 3 * m + 1) (q := L + 3 * m + 1) (v := 1) (by omega) (by omega)
 obtain ⟨g1, g2, g3, g4⟩ := Ja (q := L + 3 * m + 1) (x := 1) r hs2 bk rs t0.1 (by omega) (fun _ => by omega) (fun _ => by omega)
 unfold Z90 Z6u Z7n Z5u Z9k
 simp only [Option.bind_some, Bool.not_false, if_true, ha]
 exact Xc hlim fun _ => .no rfl ⟨u, rfl, rfl, rfl, hlim, ⟨(by first | omega | (simp only; omega) | (constructor <;> simp; done) | (simp; done)), (by first | omega | (simp only; omega) | (constructor <;> simp; done) | (simp; done))⟩, ⟨rfl, hum⟩, hv, ⟨hs1, g1⟩, g2, fun _ => g3, .mid (by simp) (by rw [g4 _ (by omega)]; exact p1) (by rw [g4 _ (by omega)]; exact p2) p3⟩
theorem k17 (r : Row n m L c) (hR : 1 ≤ R ∧ R ≤ 8192) (hcp : ∀ a, a < L → cp c a ≤ 1125899906842624) (t0 : 0 ≤ t ∧ t ≤ 8000) (h : SB c m L R t w l Hs u) (e : w.at_ = 17) : Ok (Xo w ⟨l⟩) (fun x => Post c m L R t x.2.1 x.2.2.l Hs) := by
 have p := h.ph.im (by omega)
 obtain ⟨hc, hl, hid, hlim, hli, ⟨hu, hum⟩, hv, ⟨hs1, hs2⟩, bk, rs, ph⟩ := h
 have bd := r.bd
 have bl := bk.len
 obtain ⟨-, -, -, hN⟩ := r.ends
 obtain ⟨xc, xl, xid, xlim, xat, xpop, xsteal, xput, xarr, xfrom, xu, xv, xh, xe, xwakes, xholds, xlifts, xev, xhas, xa, xtarget, xroom, xd, xlow⟩ := w
 simp only at hc hl hid hlim hli hu hv rs e p
 subst hc hl hid hu e
 unfold Xo
 rw [Vd (by simp only; omega)]
 simp only [Option.bind_some, reduceCtorEq, decide_eq_true_eq, Int.reduceEq, if_false, if_true, ↓reduceIte, Xj]
 have rs := rs (by omega)
 obtain ⟨p1, p2, p3⟩ := p
 have ha := Us (l := l) (i := (L : Int) + 3 * m + 1) (q := L + 3 * m + 1) (by omega) (by omega)
 have pe : ¬decide (xe = 0) = true → 0 < xe := fun h => by
  have h' : xe ≠ 0 := by simpa using h
  omega
 unfold Z8v Z19 Z0r Z4g Z4x Z1f Z4h
 simp only [Option.bind_some, Bool.not_false, if_true, ha]
 refine Ok.bind.2 (Ok.ite.2 ⟨fun _ => Ok.some.2 (Xc hlim fun _ => .no rfl ⟨u, rfl, rfl, rfl, hlim, ⟨(by first | omega | (simp only; omega) | (constructor <;> simp; done) | (simp; done)), (by first | omega | (simp only; omega) | (constructor <;> simp; done) | (simp; done))⟩, ⟨rfl, hum⟩, hv, ⟨hs1, hs2⟩, bk.up (by omega), fun _ => rs, .idle (by simp)⟩), fun _ => Ok.ite.2 ⟨fun _ => Ok.some.2 (Xc hlim fun _ => .no rfl ⟨u, rfl, rfl, rfl, hlim, ⟨(by first | omega | (simp only; omega) | (constructor <;> simp; done) | (simp; done)), (by first | omega | (simp only; omega) | (constructor <;> simp; done) | (simp; done))⟩, ⟨rfl, hum⟩, hv, ⟨hs1, hs2⟩, bk.up (by omega), fun _ => rs, .free (.inl rfl) p1⟩), fun _ => Ok.ite.2 ⟨fun _ => Ok.some.2 (Xc hlim fun _ => .no rfl ⟨u, rfl, rfl, rfl, hlim, ⟨(by first | omega | (simp only; omega) | (constructor <;> simp; done) | (simp; done)), (by first | omega | (simp only; omega) | (constructor <;> simp; done) | (simp; done))⟩, ⟨rfl, hum⟩, hv, ⟨hs1, hs2⟩, bk.up (by omega), fun _ => rs, .free (.inl rfl) p1⟩), fun h0 =>
  Ok.bind.2 (Zbh r rfl rfl hum (fun _ => Ok.some.2 (Xc hlim fun _ => .no rfl ⟨u, rfl, rfl, rfl, hlim, ⟨(by first | omega | (simp only; omega) | (constructor <;> simp; done) | (simp; done)), (by first | omega | (simp only; omega) | (constructor <;> simp; done) | (simp; done))⟩, ⟨rfl, hum⟩, hv, ⟨hs1, hs2⟩, bk.up (by omega), fun _ => rs, .free (.inl rfl) p1⟩)) fun h1 => Ok.some.2 (Xc hlim fun _ => .no rfl ⟨u, rfl, rfl, rfl, hlim, ⟨(by first | omega | (simp only; omega) | (constructor <;> simp; done) | (simp; done)), (by first | omega | (simp only; omega) | (constructor <;> simp; done) | (simp; done))⟩, ⟨rfl, hum⟩, hv, ⟨hs1, hs2⟩, bk.up (by omega), fun _ => rs, .left _ rfl p1 p2 (pe h0) rfl (Nat.le_refl _) h1 ScI.none⟩))⟩⟩⟩)
theorem Kh (r : Row n m L c) (hR : 1 ≤ R ∧ R ≤ 8192) (hcp : ∀ a, a < L → cp c a ≤ 1125899906842624) (t0 : 0 ≤ t ∧ t ≤ 8000) (h : SB c m L R t w l Hs u) (e : w.at_ = 18) : Ok (Xo w ⟨l⟩) (fun x => Post c m L R t x.2.1 x.2.2.l Hs) := by
 have p := h.ph.i18 (by omega)
 obtain ⟨hc, hl, hid, hlim, hli, ⟨hu, hum⟩, hv, ⟨hs1, hs2⟩, bk, rs, ph⟩ := h
 have bd := r.bd
 have bl := bk.len
 obtain ⟨-, -, -, hN⟩ := r.ends
 obtain ⟨xc, xl, xid, xlim, xat, xpop, xsteal, xput, xarr, xfrom, xu, xv, xh, xe, xwakes, xholds, xlifts, xev, xhas, xa, xtarget, xroom, xd, xlow⟩ := w
 simp only at hc hl hid hlim hli hu hv rs e p
 subst hc hl hid hu e
 unfold Xo
 rw [Vd (by simp only; omega)]
 simp only [Option.bind_some, reduceCtorEq, decide_eq_true_eq, Int.reduceEq, if_false, if_true, ↓reduceIte, Xj]
 have rs := rs (by omega)
 have ha := Kj (l := l) (i := (L : Int) + 2 * m + u) (q := L + 2 * m + u) (v := 0) (by omega) (by omega)
 obtain ⟨g1, g2, g3, g4⟩ := Ja (q := L + 2 * m + u) (x := 0) r hs2 bk rs t0.1 (by omega) (fun _ => by omega) (fun _ => by omega)
 unfold Z9n Z0n Z41 Z4b Z47
 dsimp only
 refine Ok.bind.2 (Ok.bind.2 (Ok.bind.2 (Ok.gd.2 ⟨by constructor <;> omega, Ok.some.2 ?_⟩)))
 dsimp only
 exact Ok.bind.2 (Ok.bind.2 (Ok.some.2 (Ok.ite.2 ⟨fun _ => Ok.bind.2 (Yp ha (Ok.some.2 (Ok.some.2 (Ok.some.2 (Xc hlim fun _ => .no rfl ⟨u, rfl, rfl, rfl, hlim, ⟨(by first | omega | (simp only; omega) | (constructor <;> simp; done) | (simp; done)), (by first | omega | (simp only; omega) | (constructor <;> simp; done) | (simp; done))⟩, ⟨rfl, hum⟩, hv, ⟨hs1, g1⟩, g2, fun _ => g3, .free (.inr rfl) (by rw [g4 _ (by omega)]; exact p)⟩))))), fun h => (by simp at h)⟩)))
theorem k19 (r : Row n m L c) (hR : 1 ≤ R ∧ R ≤ 8192) (hcp : ∀ a, a < L → cp c a ≤ 1125899906842624) (t0 : 0 ≤ t ∧ t ≤ 8000) (h : SB c m L R t w l Hs u) (e : w.at_ = 19) : Ok (Xo w ⟨l⟩) (fun x => Post c m L R t x.2.1 x.2.2.l Hs) := by
 have p := h.ph.i18 (by omega)
 obtain ⟨hc, hl, hid, hlim, hli, ⟨hu, hum⟩, hv, ⟨hs1, hs2⟩, bk, rs, ph⟩ := h
 have bd := r.bd
 have bl := bk.len
 obtain ⟨-, -, -, hN⟩ := r.ends
 obtain ⟨xc, xl, xid, xlim, xat, xpop, xsteal, xput, xarr, xfrom, xu, xv, xh, xe, xwakes, xholds, xlifts, xev, xhas, xa, xtarget, xroom, xd, xlow⟩ := w
 simp only at hc hl hid hlim hli hu hv rs e p
 subst hc hl hid hu e
 unfold Xo
 rw [Vd (by simp only; omega)]
 simp only [Option.bind_some, reduceCtorEq, decide_eq_true_eq, Int.reduceEq, if_false, if_true, ↓reduceIte, Xj]
 have rs := rs (by omega)
 have ha := Us (l := l) (i := (L : Int) + u) (q := L + u) (by omega) (by omega)
 unfold Z5t Kn
 dsimp only
 refine Ok.bind.2 (Ok.gd.2 ⟨by constructor <;> omega, Ok.bind.2 (Yp ha (Ok.ite.2 ⟨fun h0 => Ok.bind.2 (Ok.ite.2 ⟨fun _ => Ok.some.2 (Ok.some.2 (Xc hlim fun _ => .no rfl ⟨u, rfl, rfl, rfl, hlim, ⟨(by first | omega | (simp only; omega) | (constructor <;> simp; done) | (simp; done)), (by first | omega | (simp only; omega) | (constructor <;> simp; done) | (simp; done))⟩, ⟨rfl, hum⟩, hv, ⟨hs1, hs2⟩, bk.up (by omega), fun _ => rs, .recl rfl p rfl h0⟩)), fun _ => Ok.some.2 (Ok.some.2 (Xc hlim fun _ => .no rfl ⟨u, rfl, rfl, rfl, hlim, ⟨(by first | omega | (simp only; omega) | (constructor <;> simp; done) | (simp; done)), (by first | omega | (simp only; omega) | (constructor <;> simp; done) | (simp; done))⟩, ⟨rfl, hum⟩, hv, ⟨hs1, hs2⟩, bk.up (by omega), fun _ => rs, .idle (by simp)⟩))⟩),
  fun _ => Ok.bind.2 (Ok.ite.2 ⟨fun h => (by simp at h), fun _ => Ok.some.2 (Ok.some.2 (Xc hlim fun _ => .no rfl ⟨u, rfl, rfl, rfl, hlim, ⟨(by first | omega | (simp only; omega) | (constructor <;> simp; done) | (simp; done)), (by first | omega | (simp only; omega) | (constructor <;> simp; done) | (simp; done))⟩, ⟨rfl, hum⟩, hv, ⟨hs1, hs2⟩, bk.up (by omega), fun _ => rs, .idle (by simp)⟩))⟩)⟩))⟩)
theorem k20 (r : Row n m L c) (hR : 1 ≤ R ∧ R ≤ 8192) (hcp : ∀ a, a < L → cp c a ≤ 1125899906842624) (t0 : 0 ≤ t ∧ t ≤ 8000) (h : SB c m L R t w l Hs u) (e : w.at_ = 20) : Ok (Xo w ⟨l⟩) (fun x => Post c m L R t x.2.1 x.2.2.l Hs) := by
 have p := h.ph.i20 e
 obtain ⟨hc, hl, hid, hlim, hli, ⟨hu, hum⟩, hv, ⟨hs1, hs2⟩, bk, rs, ph⟩ := h
 have bd := r.bd
 have bl := bk.len
 obtain ⟨-, -, -, hN⟩ := r.ends
 obtain ⟨xc, xl, xid, xlim, xat, xpop, xsteal, xput, xarr, xfrom, xu, xv, xh, xe, xwakes, xholds, xlifts, xev, xhas, xa, xtarget, xroom, xd, xlow⟩ := w
 simp only at hc hl hid hlim hli hu hv rs e p
 subst hc hl hid hu e
 unfold Xo
 rw [Vd (by simp only; omega)]
 simp only [Option.bind_some, reduceCtorEq, decide_eq_true_eq, Int.reduceEq, if_false, if_true, ↓reduceIte, Xj]
 have rs := rs (by omega)
 obtain ⟨p1, p2, p3⟩ := p
 have hf := bk.oth (L + 2 * m + u) (by omega) (by omega)
 have ha := s_CAS (l := l) (i := (L : Int) + 2 * m + u) (q := L + 2 * m + u) (old := 0) (v := 1) (by omega) (by omega)
 obtain ⟨g1, g2, g3, g4⟩ := Ja (q := L + 2 * m + u) (x := if l.getD (L + 2 * m + u) 0 = 0 then 1 else l.getD (L + 2 * m + u) 0) r hs2 bk rs t0.1 (by omega) (fun _ => by split <;> omega) (fun _ => by omega)
 unfold Z6t Z0s Z22 Z4c Z24
 dsimp only
 refine Ok.bind.2 (Ok.bind.2 (Ok.gd.2 ⟨by constructor <;> omega, Ok.some.2 ?_⟩))
 dsimp only
 refine Ok.bind.2 (Ok.bind.2 (Ok.some.2 (Ok.ite.2 ⟨fun _ => Ok.bind.2 (Yp ha (Ok.some.2 (Ok.bind.2 (Ok.some.2 (Ok.ite.2 ⟨fun _ => Ok.bind.2 (Zbh r rfl rfl hum (fun _ => Ok.some.2 (Xc hlim fun _ => .no rfl ⟨u, rfl, rfl, rfl, hlim, ⟨(by first | omega | (simp only; omega) | (constructor <;> simp; done) | (simp; done)), (by first | omega | (simp only; omega) | (constructor <;> simp; done) | (simp; done))⟩, ⟨rfl, hum⟩, hv, ⟨hs1, g1⟩, g2, fun _ => g3, .free (.inl rfl) (by rw [g4 _ (by omega)]; exact p1)⟩)) fun h1 => Ok.some.2 (Xc hlim fun _ => .no rfl ⟨u, rfl, rfl, rfl, hlim, ⟨(by first | omega | (simp only; omega) | (constructor <;> simp; done) | (simp; done)), (by first | omega | (simp only; omega) | (constructor <;> simp; done) | (simp; done))⟩, ⟨rfl, hum⟩, hv, ⟨hs1, g1⟩, g2, fun _ => g3, .left _ rfl (by rw [g4 _ (by omega)]; exact p1) (by rw [g4 _ (by omega)]; exact p2) p3 rfl (Nat.le_refl _) h1 ScI.none⟩)),
  fun _ => Ok.some.2 (Xc hlim fun _ => .no rfl ⟨u, rfl, rfl, rfl, hlim, ⟨(by first | omega | (simp only; omega) | (constructor <;> simp; done) | (simp; done)), (by first | omega | (simp only; omega) | (constructor <;> simp; done) | (simp; done))⟩, ⟨rfl, hum⟩, hv, ⟨hs1, g1⟩, g2, fun _ => g3, .idle (by simp)⟩)⟩))))), fun h => (by simp at h)⟩)))
theorem k21 (r : Row n m L c) (hR : 1 ≤ R ∧ R ≤ 8192) (hcp : ∀ a, a < L → cp c a ≤ 1125899906842624) (t0 : 0 ≤ t ∧ t ≤ 8000) (h : SB c m L R t w l Hs u) (e : w.at_ = 21) : Ok (Xo w ⟨l⟩) (fun x => Post c m L R t x.2.1 x.2.2.l Hs) := by
 have p := True.intro
 obtain ⟨hc, hl, hid, hlim, hli, ⟨hu, hum⟩, hv, ⟨hs1, hs2⟩, bk, rs, ph⟩ := h
 have bd := r.bd
 have bl := bk.len
 obtain ⟨-, -, -, hN⟩ := r.ends
 obtain ⟨xc, xl, xid, xlim, xat, xpop, xsteal, xput, xarr, xfrom, xu, xv, xh, xe, xwakes, xholds, xlifts, xev, xhas, xa, xtarget, xroom, xd, xlow⟩ := w
 simp only at hc hl hid hlim hli hu hv rs e p
 subst hc hl hid hu e
 unfold Xo
 rw [Vd (by simp only; omega)]
 simp only [Option.bind_some, reduceCtorEq, decide_eq_true_eq, Int.reduceEq, if_false, if_true, ↓reduceIte, Xj]
 have rs := rs (by omega)
 have hf := bk.oth (L + 3 * m) (by omega) (by omega)
 have ha := Jy (l := l) (i := (L : Int) + 3 * m) (q := L + 3 * m) (d := -1) (by omega) (by omega) (by constructor <;> omega)
 obtain ⟨g1, g2, g3, g4⟩ := Ja (q := L + 3 * m) (x := l.getD (L + 3 * m) 0 + -1) r hs2 bk rs t0.1 (by omega) (fun _ => by omega) (fun _ => by omega)
 unfold Z7m Z27 Z2j Z0k Z2e Z4r Rt Lr Z17
 simp only [Option.bind_some, Bool.not_false, if_true, ha]
 exact Xc hlim fun _ => .no rfl ⟨u, rfl, rfl, rfl, hlim, ⟨(by first | omega | (simp only; omega) | (constructor <;> simp; done) | (simp; done)), (by first | omega | (simp only; omega) | (constructor <;> simp; done) | (simp; done))⟩, ⟨rfl, hum⟩, hv, ⟨hs1, g1⟩, g2, fun _ => g3, .take rfl (PaI.new (by omega) (by omega) (by omega))⟩
theorem k22 (r : Row n m L c) (hR : 1 ≤ R ∧ R ≤ 8192) (hcp : ∀ a, a < L → cp c a ≤ 1125899906842624) (t0 : 0 ≤ t ∧ t ≤ 8000) (h : SB c m L R t w l Hs u) (e : w.at_ = 22) : Ok (Xo w ⟨l⟩) (fun x => Post c m L R t x.2.1 x.2.2.l Hs) := by
 have p := True.intro
 obtain ⟨hc, hl, hid, hlim, hli, ⟨hu, hum⟩, hv, ⟨hs1, hs2⟩, bk, rs, ph⟩ := h
 have bd := r.bd
 have bl := bk.len
 obtain ⟨-, -, -, hN⟩ := r.ends
 obtain ⟨xc, xl, xid, xlim, xat, xpop, xsteal, xput, xarr, xfrom, xu, xv, xh, xe, xwakes, xholds, xlifts, xev, xhas, xa, xtarget, xroom, xd, xlow⟩ := w
 simp only at hc hl hid hlim hli hu hv rs e p
 subst hc hl hid hu e
 unfold Xo
 rw [Vd (by simp only; omega)]
 simp only [Option.bind_some, reduceCtorEq, decide_eq_true_eq, Int.reduceEq, if_false, if_true, ↓reduceIte, Xj]
 have rs := rs (by omega)
 have ha := Kj (l := l) (i := (L : Int) + 2 * m + u) (q := L + 2 * m + u) (v := 0) (by omega) (by omega)
 obtain ⟨g1, g2, g3, g4⟩ := Ja (q := L + 2 * m + u) (x := 0) r hs2 bk rs t0.1 (by omega) (fun _ => by omega) (fun _ => by omega)
 unfold Z9g Z0n Z41 Z4b Z47
 dsimp only
 refine Ok.bind.2 (Ok.bind.2 (Ok.bind.2 (Ok.gd.2 ⟨by constructor <;> omega, Ok.some.2 ?_⟩)))
 dsimp only
 exact Ok.bind.2 (Ok.bind.2 (Ok.some.2 (Ok.ite.2 ⟨fun _ => Ok.bind.2 (Yp ha (Ok.some.2 (Ok.some.2 (Ok.some.2 (Xc hlim fun _ => .no rfl ⟨u, rfl, rfl, rfl, hlim, ⟨(by first | omega | (simp only; omega) | (constructor <;> simp; done) | (simp; done)), (by first | omega | (simp only; omega) | (constructor <;> simp; done) | (simp; done))⟩, ⟨rfl, hum⟩, hv, ⟨hs1, g1⟩, g2, fun _ => g3, .idle (by simp)⟩))))), fun h => (by simp at h)⟩)))
theorem k23 (r : Row n m L c) (hR : 1 ≤ R ∧ R ≤ 8192) (hcp : ∀ a, a < L → cp c a ≤ 1125899906842624) (t0 : 0 ≤ t ∧ t ≤ 8000) (h : SB c m L R t w l Hs u) (e : w.at_ = 23) : Ok (Xo w ⟨l⟩) (fun x => Post c m L R t x.2.1 x.2.2.l Hs) := by
 have p := True.intro
 obtain ⟨hc, hl, hid, hlim, hli, ⟨hu, hum⟩, hv, ⟨hs1, hs2⟩, bk, rs, ph⟩ := h
 have bd := r.bd
 have bl := bk.len
 obtain ⟨-, -, -, hN⟩ := r.ends
 obtain ⟨xc, xl, xid, xlim, xat, xpop, xsteal, xput, xarr, xfrom, xu, xv, xh, xe, xwakes, xholds, xlifts, xev, xhas, xa, xtarget, xroom, xd, xlow⟩ := w
 simp only at hc hl hid hlim hli hu hv rs e p
 subst hc hl hid hu e
 unfold Xo
 rw [Vd (by simp only; omega)]
 simp only [Option.bind_some, reduceCtorEq, decide_eq_true_eq, Int.reduceEq, if_false, if_true, ↓reduceIte, Xj]
 have rs := rs (by omega)
 have hf := bk.oth (L + 3 * m) (by omega) (by omega)
 have ha := Jy (l := l) (i := (L : Int) + 3 * m) (q := L + 3 * m) (d := -1) (by omega) (by omega) (by constructor <;> omega)
 obtain ⟨g1, g2, g3, g4⟩ := Ja (q := L + 3 * m) (x := l.getD (L + 3 * m) 0 + -1) r hs2 bk rs t0.1 (by omega) (fun _ => by omega) (fun _ => by omega)
 unfold Z7i Z27 Z2j Z0k Z2e Z4r Rt Lv Z0q
 simp only [Option.bind_some, Bool.not_false, if_true, ha]
 exact Xc hlim fun _ => .no rfl ⟨u, rfl, rfl, rfl, hlim, ⟨(by first | omega | (simp only; omega) | (constructor <;> simp; done) | (simp; done)), (by first | omega | (simp only; omega) | (constructor <;> simp; done) | (simp; done))⟩, ⟨rfl, hum⟩, hv, ⟨hs1, g1⟩, g2, fun _ => g3, .arr rfl ⟨rfl, (by first | omega | (simp only; omega) | (constructor <;> simp; done) | (simp; done)), (by first | omega | (simp only; omega) | (constructor <;> simp; done) | (simp; done))⟩⟩
theorem k24 (r : Row n m L c) (hR : 1 ≤ R ∧ R ≤ 8192) (hcp : ∀ a, a < L → cp c a ≤ 1125899906842624) (t0 : 0 ≤ t ∧ t ≤ 8000) (h : SB c m L R t w l Hs u) (e : w.at_ = 24) : Ok (Xo w ⟨l⟩) (fun x => Post c m L R t x.2.1 x.2.2.l Hs) := by
 have p := h.ph.i24 e
 obtain ⟨hc, hl, hid, hlim, hli, ⟨hu, hum⟩, hv, ⟨hs1, hs2⟩, bk, rs, ph⟩ := h
 have bd := r.bd
 have bl := bk.len
 obtain ⟨-, -, -, hN⟩ := r.ends
 obtain ⟨xc, xl, xid, xlim, xat, xpop, xsteal, xput, xarr, xfrom, xu, xv, xh, xe, xwakes, xholds, xlifts, xev, xhas, xa, xtarget, xroom, xd, xlow⟩ := w
 simp only at hc hl hid hlim hli hu hv rs e p
 subst hc hl hid hu e
 unfold Xo
 rw [Vd (by simp only; omega)]
 simp only [Option.bind_some, reduceCtorEq, decide_eq_true_eq, Int.reduceEq, if_false, if_true, ↓reduceIte, Xj]
 have rs := rs (by omega)
 obtain ⟨yl, yn, yo, yla⟩ := xarr
 obtain ⟨q1, q2, q3⟩ := p
 simp only at q1 q2 q3
 subst q1
 unfold Z9i Z6x
 dsimp only
 have hc : yn = 0 ∨ yn = 1 ∨ yn = 2 ∨ yn = 3 ∨ yn = 4 := by omega
 rcases hc with rfl | rfl | rfl | rfl | rfl <;> simp only [Int.reduceEq, ne_eq, not_false_eq_true, if_true, if_false, ↓reduceIte]
 ·
  have ha := Us (l := l) (i := (L : Int) + 3 * m + 3) (q := L + 3 * m + 3) (by omega) (by omega)
  unfold Z5v
  dsimp only [Xj]
  refine Ok.bind.2 (Ok.bind.2 (Ok.bind.2 (Ok.bind.2 (Yp ha (Ok.ite.2 ⟨fun _ => Ok.some.2 (Ok.some.2 (Ok.ite.2 ⟨fun h => (by simp at h), fun _ => Ok.some.2 (Xc hlim fun _ => .no rfl ⟨u, rfl, rfl, rfl, hlim, ⟨(by first | omega | (simp only; omega) | (constructor <;> simp; done) | (simp; done)), (by first | omega | (simp only; omega) | (constructor <;> simp; done) | (simp; done))⟩, ⟨rfl, hum⟩, hv, ⟨hs1, hs2⟩, bk.up (by omega), fun _ => rs, .arr rfl ⟨rfl, (by first | omega | (simp only; omega) | (constructor <;> simp; done) | (simp; done)), (by first | omega | (simp only; omega) | (constructor <;> simp; done) | (simp; done))⟩⟩)⟩)), fun _ => Ok.some.2 (Ok.some.2 (Ok.ite.2 ⟨fun h => (by simp at h), fun _ => Ok.some.2 (Xc hlim fun _ => .no rfl ⟨u, rfl, rfl, rfl, hlim, ⟨(by first | omega | (simp only; omega) | (constructor <;> simp; done) | (simp; done)), (by first | omega | (simp only; omega) | (constructor <;> simp; done) | (simp; done))⟩, ⟨rfl, hum⟩, hv, ⟨hs1, hs2⟩, bk.up (by omega), fun _ => rs, .arr rfl ⟨rfl, (by first | omega | (simp only; omega) | (constructor <;> simp; done) | (simp; done)), (by first | omega | (simp only; omega) | (constructor <;> simp; done) | (simp; done))⟩⟩)⟩))⟩)))))
 ·
  have hf := bk.oth (L + 3 * m + 2) (by omega) (by omega)
  have ha := Jy (l := l) (i := (L : Int) + 3 * m + 2) (q := L + 3 * m + 2) (d := -1) (by omega) (by omega) (by constructor <;> omega)
  obtain ⟨g1, g2, g3, g4⟩ := Ja (q := L + 3 * m + 2) (x := l.getD (L + 3 * m + 2) 0 + -1) r hs2 bk rs t0.1 (by omega) (fun _ => by omega) (fun _ => by omega)
  unfold Z8r
  dsimp only [Xj]
  refine Ok.bind.2 (Ok.bind.2 (Ok.bind.2 (Ok.bind.2 (Yp ha (Ok.ite.2 ⟨fun _ => Ok.some.2 (Ok.some.2 (Ok.ite.2 ⟨fun h => (by simp at h), fun _ => Ok.some.2 (Xc hlim fun _ => .no rfl ⟨u, rfl, rfl, rfl, hlim, ⟨(by first | omega | (simp only; omega) | (constructor <;> simp; done) | (simp; done)), (by first | omega | (simp only; omega) | (constructor <;> simp; done) | (simp; done))⟩, ⟨rfl, hum⟩, hv, ⟨hs1, g1⟩, g2, fun _ => g3, .arr rfl ⟨rfl, (by first | omega | (simp only; omega) | (constructor <;> simp; done) | (simp; done)), (by first | omega | (simp only; omega) | (constructor <;> simp; done) | (simp; done))⟩⟩)⟩)), fun _ => Ok.some.2 (Ok.some.2 (Ok.ite.2 ⟨fun h => (by simp at h), fun _ => Ok.some.2 (Xc hlim fun _ => .no rfl ⟨u, rfl, rfl, rfl, hlim, ⟨(by first | omega | (simp only; omega) | (constructor <;> simp; done) | (simp; done)), (by first | omega | (simp only; omega) | (constructor <;> simp; done) | (simp; done))⟩, ⟨rfl, hum⟩, hv, ⟨hs1, g1⟩, g2, fun _ => g3, .arr rfl ⟨rfl, (by first | omega | (simp only; omega) | (constructor <;> simp; done) | (simp; done)), (by first | omega | (simp only; omega) | (constructor <;> simp; done) | (simp; done))⟩⟩)⟩))⟩)))))
 ·
  have ha := Kj (l := l) (i := (L : Int) + 3 * m + 2) (q := L + 3 * m + 2) (v := 1) (by omega) (by omega)
  obtain ⟨g1, g2, g3, g4⟩ := Ja (q := L + 3 * m + 2) (x := 1) r hs2 bk rs t0.1 (by omega) (fun _ => by omega) (fun _ => by omega)
  unfold Z5p
  dsimp only [Xj]
  refine Ok.bind.2 (Ok.bind.2 (Ok.bind.2 (Ok.bind.2 (Yp ha (Ok.some.2 (Ok.some.2 (Ok.ite.2 ⟨fun h => (by simp at h), fun _ => Ok.some.2 (Xc hlim fun _ => .no rfl ⟨u, rfl, rfl, rfl, hlim, ⟨(by first | omega | (simp only; omega) | (constructor <;> simp; done) | (simp; done)), (by first | omega | (simp only; omega) | (constructor <;> simp; done) | (simp; done))⟩, ⟨rfl, hum⟩, hv, ⟨hs1, g1⟩, g2, fun _ => g3, .arr rfl ⟨rfl, (by first | omega | (simp only; omega) | (constructor <;> simp; done) | (simp; done)), (by first | omega | (simp only; omega) | (constructor <;> simp; done) | (simp; done))⟩⟩)⟩)))))))
 ·
  have ha := Kj (l := l) (i := (L : Int) + 3 * m + 3) (q := L + 3 * m + 3) (v := yo) (by omega) (by omega)
  obtain ⟨g1, g2, g3, g4⟩ := Ja (q := L + 3 * m + 3) (x := yo) r hs2 bk rs t0.1 (by omega) (fun _ => by omega) (fun _ => by omega)
  unfold Z81
  dsimp only [Xj]
  refine Ok.bind.2 (Ok.bind.2 (Ok.bind.2 (Ok.bind.2 (Yp ha (Ok.some.2 (Ok.some.2 (Ok.ite.2 ⟨fun _ => Ok.some.2 (Xc hlim fun _ => .no rfl ⟨u, rfl, rfl, rfl, hlim, ⟨(by first | omega | (simp only; omega) | (constructor <;> simp; done) | (simp; done)), (by first | omega | (simp only; omega) | (constructor <;> simp; done) | (simp; done))⟩, ⟨rfl, hum⟩, hv, ⟨hs1, g1⟩, g2, fun _ => g3, .idle (by simp)⟩), fun h => (by simp at h)⟩)))))))
 ·
  have ha := Us (l := l) (i := (L : Int) + 3 * m + 3) (q := L + 3 * m + 3) (by omega) (by omega)
  unfold Z8i
  dsimp only [Xj]
  refine Ok.bind.2 (Ok.bind.2 (Ok.bind.2 (Ok.bind.2 (Yp ha (Ok.ite.2 ⟨fun _ => Ok.some.2 (Ok.some.2 (Ok.ite.2 ⟨fun _ => Ok.some.2 (Xc hlim fun _ => .no rfl ⟨u, rfl, rfl, rfl, hlim, ⟨(by first | omega | (simp only; omega) | (constructor <;> simp; done) | (simp; done)), (by first | omega | (simp only; omega) | (constructor <;> simp; done) | (simp; done))⟩, ⟨rfl, hum⟩, hv, ⟨hs1, hs2⟩, bk.up (by omega), fun _ => rs, .idle (by simp)⟩), fun h => (by simp at h)⟩)), fun _ => Ok.some.2 (Ok.some.2 (Ok.ite.2 ⟨fun h => (by simp at h), fun _ => Ok.some.2 (Xc hlim fun _ => .no rfl ⟨u, rfl, rfl, rfl, hlim, ⟨(by first | omega | (simp only; omega) | (constructor <;> simp; done) | (simp; done)), (by first | omega | (simp only; omega) | (constructor <;> simp; done) | (simp; done))⟩, ⟨rfl, hum⟩, hv, ⟨hs1, hs2⟩, bk.up (by omega), fun _ => rs, .arr rfl ⟨rfl, (by first | omega | (simp only; omega) | (constructor <;> simp; done) | (simp; done)), (by first | omega | (simp only; omega) | (constructor <;> simp; done) | (simp; done))⟩⟩)⟩))⟩)))))
end steps
end Go.Acq
namespace Go.Acq
open Go
section steps
variable {n : Net} {m L R : Nat} {c : Csr} {t : Int} {w : WorkerWorker} {l Hs : List Int} {u : Nat}
theorem s_pop (r : Row n m L c) (hR : 1 ≤ R ∧ R ≤ 8192) (t0 : 0 ≤ t ∧ t ≤ 8000) (hs2 : ∀ v, v < m → Hs.getD v 0 = l.getD (L + m + v) 0) (bk : Bk m L R t l) (rs : RsI c m L l) (p : PaI m L R t 5 w.pop.part) : Ok (Z2h w ⟨l⟩) (fun x => (∃ l', x.2.2 = ⟨l'⟩ ∧ (∀ v, v < m → Hs.getD v 0 = l'.getD (L + m + v) 0) ∧ Bk m L R (t + 1) l' ∧ RsI c m L l' ∧ (∀ p, p < L + 2 * m → l'.getD p 0 = l.getD p 0)) ∧ x.1 = x.2.1.pop.part.done ∧ (0 ≤ x.2.1.pop.part.x ∧ x.2.1.pop.part.x < m) ∧ (x.2.1.pop.part.done = false → PaI m L R (t + 1) 5 { x.2.1.pop.part with l := Xj m L R, w := 0 })) := by
 have bd := r.bd
 have bl := bk.len
 have hT := s_Top (m := m) (L := L) (R := R) ⟨by omega, by omega, by omega⟩
 have hB := Zb0 (m := m) (L := L) (R := R) ⟨by omega, by omega, by omega⟩
 obtain ⟨xc, xl, xid, xlim, xat, xpop, xsteal, xput, xarr, xfrom, xu, xv, xh, xe, xwakes, xholds, xlifts, xev, xhas, xa, xtarget, xroom, xd, xlow⟩ := w
 obtain ⟨⟨pl, pw, pat, pt, pb, px, pd, pg⟩⟩ := xpop
 obtain ⟨q1, q2, q3, q4, q5, q6, q7⟩ := p
 simp only at q1 q2 q3 q4 q5 q6 q7
 subst q1 q2 q3
 have o5 := bk.oth (L + 3 * m + 5) (by omega) (by omega)
 have o4 := bk.oth (L + 3 * m + 4) (by omega) (by omega)
 have l5 := Us (l := l) (i := ((L + 3 * m + 5 : Nat) : Int)) (q := L + 3 * m + 5) rfl (by omega)
 have l4 := Us (l := l) (i := ((L + 3 * m + 4 : Nat) : Int)) (q := L + 3 * m + 4) rfl (by omega)
 have st5 : ∀ v, Ua ⟨l⟩ ((L + 3 * m + 5 : Nat) : Int) v = some ⟨l.set (L + 3 * m + 5) v⟩ := fun v => Kj (q := L + 3 * m + 5) rfl (by omega)
 have same : (∃ l', (⟨l⟩ : CellsBank) = ⟨l'⟩ ∧ (∀ v, v < m → Hs.getD v 0 = l'.getD (L + m + v) 0) ∧ Bk m L R (t + 1) l' ∧ RsI c m L l' ∧ (∀ p, p < L + 2 * m → l'.getD p 0 = l.getD p 0)) := ⟨l, rfl, hs2, bk.up (by omega), rs, fun _ _ => rfl⟩
 have wr : ∀ (q : Nat) (v : Int), L + 3 * m + 4 ≤ q → (q < L + 3 * m + 6 → -(100 + (t + 1)) ≤ v ∧ v ≤ 100 + (t + 1)) → (L + 3 * m + 6 ≤ q → 0 ≤ v ∧ v < m) → (∃ l', (⟨l.set q v⟩ : CellsBank) = ⟨l'⟩ ∧ (∀ v, v < m → Hs.getD v 0 = l'.getD (L + m + v) 0) ∧ Bk m L R (t + 1) l' ∧ RsI c m L l' ∧ (∀ p, p < L + 2 * m → l'.getD p 0 = l.getD p 0)) := fun q v h1 h2 h3 => by
  obtain ⟨g1, g2, g3, g4⟩ := Ja (q := q) (x := v) r hs2 bk rs t0.1 (by omega) h2 h3
  exact ⟨_, rfl, g1, g2, g3, g4⟩
 have pa : ∀ a tt bb xx gg, (0 ≤ a ∧ a ≤ 5) → (-(100 + (t + 1)) ≤ tt ∧ tt ≤ 100 + (t + 1)) → (-(100 + (t + 1)) ≤ bb ∧ bb ≤ 100 + (t + 1)) → (0 ≤ xx ∧ xx < (m : Int)) → PaI m L R (t + 1) 5 ⟨Xj m L R, 0, a, tt, bb, xx, false, gg⟩ := fun a tt bb xx gg h1 h2 h3 h4 => ⟨rfl, rfl, rfl, h1, h2, h3, h4⟩
 unfold Z2h Z7j
 dsimp only
 refine Ok.bind.2 (Ok.ite.2 ⟨fun h => (by simp at h), fun _ => Ok.gd.2 ⟨by constructor <;> omega, Ok.gd.2 ⟨by constructor <;> omega, Ok.some.2 ?_⟩⟩⟩)
 dsimp only
 have hc : pat = 0 ∨ pat = 1 ∨ pat = 2 ∨ pat = 3 ∨ pat = 4 ∨ pat = 5 := by omega
 rcases hc with rfl | rfl | rfl | rfl | rfl | rfl <;> simp only [Int.reduceAdd, Int.reduceSub, Int.reduceEq, Int.reduceLE, Int.reduceNeg, Bool.false_eq_true, if_true, if_false, ↓reduceIte]
 ·
  unfold Z75 Z5y Li
  dsimp only
  exact Ok.bind.2 (Ok.bind.2 (Ok.bind.2 (Ok.bind.2 (Yp hB (Ok.some.2 (Ok.bind.2 (Yp l5 (Ok.some.2 (Ok.gd.2 ⟨by first | (constructor <;> omega) | (constructor <;> simp only <;> omega), Ok.some.2 (Ok.some.2 (⟨same, rfl, q7, fun _ => pa _ _ _ _ _ (by simp) (by first | omega | (simp only; omega) | simp) (by first | omega | (simp only; omega) | simp) q7⟩))⟩)))))))))
 ·
  unfold Z87 Li
  dsimp only
  exact Ok.bind.2 (Ok.bind.2 (Ok.bind.2 (Yp hB (Ok.some.2 (Ok.bind.2 (Yp (st5 _) (Ok.some.2 (Ok.some.2 (⟨wr _ _ (by omega) (fun _ => by first | omega | (split <;> omega)) (fun _ => by first | omega | exact hv), rfl, q7, fun _ => pa _ _ _ _ _ (by simp) (by first | omega | (simp only; omega) | simp) (by first | omega | (simp only; omega) | simp) q7⟩)))))))))
 ·
  unfold Z5i Z6d Z15
  dsimp only
  exact Ok.bind.2 (Ok.bind.2 (Ok.bind.2 (Ok.bind.2 (Yp hT (Ok.some.2 (Ok.bind.2 (Yp l4 (Ok.some.2 (Ok.some.2 (Ok.some.2 (⟨same, rfl, q7, fun _ => pa _ _ _ _ _ (by simp) (by first | omega | (simp only; omega) | simp) (by first | omega | (simp only; omega) | simp) q7⟩)))))))))))
 ·
  unfold Z9h Z1m Li Z8j Z5w
  dsimp only
  obtain ⟨q, hq, hq1, hq2⟩ := Zbp (m := m) (L := L) (R := R) (x := pb) ⟨by omega, by omega, by omega⟩ hR.1
  have hx := bk.slot q hq1 hq2
  have lq := Us (l := l) (i := (q : Int)) (q := q) rfl (by omega)
  exact Ok.bind.2 (Ok.ite.2 ⟨fun _ => Ok.bind.2 (Ok.bind.2 (Ok.bind.2 (Yp hB (Ok.some.2 (Ok.gd.2 ⟨by first | (constructor <;> omega) | (constructor <;> simp only <;> omega), Ok.bind.2 (Yp (st5 _) (Ok.some.2 (Ok.some.2 (Ok.some.2 (⟨wr _ _ (by omega) (fun _ => by first | omega | (split <;> omega)) (fun _ => by first | omega | exact hv), rfl, q7, fun h => (by cases h)⟩)))))⟩))))), fun _ => Ok.bind.2 (Ok.bind.2 (Yp hq (Ok.some.2 (Ok.bind.2 (Yp lq (Ok.ite.2 ⟨fun _ => Ok.bind.2 (Ok.some.2 (Ok.some.2 (Ok.some.2 (⟨same, rfl, hx, fun h => (by cases h)⟩)))), fun _ => Ok.some.2 (Ok.some.2 (⟨same, rfl, hx, fun _ => pa _ _ _ _ _ (by simp) (by first | omega | (simp only; omega) | simp) (by first | omega | (simp only; omega) | simp) hx⟩))⟩))))))⟩)
 ·
  unfold Z9l Z15
  dsimp only
  have hc := s_CAS (l := l) (i := ((L + 3 * m + 4 : Nat) : Int)) (q := L + 3 * m + 4) (old := pt) (v := pt + 1) rfl (by omega)
  exact Ok.bind.2 (Ok.bind.2 (Ok.bind.2 (Yp hT (Ok.some.2 (Ok.gd.2 ⟨by first | (constructor <;> omega) | (constructor <;> simp only <;> omega), Ok.bind.2 (Yp hc (Ok.some.2 (Ok.some.2 (⟨wr _ _ (by omega) (fun _ => by first | omega | (split <;> omega)) (fun _ => by first | omega | exact hv), rfl, q7, fun _ => pa _ _ _ _ _ (by simp) (by first | omega | (simp only; omega) | simp) (by first | omega | (simp only; omega) | simp) q7⟩))))⟩)))))
 ·
  unfold Z1m Li
  dsimp only
  exact Ok.bind.2 (Ok.bind.2 (Ok.bind.2 (Yp hB (Ok.some.2 (Ok.gd.2 ⟨by first | (constructor <;> omega) | (constructor <;> simp only <;> omega), Ok.bind.2 (Yp (st5 _) (Ok.some.2 (Ok.some.2 (⟨wr _ _ (by omega) (fun _ => by first | omega | (split <;> omega)) (fun _ => by first | omega | exact hv), rfl, q7, fun h => (by cases h)⟩))))⟩)))))
theorem s_put (r : Row n m L c) (hR : 1 ≤ R ∧ R ≤ 8192) (t0 : 0 ≤ t ∧ t ≤ 8000) (hs2 : ∀ v, v < m → Hs.getD v 0 = l.getD (L + m + v) 0) (bk : Bk m L R t l) (rs : RsI c m L l) (p : PaI m L R t 3 w.put.part) (hv : 0 ≤ w.put.v ∧ w.put.v < m) : Ok (Z4p w ⟨l⟩) (fun x => (∃ l', x.2.2 = ⟨l'⟩ ∧ (∀ v, v < m → Hs.getD v 0 = l'.getD (L + m + v) 0) ∧ Bk m L R (t + 1) l' ∧ RsI c m L l' ∧ (∀ p, p < L + 2 * m → l'.getD p 0 = l.getD p 0)) ∧ x.1 = x.2.1.put.part.done ∧ (0 ≤ x.2.1.put.part.x ∧ x.2.1.put.part.x < m) ∧ (x.2.1.put.part.done = false → PaI m L R (t + 1) 3 { x.2.1.put.part with l := Xj m L R, w := 0 })) := by
 have bd := r.bd
 have bl := bk.len
 have hT := s_Top (m := m) (L := L) (R := R) ⟨by omega, by omega, by omega⟩
 have hB := Zb0 (m := m) (L := L) (R := R) ⟨by omega, by omega, by omega⟩
 obtain ⟨xc, xl, xid, xlim, xat, xpop, xsteal, xput, xarr, xfrom, xu, xv, xh, xe, xwakes, xholds, xlifts, xev, xhas, xa, xtarget, xroom, xd, xlow⟩ := w
 obtain ⟨⟨pl, pw, pat, pt, pb, px, pd, pg⟩, pv⟩ := xput
 obtain ⟨q1, q2, q3, q4, q5, q6, q7⟩ := p
 simp only at q1 q2 q3 q4 q5 q6 q7 hv
 subst q1 q2 q3
 have o5 := bk.oth (L + 3 * m + 5) (by omega) (by omega)
 have o4 := bk.oth (L + 3 * m + 4) (by omega) (by omega)
 have l5 := Us (l := l) (i := ((L + 3 * m + 5 : Nat) : Int)) (q := L + 3 * m + 5) rfl (by omega)
 have l4 := Us (l := l) (i := ((L + 3 * m + 4 : Nat) : Int)) (q := L + 3 * m + 4) rfl (by omega)
 have st5 : ∀ v, Ua ⟨l⟩ ((L + 3 * m + 5 : Nat) : Int) v = some ⟨l.set (L + 3 * m + 5) v⟩ := fun v => Kj (q := L + 3 * m + 5) rfl (by omega)
 have same : (∃ l', (⟨l⟩ : CellsBank) = ⟨l'⟩ ∧ (∀ v, v < m → Hs.getD v 0 = l'.getD (L + m + v) 0) ∧ Bk m L R (t + 1) l' ∧ RsI c m L l' ∧ (∀ p, p < L + 2 * m → l'.getD p 0 = l.getD p 0)) := ⟨l, rfl, hs2, bk.up (by omega), rs, fun _ _ => rfl⟩
 have wr : ∀ (q : Nat) (v : Int), L + 3 * m + 4 ≤ q → (q < L + 3 * m + 6 → -(100 + (t + 1)) ≤ v ∧ v ≤ 100 + (t + 1)) → (L + 3 * m + 6 ≤ q → 0 ≤ v ∧ v < m) → (∃ l', (⟨l.set q v⟩ : CellsBank) = ⟨l'⟩ ∧ (∀ v, v < m → Hs.getD v 0 = l'.getD (L + m + v) 0) ∧ Bk m L R (t + 1) l' ∧ RsI c m L l' ∧ (∀ p, p < L + 2 * m → l'.getD p 0 = l.getD p 0)) := fun q v h1 h2 h3 => by
  obtain ⟨g1, g2, g3, g4⟩ := Ja (q := q) (x := v) r hs2 bk rs t0.1 (by omega) h2 h3
  exact ⟨_, rfl, g1, g2, g3, g4⟩
 have pa : ∀ a tt bb xx gg, (0 ≤ a ∧ a ≤ 3) → (-(100 + (t + 1)) ≤ tt ∧ tt ≤ 100 + (t + 1)) → (-(100 + (t + 1)) ≤ bb ∧ bb ≤ 100 + (t + 1)) → (0 ≤ xx ∧ xx < (m : Int)) → PaI m L R (t + 1) 3 ⟨Xj m L R, 0, a, tt, bb, xx, false, gg⟩ := fun a tt bb xx gg h1 h2 h3 h4 => ⟨rfl, rfl, rfl, h1, h2, h3, h4⟩
 unfold Z4p Z63
 dsimp only
 refine Ok.bind.2 (Ok.ite.2 ⟨fun h => (by simp at h), fun _ => Ok.gd.2 ⟨by constructor <;> omega, Ok.gd.2 ⟨by constructor <;> omega, Ok.some.2 ?_⟩⟩⟩)
 dsimp only
 have hc : pat = 0 ∨ pat = 1 ∨ pat = 2 ∨ pat = 3 := by omega
 rcases hc with rfl | rfl | rfl | rfl <;> simp only [Int.reduceAdd, Int.reduceSub, Int.reduceEq, Int.reduceLE, Int.reduceNeg, Bool.false_eq_true, if_true, if_false, ↓reduceIte]
 ·
  unfold Z57 Z86 Z1k
  dsimp only
  exact Ok.bind.2 (Ok.bind.2 (Ok.bind.2 (Ok.bind.2 (Yp hB (Ok.some.2 (Ok.bind.2 (Yp l5 (Ok.some.2 (Ok.some.2 (Ok.some.2 (⟨same, rfl, q7, fun _ => pa _ _ _ _ _ (by simp) (by first | omega | (simp only; omega) | simp) (by first | omega | (simp only; omega) | simp) q7⟩)))))))))))
 ·
  unfold Z82 Z67 Z71 Z1o
  dsimp only
  exact Ok.bind.2 (Ok.bind.2 (Ok.bind.2 (Ok.bind.2 (Yp hT (Ok.some.2 (Ok.bind.2 (Yp l4 (Ok.some.2 (Ok.gd.2 ⟨by first | (constructor <;> omega) | (constructor <;> simp only <;> omega), Ok.ite.2 ⟨fun _ => Ok.bind.2 (Ok.some.2 (Ok.some.2 (Ok.some.2 (⟨same, rfl, q7, fun h => (by cases h)⟩)))), fun _ => Ok.some.2 (Ok.some.2 (⟨same, rfl, q7, fun _ => pa _ _ _ _ _ (by simp) (by first | omega | (simp only; omega) | simp) (by first | omega | (simp only; omega) | simp) q7⟩))⟩⟩)))))))))
 ·
  unfold Z5o Z6m
  dsimp only
  obtain ⟨q, hq, hq1, hq2⟩ := Zbp (m := m) (L := L) (R := R) (x := pb) ⟨by omega, by omega, by omega⟩ hR.1
  have sq := Kj (l := l) (i := (q : Int)) (q := q) (v := pv) rfl (by omega)
  exact Ok.bind.2 (Ok.bind.2 (Ok.bind.2 (Yp hq (Ok.some.2 (Ok.bind.2 (Yp sq (Ok.some.2 (Ok.some.2 (⟨wr _ _ (by omega) (fun _ => by first | omega | (split <;> omega)) (fun _ => by first | omega | exact hv), rfl, q7, fun _ => pa _ _ _ _ _ (by simp) (by first | omega | (simp only; omega) | simp) (by first | omega | (simp only; omega) | simp) q7⟩)))))))))
 ·
  unfold Z9o Z1k Z1o
  dsimp only
  exact Ok.bind.2 (Ok.bind.2 (Ok.bind.2 (Yp hB (Ok.some.2 (Ok.gd.2 ⟨by first | (constructor <;> omega) | (constructor <;> simp only <;> omega), Ok.bind.2 (Yp (st5 _) (Ok.bind.2 (Ok.some.2 (Ok.some.2 (Ok.some.2 (⟨wr _ _ (by omega) (fun _ => by first | omega | (split <;> omega)) (fun _ => by first | omega | exact hv), rfl, q7, fun h => (by cases h)⟩))))))⟩)))))
theorem k0 (r : Row n m L c) (hR : 1 ≤ R ∧ R ≤ 8192) (hcp : ∀ a, a < L → cp c a ≤ 1125899906842624) (t0 : 0 ≤ t ∧ t ≤ 8000) (h : SB c m L R t w l Hs u) (e : w.at_ = 0) : Ok (Xo w ⟨l⟩) (fun x => Post c m L R t x.2.1 x.2.2.l Hs) := by
 have p := h.ph.i0 e
 obtain ⟨hc, hl, hid, hlim, hli, ⟨hu, hum⟩, hv, ⟨hs1, hs2⟩, bk, rs, ph⟩ := h
 have bd := r.bd
 have bl := bk.len
 obtain ⟨-, -, -, hN⟩ := r.ends
 obtain ⟨xc, xl, xid, xlim, xat, xpop, xsteal, xput, xarr, xfrom, xu, xv, xh, xe, xwakes, xholds, xlifts, xev, xhas, xa, xtarget, xroom, xd, xlow⟩ := w
 simp only at hc hl hid hlim hli hu hv rs e p
 subst hc hl hid hu e
 unfold Xo
 rw [Vd (by simp only; omega)]
 simp only [Option.bind_some, reduceCtorEq, decide_eq_true_eq, Int.reduceEq, if_false, if_true, ↓reduceIte, Xj]
 have rs := rs (by omega)
 unfold Z70
 refine Ok.bind.2 (Ok.bind.2 (Ok.mono (s_pop r hR t0 hs2 bk rs p) ?_))
 rintro ⟨b, w5, l6⟩ ⟨⟨l', rfl, g1, g2, g3, g4⟩, h1, h2, h3⟩
 obtain ⟨zc, zl, zid, zlim, zat, ⟨⟨pl, pw, pat, pt, pb, px, pd, pg⟩⟩, zsteal, zput, zarr, zfrom, zu, zv, zh, ze, zwakes, zholds, zlifts, zev, zhas, za, ztarget, zroom, zd, zlow⟩ := w5
 simp only at h1 h2 h3 p
 subst h1
 have hl := p.hl
 have hw := p.hw
 obtain ⟨⟨yl, yw, yat, yt, yb, yx, yd, yg⟩⟩ := xpop
 simp only at hl hw
 subst hl hw
 obtain ⟨v, rfl⟩ : ∃ v : Nat, px = v := ⟨px.toNat, by omega⟩
 unfold Z5h Z6z Z3v Z92 Z8a
 dsimp only
 cases b
 · exact Ok.ite.2 ⟨fun _ => Ok.some.2 (Xc hlim fun _ => .no rfl ⟨u, rfl, rfl, rfl, hlim, ⟨(by first | omega | (simp only; omega) | (constructor <;> simp; done) | (simp; done)), (by first | omega | (simp only; omega) | (constructor <;> simp; done) | (simp; done))⟩, ⟨rfl, hum⟩, hv, ⟨hs1, g1⟩, g2, fun _ => g3, .take rfl (h3 rfl)⟩), fun h => (by simp at h)⟩
 ·
  refine Ok.ite.2 ⟨fun h => (by simp at h), fun _ => Ok.bind.2 (Ok.bind.2 (Ok.ite.2 ⟨fun h => (by simp at h), fun _ => ?_⟩))⟩
  cases pg
  · exact Ok.ite.2 ⟨fun _ => Ok.some.2 (Ok.some.2 (Ok.ite.2 ⟨fun h => (by simp at h), fun _ => Ok.bind.2 (Ok.ite.2 ⟨fun _ => Ok.some.2 (Ok.some.2 (Xc hlim fun _ => .no rfl ⟨u, rfl, rfl, rfl, hlim, ⟨(by first | omega | (simp only; omega) | (constructor <;> simp; done) | (simp; done)), (by first | omega | (simp only; omega) | (constructor <;> simp; done) | (simp; done))⟩, ⟨rfl, hum⟩, hv, ⟨hs1, g1⟩, g2, fun _ => g3, .idle (by simp)⟩)), fun h => (by simp at h)⟩)⟩)), fun h => (by simp at h)⟩
  · exact Ok.ite.2 ⟨fun h => (by simp at h), fun _ => Ok.some.2 (Ok.some.2 (Ok.ite.2 ⟨fun _ => Ok.bind.2 (Ok.some.2 (Ok.some.2 (Xc hlim fun _ => .no rfl ⟨v, rfl, rfl, rfl, hlim, ⟨(by first | omega | (simp only; omega) | (constructor <;> simp; done) | (simp; done)), (by first | omega | (simp only; omega) | (constructor <;> simp; done) | (simp; done))⟩, ⟨rfl, by omega⟩, hv, ⟨hs1, g1⟩, g2, fun _ => g3, .idle (by simp)⟩))), fun h => (by simp at h)⟩))⟩
theorem k14 (r : Row n m L c) (hR : 1 ≤ R ∧ R ≤ 8192) (hcp : ∀ a, a < L → cp c a ≤ 1125899906842624) (t0 : 0 ≤ t ∧ t ≤ 8000) (h : SB c m L R t w l Hs u) (e : w.at_ = 14) : Ok (Xo w ⟨l⟩) (fun x => Post c m L R t x.2.1 x.2.2.l Hs) := by
 have p := h.ph.i14 e
 obtain ⟨hc, hl, hid, hlim, hli, ⟨hu, hum⟩, hv, ⟨hs1, hs2⟩, bk, rs, ph⟩ := h
 have bd := r.bd
 have bl := bk.len
 obtain ⟨-, -, -, hN⟩ := r.ends
 obtain ⟨xc, xl, xid, xlim, xat, xpop, xsteal, xput, xarr, xfrom, xu, xv, xh, xe, xwakes, xholds, xlifts, xev, xhas, xa, xtarget, xroom, xd, xlow⟩ := w
 simp only at hc hl hid hlim hli hu hv rs e p
 subst hc hl hid hu e
 unfold Xo
 rw [Vd (by simp only; omega)]
 simp only [Option.bind_some, reduceCtorEq, decide_eq_true_eq, Int.reduceEq, if_false, if_true, ↓reduceIte, Xj]
 have rs := rs (by omega)
 obtain ⟨p1, p2, p3, p, p5, p6⟩ := p
 unfold Z98
 refine Ok.bind.2 (Ok.bind.2 (Ok.mono (s_put r hR t0 hs2 bk rs p ⟨p5, p6⟩) ?_))
 rintro ⟨b, w5, l6⟩ ⟨⟨l', rfl, g1, g2, g3, g4⟩, h1, h2, h3⟩
 obtain ⟨zc, zl, zid, zlim, zat, zpop, zsteal, ⟨⟨pl, pw, pat, pt, pb, px, pd, pg⟩, pv⟩, zarr, zfrom, zu, zv, zh, ze, zwakes, zholds, zlifts, zev, zhas, za, ztarget, zroom, zd, zlow⟩ := w5
 simp only at h1 h2 h3 p
 subst h1
 have hl := p.hl
 have hw := p.hw
 have hx := p.hx
 obtain ⟨⟨yl, yw, yat, yt, yb, yx, yd, yg⟩, yv⟩ := xput
 simp only at hl hw hx p5 p6
 subst hl hw
 dsimp only
 cases b
 ·
  refine Ok.ite.2 ⟨fun h => (by simp at h), fun _ => Ok.some.2 (Xc hlim fun _ => .no rfl ⟨u, rfl, rfl, rfl, hlim, ⟨(by first | omega | (simp only; omega) | (constructor <;> simp; done) | (simp; done)), (by first | omega | (simp only; omega) | (constructor <;> simp; done) | (simp; done))⟩, ⟨rfl, hum⟩, hv, ⟨hs1, g1⟩, g2, fun _ => g3, .put rfl (by rw [g4 _ (by omega)]; exact p1) (by rw [g4 _ (by omega)]; exact p2) p3 ?_ p5 p6⟩)⟩
  obtain ⟨a1, a2, a3, a4, a5, a6, a7⟩ := h3 rfl
  exact ⟨rfl, rfl, rfl, a4, a5, a6, hx⟩
 · exact Ok.ite.2 ⟨fun _ => Ok.some.2 (Xc hlim fun _ => .no rfl ⟨u, rfl, rfl, rfl, hlim, ⟨(by first | omega | (simp only; omega) | (constructor <;> simp; done) | (simp; done)), (by first | omega | (simp only; omega) | (constructor <;> simp; done) | (simp; done))⟩, ⟨rfl, hum⟩, hv, ⟨hs1, g1⟩, g2, fun _ => g3, .mid (by simp) (by rw [g4 _ (by omega)]; exact p1) (by rw [g4 _ (by omega)]; exact p2) p3⟩), fun h => (by simp at h)⟩
theorem s_Step (r : Row n m L c) (hR : 1 ≤ R ∧ R ≤ 8192) (hcp : ∀ a, a < L → cp c a ≤ 1125899906842624) (t0 : 0 ≤ t ∧ t ≤ 8000) (h : SI c m L R t w l Hs) (e : w.at_ ≠ 25) : Ok (Xo w ⟨l⟩) (fun x => Post c m L R t x.2.1 x.2.2.l Hs) := by
 obtain ⟨u, h⟩ := h
 have hp := h.ph.no1
 have hc : w.at_ = 0 ∨ w.at_ = 2 ∨ w.at_ = 3 ∨ w.at_ = 4 ∨ w.at_ = 5 ∨ w.at_ = 6 ∨ w.at_ = 7 ∨ w.at_ = 8 ∨ w.at_ = 9 ∨ w.at_ = 10 ∨ w.at_ = 11 ∨ w.at_ = 12 ∨ w.at_ = 13 ∨ w.at_ = 14 ∨ w.at_ = 15 ∨ w.at_ = 16 ∨ w.at_ = 17 ∨ w.at_ = 18 ∨ w.at_ = 19 ∨ w.at_ = 20 ∨ w.at_ = 21 ∨ w.at_ = 22 ∨ w.at_ = 23 ∨ w.at_ = 24 := by omega
 rcases hc with e | e | e | e | e | e | e | e | e | e | e | e | e | e | e | e | e | e | e | e | e | e | e | e
 · exact k0 r hR hcp t0 h e
 · exact k2 r hR t0 h e
 · exact k3 r hR t0 h e
 · exact k4 r hR t0 h e
 · exact k5 r hR t0 h e
 · exact k6 r hR t0 h e
 · exact k7 r hR hcp t0 h e
 · exact k8 r hR hcp t0 h e
 · exact k9 r hR hcp t0 h e
 · exact k10 r hR hcp t0 h e
 · exact k11 r hR hcp t0 h e
 · exact k12 r hR hcp t0 h e
 · exact k13 r hR hcp t0 h e
 · exact k14 r hR hcp t0 h e
 · exact k15 r hR hcp t0 h e
 · exact k16 r hR hcp t0 h e
 · exact k17 r hR hcp t0 h e
 · exact Kh r hR hcp t0 h e
 · exact k19 r hR hcp t0 h e
 · exact k20 r hR hcp t0 h e
 · exact k21 r hR hcp t0 h e
 · exact k22 r hR hcp t0 h e
 · exact k23 r hR hcp t0 h e
 · exact k24 r hR hcp t0 h e
end steps
end Go.Acq
namespace Go.Acq
open Go
section play
variable {n : Net} {m L R : Nat} {c : Csr} {t : Int} {w : WorkerWorker} {l Hs : List Int} {u : Nat}
theorem SB.bd (r : Row n m L c) (hcp : ∀ a, a < L → cp c a ≤ 1125899906842624) (h : SB c m L R t w l Hs u) {a : Nat} (ha : a < L) : -1125899906842624 ≤ l.getD a 0 ∧ l.getD a 0 ≤ 1125899906842624 := by
 have hl := h.bk.len
 have k1 := r.rev ha
 have c1 := hcp a ha
 by_cases e : w.at_ = 9
 ·
  obtain ⟨g, -, -, -, hg, -, p6, -, p8, p9⟩ := h.ph.i9 e
  have k2 := r.rev hg
  have n1 := p9.nn a ha
  have n2 := p9.nn _ k1.2.1
  rw [k1.2.2.1] at n2
  rw [Ws] at n1
  split at n1
  ·
   rename_i h1
   have e1 : a = rv c g := h1.1.symm
   rw [← e1] at n1 n2
   omega
  · omega
 ·
  have rs := h.rs e
  have n1 := rs.nn a ha
  have n2 := rs.nn _ k1.2.1
  omega
theorem s_low {e : Evt} {lf : Nat → Int} {wt : Int} {p1 : Acequialaw16Phase} (r : Row n m L c) (bl : L + 3 * m + R + 6 = l.length) (hum : u < m) (hU : e.U = u) (hw : e.What = wt) (hs : Hs.length = m) (hHs : ∀ v, v < m → 0 ≤ Hs.getD v 0 ∧ Hs.getD v 0 ≤ m) (hC : p1.C = c) (hL : p1.L = Xj m L R) (hB : p1.B = ⟨l⟩)
    (hj : ∀ (low : Int) (a : Nat) (P : (Int × Int) ⊕ Int → Prop), fs c u ≤ a → a < fs c (u + 1) → Ok (Z1d p1 Hs low a (lf a)) P → Ok (if e.What = 1 then Lp p1 Hs e low a (l.getD a 0) (decide ((a : Int) = e.Arc)) else Lp p1 Hs e low a (l.getD a 0) false) P)
    (lw : Z1b c u lf Hs e.Low) (h0 : e.Low ≤ m) {P : Int → Prop} (hP : P e.Low) : Ok (Wa (fun s => Z1i p1 Hs e s.1 s.2) Xm (2 * (m : Int), (fs c u : Int))) P := by
  have bd := r.bd
  have f2 := (r.first.1 (u + 1) (by omega)).1
  have f3 := r.first.2.2.2 u hum
  have lf1 := r.lens.1
  have lh := r.lens.2.1
  refine Kv (fun s => ∃ a : Nat, s.2 = a ∧ fs c u ≤ a ∧ a ≤ fs c (u + 1) ∧ (∀ b, fs c u ≤ b → b < a → 0 < lf b → s.1 ≤ Hs.getD (hd c b) 0) ∧ (s.1 = 2 * m ∨ ∃ b, fs c u ≤ b ∧ b < a ∧ 0 < lf b ∧ s.1 = Hs.getD (hd c b) 0)) (fun s => (fs c (u + 1) - s.2).toNat) ⟨fs c u, rfl, by omega, by omega, fun b h1 h2 => by omega, .inl rfl⟩ (by unfold Xm; simp only; omega) ?_
  rintro ⟨low, x⟩ ⟨a, e1, ha1, ha2, hi1, hi2⟩ Q next exit
  simp only at e1 hi1 hi2 next ⊢
  subst e1
  unfold Z1i
  rw [hU, hC, hL, hB, lf1, show (u : Int) + 1 = ((u + 1 : Nat) : Int) by omega]
  simp only [Int.toNat_natCast, f2, Xj]
  refine Ok.gd.2 ⟨by constructor <;> omega, Ok.gd.2 ⟨by constructor <;> omega, Ok.ite.2 ⟨fun hx => Ok.gd.2 ⟨by constructor <;> omega, Ok.bind.2 (Yp (Us (q := a) (by omega) (by omega)) (hj low a _ ha1 (by omega) ?_))⟩, fun hx => Ok.some.2 (exit _ ?_)⟩⟩⟩
  · have g1 := r.head (j := a) (by omega)
    unfold Z1d
    rw [hC, lh, hs]
    simp only [Int.toNat_natCast, g1.1]
    refine Ok.ite.2 ⟨fun h1 => Ok.gd.2 ⟨by constructor <;> omega, Ok.gd.2 ⟨by constructor <;> omega, Ok.gd.2 ⟨by constructor <;> omega, Ok.some.2 (next _ ⟨a + 1, by simp, by omega, by omega, fun b h2 h3 h4 => ?_, ?_⟩ (by simp only; omega))⟩⟩⟩, fun h1 => Ok.gd.2 ⟨by constructor <;> omega, Ok.some.2 (next _ ⟨a + 1, by simp, by omega, by omega, fun b h2 h3 h4 => ?_, ?_⟩ (by simp only; omega))⟩⟩
    · have := Int.min_le_left low (Hs.getD (hd c a) 0)
      have := Int.min_le_right low (Hs.getD (hd c a) 0)
      simp only
      by_cases e2 : b = a
      · subst e2; omega
      · have := hi1 b h2 (by omega) h4; omega
    · simp only
      by_cases h5 : low ≤ Hs.getD (hd c a) 0
      · rw [Int.min_eq_left h5]
        rcases hi2 with h | ⟨b, z1, z2, z3, z4⟩
        · exact .inl h
        · exact .inr ⟨b, z1, by omega, z3, z4⟩
      · rw [Int.min_eq_right (by omega)]
        exact .inr ⟨a, ha1, by omega, h1, rfl⟩
    · by_cases e2 : b = a
      · subst e2; exact absurd h4 h1
      · exact hi1 b h2 (by omega) h4
    · rcases hi2 with h | ⟨b, z1, z2, z3, z4⟩
      · exact .inl h
      · exact .inr ⟨b, z1, by omega, z3, z4⟩
  · have ea : a = fs c (u + 1) := by omega
    subst ea
    obtain ⟨w1, g, w2, w3, w4, w5⟩ := lw
    have h1 := hi1 g w2 w3 w4
    have h2 : e.Low ≤ low := by
      rcases hi2 with h | ⟨b, z1, z2, z3, z4⟩
      · omega
      · rw [z4]; exact w1 b z1 z2 z3
    rw [show low = e.Low by omega]; exact hP
theorem s_each {k : Int} {p1 : Acequialaw16Phase} {p2 : Net} (r : Row n m L c) (hcp : ∀ a, a < L → cp c a ≤ 1125899906842624) (t0 : 0 ≤ t ∧ t ≤ 8000) (hw : p1.W = w) (hC : p1.C = c) (hL : p1.L = Xj m L R) (hB : p1.B = ⟨l⟩) (h2 : p2.N = m) (hs : Hs.length = m) (hHs : ∀ v, v < m → 0 ≤ Hs.getD v 0 ∧ Hs.getD v 0 ≤ m) (hp : Post c m L R t w l Hs) :
    Ok (Z4n k p1 p2 Hs) (fun x => x.1 = true ∧ SI c m L R (t + 1) w l x.2) := by
  have bd := r.bd
  have hev : 1 ≤ w.limit → Z1x w = some (if w.has = true then (w.event, true) else (⟨0, 0, 0, 0, 0, 0, 0⟩, false)) := fun h => by
    unfold Z1x Z00 Z42
    simp only [Option.bind_some, decide_eq_true_eq, if_neg (show ¬w.limit = 0 by omega)]
    cases w.has <;> rfl
  unfold Z4n
  rw [hw]
  cases hp with
  | no h0 h1 =>
    obtain ⟨u, h⟩ := h1
    refine Ok.bind.2 (Yp (hev h.hlim) ?_)
    rw [h0]
    exact Ok.ite.2 ⟨fun _ => Ok.some.2 ⟨rfl, u, h⟩, fun h => (by simp at h)⟩
  | push u g h0 h1 h3 =>
    obtain ⟨u', h⟩ := h3
    have bk := h.bk.len
    obtain ⟨q1, ⟨q2, q3⟩, ⟨q4, q5, q6⟩, q7, ⟨q8, q9, q10, q10'⟩, q11⟩ := h1
    have f1 := (r.first.1 u (by omega)).1
    have f3 := r.first.2.2.2 u q3
    have lf1 := r.lens.1
    have lh := r.lens.2.1
    refine Ok.bind.2 (Yp (hev h.hlim) ?_)
    rw [h0]
    simp only [if_true, Bool.not_true, Bool.false_eq_true, if_false]
    rw [h2, q2, hC, lf1]
    simp only [Int.toNat_natCast, f1]
    refine Ok.gd.2 ⟨by constructor <;> omega, Ok.gd.2 ⟨by constructor <;> omega, Ok.bind.2 (s_low (R := R) (l := l) r (by omega) q3 q2 q1 hs hHs hC hL hB (fun low a P ha1 ha2 hh => ?_) q7 q10' ?_)⟩⟩
    · have bb := h.bd r hcp (a := a) (by omega)
      unfold Lp
      rw [if_pos q1, q4]
      refine Ok.ite.2 ⟨fun e => Ok.gd.2 ⟨by constructor <;> omega, ?_⟩, fun e => ?_⟩
      · have e' : a = g := by have := of_decide_eq_true e; omega
        rw [if_pos e'] at hh; exact hh
      · have e' : ¬a = g := fun h => e (decide_eq_true (by rw [h]))
        rw [if_neg e', Int.add_zero] at hh; exact hh
    · have g1 := r.head (j := g) (by omega)
      unfold Z4a
      rw [hC, q1, q4, lh, hs]
      simp only [Int.toNat_natCast, g1.1]
      refine Ok.ite.2 ⟨fun e => absurd rfl e, fun _ => Ok.ite.2 ⟨fun e => absurd e (by decide), fun _ => Ok.gd.2 ⟨by constructor <;> omega, Ok.gd.2 ⟨by constructor <;> omega, Ok.ite.2 ⟨fun _ => Ok.gd.2 ⟨by constructor <;> omega, Ok.some.2 ⟨decide_eq_true q9, u', h⟩⟩, fun e => absurd q8 e⟩⟩⟩⟩⟩
  | lift u h0 h1 h3 =>
    obtain ⟨u', h⟩ := h3
    have bk := h.bk.len
    obtain ⟨q1, ⟨q2, q3⟩, q7, ⟨q10, q10'⟩⟩ := h1
    have f1 := (r.first.1 u (by omega)).1
    have f3 := r.first.2.2.2 u q3
    have lf1 := r.lens.1
    refine Ok.bind.2 (Yp (hev h.hlim) ?_)
    rw [h0]
    simp only [if_true, Bool.not_true, Bool.false_eq_true, if_false]
    rw [h2, q2, hC, lf1]
    simp only [Int.toNat_natCast, f1]
    refine Ok.gd.2 ⟨by constructor <;> omega, Ok.gd.2 ⟨by constructor <;> omega, Ok.bind.2 (s_low (R := R) (l := l) r (by omega) q3 q2 q1 hs hHs hC hL hB (fun low a P ha1 ha2 hh => ?_) q7 q10' ?_)⟩⟩
    · unfold Lp
      rw [if_neg (by rw [q1]; decide)]
      exact Ok.ite.2 ⟨fun e => (by simp at e), fun _ => hh⟩
    · unfold Z4a
      rw [q1, q2, hs]
      simp only [Int.toNat_natCast]
      exact Ok.ite.2 ⟨fun e => absurd rfl e, fun _ => Ok.ite.2 ⟨fun _ => Ok.gd.2 ⟨by constructor <;> omega, Ok.some.2 ⟨rfl, u', h⟩⟩, fun e => (by simp at e)⟩⟩
theorem eqW (h : w.c = c) : ({ w with c := ({ c with N := w.c.N, S := w.c.S, T := w.c.T } : Csr) } : WorkerWorker) = w := by
 subst h; rfl
theorem s_Play {p0 p1 : Acequialaw16Phase} {p2 : Net} (r : Row n m L c) (hR : 1 ≤ R ∧ R ≤ 8192) (hcp : ∀ a, a < L → cp c a ≤ 1125899906842624) (h0 : p0.W.c = c) (hC : p1.C = c) (hL : p1.L = Xj m L R) (h2 : p2.N = m) (hi : SI c m L R 0 p0.W p0.B.l Hs) :
    Ok (Z3i p0 [] 8000 p1 p2 Hs) (fun x => x.1 = true) := by
  unfold Z3i
  refine Ok.bind.2 (Kv (fun s => ∃ i : Nat, s.2.2.2 = i ∧ i ≤ 8000 ∧ SI c m L R i s.2.2.1 s.2.1 s.1) (fun s => (8000 - s.2.2.2).toNat) ⟨0, rfl, by omega, hi⟩ (by unfold Xm; simp only; omega) ?_)
  rintro ⟨H, b, v, x⟩ ⟨i, e1, h8, hI⟩ P next exit
  simp only at e1 hI next ⊢
  subst e1
  have done : P (.inr (.inr (b, v, H))) := exit _ (by show Ok (Z6v p0 b v H) _; exact Ok.some.2 rfl)
  have yes : P (.inr (.inl (true, ⟨b⟩, v, H))) := exit _ (Ok.some.2 rfl)
  have hv : v.c = c := by obtain ⟨u, h⟩ := hI; exact h.hc
  have hlim : v.limit ≠ 0 := by obtain ⟨u, h⟩ := hI; have := h.hlim; omega
  have j2 : i < 8000 → ∀ k : Int, k = 0 → Ok (Z1y p0 p1 p2 H b v i k) P := fun hi8 k hk => by
    subst hk
    unfold Z1y
    rw [h0, eqW hv]
    refine Ok.gd.2 ⟨by constructor <;> omega, Ok.bind.2 (Yp (Vd hlim) (Ok.ite.2 ⟨fun hd => ?_, fun hd => ?_⟩))⟩
    · refine Ok.bind.2 (Kv (fun s => s.1 = true ∧ (s.2 = 0 ∨ s.2 = 1)) (fun s => (1 - s.2).toNat) ⟨rfl, .inl rfl⟩ (by unfold Xm; simp only; omega) ?_)
      rintro ⟨all, y⟩ ⟨a1, a2⟩ P' next' exit'
      simp only at a1 a2 next' ⊢
      subst a1
      unfold Z3s
      rw [h0, eqW hv]
      refine Ok.ite.2 ⟨fun hy => Ok.gd.2 ⟨by constructor <;> omega, Ok.ite.2 ⟨fun _ => Ok.bind.2 (Yp (Vd hlim) (Ok.gd.2 ⟨by constructor <;> omega, Ok.some.2 (next' _ ⟨hd, by simp only; omega⟩ (by simp only; omega))⟩)), fun h => absurd rfl h⟩⟩, fun hy => Ok.some.2 (exit' _ ?_)⟩
      unfold Z5s
      rw [h0, eqW hv]
      exact Ok.ite.2 ⟨fun _ => Ok.some.2 yes, fun h => absurd rfl h⟩
    · have h25 : v.at_ ≠ 25 := fun h => hd (decide_eq_true h)
      unfold Z89
      rw [h0, eqW hv]
      refine Ok.gd.2 ⟨by constructor <;> omega, Ok.bind.2 (Ok.mono (s_Step r hR hcp ⟨by omega, by omega⟩ hI h25) ?_)⟩
      rintro ⟨bb, v', ⟨b'⟩⟩ hpost
      simp only at hpost ⊢
      have hc' : v'.c = c := by
        cases hpost with
        | no _ h => obtain ⟨u, h⟩ := h; exact h.hc
        | push _ _ _ _ h => obtain ⟨u, h⟩ := h; exact h.hc
        | lift _ _ _ h => obtain ⟨u, h⟩ := h; exact h.hc
      rw [eqW hc']
      have hH : H.length = m ∧ ∀ v, v < m → 0 ≤ H.getD v 0 ∧ H.getD v 0 ≤ m := by
        obtain ⟨u, h⟩ := hI
        exact ⟨h.hs.1, fun v hv => by rw [h.hs.2 v hv]; exact h.bk.hh v hv⟩
      refine Ok.bind.2 (Ok.mono (s_each (R := R) (l := b') r hcp ⟨by omega, by omega⟩ rfl hC hL rfl h2 hH.1 hH.2 hpost) ?_)
      rintro ⟨ok, H'⟩ ⟨z1, z2⟩
      simp only at z1 z2 ⊢
      subst z1
      refine Ok.ite.2 ⟨fun h => (by simp at h), fun _ => ?_⟩
      unfold Z4o
      rw [h0, eqW hc']
      exact Ok.gd.2 ⟨by constructor <;> omega, Ok.some.2 (next _ ⟨i + 1, by simp, by omega, by simpa using z2⟩ (by simp only; omega))⟩
  unfold Z3c
  rw [h0, eqW hv]
  refine Ok.ite.2 ⟨fun hx => Ok.ite.2 ⟨fun h => (by simp at h; omega), fun _ => j2 (by omega) _ (Int.tmod_one _)⟩, fun hx => Ok.some.2 done⟩
end play
end Go.Acq
namespace Go.Acq
open Go
theorem Zb1 : ∀ k : Nat, Ww (fun _ => (1 : Int)) k = k
 | 0 => rfl
 | k + 1 => by rw [Ww, Zb1 k]; simp
theorem s_room {v : Int} (h0 : 0 ≤ v) (h1 : v ≤ 4096) : Ok (Z31 v) (fun x => 1 ≤ x ∧ x ≤ 8192) := by
 unfold Z31
 refine Ok.bind.2 (Kv (fun x => 1 ≤ x ∧ x ≤ 8192) (fun x => (v - x).toNat) ⟨by omega, by omega⟩ (by unfold Xm; omega) ?_)
 rintro x ⟨h2, h3⟩ P next exit
 unfold Z3z
 refine Ok.ite.2 ⟨fun h => Ok.gd.2 ⟨(by omega), Ok.some.2 (next _ ⟨by omega, by omega⟩ (by omega))⟩, fun h => Ok.some.2 (exit _ (by unfold Z5l; exact Ok.some.2 ⟨h2, h3⟩))⟩
theorem Lj {a s : Int} {L : Layout} (h : L.Size = s) (h0 : 0 ≤ s) (h1 : s ≤ 1000000) (h2 : 0 ≤ a) (h3 : a ≤ 1000000) : Jf a L = some (s, ⟨L.Verts, L.Arcs, L.Workers, L.Room, L.Res, L.Ex, L.H, L.Flag, L.Pending, L.Ask, L.Count, L.Sense, L.Deques, s + a⟩) := by
 unfold Jf
 rw [h, Vn (by constructor <;> omega), Vn (by constructor <;> omega), show s + a - a = s by omega]
theorem s_Plan1 {m L : Nat} (hm : m ≤ 4096) (hL : L ≤ 32768) : ∃ R : Nat, 1 ≤ R ∧ R ≤ 8192 ∧ Z2s m L 1 = some (Xj m L R, 0) := by
 obtain ⟨x, e, h1, h2⟩ := s_room (v := (m : Int)) (by omega) (by omega)
 obtain ⟨R, rfl⟩ : ∃ R : Nat, x = R := ⟨x.toNat, by omega⟩
 refine ⟨R, by omega, by omega, Rz ?_⟩
 unfold Z2s Z2w Z3j Z3x Z39 Z2z
 simp only [if_neg (show ¬((m : Int) < 0) by omega), decide_eq_false (show ¬(4096 < (m : Int)) by omega), decide_eq_false (show ¬((L : Int) < 0) by omega), decide_eq_false (show ¬(32768 < (L : Int)) by omega), decide_eq_false (show ¬((1 : Int) < 1) by omega), decide_eq_false (show ¬((64 : Int) < 1) by omega), Bool.false_eq_true, if_false]
 refine Ok.bind.2 (Yp e ?_)
 refine Ok.bind.2 (Yp (Lj rfl (by simp only; omega) (by simp only; omega) (by omega) (by omega)) ?_)
 refine Ok.bind.2 (Yp (Lj rfl (by simp only; omega) (by simp only; omega) (by omega) (by omega)) ?_)
 refine Ok.bind.2 (Yp (Lj rfl (by simp only; omega) (by simp only; omega) (by omega) (by omega)) ?_)
 refine Ok.bind.2 (Yp (Lj rfl (by simp only; omega) (by simp only; omega) (by omega) (by omega)) ?_)
 refine Ok.bind.2 (Yp (Lj rfl (by simp only; omega) (by simp only; omega) (by omega) (by omega)) ?_)
 refine Ok.bind.2 (Yp (Lj rfl (by simp only; omega) (by simp only; omega) (by omega) (by omega)) ?_)
 refine Ok.bind.2 (Yp (Lj rfl (by simp only; omega) (by simp only; omega) (by omega) (by omega)) ?_)
 refine Ok.bind.2 (Yp (Lj rfl (by simp only; omega) (by simp only; omega) (by omega) (by omega)) ?_)
 refine Ok.gd.2 ⟨by constructor <;> omega, Ok.gd.2 ⟨by constructor <;> omega, ?_⟩⟩
 refine Ok.bind.2 (Yp (Lj rfl (by simp only; omega) (by simp only; omega) (by omega) (by omega)) ?_)
 refine Ok.some.2 ?_
 unfold Xj
 simp only [Prod.mk.injEq, Layout.mk.injEq, and_true, true_and]
 refine ⟨?_, ?_, ?_, ?_, ?_, ?_, ?_, ?_, ?_⟩ <;> omega
theorem s_cNew {k : Nat} (h1 : k ≤ 524288) : Z0u k = some (⟨List.replicate k 0⟩, 0) := by
 unfold Z0u Z3p
 rw [if_neg (by omega), decide_eq_false (by omega), if_neg (by simp), Vn (by constructor <;> omega)]
 simp
section row
variable {n : Net} {m L R : Nat} {c : Csr}
theorem Row.small (r : Row n m L c) : L ≤ 2 * n.Arcs.length := by
 have h := posSum r.he (fun _ => 1)
 rw [r.hL, Zb1] at h
 have h2 : Ww (fun i => if (n.Arcs.getD i default).fr = (n.Arcs.getD i default).to then (0 : Int) else 1 + 1) n.Arcs.length ≤ Ww (fun _ => 1 + 1) n.Arcs.length := Zfs fun i hi => by split <;> omega
 have h3 := Z61 (fun _ => 1) (fun _ => 1) n.Arcs.length
 rw [Zb1] at h3
 omega
theorem Row.cpB (r : Row n m L c) (hs : SomeAt m n.Arcs) {a : Nat} (ha : a < L) : cp c a ≤ 1125899906842624 := by
 obtain ⟨i, s, hi, hne, hp, -⟩ := r.at ha
 have h := (r.cpPos hi hne s).1
 have := Made.caps hs i hi
 rw [← hp, h]; omega
structure Out (c : Csr) (m L R S k : Nat) (l : List Int) : Prop where
  len : l.length = L + 3 * m + R + 6
  res : ∀ q, q < L → l.getD q 0 = if fs c S ≤ q ∧ q < k then 0 else if fs c S ≤ rv c q ∧ rv c q < k then cp c q else c.Cap.getD q 0
  ex : ∀ v, v < m → -(1125899906842624 * ((k : Int) - fs c S)) ≤ l.getD (L + v) 0 ∧ l.getD (L + v) 0 ≤ 1125899906842624 * ((k : Int) - fs c S)
  nul : ∀ q, L + m ≤ q → l.getD q 0 = 0
theorem Out.step {S k : Nat} {l : List Int} (r : Row n m L c) (hcp : ∀ a, a < L → cp c a ≤ 1125899906842624) (hS : S < m) (h : Out c m L R S k l) (h1 : fs c S ≤ k) (h2 : k < fs c (S + 1)) :
    l.getD (rv c k) 0 + c.Cap.getD k 0 = cp c k ∧ Out c m L R S (k + 1) ((((l.set k 0).set (rv c k) (l.getD (rv c k) 0 + c.Cap.getD k 0)).set (L + S) (l.getD (L + S) 0 + -c.Cap.getD k 0)).set (L + hd c k) (l.getD (L + hd c k) 0 + c.Cap.getD k 0)) := by
  have f3 := r.first.2.2.2 S hS
  have hk : k < L := by omega
  have k1 := r.rev hk
  have k2 := r.tlh hk
  have k3 := r.head hk
  have k4 := r.cap hk
  have k5 := r.cap k1.2.1
  have kc := hcp k hk
  have tk := (r.range hk hS).1 ⟨h1, h2⟩
  have hl := h.len
  have nrow : ∀ q, q < L → tl c q ≠ S → ¬(fs c S ≤ q ∧ q < fs c (S + 1)) := fun q hq hne hh => hne ((r.range hq hS).1 hh)
  have nr := nrow _ k1.2.1 (by rw [k2.2.1, ← tk]; exact fun e => k2.2.2.2 e.symm)
  have e1 := h.res _ k1.2.1
  rw [if_neg (fun hh => nr ⟨hh.1, by omega⟩), if_neg (fun hh => by rw [k1.2.2.1] at hh; omega)] at e1
  have e2 : l.getD (rv c k) 0 + c.Cap.getD k 0 = cp c k := by rw [e1]; omega
  refine ⟨e2, ⟨by simp only [List.length_set]; exact hl, fun q hq => ?_, fun v hv => ?_, fun q hq => ?_⟩⟩
  · rw [Xq (by omega), Xq (by omega), Ws]
    by_cases c1 : rv c k = q
    · subst c1
      rw [if_pos ⟨rfl, by rw [List.length_set]; omega⟩, if_neg (fun hh => nr ⟨hh.1, by omega⟩), k1.2.2.1, if_pos ⟨h1, by omega⟩, k4.2.2.1]; exact e2
    · rw [if_neg (fun hh => c1 hh.1), Ws]
      by_cases c2 : k = q
      · subst c2
        rw [if_pos ⟨rfl, by omega⟩, if_pos ⟨h1, by omega⟩]
      · rw [if_neg (fun hh => c2 hh.1), h.res q hq]
        have c3 : rv c q ≠ k := fun e => c1 (by rw [← e, (r.rev hq).2.2.1])
        have z1 : (fs c S ≤ q ∧ q < k + 1) = (fs c S ≤ q ∧ q < k) := propext ⟨fun h => ⟨h.1, by omega⟩, fun h => ⟨h.1, by omega⟩⟩
        have z2 : (fs c S ≤ rv c q ∧ rv c q < k + 1) = (fs c S ≤ rv c q ∧ rv c q < k) := propext ⟨fun h => ⟨h.1, by omega⟩, fun h => ⟨h.1, by omega⟩⟩
        simp only [z1, z2]
  · have hx := h.ex v hv
    rw [Ws]
    by_cases c1 : hd c k = v
    · subst c1
      rw [if_pos ⟨rfl, by simp only [List.length_set]; omega⟩]; omega
    · rw [if_neg (fun hh => c1 (by omega)), Ws]
      by_cases c2 : S = v
      · subst c2
        rw [if_pos ⟨rfl, by simp only [List.length_set]; omega⟩]; omega
      · rw [if_neg (fun hh => c2 (by omega)), Xq (by omega), Xq (by omega)]; omega
  · rw [Xq (by omega), Xq (by omega), Xq (by omega), Xq (by omega)]; exact h.nul q hq
theorem Out.rs {S : Nat} {l : List Int} (r : Row n m L c) (hS : S < m) (h : Out c m L R S (fs c (S + 1)) l) : RsI c m L (l.set (L + m + S) m) := by
 refine ⟨fun a ha => ?_, fun a ha => ?_⟩
 ·
  have k1 := r.rev ha
  have k4 := r.cap ha
  have k5 := r.cap k1.2.1
  have k2 := r.tlh ha
  rw [Xq (by omega), Xq (by omega), h.res a ha, h.res _ k1.2.1, k1.2.2.1]
  by_cases c1 : fs c S ≤ a ∧ a < fs c (S + 1)
  ·
   have t1 := (r.range ha hS).1 c1
   have c2 : ¬(fs c S ≤ rv c a ∧ rv c a < fs c (S + 1)) := fun hh => by
    have := (r.range k1.2.1 hS).1 hh
    rw [k2.2.1] at this
    exact k2.2.2.2 (by rw [t1, this])
   rw [if_pos c1, if_neg c2, if_pos c1, k4.2.2.1]; omega
  ·
   rw [if_neg c1]
   by_cases c2 : fs c S ≤ rv c a ∧ rv c a < fs c (S + 1)
   · rw [if_pos c2, if_pos c2]; omega
   · rw [if_neg c2, if_neg c2, if_neg c1]; omega
 ·
  have k2 := r.tlh ha
  have k3 := r.head ha
  rw [Xq (by omega), h.res a ha]
  intro h0
  have hne : tl c a ≠ S := fun e => by
   rw [if_pos ((r.range ha hS).2 e)] at h0; omega
  have e1 : (l.set (L + m + S) (m : Int)).getD (L + m + tl c a) 0 = 0 := by rw [Xq (by omega)]; exact h.nul _ (by omega)
  have e2 : 0 ≤ (l.set (L + m + S) (m : Int)).getD (L + m + hd c a) 0 := by
   rw [Ws]; split
   · omega
   · rw [h.nul _ (by omega)]; omega
  omega
structure Dl (c : Csr) (m L R S k : Nat) (l : List Int) (d : List Int) : Prop where
  bk : Bk m L R 0 l
  rs : RsI c m L l
  hh : ∀ v, v < m → l.getD (L + m + v) 0 = if v = S then m else 0
  bo : 0 ≤ l.getD (L + 3 * m + 5) 0 ∧ l.getD (L + 3 * m + 5) 0 ≤ k
  dl : d.length ≤ k
theorem Dl.set {S k k' : Nat} {l d d' : List Int} {q : Nat} {x : Int} (r : Row n m L c) (h : Dl c m L R S k l d) (hq : L + 2 * m ≤ q) (h3 : q < L + 3 * m + 6 → -100 ≤ x ∧ x ≤ 100) (h4 : L + 3 * m + 6 ≤ q → 0 ≤ x ∧ x < m) (h5 : q = L + 3 * m + 5 → 0 ≤ x ∧ x ≤ k') (hk : k ≤ k') (hd' : d'.length ≤ k') :
    Dl c m L R S k' (l.set q x) d' :=
  ⟨h.bk.set (fun _ _ => by omega) (fun _ _ => by omega) (fun _ h => by have := h3 h; omega) (fun h _ => h4 h), h.rs.other r (by omega) (.inr hq), fun v hv => by rw [Xq (by omega)]; exact h.hh v hv, by
    have := h.bo
    rw [Ws]; split
    · rename_i e; exact h5 e.1
    · omega, hd'⟩
theorem Zp4 {lim : Int} (hr : Made n 7 14) (hm : n.N = m) (hl1 : 1 ≤ lim) (hl2 : lim ≤ 40) : Ok (Z0m n lim) (fun x => x.2 = true ∧ ∃ c L R S, Row n m L c ∧ (1 ≤ R ∧ R ≤ 8192) ∧ (∀ a, a < L → cp c a ≤ 1125899906842624) ∧ n.S = (S : Nat) ∧ S < m ∧ x.1.C = c ∧ x.1.L = Xj m L R ∧ x.1.W.c = c ∧ SI c m L R 0 x.1.W x.1.B.l ((List.replicate m 0).set S m)) := by
  have hso : SomeAt m n.Arcs := by have := hr.rows; rw [show n.N.toNat = m by omega] at this; exact this
  have hv := hr.verts
  have ha := hr.arcs
  have he := hr.ends
  unfold Z0m
  refine Ok.bind.2 (Ok.mono (s_Make hm hr.check (by omega)) ?_)
  rintro ⟨c, e⟩ ⟨hc, h0⟩
  simp only at hc h0 ⊢
  subst h0
  have r := row_of hc hm hr.check
  obtain ⟨L, hL⟩ : ∃ L, Yw n.Arcs m = L := ⟨_, rfl⟩
  rw [hL] at r
  have bd := r.bd
  have hsm := r.small
  have hcp : ∀ a, a < L → cp c a ≤ 1125899906842624 := fun a ha => r.cpB hso ha
  obtain ⟨lf, lh, lr, lc, -, -⟩ := r.lens
  obtain ⟨⟨S, hS, hcS, hSm⟩, ⟨T, hT, hcT, hTm⟩, hne, hN⟩ := r.ends
  have f0 := (r.first.1 S (by omega)).1
  have f1 := (r.first.1 (S + 1) (by omega)).1
  have f3 := r.first.2.2.2 S hSm
  obtain ⟨R, hR1, hR2, hP⟩ := s_Plan1 (m := m) (L := L) (by omega) (by omega)
  rw [hN, lh]
  refine Ok.bind.2 (Yp hP ?_)
  simp only [Xj]
  refine Ok.bind.2 (Yp (show Z0u ((L : Int) + 3 * m + R + 6) = some (⟨List.replicate (L + 3 * m + R + 6) 0⟩, 0) by rw [← s_cNew (k := L + 3 * m + R + 6) (by omega)]; exact congrArg _ (by omega)) ?_)
  simp only
  refine Ok.ite.2 ⟨fun h => absurd rfl h, fun _ => ?_⟩
  unfold Z4w Z3e Z4l Z2n
  simp only [ne_eq, not_true_eq_false, decide_false, Bool.false_eq_true, if_false]
  rw [lf, hm]
  refine Ok.gd.2 ⟨by constructor <;> omega, Ok.ite.2 ⟨fun h => absurd (of_decide_eq_true h) (by simp), fun _ => ?_⟩⟩
  refine Ok.bind.2 (Kv (fun s => ∃ k : Nat, s.2 = k ∧ k ≤ L ∧ s.1.length = L + 3 * m + R + 6 ∧ ∀ q, s.1.getD q 0 = if q < k then c.Cap.getD q 0 else 0) (fun s => (L - s.2).toNat) ⟨0, rfl, by omega, by simp, fun q => by rw [Z4f]; simp⟩ (by unfold Xm; simp only; omega) ?_)
  rintro ⟨xs, x⟩ ⟨k, e1, hk, hxl, hx⟩ P next exit
  simp only at e1 hxl hx next ⊢
  subst e1
  unfold Z4k
  rw [lc]
  simp only [Int.toNat_natCast]
  refine Ok.ite.2 ⟨fun h => ?_, fun h => Ok.some.2 (exit _ ?_)⟩
  · have cb := r.cap (j := k) (by omega)
    have cb2 := r.cap (r.rev (j := k) (by omega)).2.1
    have hz := hx k
    rw [if_neg (by omega)] at hz
    refine Ok.gd.2 ⟨by constructor <;> omega, Ok.gd.2 ⟨by constructor <;> omega, Ok.bind.2 (Yp (Jy (q := k) (by omega) (by omega) (by constructor <;> omega)) (Ok.gd.2 ⟨by constructor <;> omega, Ok.some.2 (next _ ⟨k + 1, by simp, by omega, by simp only [List.length_set]; exact hxl, fun q => ?_⟩ (by simp only; omega))⟩))⟩⟩
    simp only
    rw [Ws]
    by_cases c1 : k = q
    · subst c1; rw [if_pos ⟨rfl, by omega⟩, if_pos (by omega), hz]; omega
    · rw [if_neg (fun h => c1 h.1), hx q]
      by_cases c2 : q < k
      · rw [if_pos c2, if_pos (by omega)]
      · rw [if_neg c2, if_neg (by omega)]
  have ek : k = L := by omega
  subst ek
  clear next exit h
  unfold Z80
  rw [hS, lf]
  simp only [Int.toNat_natCast, f0]
  have out0 : Out c m k R S (fs c S) xs := ⟨hxl, fun q hq => by
      rw [hx q, if_pos hq, if_neg (by omega), if_neg (by omega)], fun v hv => by
      rw [hx _, if_neg (by omega)]; omega, fun q hq => by rw [hx _, if_neg (by omega)]⟩
  refine Ok.gd.2 ⟨by constructor <;> omega, Ok.bind.2 (Kv (fun s => ∃ a : Nat, s.2 = a ∧ fs c S ≤ a ∧ a ≤ fs c (S + 1) ∧ Out c m k R S a s.1) (fun s => (fs c (S + 1) - s.2).toNat) ⟨fs c S, rfl, by omega, by omega, out0⟩ (by unfold Xm; simp only; omega) ?_)⟩
  rintro ⟨ys, y⟩ ⟨a, e1, ha1, ha2, ho⟩ P next exit
  simp only at e1 ho next ⊢
  subst e1
  unfold Z2f
  rw [hS, lf, show (S : Int) + 1 = ((S + 1 : Nat) : Int) by omega]
  simp only [Int.toNat_natCast, f1, lc, lr, lh]
  refine Ok.gd.2 ⟨by constructor <;> omega, Ok.gd.2 ⟨by constructor <;> omega, Ok.ite.2 ⟨fun h => ?_, fun h => Ok.some.2 (exit _ ?_)⟩⟩⟩
  · have hak : a < k := by omega
    have k1 := r.rev hak
    have k2 := r.tlh hak
    have k3 := r.head hak
    have k4 := r.cap hak
    have k5 := r.cap k1.2.1
    have kc := hcp a hak
    have tk := (r.range hak hSm).1 ⟨ha1, by omega⟩
    obtain ⟨o1, o2⟩ := ho.step r hcp hSm ha1 (by omega)
    have yl := ho.len
    have x1 := ho.ex S hSm
    have x2 := ho.ex _ k3.2
    have z1 : (ys.set a 0).getD (rv c a) 0 = ys.getD (rv c a) 0 := Xq (by omega)
    have z2 : ((ys.set a 0).set (rv c a) (ys.getD (rv c a) 0 + c.Cap.getD a 0)).getD (k + S) 0 = ys.getD (k + S) 0 := by rw [Xq (by omega), Xq (by omega)]
    have z3 : (((ys.set a 0).set (rv c a) (ys.getD (rv c a) 0 + c.Cap.getD a 0)).set (k + S) (ys.getD (k + S) 0 + -c.Cap.getD a 0)).getD (k + hd c a) 0 = ys.getD (k + hd c a) 0 := by rw [Xq (by omega), Xq (by omega), Xq (by omega)]
    simp only [k1.1, k3.1]
    have q1 := Kj (l := ys) (i := (0 : Int) + a) (q := a) (v := 0) (by omega) (by omega)
    have q2 := Jy (l := ys.set a 0) (i := (0 : Int) + (rv c a : Nat)) (q := rv c a) (d := c.Cap.getD a 0) (by omega) (by rw [List.length_set]; omega) (by rw [z1]; constructor <;> omega)
    rw [z1] at q2
    have q3 := Jy (l := (ys.set a 0).set (rv c a) (ys.getD (rv c a) 0 + c.Cap.getD a 0)) (i := (k : Int) + S) (q := k + S) (d := -c.Cap.getD a 0) (by omega) (by simp only [List.length_set]; omega) (by rw [z2]; constructor <;> omega)
    rw [z2] at q3
    have q4 := Jy (l := ((ys.set a 0).set (rv c a) (ys.getD (rv c a) 0 + c.Cap.getD a 0)).set (k + S) (ys.getD (k + S) 0 + -c.Cap.getD a 0)) (i := (k : Int) + (hd c a : Nat)) (q := k + hd c a) (d := c.Cap.getD a 0) (by omega) (by simp only [List.length_set]; omega) (by rw [z3]; constructor <;> omega)
    rw [z3] at q4
    exact Ok.gd.2 ⟨by constructor <;> omega, Ok.gd.2 ⟨by constructor <;> omega, Ok.bind.2 (Yp q1 (Ok.gd.2 ⟨by constructor <;> omega, Ok.gd.2 ⟨by constructor <;> omega, Ok.bind.2 (Yp q2 (Ok.gd.2 ⟨by constructor <;> omega, Ok.gd.2 ⟨by constructor <;> omega, Ok.bind.2 (Yp q3 (Ok.gd.2 ⟨by constructor <;> omega, Ok.gd.2 ⟨by constructor <;> omega, Ok.bind.2 (Yp q4 (Ok.gd.2 ⟨by constructor <;> omega, Ok.some.2 (next _ ⟨a + 1, by simp, by omega, by omega, o2⟩ (by simp only; omega))⟩))⟩⟩))⟩⟩))⟩⟩))⟩⟩
  have ea : a = fs c (S + 1) := by omega
  subst ea
  clear next exit h
  have yl := ho.len
  have rs := ho.rs r hSm
  unfold Z7d
  rw [hS, hm]
  simp only
  refine Ok.gd.2 ⟨by constructor <;> omega, Ok.bind.2 (Yp (Kj (q := k + m + S) (by omega) (by omega)) ?_)⟩
  simp only
  have d0 : Dl c m k R S 0 (ys.set (k + m + S) m) [] := ⟨⟨by rw [List.length_set]; exact yl, fun v hv => by have := ho.ex v hv; rw [Xq (by omega)]; omega, fun v hv => by
      rw [Ws]; split
      · omega
      · rw [ho.nul _ (by omega)]; omega, fun q h1 h2 => by rw [Xq (by omega), ho.nul _ (by omega)]; omega, fun q h1 h2 => by rw [Xq (by omega), ho.nul _ (by omega)]; omega⟩, rs, fun v hv => by
      rw [Ws]
      by_cases c1 : S = v
      · subst c1; rw [if_pos ⟨rfl, by omega⟩, if_pos rfl]
      · rw [if_neg (fun h => c1 (by omega)), if_neg (fun h => c1 h.symm)]; exact ho.nul _ (by omega), by rw [Xq (by omega), ho.nul _ (by omega)]; omega, by simp⟩
  refine Ok.bind.2 (Kv (fun s => ∃ v : Nat, s.2.2 = v ∧ v ≤ m ∧ Dl c m k R S v s.1 s.2.1) (fun s => (m - s.2.2).toNat) ⟨0, rfl, by omega, d0⟩ (by unfold Xm; simp only; omega) ?_)
  rintro ⟨zs, dl, z⟩ ⟨v, e1, hvm, hd⟩ P next exit
  simp only at e1 hd next ⊢
  subst e1
  have bl := hd.bk.len
  have hbo := hd.bo
  have hdl := hd.dl
  have hT' := Zb0 (m := m) (L := k) (R := R) ⟨by omega, by omega, by omega⟩
  have go : v < m → ∀ b, Ok (Z01 (Xj m k R) zs dl v b) P := fun hvm' b => by
    unfold Z01
    rw [Int.tmod_one]
    obtain ⟨q, hq, hq1, hq2⟩ := Zbp (m := m) (L := k) (R := R) (x := zs.getD (k + 3 * m + 5) 0) ⟨by omega, by omega, by omega⟩ hR1
    have w1 := Us (l := zs) (i := ((k + 3 * m + 5 : Nat) : Int)) (q := k + 3 * m + 5) rfl (by omega)
    have w2 := Kj (l := zs) (i := (q : Int)) (q := q) (v := (v : Int)) rfl (by omega)
    have w3 := Kj (l := zs.set q v) (i := ((k + 3 * m + 5 : Nat) : Int)) (q := k + 3 * m + 5) (v := zs.getD (k + 3 * m + 5) 0 + 1) rfl (by rw [List.length_set]; omega)
    have w4 := Kj (l := (zs.set q v).set (k + 3 * m + 5) (zs.getD (k + 3 * m + 5) 0 + 1)) (i := (Xj m k R).Flag + v) (q := k + 2 * m + v) (v := 1) (by simp only [Xj]; omega) (by simp only [List.length_set]; omega)
    refine Ok.ite.2 ⟨fun _ => Ok.bind.2 (Yp hT' (Ok.bind.2 (Yp w1 (Ok.bind.2 (Yp hq (Ok.bind.2 (Yp w2 (Ok.bind.2 (Yp hT' (Ok.gd.2 ⟨by constructor <;> omega, Ok.bind.2 (Yp w3 (Ok.gd.2 ⟨by simp only [Xj]; constructor <;> omega, Ok.bind.2 (Yp w4 (Ok.gd.2 ⟨by simp only [List.length_append, List.length_cons, List.length_nil]; constructor <;> omega, Ok.gd.2 ⟨by constructor <;> omega, Ok.some.2 (next _ ⟨v + 1, by simp, by omega, ?_⟩ (by simp only; omega))⟩⟩))⟩))⟩)))))))))), fun _ => Ok.gd.2 ⟨by constructor <;> omega, Ok.some.2 (next _ ⟨v + 1, by simp, by omega, ⟨hd.bk, hd.rs, hd.hh, by simp only; omega, by simp only; omega⟩⟩ (by simp only; omega))⟩⟩
    have s1 := hd.set (k' := v) (d' := dl) (q := q) (x := (v : Int)) r (by omega) (fun _ => by omega) (fun _ => by omega) (fun _ => by omega) (by omega) hdl
    have s2 := s1.set (k' := v + 1) (d' := dl ++ [(v : Int)]) (q := k + 3 * m + 5) (x := zs.getD (k + 3 * m + 5) 0 + 1) r (by omega) (fun _ => by omega) (fun _ => by omega) (fun _ => by omega) (by omega) (by simp only [List.length_append, List.length_cons, List.length_nil]; omega)
    exact s2.set (k' := v + 1) (d' := dl ++ [(v : Int)]) (q := k + 2 * m + v) (x := 1) r (by omega) (fun _ => by omega) (fun _ => by omega) (fun _ => by omega) (by omega) (by simp only [List.length_append, List.length_cons, List.length_nil]; omega)
  unfold Z32
  rw [hm, hS, hT]
  refine Ok.ite.2 ⟨fun h => Ok.ite.2 ⟨fun _ => Ok.ite.2 ⟨fun _ => Ok.gd.2 ⟨by constructor <;> simp only <;> omega, Ok.bind.2 (Yp (Us (q := k + v) (by simp only; omega) (by omega)) (go (by omega) _))⟩, fun _ => go (by omega) _⟩, fun _ => go (by omega) _⟩, fun h => Ok.some.2 (exit _ ?_)⟩
  clear next exit go
  unfold Z7l
  have w1 := Kj (l := zs) (i := (k : Int) + 3 * m) (q := k + 3 * m) (v := (dl.length : Int)) (by omega) (by omega)
  have w2 := Kj (l := zs.set (k + 3 * m) (dl.length : Int)) (i := (k : Int) + 3 * m + 2) (q := k + 3 * m + 2) (v := 1) (by omega) (by rw [List.length_set]; omega)
  refine Ok.bind.2 (Yp w1 (Ok.bind.2 (Yp w2 ?_)))
  have s1 := hd.set (k' := v) (d' := dl) (q := k + 3 * m) (x := (dl.length : Int)) r (by omega) (fun _ => by omega) (fun _ => by omega) (fun _ => by omega) (by omega) hdl
  have s2 := s1.set (k' := v) (d' := dl) (q := k + 3 * m + 2) (x := 1) r (by omega) (fun _ => by omega) (fun _ => by omega) (fun _ => by omega) (by omega) hdl
  unfold Z76 Z3d Z2k Z3y Z36 Lr Z17 Z83
  simp only [hN, lh, ne_eq, not_true_eq_false, if_false, decide_false, Bool.false_eq_true, decide_eq_false (show ¬((0 : Int) < 0) by omega), decide_eq_false (show ¬((1 : Int) ≤ 0) by omega), decide_eq_false (show ¬(lim < 1) by omega), Option.bind_some]
  refine Ok.gd.2 ⟨by constructor <;> omega, Ok.some.2 ⟨rfl, c, k, R, S, r, ⟨hR1, hR2⟩, hcp, rfl, hSm, rfl, rfl, ?_, ?_⟩⟩
  · simp only; rw [← hN]
  · refine ⟨0, ?_, rfl, rfl, hl1, ⟨by simp only; omega, by simp only; omega⟩, ⟨rfl, by omega⟩, ⟨by simp only; omega, by simp only; omega⟩, ⟨by simp, fun v hv => ?_⟩, s2.bk, fun _ => s2.rs, .take rfl (PaI.new (by omega) (by omega) (by omega))⟩
    · simp only; rw [← hN]
    · rw [s2.hh v hv, Ws, Z4f]
      simp only [List.length_replicate]
      by_cases c1 : S = v
      · subst c1; rw [if_pos ⟨rfl, hSm⟩, if_pos rfl]
      · rw [if_neg (fun h => c1 h.1), if_neg (fun h => c1 h.symm)]; simp
end row
end Go.Acq
namespace Go.Acq
open Go
theorem Zks : Z7t = some true := by decide +kernel
theorem p_WorkerAlone {n : Net} {lim : Int} (hn : NetIn n) (hl : u8ok lim) : Z56 n lim = some true := by
 have hl0 : 0 ≤ lim ∧ lim ≤ 255 := hl
 have b1 := Int.tmod_lt_of_pos lim (show (0 : Int) < 40 by omega)
 have b2 := Int.tmod_nonneg 40 hl0.1
 refine Rz ?_
 unfold Z56 Z6a
 refine Ok.bind.2 (Ok.bind.2 (Ok.mono (s_Some hn (by omega) (by omega) (by omega) (by omega)) fun q hr => ?_))
 obtain ⟨m, hm, hso⟩ := hr.nat
 refine Ok.gd.2 ⟨by constructor <;> omega, Ok.gd.2 ⟨by constructor <;> omega, Ok.gd.2 ⟨by constructor <;> omega, Ok.bind.2 (Ok.mono (Zp4 hr hm (by omega) (by omega)) ?_)⟩⟩⟩
 rintro ⟨⟨pC, pL, pB, pW, pD⟩, ok⟩ ⟨h1, c, L, R, S, r, hR, hcp, hS, hSm, hC, hL, hW, hI⟩
 simp only at h1 hC hL hW hI ⊢
 subst h1 hC
 rw [eqW hW]
 refine Ok.some.2 ?_
 simp only [Bool.not_true, Bool.false_eq_true, if_false, eqW hW]
 have bd := r.bd
 rw [hm, hS]
 simp only [Int.toNat_natCast, List.length_replicate]
 refine Ok.gd.2 ⟨by constructor <;> omega, Ok.gd.2 ⟨by constructor <;> omega, Ok.bind.2 (Ok.mono (s_Play (p0 := ⟨pC, pL, pB, pW, pD⟩) r hR hcp hW rfl hL hm hI) ?_)⟩⟩
 rintro ⟨b, b2', w2, h2⟩ hb
 simp only at hb ⊢
 subst hb
 exact Ok.ite.2 ⟨fun _ => Ok.bind.2 (Yp Zks (Ok.some.2 rfl)), fun h => (by simp at h)⟩
end Go.Acq
