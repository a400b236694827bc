/- Texts of this claim, one behind the other. -/
import Derived.Test.YtnppjbofdkokkaaDoorA1
import Derived.Conc.LoneCalls
import Derived.Conc.LoneSelectN
import Derived.Conc.SmallLaws
import Derived.Laws.StructEq
import Derived.Scope
import Derived.ChangeKeysEq
import Derived.Shelf.Spec.SlicesInsertGrow
import Derived.Laws.LoneSync
import Derived.Laws.BytesString
import Derived.Laws.IdiomStrings
import Derived.Laws.Strings
import Derived.Lib.FieldsP
import Derived.Lib.ItoaNum
import Derived.Lib.ParseIntB
import Derived.Shelf.GgClosure.StringsIndexFunc
import Derived.Shelf.Strings.FieldsFuncGrows
import Derived.Shelf.Strings.FuncGrows
import Derived.Shelf.Strconv.ErrVarParseInt
import Derived.Shelf.Strconv.Itoa4
import Derived.Lib.Bytes2
import Derived.Handed
import Derived.SizedLaws
import Derived.Shelf.Vars
import Derived.Stop.LaidErr
import Derived.Lib.LaidTab
import Derived.LaidLaws
import Derived.Shelf.Bytes.SlIndexAt
import Derived.Shelf.Bytes.BufferK
import Derived.Shelf.Bytes.Bytes
import Derived.Test.YtnppjbofdkokkaaDoorChecked
set_option linter.unusedVariables false
set_option linter.unusedSimpArgs false
namespace Go.Acq
open Go Go.RowKit
section rules
variable {C : Cx} {ops : Array Oper} {Q : Exit → Act → World → Prop} {l : List Nat} {E : Env} {H R : Heap} {i d : Nat} {ty : TypeId} {Zd : String} {af : Array Edge} {g : Option (Nat × Bool)}
end rules
end Go.Acq
namespace Go.Acq
open Go Go.RowKit
section
variable {C : Cx} {Q : Exit → Act → World → Prop} {E : Env} {H : Heap} {c x y : Code}
end
end Go.Acq
namespace Go.Acq
open Go
end Go.Acq
namespace Go.Acq
open Go Go.RowKit
theorem Zl {α : Type} {x : α} {l : List α} : x ∈ x :: l := .head _
theorem Xk {α : Type} {a0 x : α} {l : List α} : x ∈ a0 :: x :: l := .tail _ Zl
theorem Xw {α : Type} {a0 a1 x : α} {l : List α} : x ∈ a0 :: a1 :: x :: l := .tail _ Xk
theorem Ui {α : Type} {a0 a1 a2 x : α} {l : List α} : x ∈ a0 :: a1 :: a2 :: x :: l := .tail _ Xw
theorem Wt {α : Type} {a0 a1 a2 a3 x : α} {l : List α} : x ∈ a0 :: a1 :: a2 :: a3 :: x :: l := .tail _ Ui
theorem mm5 {α : Type} {a0 a1 a2 a3 a4 x : α} {l : List α} : x ∈ a0 :: a1 :: a2 :: a3 :: a4 :: x :: l := .tail _ Wt
theorem mm6 {α : Type} {a0 a1 a2 a3 a4 a5 x : α} {l : List α} : x ∈ a0 :: a1 :: a2 :: a3 :: a4 :: a5 :: x :: l := .tail _ mm5
theorem mm7 {α : Type} {a0 a1 a2 a3 a4 a5 a6 x : α} {l : List α} : x ∈ a0 :: a1 :: a2 :: a3 :: a4 :: a5 :: a6 :: x :: l := .tail _ mm6
theorem mm8 {α : Type} {a0 a1 a2 a3 a4 a5 a6 a7 x : α} {l : List α} : x ∈ a0 :: a1 :: a2 :: a3 :: a4 :: a5 :: a6 :: a7 :: x :: l := .tail _ mm7
theorem mm9 {α : Type} {a0 a1 a2 a3 a4 a5 a6 a7 a8 x : α} {l : List α} : x ∈ a0 :: a1 :: a2 :: a3 :: a4 :: a5 :: a6 :: a7 :: a8 :: x :: l := .tail _ mm8
theorem mm10 {α : Type} {a0 a1 a2 a3 a4 a5 a6 a7 a8 a9 x : α} {l : List α} : x ∈ a0 :: a1 :: a2 :: a3 :: a4 :: a5 :: a6 :: a7 :: a8 :: a9 :: x :: l := .tail _ mm9
theorem mm11 {α : Type} {a0 a1 a2 a3 a4 a5 a6 a7 a8 a9 a10 x : α} {l : List α} : x ∈ a0 :: a1 :: a2 :: a3 :: a4 :: a5 :: a6 :: a7 :: a8 :: a9 :: a10 :: x :: l := .tail _ mm10
theorem mm12 {α : Type} {a0 a1 a2 a3 a4 a5 a6 a7 a8 a9 a10 a11 x : α} {l : List α} : x ∈ a0 :: a1 :: a2 :: a3 :: a4 :: a5 :: a6 :: a7 :: a8 :: a9 :: a10 :: a11 :: x :: l := .tail _ mm11
theorem mm13 {α : Type} {a0 a1 a2 a3 a4 a5 a6 a7 a8 a9 a10 a11 a12 x : α} {l : List α} : x ∈ a0 :: a1 :: a2 :: a3 :: a4 :: a5 :: a6 :: a7 :: a8 :: a9 :: a10 :: a11 :: a12 :: x :: l := .tail _ mm12
theorem Zh {x : Option Nat × Obj} {l : Heap} : Take x (x :: l) (l) := Take.head _ _
theorem Yl {a0 x : Option Nat × Obj} {l : Heap} : Take x (a0 :: x :: l) (a0 :: l) := Take.tail Zh
theorem Wj {a0 a1 x : Option Nat × Obj} {l : Heap} : Take x (a0 :: a1 :: x :: l) (a0 :: a1 :: l) := Take.tail Yl
theorem Uw {a0 a1 a2 x : Option Nat × Obj} {l : Heap} : Take x (a0 :: a1 :: a2 :: x :: l) (a0 :: a1 :: a2 :: l) := Take.tail Wj
theorem tk4 {a0 a1 a2 a3 x : Option Nat × Obj} {l : Heap} : Take x (a0 :: a1 :: a2 :: a3 :: x :: l) (a0 :: a1 :: a2 :: a3 :: l) := Take.tail Uw
theorem tk5 {a0 a1 a2 a3 a4 x : Option Nat × Obj} {l : Heap} : Take x (a0 :: a1 :: a2 :: a3 :: a4 :: x :: l) (a0 :: a1 :: a2 :: a3 :: a4 :: l) := Take.tail tk4
theorem tk6 {a0 a1 a2 a3 a4 a5 x : Option Nat × Obj} {l : Heap} : Take x (a0 :: a1 :: a2 :: a3 :: a4 :: a5 :: x :: l) (a0 :: a1 :: a2 :: a3 :: a4 :: a5 :: l) := Take.tail tk5
theorem tk7 {a0 a1 a2 a3 a4 a5 a6 x : Option Nat × Obj} {l : Heap} : Take x (a0 :: a1 :: a2 :: a3 :: a4 :: a5 :: a6 :: x :: l) (a0 :: a1 :: a2 :: a3 :: a4 :: a5 :: a6 :: l) := Take.tail tk6
theorem tk8 {a0 a1 a2 a3 a4 a5 a6 a7 x : Option Nat × Obj} {l : Heap} : Take x (a0 :: a1 :: a2 :: a3 :: a4 :: a5 :: a6 :: a7 :: x :: l) (a0 :: a1 :: a2 :: a3 :: a4 :: a5 :: a6 :: a7 :: l) := Take.tail tk7
theorem tk9 {a0 a1 a2 a3 a4 a5 a6 a7 a8 x : Option Nat × Obj} {l : Heap} : Take x (a0 :: a1 :: a2 :: a3 :: a4 :: a5 :: a6 :: a7 :: a8 :: x :: l) (a0 :: a1 :: a2 :: a3 :: a4 :: a5 :: a6 :: a7 :: a8 :: l) := Take.tail tk8
theorem Gone.refl (R : Heap) : List.Perm R ([] ++ R) := List.Perm.refl R
section rules
variable {C : Cx} {ops : Array Oper} {Q : Exit → Act → World → Prop} {l : List Nat} {E : Env} {H R : Heap} {i d : Nat} {ty : TypeId} {Zd : String} {af : Array Edge} {g : Option (Nat × Bool)}
end rules
section rules
variable {C : Cx} {ops : Array Oper} {Q : Act → Prop} {l : List Nat} {E : Env} {H R : Heap} {i d : Nat} {ty : TypeId} {Zd : String} {af : Array Edge} {g : Option (Nat × Bool)}
end rules
section draw
variable {C : Cx} {ops : Array Oper} {Q : Exit → Act → World → Prop} {E : Env} {H : Heap}
theorem Nu {A B Tl : Heap} (X Hx : Heap) : List.Perm (X ++ ((A ++ Tl) ++ (B ++ Hx))) (X ++ (A ++ (B ++ (Tl ++ Hx)))) := by
 refine List.Perm.append_left X ?_
 rw [List.append_assoc]
 refine List.Perm.append_left A ?_
 rw [← List.append_assoc, ← List.append_assoc]
 exact List.Perm.append_right Hx List.perm_append_comm
theorem ObQ.tail {S : List Sp} {W : Env} {Hc : Heap} {i : Nat} (Tl : Heap) (h : ObQ C ops Q S W Hc i) : ObQ C ops Q S W (Hc ++ Tl) i := by
 intro vs es Es Hx hr a w hf hi
 refine Nj (l2 := []) (fun e a w hne hq => ?_) (fun a w hq => ?_) [i] a w (h vs es Es (Tl ++ Hx) hr a w hf (hi.perm (Nu [] Hx)))
 · cases e <;> first | exact absurd rfl hne | exact hq
 ·
  obtain ⟨v, e', h1, h2, h3⟩ := hq
  exact ⟨v, e', h1, h2, h3.perm (Nu e' Hx).symm⟩
theorem ObE.tail {S : List Sp} {HR : Nat → List Value → Heap → Prop} {hd : List (List Nat)} {W : Env} {Hc : Heap} {i : Nat} (Tl : Heap) (h : ObE C ops Q S HR hd W Hc i) : ObE C ops Q S HR hd W (Hc ++ Tl) i := by
 intro vs es Es Hx hb hr hh a w hf hi
 refine Nj (l2 := []) (fun e a w hne hq => ?_) (fun a w hq => ?_) [i] a w (h vs es Es (Tl ++ Hx) hb hr hh a w hf (hi.perm (Nu hb Hx)))
 · cases e <;> first | exact absurd rfl hne | exact hq
 ·
  obtain ⟨v, hb', h1, h2, h3, h4⟩ := hq
  exact ⟨v, hb', h1, h2, h3, h4.perm (Nu hb' Hx).symm⟩
theorem ObsG.tail {S : List Sp} {HR : Nat → List Value → Heap → Prop} {hd : List (List Nat)} {W : Env} {Hc : Heap} (Tl : Heap) : ∀ {l : List Nat}, ObsG C ops Q S HR hd W Hc l → ObsG C ops Q S HR hd W (Hc ++ Tl) l
 | [], _ => trivial
 | i :: l, ⟨h1, h2⟩ => by
  refine ⟨?_, ObsG.tail Tl h2⟩
  cases he : Yt S i with
  | true => rw [he] at h1; exact ObE.tail Tl h1
  | false => rw [he] at h1; exact ObQ.tail Tl h1
end draw
end Go.Acq
namespace Go.Acq
open Go Go.RowKit
section
variable {C : Cx} {ops : Array Oper} {Q : Exit → Act → World → Prop} {l : List Nat} {i d : Nat} {E : Env} {H : Heap} {ty : TypeId} {Zd : String} {af : Array Edge} {g : Option (Nat × Bool)}
end
end Go.Acq
namespace Go.Acq
open Go
structure Chan where
  cap : Nat
  buf : List Int
  deriving DecidableEq
instance : Inhabited Chan := ⟨⟨0, []⟩⟩
def Chan.put (x : Chan) (v : Int) : Chan := ⟨x.cap, x.buf ++ [v]⟩
def Chan.cut (x : Chan) : Chan := ⟨x.cap, x.buf.tail⟩
end Go.Acq
namespace Go.Acq
open Go Go.RowKit Go.Conc
def wpK (P : Program) (c : Code) (Q : Exit → Act → World → Prop) (a : Act) (w : World) : Prop :=
  ∀ (b : Frame) (k : List Item) (cs : List Frame), b.kind ≠ .early → b.roundOf = none →
    ∃ e a' w', Q e a' w' ∧ ArrivesIn (Machine.fenced P (FW none)) P (lone (b.atR a (.code c :: k)) cs w) b k cs e a' w'
def wpOK (P : Program) (ops : Array Oper) (Q : Exit → Act → World → Prop) (l : List Nat) (a : Act) (w : World) : Prop :=
  ∀ (b : Frame) (k : List Item) (cs : List Frame), b.kind ≠ .early → b.roundOf = none →
    ∃ e a' w', Q e a' w' ∧ ArrivesIn (Machine.fenced P (FW none)) P (lone (b.atR a (.inRegion ops l :: k)) cs w) b k cs e a' w'
def TK (C : Cx) (c : Code) (Q : Exit → Act → World → Prop) (E : Env) (H : Heap) : Prop := ∀ a w, Fits C.n C.D E a → Inv C.w0 C.M w H → wpK C.P c Q a w
def TOK (C : Cx) (ops : Array Oper) (Q : Exit → Act → World → Prop) (l : List Nat) (E : Env) (H : Heap) : Prop := ∀ a w, Fits C.n C.D E a → Inv C.w0 C.M w H → wpOK C.P ops Q l a w
theorem Ja (n : Nat) : (FW none).room n := fun d hd => by cases hd
section
variable {C : Cx} {Q : Exit → Act → World → Prop} {E E' : Env} {H H' R : Heap} {x y c : Code} {ops : Array Oper} {l : List Nat} {i d : Nat} {ty : TypeId} {Zd : String} {af : Array Edge} {g : Option (Nat × Bool)}
theorem TK.ofT (hρ : C.ρ = none) (h : T C c Q E H) : TK C c Q E H := fun a w hf hi b k cs _ hro => by
 have := h a w hf hi
 rw [hρ] at this
 exact this b k cs hro trivial (Ja _)
theorem TK.seq (h : TK C x (Exit.then (wpK C.P y Q) Q) E H) : TK C (.seq x y) Q E H := fun a w hf hi b k cs hk hro => by
 have h0 : (lone (b.atR a (.code (.seq x y) :: k)) cs w).fenced C.P (FW none) := fenced_calm trivial (Ja (cs.length + 1 + 0)) rfl
 obtain ⟨e, a₁, w₁, hq, harr⟩ := h a w hf hi b (.code y :: k) cs hk hro
 cases e with
 | normal =>
  obtain ⟨e₂, a₂, w₂, hq₂, harr₂⟩ := hq b k cs hk hro
  exact ⟨e₂, a₂, w₂, hq₂, .of_steps (.head h0 stepR_seq harr) harr₂⟩
 | exit id => exact ⟨_, a₁, w₁, hq, .of_steps (.one h0 stepR_seq) (.pass (x := .code y) rfl (fun _ _ => .inl (by simp)) harr)⟩
 | goto l => exact ⟨_, a₁, w₁, hq, .of_steps (.one h0 stepR_seq) (.pass (x := .code y) rfl (fun _ _ => .inl (by simp)) harr)⟩
 | ret => exact ⟨_, a₁, w₁, hq, .of_steps (.one h0 stepR_seq) (.pass (x := .code y) rfl (fun _ _ => .inl (by simp)) harr)⟩
 | panic ch => exact ⟨_, a₁, w₁, hq, .of_steps (.one h0 stepR_seq) (.pass (x := .code y) rfl (fun _ _ => .inl (by simp)) harr)⟩
 | outgrown => exact ⟨_, a₁, w₁, hq, .of_steps (.one h0 stepR_seq) (.pass (x := .code y) rfl (fun _ _ => .inl (by simp)) harr)⟩
theorem TK.block {id : Nat} (h : TK C c (Exit.inBlock id Q) E H) : TK C (.block id c) Q E H := fun a w hf hi b k cs hk hro => by
 have h0 : (lone (b.atR a (.code (.block id c) :: k)) cs w).fenced C.P (FW none) := fenced_calm trivial (Ja (cs.length + 1 + 0)) rfl
 obtain ⟨e, a₁, w₁, hq, harr⟩ := h a w hf hi b (.inBlock id :: k) cs hk hro
 cases e with
 | normal => exact ⟨.normal, a₁, w₁, hq, .head h0 stepR_block (StepsIn.trans harr (.one (fenced_calm trivial (Ja (cs.length + 1 + 0)) rfl) stepR_inBlock))⟩
 | exit id' =>
  by_cases hid : id' = id
  ·
   simp only [Exit.inBlock, hid, if_true] at hq
   exact ⟨.normal, a₁, w₁, hq, .head h0 stepR_block (harr.1 k (by simp [exitTo, hid]))⟩
  ·
   simp only [Exit.inBlock, hid, if_false] at hq
   have this : (id == id') = false := by simp; exact fun h => hid h.symm
   have hx : exitTo id' (.inBlock id :: k) = exitTo id' k := by simp [exitTo, this]
   exact ⟨.exit id', a₁, w₁, hq, fun k' hk => .head h0 stepR_block (harr.1 k' (by rw [hx]; exact hk)),
    fun hr' hk => let ⟨k₁, h1, h2⟩ := harr.2 hr' (by rw [hx]; exact hk); ⟨k₁, h1, .head h0 stepR_block h2⟩⟩
 | goto l =>
  have hx : gotoIn l (.inBlock id :: k) = gotoIn l k := by simp [gotoIn]
  exact ⟨_, a₁, w₁, hq, fun k' hk => .head h0 stepR_block (harr.1 k' (by rw [hx]; exact hk)),
   fun hr' hk => let ⟨k₁, h1, h2⟩ := harr.2 hr' (by rw [hx]; exact hk); ⟨k₁, h1, .head h0 stepR_block h2⟩⟩
 | ret => exact ⟨_, a₁, w₁, hq, .of_steps (.one h0 stepR_block) harr⟩
 | panic ch => exact ⟨_, a₁, w₁, hq, .of_steps (.one h0 stepR_block) harr⟩
 | outgrown => exact ⟨_, a₁, w₁, hq, .of_steps (.one h0 stepR_block) harr⟩
theorem Z7h {o : Operand} {t : Bool} (ho : ev E o = some (.bool t)) (h : TK C (if t then x else y) Q E H) : TK C (.cond o x y) Q E H := fun a w hf hi b k cs hk hro =>
 let ⟨e, a', w', q, r⟩ := h a w hf hi b k cs hk hro; ⟨e, a', w', q, .of_steps (.one (fenced_calm trivial (Ja (cs.length + 1 + 0)) rfl) (stepR_cond (hf.ev ho))) r⟩
theorem TK.condT {o : Operand} {b : Bool} (ho : ev E o = some (.bool b)) (hb : b = true) (ht : TK C x Q E H) : TK C (.cond o x y) Q E H := by subst hb; exact Z7h ho ht
theorem TK.condF {o : Operand} {b : Bool} (ho : ev E o = some (.bool b)) (hb : b = false) (ht : TK C y Q E H) : TK C (.cond o x y) Q E H := by subst hb; exact Z7h ho ht
theorem TK.condPT {o : Operand} {p : Prop} {hp : Decidable p} (ho : ev E o = some (.bool (@decide p hp))) (hb : p) (ht : TK C x Q E H) : TK C (.cond o x y) Q E H := TK.condT ho (decide_eq_true hb) ht
theorem TK.condPF {o : Operand} {p : Prop} {hp : Decidable p} (ho : ev E o = some (.bool (@decide p hp))) (hb : ¬p) (ht : TK C y Q E H) : TK C (.cond o x y) Q E H := TK.condF ho (decide_eq_false hb) ht
theorem TK.skip (hρ : C.ρ = none) (h : X C Q .normal E H) : TK C .skip Q E H := TK.ofT hρ (T.skip h)
theorem TK.ret (hρ : C.ρ = none) (h : X C Q .ret E H) : TK C .ret Q E H := TK.ofT hρ (T.ret h)
theorem TK.weak (h : TK C c Q E' H') (hE : ∀ t v, find E' t = some v → find E t = some v) (hH : Pick H' H) : TK C c Q E H := fun a w hf hi => h a w (hf.weak hE) (hi.pick hH)
theorem TK.trim (h : AllF E' E) (k : TK C c Q E' H) : TK C c Q E H := fun a w hf hi => k a w (hf.weak fun t v hv => h.sub t v hv) hi
theorem TK.region {id : Nat} {ll : List Nat} (hl : List.range ops.size = ll) (h : TOK C ops Q ll E H) : TK C (.region id ops false) Q E H := fun a w hf hi b k cs hk hro => by
 subst hl
 exact let ⟨e, a', w', q, r⟩ := h a w hf hi b k cs hk hro; ⟨e, a', w', q, .of_steps (.one (fenced_calm trivial (Ja (cs.length + 1 + 0)) rfl) stepR_region) r⟩
theorem wpQ_K {P : Program} {K : World → Prop} (l2 : List Nat) (l : List Nat) : ∀ a : Act, Uo P ops K (fun a => ∀ w, K w → wpOK P ops Q l2 a w) l a → ∀ w, K w → wpOK P ops Q (l ++ l2) a w := by
 induction l with
 | nil => exact fun a h w hw => h w hw
 | cons i rest ih =>
  intro a h w hw b k cs hk hro
  have hb : (FW none).fn b.fn := trivial
  have hr := Ja (cs.length + 1 + 0)
  simp only [Uo] at h
  show ∃ e a' w', Q e a' w' ∧ ArrivesIn (Machine.fenced P (FW none)) P (lone (b.atR a (.inRegion ops (i :: (rest ++ l2)) :: k)) cs w) b k cs e a' w'
  cases ho : ops[i]? with
  | none =>
   simp only [ho] at h
   obtain ⟨e, a', w', hq, harr⟩ := ih a h w hw b k cs hk hro
   have hs := stepR_op_skip (P := P) (b := b) (a := a) (k := k) (cs := cs) (w := w) (ops := ops) (i := i) (rest := rest ++ l2) (by simp [ho])
   simp only [ho, Option.bind_none, Act.put] at hs
   exact ⟨e, a', w', hq, .of_steps (.one (fenced_noOper hb hr ho) hs) harr⟩
  | some o =>
   simp only [ho] at h
   obtain ⟨hnd, hns, h⟩ := h
   have h0 : (lone (b.atR a (.inRegion ops (i :: (rest ++ l2)) :: k)) cs w).fenced P (FW none) := fenced_oper hb hr ho (fun _ _ => trivial)
   by_cases hx : Region.wanted o (yielded ops a.tmps) = true
   ·
    rw [if_pos hx] at h
    obtain ⟨v, h1, h2⟩ := h
    have h1 := h1 w hw
    generalize he : (execOp a.eval o).run P w = z at h1
    unfold Gn at h1
    split at h1
    ·
     obtain ⟨rfl, rfl⟩ := h1
     obtain ⟨e, a', w', hq, harr⟩ := ih _ h2 _ hw b k cs hk hro
     refine ⟨e, a', w', hq, .of_steps (.one h0 ?_) harr⟩
     rw [Frame.atR_of_none hro, Frame.atR_of_none hro]
     exact step_solo_go rfl (stepG_value ho hx hk he)
    ·
     obtain ⟨rfl, h1⟩ := h1
     rename_i f args w0
     obtain ⟨e, w'', fr, ⟨rfl, hw''⟩, hsteps, hfn, hleave⟩ := ((callsIn_FW (ρ := none) (n := 0)).2 h1).2 (b.atR a (.inRegion ops (i :: (rest ++ l2)) :: k) :: cs) (Ja _)
     have henter : step P (lone (b.atR a (.inRegion ops (i :: (rest ++ l2)) :: k)) cs w0) = .next (lone (Frame.enter P f args .normal) (b.atR a (.inRegion ops (i :: (rest ++ l2)) :: k) :: cs) w0) :=
      step_lone_go (by rw [stepGR_op ho hx, Oper.semAt_eq _ _ _ hnd]; simp [stepG.apply, he, Frame.atR])
     have hl : (lone fr (b.atR a (.inRegion ops (i :: (rest ++ l2)) :: k) :: cs) w'').fenced P (FW none) := fenced_leaving (n := 0) trivial (Ja _) hleave
     obtain ⟨e, a', w₃, hq, harr⟩ := ih _ h2 _ hw'' b k cs hk hro
     refine ⟨e, a', w₃, hq, .of_steps (.head h0 henter (StepsIn.trans hsteps (.one hl ?_))) harr⟩
     have hfin : (b.atR a (.inRegion ops (i :: (rest ++ l2)) :: k)).finish v = b.atR (a.put o.dst v) (.inRegion ops (rest ++ l2) :: k) := by rw [Frame.finish_atR, ho]; rfl
     rw [← hfin]; exact step_leave_returned hleave
    · exact h1.elim
   ·
    rw [if_neg hx] at h
    obtain ⟨e, a', w', hq, harr⟩ := ih _ h w hw b k cs hk hro
    have hs := stepR_op_skip (P := P) (b := b) (a := a) (k := k) (cs := cs) (w := w) (ops := ops) (i := i) (rest := rest ++ l2) (by simp [ho]; simpa using hx)
    simp only [ho, Option.bind_some] at hs
    exact ⟨e, a', w', hq, .of_steps (.one h0 hs) harr⟩
theorem TOK.pre (l1 l2 : List Nat) {l : List Nat} (hl : l1 ++ l2 = l) (h : TQ C ops (fun a => ∀ w, Inv C.w0 C.M w H → wpOK C.P ops Q l2 a w) l1 E H) : TOK C ops Q l E H := fun a w hf hi => by
 subst hl
 exact wpQ_K l2 l1 a (h a hf) w hi
end
end Go.Acq
namespace Go.Acq
open Go Go.RowKit
section rules
variable {C : Cx} {ops : Array Oper} {Q : Exit → Act → World → Prop} {l : List Nat} {E : Env} {H R : Heap} {i d : Nat} {ty : TypeId} {Zd : String} {af : Array Edge} {g : Option (Nat × Bool)}
end rules
end Go.Acq
namespace Go.Acq
open Go Go.RowKit
section
variable {α : Type} {w0 w : World} {M M' : List Nat} {f : α → List Value} {s n c : Nat} {base : Option Addr} {xs ys : List α} {ob : Option Nat} {j : List Value} {H Hm R : Heap} {T' : TypeId} {fr : Nat × Nat}
def Seen (w0 : World) (M : List Nat) (f : α → List Value) (s : Nat) (base : Option Addr) (n c : Nat) (xs ys : List α) (ob : Option Nat) : Prop :=
  (base = sb ob ∧ ys = xs ∧ xs.length = n ∧ n ≤ c ∧ (ob = none → c = 0)) ∨ RS w0 M f s base n c xs
theorem Seen.own (hn : xs.length = n) (hc : n ≤ c) (hz : ob = none → c = 0) : Seen w0 M f s (sb ob) n c xs xs ob := .inl ⟨rfl, rfl, hn, hc, hz⟩
theorem Seen.ro (h : RS w0 M f s base n c xs) : Seen w0 M f s base n c xs [] none := .inr h
theorem Seen.len (h : Seen w0 M f s base n c xs ys ob) : xs.length = n := h.elim (fun h => h.2.2.1) (fun h => h.len)
theorem Seen.cap (h : Seen w0 M f s base n c xs ys ob) : n ≤ c := h.elim (fun h => h.2.2.2.1) (fun h => h.cap)
theorem Seen.nil (h : Seen w0 M f s base n c xs ys ob) (hb : base = none) : n = 0 := by
 rcases h with ⟨h1, h2, h3, h4, h5⟩ | h
 ·
  cases ob with
  | none => have := h5 rfl; omega
  | some b => rw [h1] at hb; cases hb
 · exact h.ro.nil hb
theorem Seen.rs (h : Seen w0 M f s base n c xs ys ob) (hf : ∀ x, (f x).length = s) (hi : Inv w0 M w H) (hm : (ob, Obj.cells (arr f ys j).toArray T' fr) ∈ H) : RS w [] f s base n c xs := by
 rcases h with ⟨rfl, rfl, h3, h4, h5⟩ | h
 · exact hi.rs hf hm h3 h4 h5
 · exact h.mono hi
theorem Seen.rsM (h : Seen w0 M f s base n c xs ys ob) (hf : ∀ x, (f x).length = s) (hs : 0 < s) (hi : Inv w0 M w H) (hp : List.Perm H (Hm ++ R)) (hM : Hm.filterMap (·.1) = M') (hm : (ob, Obj.cells (arr f ys j).toArray T' fr) ∈ R) : RS w M' f s base n c xs := by
 rcases h with ⟨rfl, rfl, h3, h4, h5⟩ | h
 · exact hi.rsM hf hp hM hm h3 h4 h5
 · exact h.monoM hs hi hp hM
end
section rules
variable {C : Cx} {ops : Array Oper} {Q : Exit → Act → World → Prop} {l : List Nat} {E : Env} {H R : Heap} {i d : Nat} {ty : TypeId} {Zd : String} {af : Array Edge} {g : Option (Nat × Bool)}
theorem X.obQ2 {S : List Sp} {W Es B B' : Env} {Hc Hx : Heap} {v v0 : Value} {e' De : Heap} {vl : List Value} {H' : Heap} (hs : Yh ops i = some d) (hr : Ub S i vl v e') (hH : Pick (e' ++ (Hc ++ (De ++ Hx))) H') (hB : B = B') :
    X C (fun e a w => match e with
      | .normal => ∃ v e', Ub S i vl v e' ∧ Fits C.n C.D (Kb (Yh ops i) v (B ++ (W ++ Es))) a ∧ Inv C.w0 C.M w (e' ++ (Hc ++ (De ++ Hx)))
      | e => Q e a w) .normal ((d, v) :: (d, v0) :: (B' ++ (W ++ Es))) H' := by
  subst hB
  exact fun _ _ hf hi => ⟨v, e', hr, by
    rw [hs]
    exact hf.weak (fun t u h => by
      have h : find ((d, v) :: (B ++ (W ++ Es))) t = some u := h
      rw [Wo] at h ⊢
      split
      · rename_i e; rw [if_pos e] at h; exact h
      · rename_i e; rw [if_neg e] at h; rw [Wo, if_neg e]; exact h), hi.pick hH⟩
end rules
end Go.Acq
namespace Go.Acq
end Go.Acq
namespace Go.Acq
open Go Go.RowKit
section
variable {α : Type} {q : IntKind} {f : α → Value} {k : Int × Int} {z v : α}
end
section
variable {P : Program} {w : World} {kt i : TypeId} {q : IntKind}
end
section rules
variable {C : Cx} {ops : Array Oper} {Q : Exit → Act → World → Prop} {l : List Nat} {E : Env} {H R : Heap} {i d : Nat} {ty : TypeId} {Zd : String} {af : Array Edge} {g : Option (Nat × Bool)}
variable {α : Type} {q : IntKind} {f : α → Value}
end rules
end Go.Acq
namespace Go.Acq
open Go
end Go.Acq
namespace Go.Acq
open Go Go.RowKit
section rules
variable {C : Cx} {ops : Array Oper} {Q : Exit → Act → World → Prop} {l : List Nat} {E : Env} {H R : Heap} {i d : Nat} {ty : TypeId} {Zd : String} {af : Array Edge} {g : Option (Nat × Bool)}
end rules
end Go.Acq
namespace Go.Acq
open Go Go.RowKit
def Kept (ob obK ob' : Option Nat) : Prop := obK = ob ∨ (obK = none ∧ ob' = ob)
section rules
variable {C : Cx} {ops : Array Oper} {Q : Exit → Act → World → Prop} {l : List Nat} {E : Env} {H R : Heap} {i d : Nat} {ty : TypeId} {Zd : String} {af : Array Edge} {g : Option (Nat × Bool)}
theorem Kept.rs {α : Type} {w0 w : World} {M : List Nat} {f : α → List Value} {s n c n2 c2 : Nat} {ob obK ob' : Option Nat} {xs ys : List α} {j j' : List Value} {T T' : TypeId} {fr fr' : Nat × Nat} (h : Kept ob obK ob') (hi : Inv w0 M w H) (hf : ∀ x, (f x).length = s)
    (hm2 : (ob', Obj.cells (arr f (xs ++ ys) j').toArray T' fr') ∈ H) (hmK : (obK, Obj.cells (arr f xs j).toArray T fr) ∈ H) (hn2 : (xs ++ ys).length = n2) (hc2 : n2 ≤ c2) (h02 : ob' = none → c2 = 0) (hn : xs.length = n) (hc : n ≤ c) (h0 : ob = none → c = 0) : RS w [] f s (sb ob) n c xs := by
  rcases h with rfl | ⟨rfl, rfl⟩
  · exact hi.rs hf hmK hn hc h0
  · have h1 := hi.rs hf hm2 hn2 hc2 h02
    have h2 := h1.take (p := (n : Int)) ⟨Int.natCast_nonneg n, by rw [List.length_append]; omega⟩
    rw [Int.toNat_natCast, List.take_left' hn] at h2
    exact ⟨h2.ro, fun _ _ _ => by simp, hc⟩
end rules
end Go.Acq
namespace Go.Acq
open Go Go.RowKit
section
variable {C : Cx} {ops : Array Oper} {Q : Exit → Act → World → Prop} {E : Env} {H : Heap}
def ObsG2 (C : Cx) (ops : Array Oper) (Q : Exit → Act → World → Prop) (S : List Sp) (HR : Nat → List Value → Heap → Prop) (hd : List (List Nat)) (W : Env) (Hc : Heap) : List Nat → Prop
  | [] => True
  | i :: l => (cond (Yt S i) (ObE2 C ops Q S HR hd W Hc i) (ObQ C ops Q S W Hc i)) ∧ ObsG2 C ops Q S HR hd W Hc l
theorem ObsG2.get {S : List Sp} {HR : Nat → List Value → Heap → Prop} {hd : List (List Nat)} {W : Env} {Hc : Heap} : ∀ {l : List Nat}, ObsG2 C ops Q S HR hd W Hc l → ∀ i, i ∈ l → (cond (Yt S i) (ObE2 C ops Q S HR hd W Hc i) (ObQ C ops Q S W Hc i))
 | [], _, i, h => by cases h
 | j :: l, ⟨h1, h2⟩, i, h => by
  rcases List.mem_cons.1 h with rfl | h
  · exact h1
  · exact ObsG2.get h2 i h
theorem Zbm {S : List Sp} {HR : Nat → List Value → Heap → Prop} {hd : List (List Nat)} {W : Env} {Hc : Heap} : ∀ {l : List Nat}, ObsG2 C ops Q S HR hd W Hc l → ObsG3 C ops Q S HR hd [] W Hc l
 | [], _ => trivial
 | _ :: _, ⟨h1, h2⟩ => ⟨h1, Zbm h2⟩
end
end Go.Acq
namespace Go.Acq
open Go Go.RowKit
structure Qu {α : Type} (ob : Option Nat) (base : Option Addr) (n c : Nat) (xs ys : List α) (N C : Nat) : Prop where
  ex : ∃ o, o + n = N ∧ o + c = C ∧ xs = ys.drop o ∧ (0 < c → base = (sb ob).map (·.add o))
section
variable {α : Type} {ob : Option Nat} {base : Option Addr} {n c N C : Nat} {xs ys : List α} {w w0 : World} {M M' : List Nat} {H Hm R : Heap} {f : α → List Value} {j : List Value} {T' : TypeId} {fr : Nat × Nat}
theorem Qu.len (h : Qu ob base n c xs ys N C) (hn : ys.length = N) : xs.length = n := by
 obtain ⟨o, h1, _, rfl, _⟩ := h.ex
 rw [List.length_drop]; omega
theorem Qu.le (h : Qu ob base n c xs ys N C) (hc : N ≤ C) : n ≤ c := by
 obtain ⟨o, h1, h2, _, _⟩ := h.ex
 omega
theorem Z8y (ob : Option Nat) : (sb ob).map (·.add 0) = sb ob := by cases ob <;> rfl
theorem Qu.self (ob : Option Nat) (ys : List α) (N C : Nat) : Qu ob (sb ob) N C ys ys N C := ⟨0, by omega, by omega, rfl, fun _ => (Z8y ob).symm⟩
theorem Qu.drop (h : Qu ob base n c xs ys N C) {p : Int} (hp : 0 ≤ p ∧ p ≤ (xs.length : Int)) (hn : ys.length = N) (hc : N ≤ C) : Qu ob (Ua base p.toNat c 1) (n - p.toNat) (c - p.toNat) (xs.drop p.toNat) ys N C := by
 have hl := h.len hn
 have hle := h.le hc
 obtain ⟨o, h1, h2, rfl, h4⟩ := h.ex
 refine ⟨o + p.toNat, by omega, by omega, by rw [List.drop_drop], fun h5 => ?_⟩
 unfold Ua
 rw [if_neg (by omega), h4 (by omega)]
 cases ob with
 | none => rfl
 | some b => simp [Addr.add_lit]
theorem Qu.nil (h : Qu ob base n c xs ys N C) (hc : N ≤ C) (hz : ob = none → C = 0) : base = none → n = 0 := by
 intro hb
 have hle := h.le hc
 obtain ⟨o, h1, h2, rfl, h4⟩ := h.ex
 rcases Nat.eq_zero_or_pos c with h0 | h0
 · omega
 ·
  have := h4 h0
  rw [hb] at this
  cases ob with
  | none => have := hz rfl; omega
  | some b => cases this
theorem Qu.rsM (h : Qu ob base n c xs ys N C) (hi : Inv w0 M w H) (hf : ∀ x, (f x).length = 1) (hp : List.Perm H (Hm ++ R)) (hM : Hm.filterMap (·.1) = M') (hm : (ob, Obj.cells (arr f ys j).toArray T' fr) ∈ R) (hn : ys.length = N) (hc : N ≤ C) (hz : ob = none → C = 0) : RS w M' f 1 base n c xs := by
 have hl := h.len hn
 have hle := h.le hc
 have h9 := h.nil hc hz
 have hr := hi.rsM hf hp hM hm hn hc hz
 obtain ⟨o, h1, h2, rfl, h4⟩ := h.ex
 rcases Nat.eq_zero_or_pos c with h0 | h0
 ·
  have hn0 : n = 0 := by omega
  subst hn0
  have hx : ys.drop o = [] := List.eq_nil_of_length_eq_zero hl
  rw [hx]
  exact ⟨⟨rfl, fun _ => rfl, hf, fun o c h => by simp at h⟩, fun _ _ h => by omega, by omega⟩
 ·
  have h5 := hr.drop (p := (o : Int)) ⟨Int.natCast_nonneg o, by omega⟩
  rw [Int.toNat_natCast] at h5
  unfold Ua at h5
  rw [if_neg (by omega), Nat.mul_one, ← h4 h0, show N - o = n by omega, show C - o = c by omega] at h5
  exact h5
theorem Qu.rs (h : Qu ob base n c xs ys N C) (hi : Inv w0 M w H) (hf : ∀ x, (f x).length = 1) (hm : (ob, Obj.cells (arr f ys j).toArray T' fr) ∈ H) (hn : ys.length = N) (hc : N ≤ C) (hz : ob = none → C = 0) : RS w [] f 1 base n c xs :=
 h.rsM hi hf (Hm := []) (R := H) (List.Perm.refl _) rfl hm hn hc hz
end
section quiet
variable {C : Cx} {ops : Array Oper} {Q : Act → Prop} {l : List Nat} {E : Env} {H R : Heap} {i d : Nat} {ty : TypeId} {Zd : String} {af : Array Edge} {g : Option (Nat × Bool)}
end quiet
section rules
variable {C : Cx} {ops : Array Oper} {Q : Exit → Act → World → Prop} {l : List Nat} {E : Env} {H R : Heap} {i d : Nat} {ty : TypeId} {Zd : String} {af : Array Edge} {g : Option (Nat × Bool)}
end rules
end Go.Acq
namespace Go.Acq
open Go Go.RowKit Go.Proofs Go.Shelf
section
variable {P : Program} {ρ : Ren} {w w0 : World} {M : List Nat} {H R : Heap} {b : Nat} {T : TypeId} {cs : Array Value}
theorem Inv.setCells (P : Program) (h : Inv w0 M w H) (ht : Take (some b, .cells cs T (0, 0)) H R) {o : Nat} {vs : List Value} (hfit : o + vs.length ≤ cs.size) (h1 : ∀ u, u ∈ vs → u.oneCell' = true) :
    Inv w0 M (w.setCells b o vs) ((some b, .cells (cs.toList.take o ++ vs ++ cs.toList.drop (o + vs.length)).toArray T (0, 0)) :: R) := by
  rw [Z6j (P := P) (h.own _ _ ht.mem) hfit h1]
  exact h.setRow ht
end
end Go.Acq
namespace Go.Acq
open Go Go.RowKit
section
variable {C : Cx} {ops : Array Oper} {Q : Exit → Act → World → Prop} {E : Env} {H : Heap}
end
end Go.Acq
namespace Go.Acq
open Go Go.RowKit
structure RowB where
  ob : Option Nat
  xs : List Int
  n : Nat
  c : Nat
  j : List Value
instance : Inhabited RowB := ⟨⟨none, [], 0, 0, []⟩⟩
def RowB.ok (r : RowB) : Prop := r.xs.length = r.n ∧ r.n ≤ r.c ∧ r.j.length = (r.c - r.n) * 1 ∧ (r.ob = none → r.c = 0)
def RowB.sm (r : RowB) : SM := (sb r.ob, r.n, r.c)
structure Fam (L : List RowB) (xss : List (List Int)) (n : Nat) : Prop where
  xs : L.map RowB.xs = xss
  ok : ∀ r, r ∈ L → r.ok
  len : xss.length = n
theorem RowB.ok0 : (default : RowB).ok := ⟨rfl, Nat.le_refl _, rfl, fun _ => rfl⟩
theorem Fam.replicate (n : Nat) : Fam (List.replicate n default) (List.replicate n []) n :=
 ⟨by rw [List.map_replicate]; rfl, fun r hr => by rw [(List.mem_replicate.1 hr).2]; exact RowB.ok0, List.length_replicate⟩
theorem Fam.lenL {L : List RowB} {xss : List (List Int)} {n : Nat} (h : Fam L xss n) : L.length = n := by rw [← h.len, ← h.xs, List.length_map]
theorem Fam.set {L : List RowB} {xss : List (List Int)} {n p : Nat} {r : RowB} (h : Fam L xss n) (hr : r.ok) : Fam (L.set p r) (xss.set p r.xs) n :=
 ⟨by rw [List.map_set, h.xs], fun q hq => by
  rcases List.mem_or_eq_of_mem_set hq with h1 | rfl
  · exact h.ok q h1
  · exact hr, by rw [List.length_set]; exact h.len⟩
section
variable {C : Cx} {Q : Exit → Act → World → Prop} {E : Env} {H : Heap} {e : Exit} {code : Code}
end
section ends
variable {C : Cx} {E : Env} {H N : Heap}
end ends
section rules
variable {C : Cx} {ops : Array Oper} {Q : Exit → Act → World → Prop} {l : List Nat} {E : Env} {H R : Heap} {i d : Nat} {ty : TypeId} {Zd : String} {af : Array Edge} {g : Option (Nat × Bool)}
theorem Fam.inb {L : List RowB} {xss : List (List Int)} {n : Nat} {p : Int} (h : Fam L xss n) (hp : inb p xss.length) : inb p (L.map RowB.sm).length := by
 rw [List.length_map, h.lenL, ← h.len]; exact hp
end rules
section draw
variable {C : Cx} {ops : Array Oper} {Q : Exit → Act → World → Prop} {E : Env} {H : Heap}
theorem ObE2.tail {S : List Sp} {HR : Nat → List Value → Heap → Prop} {hd : List (List Nat)} {W : Env} {Hc : Heap} {i : Nat} (Tl : Heap) (h : ObE2 C ops Q S HR hd W Hc i) : ObE2 C ops Q S HR hd W (Hc ++ Tl) i := by
 intro vs es Es Hx hb hr hh a w hf hi
 refine Nj (l2 := []) (fun e a w hne hq => ?_) (fun a w hq => ?_) [i] a w (h vs es Es (Tl ++ Hx) hb hr hh a w hf (hi.perm (Nu hb Hx)))
 · cases e <;> first | exact absurd rfl hne | exact hq
 ·
  obtain ⟨v, hb', e', h1, h2, h3, h4⟩ := hq
  refine ⟨v, hb', e', h1, h2, h3, h4.perm ?_⟩
  have e1 : hb' ++ (Hc ++ (e' ++ (Xm es (Yo S i) ++ (Tl ++ Hx)))) = hb' ++ (Hc ++ ((e' ++ Xm es (Yo S i)) ++ (Tl ++ Hx))) := by simp only [List.append_assoc]
  have e2 : hb' ++ ((Hc ++ Tl) ++ (e' ++ (Xm es (Yo S i) ++ Hx))) = hb' ++ ((Hc ++ Tl) ++ ((e' ++ Xm es (Yo S i)) ++ Hx)) := by simp only [List.append_assoc]
  rw [e1, e2]
  exact (Nu hb' Hx).symm
theorem ObsG2.tail {S : List Sp} {HR : Nat → List Value → Heap → Prop} {hd : List (List Nat)} {W : Env} {Hc : Heap} (Tl : Heap) : ∀ {l : List Nat}, ObsG2 C ops Q S HR hd W Hc l → ObsG2 C ops Q S HR hd W (Hc ++ Tl) l
 | [], _ => trivial
 | i :: l, ⟨h1, h2⟩ => by
  refine ⟨?_, ObsG2.tail Tl h2⟩
  cases he : Yt S i with
  | true => rw [he] at h1; exact ObE2.tail Tl h1
  | false => rw [he] at h1; exact ObQ.tail Tl h1
end draw
section ends
variable {C : Cx} {E : Env} {H H' N : Heap}
end ends
end Go.Acq
namespace Go.Acq
open Go Go.RowKit
section rules
variable {C : Cx} {ops : Array Oper} {Q : Act → Prop} {l : List Nat} {E : Env} {H R : Heap} {i d : Nat} {ty : TypeId} {Zd : String} {af : Array Edge} {g : Option (Nat × Bool)}
end rules
section ends
variable {C : Cx} {E : Env} {H N : Heap}
end ends
end Go.Acq
namespace Go.Acq
open Go Go.RowKit
section rules
variable {C : Cx} {ops : Array Oper} {Q : Exit → Act → World → Prop} {l : List Nat} {E : Env} {H R : Heap} {i d : Nat} {ty : TypeId} {Zd : String} {af : Array Edge} {g : Option (Nat × Bool)}
def ExtF (P : Program) (f : FuncId) (e : Array Value → Sem Value) : Prop :=
  ∃ fn, P.funcs[f]? = some fn ∧ (fn.name == "runtime.NumGoroutine") = false ∧ fn.body.isNone = true ∧ Extern.findNext fn = none ∧ Extern.find fn = some e
variable {x y z : Operand} {f : FuncId} {at' : Array TypeId} {ob : Option Nat} {n c : Nat} {p v u : Int} {xs : List Int} {j : List Value} {T : TypeId}
end rules
section rules
variable {C : Cx} {ops : Array Oper} {Q : Exit → Act → World → Prop} {l : List Nat} {E : Env} {H R : Heap} {i d : Nat} {ty : TypeId} {Zd : String} {af : Array Edge} {g : Option (Nat × Bool)}
end rules
end Go.Acq
namespace Go.Acq
open Go Go.RowKit
section rules
variable {C : Cx} {ops : Array Oper} {Q : Exit → Act → World → Prop} {l : List Nat} {E : Env} {H R : Heap} {i d : Nat} {ty : TypeId} {Zd : String} {af : Array Edge} {g : Option (Nat × Bool)}
end rules
end Go.Acq
namespace Go.Acq
open Go Go.RowKit
def wpU (P : Program) (ops : Array Oper) (Qn : Act → Prop) : List Nat → Act → Prop
  | [], a => Qn a
  | i :: rest, a => match ops[i]? with
    | none => wpU P ops Qn rest a
    | some o => (∀ c, o.op ≠ .defer c) ∧ (∀ cs b, o.op ≠ .select cs b) ∧
        if Region.wanted o (yielded ops a.tmps) = true then ∃ v, (∀ w, (execOp a.eval o).run P w = .ok (.value v) w) ∧ wpU P ops Qn rest (a.put o.dst v)
        else wpU P ops Qn rest (a.put o.dst undef)
def TU (C : Cx) (ops : Array Oper) (Qn : Act → Prop) (l : List Nat) (E : Env) : Prop := ∀ a, Fits C.n C.D E a → wpU C.P ops Qn l a
section
variable {C : Cx} {ops : Array Oper} {Q : Exit → Act → World → Prop} {E : Env} {H : Heap}
def actL (ops : Array Oper) (vs : Nat → Value) : List Nat → Act → Act
  | [], a => a
  | i :: l, a => actL ops vs l (a.put (Yh ops i) (vs i))
def StepQ (P : Program) (ops : Array Oper) (K : World → Prop) (vs : Nat → Value) (i : Nat) (a : Act) : Prop :=
  ∃ o, ops[i]? = some o ∧ (∀ c, o.op ≠ .defer c) ∧ (∀ cs b, o.op ≠ .select cs b) ∧
    ((Region.wanted o (yielded ops a.tmps) = true ∧ ∀ w, K w → Gn P K w (vs i) ((execOp a.eval o).run P w)) ∨ (Region.wanted o (yielded ops a.tmps) = false ∧ vs i = undef))
def StepU (P : Program) (ops : Array Oper) (vs : Nat → Value) (i : Nat) (a : Act) : Prop :=
  ∃ o, ops[i]? = some o ∧ (∀ c, o.op ≠ .defer c) ∧ (∀ cs b, o.op ≠ .select cs b) ∧
    ((Region.wanted o (yielded ops a.tmps) = true ∧ ∀ w, (execOp a.eval o).run P w = .ok (.value (vs i)) w) ∨ (Region.wanted o (yielded ops a.tmps) = false ∧ vs i = undef))
theorem StepU.q {P : Program} {K : World → Prop} {vs : Nat → Value} {i : Nat} {a : Act} (h : StepU P ops vs i a) : StepQ P ops K vs i a := by
 obtain ⟨o, h1, h2, h3, h4⟩ := h
 refine ⟨o, h1, h2, h3, h4.imp (fun h => ⟨h.1, fun w _ => ?_⟩) id⟩
 rw [h.2 w]; exact ⟨rfl, rfl⟩
theorem Z96 {m : Nat} {vs : Nat → Value} {a0 : Act} : ∀ (l : List Nat) (done : Nat → Bool) (a : Act), (∀ i, i ∈ l → i < m ∧ ∃ d, Yh ops i = some d ∧ ∀ j, j < m → j ≠ i → Yh ops j ≠ some d) →
    DoneQ ops m vs a0 done a → DoneQ ops m vs a0 (fun q => done q || l.any (Nat.beq q)) (actL ops vs l a)
  | [], done, a, _, h => by simpa [actL] using h
  | i :: l, done, a, hu, h => by
    obtain ⟨hi, d, hd, hud⟩ := hu i (.head _)
    have h1 := h.put hi hd hud
    have h2 := Z96 l _ _ (fun j hj => hu j (.tail _ hj)) h1
    simp only [actL]
    rw [hd]
    have e : (fun q : Nat => (if q = i then true else done q) || l.any (Nat.beq q)) = fun q => done q || (i :: l).any (Nat.beq q) := by
      funext q
      by_cases c : q = i
      · subst c; simp
      · have : Nat.beq q i = false := by
          cases hb : Nat.beq q i with
          | true => exact absurd (Nat.eq_of_beq_eq_true hb) c
          | false => rfl
        simp [c, this]
    rw [← e]; exact h2
theorem DoneQ.congr {m : Nat} {vs vs' : Nat → Value} {a0 a : Act} {da : Nat → Bool} (h : DoneQ ops m vs a0 da a) (he : ∀ j, j < m → da j = true → vs j = vs' j) : DoneQ ops m vs' a0 da a :=
 ⟨h.size, h.defers, fun j d hj hd hs hl => by rw [← he j hj hd]; exact h.has j d hj hd hs hl, h.old⟩
theorem DoneQ.cut {m c : Nat} {vs : Nat → Value} {a0 a : Act} {done : Nat → Bool} (h : DoneQ ops m vs a0 done a) (hc : Yh ops c = none) : DoneQ ops m vs a0 (fun q => if q = c then true else done q) a :=
 ⟨h.size, h.defers, fun j d hj hd hs hl => h.has j d hj (by
  have : j ≠ c := by rintro rfl; rw [hc] at hs; cases hs
  simpa [this] using hd) hs hl, fun t ht => h.old t fun j hj hd => ht j hj (by
  by_cases e : j = c <;> simp [e, hd])⟩
theorem TU.tail {l : List Nat} {H0 : Heap} (hH : H0 = H) (h : TO C ops Q l E H) : TU C ops (fun a => ∀ w, Inv C.w0 C.M w H0 → wpOpsIn (FW C.ρ) 0 C.P ops Q l a w) [] E := fun a hf w hi => h a w hf (hH ▸ hi)
variable {Qn : Act → Prop} {l : List Nat} {i d : Nat} {ty : TypeId} {Zd : String} {af : Array Edge} {g : Option (Nat × Bool)}
theorem TU.val {op : Op} {v : Value} (ho : ops[i]? = some ⟨some d, op, ty, Zd, af, g⟩) (hg : Zk ops E g = true) (hd : Nat.ble (d + 1) C.n = true) (hnd : ∀ c, op ≠ .defer c)
    (hr : ∀ a w, Fits C.n C.D E a → (execOp a.eval ⟨some d, op, ty, Zd, af, g⟩).run C.P w = .ok (.value v) w)
    (k : TU C ops Qn l ((d, v) :: E)) (hns : ∀ cs b, op ≠ .select cs b := by simp) : TU C ops Qn (i :: l) E := by
  intro a hf
  simp only [wpU, ho]
  refine ⟨hnd, hns, ?_⟩
  rw [if_pos (Z1z hf hg)]
  exact ⟨v, fun w => hr a w hf, k _ (hf.put hd v)⟩
theorem TU.move {x : Operand} {v : Value} (ho : ops[i]? = some ⟨some d, .move x, ty, Zd, af, g⟩) (hg : Zk ops E g = true) (hd : Nat.ble (d + 1) C.n = true) (hx : ev E x = some v)
    (kk : TU C ops Qn l ((d, v) :: E)) : TU C ops Qn (i :: l) E := TU.val ho hg hd (by simp) (fun a w hf => by simp [execOp, hf.ev hx]) kk
theorem TU.fieldAddr {s : TypeId} {x : Operand} {f o b p : Nat} (ho : ops[i]? = some ⟨some d, .fieldAddr s x f, ty, Zd, af, g⟩) (hg : Zk ops E g = true) (hd : Nat.ble (d + 1) C.n = true)
    (hx : ev E x = some (.pointer (some ⟨b, p, none⟩))) (hT : Vj C.P s f = some o) (kk : TU C ops Qn l ((d, .pointer (some ⟨b, p + o, none⟩)) :: E)) : TU C ops Qn (i :: l) E :=
  TU.val ho hg hd (by simp) (fun a w hf => by simp [execOp, hf.ev hx, Z46 hT]) kk
theorem TU.fieldAddr0 {s : TypeId} {x : Operand} {f o b : Nat} (ho : ops[i]? = some ⟨some d, .fieldAddr s x f, ty, Zd, af, g⟩) (hg : Zk ops E g = true) (hd : Nat.ble (d + 1) C.n = true)
    (hx : ev E x = some (.pointer (some ⟨b, 0, none⟩))) (hT : Vj C.P s f = some o) (kk : TU C ops Qn l ((d, .pointer (some ⟨b, o, none⟩)) :: E)) : TU C ops Qn (i :: l) E :=
  TU.fieldAddr ho hg hd hx hT (by rw [Nat.zero_add]; exact kk)
variable {Q : Exit → Act → World → Prop}
end
end Go.Acq
namespace Go.Acq
open Go Go.RowKit
section rules
variable {C : Cx} {ops : Array Oper} {Q : Exit → Act → World → Prop} {l : List Nat} {E : Env} {H R : Heap} {i d : Nat} {ty : TypeId} {Zd : String} {af : Array Edge} {g : Option (Nat × Bool)}
end rules
section control
variable {C : Cx} {Q : Exit → Act → World → Prop} {E : Env} {H : Heap}
def AQX (n : Nat) (w0 : World) (M : List Nat) (B : Env → Heap → Prop) : Exit → Act → World → Prop := fun e a w => e = .normal ∧ ∃ E1 H1, Fits n [] E1 a ∧ Inv w0 M w H1 ∧ B E1 H1
theorem Z4w {ρ : Option Nat} {P : Program} {n : Nat} {w0 : World} {M : List Nat} {B : Env → Heap → Prop} (E1 : Env) (H1 : Heap) (hE : AllF E1 E) (hH : Pick H1 H) (hB : B E1 H1) : X ⟨P, ρ, n, [], w0, M⟩ (AQX n w0 M B) .normal E H :=
 fun _ _ hf hi => ⟨rfl, E1, H1, hf.weak hE.sub, hi.pick hH, hB⟩
end control
end Go.Acq
namespace Go.Acq
open Go Go.RowKit
section
variable {C : Cx} {Q : Exit → Act → World → Prop} {E : Env} {H : Heap} {c x y : Code}
end
end Go.Acq
namespace Go.Acq
open Go Go.RowKit
abbrev Str := List UInt8
def bs (l : Str) : ByteArray := ⟨l.toArray⟩
def Ud (x : Str) : List Value := [.string (bs x)]
def ub (l : Str) : List Int := l.map fun b => (b.toNat : Int)
def bu (l : List Int) : Str := l.map fun n => UInt8.ofNat n.toNat
abbrev slok (n : Nat) : Prop := n ≤ 9223372036854775807
theorem Xv (x : Str) : (bs x).size = x.length := by simp [bs, ByteArray.size]
theorem Z3f (x : Str) : (bs x).data.toList = x := by simp [bs]
theorem bs_of (s : ByteArray) : bs s.data.toList = s := by cases s; simp [bs]
theorem bs_app (x y : Str) : bs x ++ bs y = bs (x ++ y) := by
 apply ByteArray.ext
 simp [bs]
theorem bs_get (x : Str) (i : Nat) : (bs x)[i]? = x[i]? := by
 show (if h : i < (bs x).size then some (bs x)[i] else none) = _
 by_cases h : i < x.length
 ·
  rw [dif_pos (by rw [Xv]; exact h), List.getElem?_eq_getElem h]
  simp [bs, ByteArray.getElem_eq_getElem_data]
 · rw [dif_neg (by rw [Xv]; exact h), List.getElem?_eq_none (by omega)]
theorem Z89 (x : Str) (l h : Nat) : (bs x).extract l h = bs ((x.take h).drop l) := by
 apply ByteArray.ext
 apply Array.ext'
 simp [bs, ByteArray.data_extract, List.drop_take]
theorem bu_ub (x : Str) : bu (ub x) = x := by
 unfold bu ub
 rw [List.map_map]
 conv => rhs; rw [← List.map_id x]
 apply List.map_congr_left
 intro b _
 simp
theorem Jb (x : Str) : (ub x).length = x.length := List.length_map ..
def Lb (P : Program) (t : TypeId) : Bool :=
  match P.underlying t with
  | some .string => true
  | _ => false
theorem Z3w {P : Program} {t : TypeId} (h : Lb P t = true) : P.underlying t = some .string := by
 unfold Lb at h
 split at h
 · assumption
 · cases h
theorem Z6b (x y : Str) : ((bs x).toList == (bs y).toList) = decide (x = y) := by
 have h : ∀ z : Str, (bs z).toList = z := fun z => by rw [ByteArray.toList_eq, Z3f]
 rw [h, h]
 by_cases e : x = y
 · subst e; simp
 · rw [decide_eq_false e]; simpa using e
section rules
variable {C : Cx} {ops : Array Oper} {Q : Exit → Act → World → Prop} {l : List Nat} {E : Env} {H R : Heap} {i d : Nat} {ty : TypeId} {Zd : String} {af : Array Edge} {g : Option (Nat × Bool)}
theorem Ga {t t2 : TypeId} {x y : Operand} {p q : Str} (h : slok (p ++ q).length) (q0_ : ops[i]? = some ⟨some d, .binOp .add t x y t2, ty, Zd, af, g⟩ ∧ Zk ops E g = true ∧ Nat.ble (d + 1) C.n = true ∧ ev E x = some (.string (bs p)) ∧ ev E y = some (.string (bs q))) (kk : TO C ops Q l ((d, .string (bs (p ++ q))) :: E) H) : TO C ops Q (i :: l) E H := have ⟨ho, hg, hd, hx, hy⟩ := q0_;
  Xi ho hg hd (by simp) (fun a w hf _ => by
    have h1 : ¬ ((((bs p).size + (bs q).size : Nat) : Int) > IntKind.i64.max) := by
      rw [Xv, Xv]; unfold slok at h; rw [List.length_append] at h
      show ¬ ((_ : Int) > 9223372036854775807)
      omega
    simp only [execOp, hf.ev hx, hf.ev hy, eqGuard_at_string, binOp, Op.stringOp, if_neg h1, bs_app]
    simp) kk
theorem Z53 {t t2 : TypeId} {x y : Operand} {p q : Str} (q0_ : ops[i]? = some ⟨some d, .binOp .eql t x y t2, ty, Zd, af, g⟩ ∧ Zk ops E g = true ∧ Nat.ble (d + 1) C.n = true ∧ ev E x = some (.string (bs p)) ∧ ev E y = some (.string (bs q))) (kk : TO C ops Q l ((d, .bool (decide (p = q))) :: E) H) : TO C ops Q (i :: l) E H := have ⟨ho, hg, hd, hx, hy⟩ := q0_;
  Xi ho hg hd (by simp) (fun a w hf _ => by
    simp only [execOp, hf.ev hx, hf.ev hy, eqGuard_at_string, binOp, Op.stringOp, Z6b]
    simp) kk
theorem Lf {t t2 : TypeId} {x y : Operand} {p q : Str} (q0_ : ops[i]? = some ⟨some d, .binOp .neq t x y t2, ty, Zd, af, g⟩ ∧ Zk ops E g = true ∧ Nat.ble (d + 1) C.n = true ∧ ev E x = some (.string (bs p)) ∧ ev E y = some (.string (bs q))) (kk : TO C ops Q l ((d, .bool (decide (¬p = q))) :: E) H) : TO C ops Q (i :: l) E H := have ⟨ho, hg, hd, hx, hy⟩ := q0_;
  Xi ho hg hd (by simp) (fun a w hf _ => by
    simp only [execOp, hf.ev hx, hf.ev hy, eqGuard_at_string, binOp, Op.stringOp, Z6b]
    simp) kk
theorem Z79 {t : TypeId} {at' : Array TypeId} {x : Operand} {p : Str}
    (q0_ : ops[i]? = some ⟨some d, .call ⟨.builtin .len, #[x], at'⟩, ty, Zd, af, g⟩ ∧ Zk ops E g = true ∧ Nat.ble (d + 1) C.n = true ∧ at'[0]? = some t ∧ ev E x = some (.string (bs p))) (ht : Lb C.P t = true) (kk : TO C ops Q l ((d, .int .i64 (p.length : Int)) :: E) H) : TO C ops Q (i :: l) E H := have ⟨ho, hg, hd, hat, hx⟩ := q0_;
  Xi ho hg hd (by simp) (fun a w hf _ => by
    simp [execOp, resolve, invoke, builtin, hf.ev hx, Builtin.len_, hat, run_underlying (Z3w ht), goInt, Xv]) kk
theorem TO.ixT {t : TypeId} {x y : Operand} {p : Str} {k : IntKind} {q : Int} (h : inb q p.length) (q0_ : ops[i]? = some ⟨some d, .index t x y, ty, Zd, af, g⟩ ∧ Zk ops E g = true ∧ Nat.ble (d + 1) C.n = true ∧ ev E x = some (.string (bs p)) ∧ ev E y = some (.int k q)) (ht : Lb C.P t = true) (kk : TO C ops Q l ((d, .int .u8 ((p.getD q.toNat 0).toNat : Int)) :: E) H) : TO C ops Q (i :: l) E H := have ⟨ho, hg, hd, hx, hy⟩ := q0_;
  Xi ho hg hd (by simp) (fun a w hf _ => by
    have h2 := Ug h
    have h3 : p.getD q.toNat 0 = p[q.toNat] := by rw [List.getD_eq_getElem?_getD, List.getElem?_eq_getElem h2]; rfl
    simp [execOp, hf.ev hx, hf.ev hy, Instr.index, asIntOf, run_underlying (Z3w ht), h.1, bs_get, List.getElem?_eq_getElem h2, h3]) kk
theorem Z34 {α : Type} {f : α → List Value} {t : TypeId} {x : Operand} {base : Option Addr} {n c : Nat} {p : Int} {xs : List α} {v : Value} (dflt : α) (hr : RS C.w0 C.M f 1 base n c xs) (hp : inb p xs.length) (q0_ : ops[i]? = some ⟨some d, .load t x, ty, Zd, af, g⟩ ∧ Zk ops E g = true ∧ Nat.ble (d + 1) C.n = true ∧ ev E x = some (.pointer (some (ea base (p.toNat * 1)))) ∧ f (xs.getD p.toNat dflt) = [v]) (hT : Xa C.P t = true)
    (kk : TO C ops Q l ((d, v) :: E) H) : TO C ops Q (i :: l) E H := have ⟨ho, hg, hd, hx, hv⟩ := q0_; TO.ldFR (q := 0) dflt hr hp (by rw [hv]; rfl) ho hg hd hx hT kk
theorem Z63 {α : Type} {f : α → List Value} {t T' : TypeId} {x : Operand} {ob : Option Nat} {n c : Nat} {p : Int} {xs : List α} {j : List Value} {fr : Nat × Nat} {v : Value} (dflt : α) (hf : ∀ x, (f x).length = 1) (h0 : ob = none → c = 0) (hc : n ≤ c) (hn : xs.length = n) (hp : inb p xs.length) (q0_ : ops[i]? = some ⟨some d, .load t x, ty, Zd, af, g⟩ ∧ Zk ops E g = true ∧ Nat.ble (d + 1) C.n = true ∧ ev E x = some (.pointer (some (ea (sb ob) (p.toNat * 1)))) ∧ f (xs.getD p.toNat dflt) = [v]) (hT : Xa C.P t = true) (hm : (ob, Obj.cells (arr f xs j).toArray T' fr) ∈ H)
    (kk : TO C ops Q l ((d, v) :: E) H) : TO C ops Q (i :: l) E H := have ⟨ho, hg, hd, hx, hv⟩ := q0_;
  TO.load ho hg hd hx hT (fun w hi => by
    have hR := hi.rs hf hm hn hc h0
    have := hR.ro.at dflt (o := p.toNat) (c := 0) (Ug hp) (by omega)
    rw [hv] at this
    simpa using this) kk
theorem Z6z : ∀ (l : List Int) (r : ByteArray), l.foldl (fun r n => r.push (UInt8.ofNat n.toNat)) r = r ++ bs (bu l)
 | [], r => by
  apply ByteArray.ext
  simp [bs, bu]
 | n :: l, r => by
  rw [List.foldl_cons, Z6z l]
  apply ByteArray.ext
  simp [bs, bu, ByteArray.push]
theorem Z4p {s t e : TypeId} {x : Operand} {base : Option Addr} {n c : Nat} {xs : List Int} (q0_ : ops[i]? = some ⟨some d, .convert s t x, ty, Zd, af, g⟩ ∧ Zk ops E g = true ∧ Nat.ble (d + 1) C.n = true ∧ ev E x = some (.slice base n c)) (hs : Yu C.P s = some e) (he : C.P.underlying e = some (.int .u8)) (ht : Lb C.P t = true)
    (hr : ∀ w, Inv C.w0 C.M w H → RS w [] (intC .u8) 1 base n c xs)
    (kk : TO C ops Q l ((d, .string (bs (bu xs))) :: E) H) : TO C ops Q (i :: l) E H := have ⟨ho, hg, hd, hx⟩ := q0_;
  Xi ho hg hd (by simp) (fun a w hf hi => by
    have hR := (hr w hi).ro
    have h1 := run_convert_bytes_string (P := C.P) w s t e base n c (Vz hs) he (Z3w ht)
    have h2 : (Conv.bytesToString (.slice base n c)).run C.P w = .ok (.string (bs (bu xs))) w := by
      cases base with
      | none =>
        have h3 := hR.nil rfl
        have h4 : xs = [] := List.eq_nil_of_length_eq_zero (by rw [hR.len]; exact h3)
        subst h4
        rfl
      | some ad =>
        have hl := run_loadCells_list (P := C.P) w ad (xs.map (Value.int .u8)) (fun q v hq => by
          have hql : q < xs.length := by have := (List.getElem?_eq_some_iff.1 hq).1; simpa using this
          have := hR.at 0 (o := q) (c := 0) hql (by omega)
          rw [List.getElem?_map, List.getElem?_eq_getElem hql] at hq
          simp only [ea, Option.getD_some, Nat.mul_one, Nat.add_zero] at this
          rw [this, List.getD_eq_getElem?_getD, List.getElem?_eq_getElem hql]
          simpa [intC] using hq)
        rw [List.length_map, hR.len] at hl
        rw [run_bytesToString w ad n c xs hl, Z6z]
        rfl
    simp only [execOp, hf.ev hx]
    simp [h1, h2]) kk
end rules
section quiet
variable {C : Cx} {ops : Array Oper} {Q : Act → Prop} {l : List Nat} {E : Env} {H R : Heap} {i d : Nat} {ty : TypeId} {Zd : String} {af : Array Edge} {g : Option (Nat × Bool)}
theorem Z61 {t t2 : TypeId} {x y : Operand} {p q : Str} (h : slok (p ++ q).length) (q0_ : ops[i]? = some ⟨some d, .binOp .add t x y t2, ty, Zd, af, g⟩ ∧ Zk ops E g = true ∧ Nat.ble (d + 1) C.n = true ∧ ev E x = some (.string (bs p)) ∧ ev E y = some (.string (bs q))) (kk : TQ C ops Q l ((d, .string (bs (p ++ q))) :: E) H) : TQ C ops Q (i :: l) E H := have ⟨ho, hg, hd, hx, hy⟩ := q0_;
  Ky ho hg hd (by simp) (fun a w hf _ => by
    have h1 : ¬ ((((bs p).size + (bs q).size : Nat) : Int) > IntKind.i64.max) := by
      rw [Xv, Xv]; unfold slok at h; rw [List.length_append] at h
      show ¬ ((_ : Int) > 9223372036854775807)
      omega
    simp only [execOp, hf.ev hx, hf.ev hy, eqGuard_at_string, binOp, Op.stringOp, if_neg h1, bs_app]
    simp) kk
theorem Z1h {α : Type} {f : α → List Value} {t : TypeId} {x : Operand} {base : Option Addr} {n c : Nat} {p : Int} {xs : List α} {v : Value} (dflt : α) (hr : RS C.w0 C.M f 1 base n c xs) (hp : inb p xs.length) (q0_ : ops[i]? = some ⟨some d, .load t x, ty, Zd, af, g⟩ ∧ Zk ops E g = true ∧ Nat.ble (d + 1) C.n = true ∧ ev E x = some (.pointer (some (ea base (p.toNat * 1)))) ∧ f (xs.getD p.toNat dflt) = [v]) (hT : Xa C.P t = true)
    (kk : TQ C ops Q l ((d, v) :: E) H) : TQ C ops Q (i :: l) E H := have ⟨ho, hg, hd, hx, hv⟩ := q0_; TQ.ldFR (q := 0) dflt hr hp (by rw [hv]; rfl) ho hg hd hx hT kk
end quiet
end Go.Acq
namespace Go.Acq
open Go Go.RowKit
def YCR {S X V : Type} (P : Program) (l : Nat) (en : World → List Nat → V → List Value → Prop) (y : S → V → Option (S ⊕ X)) (J : S ⊕ X → Heap → Prop) (EE : Heap → Prop) (w : World) (M : List Nat) : Prop :=
  ∀ (s : S) (v : V) (r : S ⊕ X), y s v = some r → ∀ (w' : World) (Hs HE : Heap) (vals : List Value), J (.inl s) Hs → EE HE → Inv w M w' (Hs ++ HE) → en w' (ids (Hs ++ HE)) v vals →
    YieldAt (FW none) 0 P l vals.toArray w' fun e w'' => ∃ Hs', J r Hs' ∧ e = .returned (.bool r.isLeft) ∧ Inv w' (ids (Hs ++ HE)) w'' (Hs' ++ HE)
theorem YCR.rebase {S X V : Type} {P : Program} {l : Nat} {en : World → List Nat → V → List Value → Prop} {y : S → V → Option (S ⊕ X)} {J : S ⊕ X → Heap → Prop} {EE : Heap → Prop} {w w2 : World} {M : List Nat} {H1 R : Heap} (h : YCR P l en y J EE w M) (hi : Inv w M w2 (H1 ++ R)) :
    YCR P l en y J EE w2 (ids H1) := fun s v r hy w' Hs HE vals hJ hE hi2 hen =>
  h s v r hy w' Hs HE vals hJ hE (hi.join (Hm := H1) (R := R) (M' := ids H1) (List.Perm.refl _) (fun m hm => hm) hi2).left hen
section rules
variable {C : Cx} {ops : Array Oper} {Q : Exit → Act → World → Prop} {l : List Nat} {E : Env} {H R : Heap} {i d : Nat} {ty : TypeId} {Zd : String} {af : Array Edge} {g : Option (Nat × Bool)}
theorem Z4u {S X V : Type} {lp : Nat} {en : World → List Nat → V → List Value → Prop} {y : S → V → Option (S ⊕ X)} {J : S ⊕ X → Heap → Prop} {EE : Heap → Prop} {x : Operand} {xs : Array Operand} {at' : Array TypeId} {t r : S ⊕ X} {v : V} {vals : List Value} {Ho HE Hs : Heap}
    (hY : YCR C.P lp en y J EE C.w0 C.M) (hr : Ju y t v = some r) (hJ : J t Hs) (hE : EE HE)
    (q0_ : ops[i]? = some ⟨some d, .call ⟨.value x, xs, at'⟩, ty, Zd, af, g⟩ ∧ Zk ops E g = true ∧ Nat.ble (d + 1) C.n = true ∧ ev E x = some (.func (.yield lp) #[] #[]) ∧ Vp E xs.toList = some vals) (hH : List.Perm H (HE ++ R)) (hR : R = Ho ++ Hs)
    (hen : ∀ w, Inv C.w0 C.M w H → List.Perm H ((Hs ++ HE) ++ Ho) → en w (ids (Hs ++ HE)) v vals)
    (kk : ∀ Hs', J r Hs' → TO C ops Q l ((d, .bool r.isLeft) :: E) (HE ++ (Ho ++ Hs'))) : TO C ops Q (i :: l) E H := by
  obtain ⟨ho, hg, hd, hx, hxs⟩ := q0_
  obtain ⟨s, rfl, hys⟩ := Z9f hr
  refine Jd ho hg (by simp) fun a w hf hi => ?_
  subst hR
  have hpm : ∀ Hx : Heap, List.Perm (HE ++ (Ho ++ Hx)) ((Hx ++ HE) ++ Ho) := fun Hx => by
    rw [← List.append_assoc, List.append_assoc Hx]
    exact List.perm_append_comm
  have hi' := hi.perm (hH.trans (hpm Hs))
  obtain ⟨fn, tmps, assign, body, hrun, hround⟩ := hY s v r hys w Hs HE vals hJ hE hi'.left (hen w hi (hH.trans (hpm Hs)))
  have e1 : xs.map a.eval = vals.toArray := by apply Array.ext'; simpa using Jm hf hxs
  have : (execOp a.eval ⟨some d, .call ⟨.value x, xs, at'⟩, ty, Zd, af, g⟩).run C.P w = .ok (.round lp fn tmps assign body) w := by
    simp [execOp, resolve, Deferred.ofValue, invoke, hf.ev hx, e1, hrun]
  rw [this]
  rw [Oper.uponIn_round]
  have hround' : RoundIn (FW C.ρ) (0 - 1) C.P lp fn tmps assign body w _ := hround
  refine ⟨by simp [FW], hround'.mono ?_⟩
  rintro e w' ⟨Hs', hJ', rfl, hi2⟩
  have hk := kk Hs' hJ'
  unfold TO at hk
  exact hk _ _ (hf.put hd _) (((hi'.join (List.Perm.refl _) (fun m hm => hm) hi2)).perm (hpm Hs').symm)
end rules
section control
variable {C : Cx} {Q : Exit → Act → World → Prop} {E : Env} {H : Heap}
theorem Z8t {S X V : Type} (hρ : C.ρ = none) {gop : Operand} {ps : Array Tmp} {assign body : Code} {f : FuncId} {fs cs : Array Value} (hF : Yb C.P f = true) (hg : ev E gop = some (.func (.func f) fs cs))
    (hps : ps.toList.all (fun p => Nat.ble (p + 1) C.n) = true) (en : World → List Nat → V → List Value → Prop) (hlen : ∀ w M v vals, en w M v vals → vals.length = ps.size)
    (y : S → V → Option (S ⊕ X)) (J : S ⊕ X → Heap → Prop) (EE : Heap → Prop) (EO : Heap → Prop) (jmp : X → Code) (s0 : S) (t : S ⊕ X) (Hs0 HE0 R : Heap) (hJ : J (.inl s0) Hs0) (hH : Pick ((Hs0 ++ HE0) ++ R) H)
    (it : ∀ (lp : Nat) (w : World) (J' : S ⊕ X → Heap → Prop) (H0 : Heap), J' (.inl s0) H0 → Inv w (ids (H0 ++ HE0)) w (H0 ++ HE0) → YCR C.P lp en y J' EE w (ids (H0 ++ HE0)) → ∀ lo, Inv C.w0 C.M w (((some lp, lo) :: (Hs0 ++ HE0)) ++ R) → H0 = (some lp, lo) :: Hs0 →
      Fnc C.P f (fs ++ #[.func (.yield lp) #[] #[]] ++ cs) w (ids (H0 ++ HE0)) (fun v N => v = .tuple #[] ∧ ∃ HE' Hs', N = HE' ++ Hs' ∧ J' t Hs' ∧ EO HE'))
    (round : ∀ (lp : Nat) (w' : World) (s : S) (v : V) (r : S ⊕ X) (Hs HE : Heap) (vals : List Value), y s v = some r → J (.inl s) Hs → EE HE → en w' (ids ((some lp, mkO) :: (Hs ++ HE))) v vals → Inv w' (ids (Hs ++ HE)) w' (Hs ++ HE) → Inv C.w0 C.M w' ((Hs ++ HE) ++ R) →
      T ⟨C.P, some lp, C.n, [], w', ids (Hs ++ HE)⟩ assign (AQX C.n w' (ids (Hs ++ HE)) fun E1 H1 => ∀ w2, Inv w2 (ids H1) w2 H1 → Inv C.w0 C.M w2 (H1 ++ R) → Inv w' (ids ((some lp, mkO) :: (Hs ++ HE))) w2 H1 → T ⟨C.P, some lp, C.n, [], w2, ids H1⟩ body (RQ (fun r Hq => ∃ Hq', Hq = Hq' ++ HE ∧ J r Hq') jmp r w2 (ids H1)) E1 H1) (putPs ps.toList vals E) (Hs ++ HE))
    (next : ∀ s, t = .inl s → ∀ rr Hs HE, J (.inl s) Hs → EO HE → Acq.X { C with D := mkD rr :: C.D } Q .normal E ((Hs ++ HE) ++ ((some rr, mkO) :: R)))
    (exit : ∀ x, t = .inr x → ∀ rr Hs HE, J (.inr x) Hs → EO HE → T { C with D := mkD rr :: C.D } (jmp x) Q E ((Hs ++ HE) ++ ((some rr, mkO) :: R))) :
    T C (.rangeFunc gop ps assign body) Q E H := by
  intro a w hf hi0
  have hi := hi0.pick hH
  refine wpIn_rangeFunc fun fn _ => ?_
  have hFW : (FW C.ρ).round = none := by rw [hρ]; rfl
  rw [hFW]
  obtain ⟨rr, hrr⟩ : ∃ rr, w.heap.size = rr := ⟨_, rfl⟩
  obtain ⟨wa, hwa⟩ : ∃ wa, w.alloc mkO = wa := ⟨_, rfl⟩
  obtain ⟨lp, hlp⟩ : ∃ lp, wa.heap.size = lp := ⟨_, rfl⟩
  obtain ⟨lo, hlo⟩ : ∃ lo, recO fn a.tmps ps assign body rr .ready none = lo := ⟨_, rfl⟩
  obtain ⟨wb, hwb⟩ : ∃ wb, wa.alloc lo = wb := ⟨_, rfl⟩
  have hia : Inv C.w0 C.M wa ((some rr, mkO) :: ((Hs0 ++ HE0) ++ R)) := by rw [← hwa, ← hrr]; exact hi.alloc mkO
  have hib : Inv C.w0 C.M wb ((some lp, lo) :: (some rr, mkO) :: ((Hs0 ++ HE0) ++ R)) := by rw [← hwb, ← hlp]; exact hia.alloc lo
  have hlp2 : w.heap.size + 1 = lp := by rw [← hlp, ← hwa]; exact (World.size_alloc ..).symm
  have hib' : Inv C.w0 C.M wb (((some lp, lo) :: (Hs0 ++ HE0)) ++ ((some rr, mkO) :: R)) := hib.perm (by
    rw [List.cons_append]
    exact List.Perm.cons _ List.perm_middle.symm)
  refine ⟨lp, [mkD rr], wb, { target := .fn (.func f) cs, args := fs.push (.func (.yield lp) #[] #[]) }, wb, f, fs ++ #[.func (.yield lp) #[] #[]] ++ cs, wb, ?_, ?_, fun _ _ => trivial, ?_, by simp [FW], ?_⟩
  · rw [run_enterLoop_outer, ← hwb, ← hlo, ← hwa, ← hlp2, ← hrr]
  · have h2 : a.eval gop = .func (.func f) fs cs := hf.ev hg
    have h3 : ∀ v, a.eval (.const v) = v := fun _ => rfl
    simp [resolve, Deferred.ofValue, h2, h3]
  · show (callFunc f (fs.push (.func (.yield lp) #[] #[]) ++ cs)).run C.P wb = _
    rw [Array.push_eq_append]
    exact Gs hF _ _
  · refine callsIn_FW.2 ?_
    have hlrec : ∀ {w' : World} {M'' : List Nat} {o : Obj} {Hs : Heap}, Inv wb M'' w' ((some lp, o) :: Hs) → w'.heap[lp]? = some o := fun h => h.own lp _ (.head _)
    have hcall := it lp wb (fun r Hx => ∃ Hs, Hx = (some lp, recO fn a.tmps ps assign body rr (match r with | .inl _ => LoopState.ready | .inr _ => LoopState.done) (match r with | .inl _ => none | .inr x => some (jmp x))) :: Hs ∧ J r Hs) ((some lp, lo) :: Hs0)
      ⟨Hs0, by rw [← hlo], hJ⟩ (hib'.left.self (Zs _) rfl) ?_ lo (hib'.pick (by
        refine Z04 (S := [(some rr, mkO)]) ?_
        rw [List.append_assoc]
        exact List.Perm.append_left _ (List.perm_append_singleton _ _).symm)) rfl
    · refine Calls.mono hcall ?_
      rintro e w3 ⟨v, N, ⟨rfl, HE3, Hq3, rfl, ⟨Hs3, rfl, hJ3⟩, hE3⟩, rfl, hi3⟩
      have hi3 := hi3.perm List.perm_append_comm
      have hj3 := hib'.join (M' := ids ((some lp, lo) :: (Hs0 ++ HE0))) (List.Perm.refl _) (fun m hm => hm) hi3
      have hl3 := hj3.own lp _ (.head _)
      have hput := hj3.put (recO fn a.tmps ps assign body rr .exhausted (match t with | .inl _ => none | .inr x => some (jmp x)))
      have hfa : Fits C.n (mkD rr :: C.D) E { a with defers := [mkD rr] ++ a.defers } := ⟨hf.size, by simp [hf.defers], hf.get⟩
      have hpk : Pick ((Hs3 ++ HE3) ++ ((some rr, mkO) :: R)) ((some lp, recO fn a.tmps ps assign body rr .exhausted (match t with | .inl _ => none | .inr x => some (jmp x))) :: ((Hs3 ++ HE3) ++ ((some rr, mkO) :: R))) := Pick.skip (Zs _)
      cases t with
      | inl s =>
        refine ⟨none, _, run_endLoop hl3 (by simp), ?_⟩
        exact next s rfl rr Hs3 HE3 hJ3 hE3 _ _ hfa (hput.pick hpk)
      | inr x =>
        refine ⟨some (jmp x), _, run_endLoop hl3 (by simp), ?_⟩
        exact exit x rfl rr Hs3 HE3 hJ3 hE3 _ _ hfa (hput.pick hpk)
    · rintro s v r hys w' Hx HE vals ⟨Hs1, rfl, hJs⟩ hE hi' hen
      obtain ⟨Hs, hHs⟩ : ∃ Hs, Hs1 ++ HE = Hs := ⟨_, rfl⟩
      have hi' : Inv wb (ids ((some lp, lo) :: (Hs0 ++ HE0))) w' ((some lp, recO fn a.tmps ps assign body rr .ready none) :: Hs) := by rw [← hHs]; exact hi'
      have hself0 : True := trivial
      have hlw := hlrec hi'
      have hout := hib'.join (M' := ids ((some lp, lo) :: (Hs0 ++ HE0))) (List.Perm.refl _) (fun m hm => hm) hi'
      have hself := hi'.self (Hm := Hs) (Pick.skip (Zs _)) rfl
      have houtH : Inv C.w0 C.M w' (Hs ++ R) := hout.pick (by
        refine Pick.skip ?_
        refine Z04 (S := [(some rr, mkO)]) ?_
        rw [List.append_assoc]
        exact List.Perm.append_left _ (List.perm_append_singleton _ _).symm)
      have hasg := round lp w' s v r Hs1 HE vals hys hJs hE hen (by rw [hHs]; exact hself) (by rw [hHs]; exact houtH)
      rw [hHs] at hasg
      refine ⟨_, _, _, _, run_yield hlw (by simp [hlen _ _ _ _ hen]), ?_⟩
      refine roundIn_of_wpIn trivial ?_
      have hf0 : Fits C.n [] E { tmps := a.tmps, defers := [] } := ⟨hf.size, rfl, hf.get⟩
      have hf1 := Z5n (vs := vals) hps hf0
      have hw0 := hasg _ w' hf1 hself
      have hrw : (ps.zip vals.toArray).foldl (fun tmps (t, a) => tmps.setIfInBounds t a) a.tmps = (ps.toList.zip vals).foldl (fun tmps (t, a) => tmps.setIfInBounds t a) a.tmps := by
        rw [← Array.foldl_toList]; simp
      rw [hrw]
      refine wpIn_mono (F := FW (some lp)) hw0 ?_
      rintro e a1 w1 ⟨rfl, E1, H1, hfa, hia1, hbody⟩
      have hall := (hi'.self (Zs _) rfl)
      have hall1 := hall.join (Hm := Hs) (R := [(some lp, recO fn a.tmps ps assign body rr .ready none)]) (M' := ids Hs) ((List.perm_append_singleton _ _).symm) (fun m hm => hm) hia1
      have hall1 := hall1.perm (List.perm_append_singleton _ _)
      have hl1 := hall1.own lp _ (.head _)
      refine ⟨_, run_beginRound hl1 rfl, ?_⟩
      have hb1 := hall1.put (recO fn a.tmps ps assign body rr .busy none)
      have hout1 := hout.join (M' := ids ((some lp, recO fn a.tmps ps assign body rr .ready none) :: Hs)) (List.Perm.refl _) (fun m hm => hm) hall1
      have hout2 := hout1.put (recO fn a.tmps ps assign body rr .busy none)
      have hs2 := hb1.self (Hm := H1) (Pick.skip (Zs _)) rfl
      have hwp := hbody _ hs2 (hout2.pick (by
        refine Pick.skip ?_
        refine Z04 (S := [(some rr, mkO)]) ?_
        rw [List.append_assoc]
        exact List.Perm.append_left _ (List.perm_append_singleton _ _).symm)) (hb1.pick (H' := H1) (Pick.skip (Zs _))) a1 _ hfa hs2
      refine wpIn_mono (F := FW (some lp)) hwp ?_
      intro e a3 w3 hq
      have fin : ∀ (Hs' : Heap), Inv (w1.putObj lp (recO fn a.tmps ps assign body rr .busy none)) (ids H1) w3 Hs' → w3.heap[lp]? = some (recO fn a.tmps ps assign body rr .busy none) ∧
          ∀ o, Inv w' (ids ((some lp, recO fn a.tmps ps assign body rr .ready none) :: Hs)) (w3.putObj lp o) ((some lp, o) :: Hs') := by
        intro Hs' h
        have h2 := hb1.join (Hm := H1) (R := [(some lp, recO fn a.tmps ps assign body rr .busy none)]) (M' := ids H1) ((List.perm_append_singleton _ _).symm) (fun m hm => hm) h
        have h2 := h2.perm (List.perm_append_singleton _ _)
        exact ⟨h2.own lp _ (.head _), fun o => h2.put o⟩
      cases e with
      | normal =>
        obtain ⟨s', Hs', rfl, hJ', hi3⟩ := hq
        obtain ⟨h3, h4⟩ := fin Hs' hi3
        obtain ⟨Hs4, rfl, hJ'⟩ := hJ'
        exact ⟨_, _, run_endRound none h3, _, ⟨Hs4, rfl, hJ'⟩, rfl, by have h5 := h4 (recO fn a.tmps ps assign body rr .ready none); rw [← hHs] at h5; exact h5⟩
      | ret =>
        obtain ⟨x, Hs', rfl, hj, hJ', hi3⟩ := hq
        obtain ⟨h3, h4⟩ := fin Hs' hi3
        obtain ⟨Hs4, rfl, hJ'⟩ := hJ'
        refine ⟨_, _, run_endRound (some .ret) h3, _, ⟨Hs4, rfl, hJ'⟩, rfl, ?_⟩
        simp only [hj]; have h5 := h4 (recO fn a.tmps ps assign body rr .done (some .ret)); rw [← hHs] at h5; exact h5
      | exit id =>
        obtain ⟨x, Hs', rfl, hj, hJ', hi3⟩ := hq
        obtain ⟨h3, h4⟩ := fin Hs' hi3
        obtain ⟨Hs4, rfl, hJ'⟩ := hJ'
        refine ⟨_, _, run_endRound (some (.exit id)) h3, _, ⟨Hs4, rfl, hJ'⟩, rfl, ?_⟩
        simp only [hj]; have h5 := h4 (recO fn a.tmps ps assign body rr .done (some (.exit id))); rw [← hHs] at h5; exact h5
      | goto _ => exact hq.elim
      | panic _ => exact hq.elim
      | outgrown => exact hq.elim
end control
end Go.Acq
namespace Go.Acq
open Go Go.RowKit
section control
variable {C : Cx} {Q : Exit → Act → World → Prop} {E : Env} {H H' : Heap}
theorem T.perm {c : Code} (hp : List.Perm H H') (k : T C c Q E H') : T C c Q E H := fun a w hf hi => k a w hf (hi.perm hp)
theorem X.perm {e : Exit} (hp : List.Perm H H') (k : Acq.X C Q e E H') : Acq.X C Q e E H := fun a w hf hi => k a w hf (hi.perm hp)
theorem RQ.turn {S X : Type} {J : S ⊕ X → Heap → Prop} {HE : Heap} {jmp : X → Code} {r : S ⊕ X} {w0 : World} {M : List Nat} {e : Exit} {a : Act} {w : World}
    (h : RQ (fun r Hq => ∃ Hq', Hq = HE ++ Hq' ∧ J r Hq') jmp r w0 M e a w) : RQ (fun r Hq => ∃ Hq', Hq = Hq' ++ HE ∧ J r Hq') jmp r w0 M e a w := by
  cases e with
  | normal => obtain ⟨s, _, h1, ⟨Hq, rfl, hJ⟩, hi⟩ := h; exact ⟨s, _, h1, ⟨Hq, rfl, hJ⟩, hi.perm List.perm_append_comm⟩
  | ret => obtain ⟨x, _, h1, h2, ⟨Hq, rfl, hJ⟩, hi⟩ := h; exact ⟨x, _, h1, h2, ⟨Hq, rfl, hJ⟩, hi.perm List.perm_append_comm⟩
  | exit id => obtain ⟨x, _, h1, h2, ⟨Hq, rfl, hJ⟩, hi⟩ := h; exact ⟨x, _, h1, h2, ⟨Hq, rfl, hJ⟩, hi.perm List.perm_append_comm⟩
  | goto _ => exact h.elim
  | panic _ => exact h.elim
  | outgrown => exact h.elim
theorem Z4j {S X V : Type} (hρ : C.ρ = none) {gop : Operand} {ps : Array Tmp} {assign body : Code} {f : FuncId} {fs cs : Array Value} (hF : Yb C.P f = true) (q0_ : ev E gop = some (.func (.func f) fs cs) ∧ ps.toList.all (fun p => Nat.ble (p + 1) C.n) = true) (en : World → List Nat → V → List Value → Prop) (hlen : ∀ w M v vals, en w M v vals → vals.length = ps.size)
    (y : S → V → Option (S ⊕ X)) (J : S ⊕ X → Heap → Prop) (EE EO : Heap → Prop) (jmp : X → Code) (s0 : S) (t : S ⊕ X) (Hs0 HE0 R : Heap) (hJ : J (.inl s0) Hs0) (hH : Pick ((HE0 ++ R) ++ Hs0) H)
    (it : ∀ (lp : Nat) (w : World) (J' : S ⊕ X → Heap → Prop) (H0 : Heap), J' (.inl s0) H0 → Inv w (ids (H0 ++ HE0)) w (H0 ++ HE0) → YCR C.P lp en y J' EE w (ids (H0 ++ HE0)) → ∀ lo, Inv C.w0 C.M w (((some lp, lo) :: (Hs0 ++ HE0)) ++ R) → H0 = (some lp, lo) :: Hs0 →
      Fnc C.P f (fs ++ #[.func (.yield lp) #[] #[]] ++ cs) w (ids (H0 ++ HE0)) (fun v N => v = .tuple #[] ∧ ∃ HE' Hs', N = HE' ++ Hs' ∧ J' t Hs' ∧ EO HE'))
    (round : ∀ (lp : Nat) (w' : World) (s : S) (v : V) (r : S ⊕ X) (Hs HE : Heap) (vals : List Value), y s v = some r → J (.inl s) Hs → EE HE → en w' (ids ((some lp, mkO) :: (Hs ++ HE))) v vals → Inv w' (ids (Hs ++ HE)) w' (Hs ++ HE) → Inv C.w0 C.M w' ((Hs ++ HE) ++ R) →
      T ⟨C.P, some lp, C.n, [], w', ids (Hs ++ HE)⟩ assign (AQX C.n w' (ids (Hs ++ HE)) fun E1 H1 => ∀ w2, Inv w2 (ids H1) w2 H1 → Inv C.w0 C.M w2 (H1 ++ R) → Inv w' (ids ((some lp, mkO) :: (Hs ++ HE))) w2 H1 → T ⟨C.P, some lp, C.n, [], w2, ids H1⟩ body (RQ (fun r Hq => ∃ Hq', Hq = HE ++ Hq' ∧ J r Hq') jmp r w2 (ids H1)) E1 H1) (putPs ps.toList vals E) (HE ++ Hs))
    (next : ∀ s, t = .inl s → ∀ rr Hs HE, J (.inl s) Hs → EO HE → Acq.X { C with D := mkD rr :: C.D } Q .normal E ((HE ++ ((some rr, mkO) :: R)) ++ Hs))
    (exit : ∀ x, t = .inr x → ∀ rr Hs HE, J (.inr x) Hs → EO HE → T { C with D := mkD rr :: C.D } (jmp x) Q E ((HE ++ ((some rr, mkO) :: R)) ++ Hs)) :
    T C (.rangeFunc gop ps assign body) Q E H := by
  obtain ⟨hg, hps⟩ := q0_
  have hpm : ∀ (Hs HE R : Heap), List.Perm ((Hs ++ HE) ++ R) ((HE ++ R) ++ Hs) := fun Hs HE R => by
    rw [List.append_assoc]; exact List.perm_append_comm
  refine Z8t hρ hF hg hps en hlen y J EE EO jmp s0 t Hs0 HE0 R hJ ?_ it ?_ ?_ ?_
  · obtain ⟨S', ns, hn, hS⟩ := hH
    exact ⟨S', ns, hn, hS.trans ((hpm Hs0 HE0 R).symm.append_right S')⟩
  · intro lp w' s v r Hs HE vals hy hJ' hE hen h1 h2
    refine T.perm List.perm_append_comm ?_
    have h := round lp w' s v r Hs HE vals hy hJ' hE hen h1 h2
    intro a w hf hi
    refine wpIn_mono (F := FW (some lp)) (h a w hf hi) ?_
    rintro e a1 w1 ⟨rfl, E1, H1, hf1, hi1, hB⟩
    refine ⟨rfl, E1, H1, hf1, hi1, fun w2 k1 k2 k3 => ?_⟩
    intro a2 w3 hf2 hi2
    exact wpIn_mono (F := FW (some lp)) (hB w2 k1 k2 k3 a2 w3 hf2 hi2) fun e a w hq => RQ.turn hq
  · intro s hs rr Hs HE hJ' hE
    exact Acq.X.perm (hpm Hs HE _) (next s hs rr Hs HE hJ' hE)
  · intro x hx rr Hs HE hJ' hE
    exact T.perm (hpm Hs HE _) (exit x hx rr Hs HE hJ' hE)
end control
end Go.Acq
namespace Go.Acq
open Go Go.Lib
theorem Z6v (x : Str) (i : Nat) (h : i < x.length) : (bs x).get! i = x[i] := by
 have h2 : i < (bs x).data.size := by simpa [bs] using h
 simp [ByteArray.get!, bs, h]
theorem Z2k (x : Str) (i : Nat) (c : UInt8) (h : x[i]? = some c) (ha : c.toNat < 128) : Utf8.decode (bs x) i = (c.toNat, 1) := by
 obtain ⟨h1, h2⟩ := List.getElem?_eq_some_iff.1 h
 unfold Utf8.decode
 simp only [Nat.add_zero, Z6v x i h1, h2]
 rw [if_pos ha]
theorem Ry {l : Str} {i : Nat} {c : UInt8} (h : l[i]? = some c) : l.drop i = c :: l.drop (i + 1) := by
 obtain ⟨h1, h2⟩ := List.getElem?_eq_some_iff.1 h
 rw [← h2]; exact List.drop_eq_getElem_cons h1
theorem Z7w {l : Str} {i : Nat} {c : UInt8} (h : l[i]? = some c) : l.take (i + 1) = l.take i ++ [c] := by
 obtain ⟨h1, h2⟩ := List.getElem?_eq_some_iff.1 h
 rw [← h2]; exact List.take_succ_eq_append_getElem h1
theorem Z29 {l : Str} {i : Nat} (h : i < l.length) : ∃ c, l[i]? = some c := ⟨_, List.getElem?_eq_getElem h⟩
def Xc (p : Nat → Bool) : Str → Str → List Str
  | [], cur => if cur = [] then [] else [cur]
  | b :: l, cur => if p b.toNat then (if cur = [] then Xc p l [] else cur :: Xc p l []) else Xc p l (cur ++ [b])
def Gy (l : Str) : Bool := l.all fun b => decide (b.toNat < 128)
theorem Z4d {p : Nat → Bool} {cur : Str} (h : cur ≠ []) : Xc p [] cur = [cur] := by rw [Xc, if_neg h]
theorem Z3b {p : Nat → Bool} {b : UInt8} {l cur : Str} (hq : p b.toNat = true) (h : cur ≠ []) : Xc p (b :: l) cur = cur :: Xc p l [] := by rw [Xc, if_pos hq, if_neg h]
theorem Z7k {p : Nat → Bool} {b : UInt8} {l : Str} (hq : p b.toNat = true) : Xc p (b :: l) [] = Xc p l [] := by rw [Xc, if_pos hq, if_pos rfl]
theorem Z3t {p : Nat → Bool} {b : UInt8} {l cur : Str} (hq : ¬ p b.toNat = true) : Xc p (b :: l) cur = Xc p l (cur ++ [b]) := by rw [Xc, if_neg hq]
def Z08 (p : Nat → Bool) (l : Str) : List Str := if Gy l then Xc p l [] else (goFieldsP p (bs l)).map fun b => b.data.toList
def anyT (p : Nat → Bool) (l : Str) : Bool := if Gy l then l.any (fun b => p b.toNat) else decide (0 ≤ idxFunc p true (bs l))
theorem Z6n {l : Str} (h : Gy l = true) {i : Nat} {c : UInt8} (hi : l[i]? = some c) : c.toNat < 128 := by
 have := List.all_eq_true.1 h c (List.mem_of_getElem? hi)
 simpa using this
theorem Z71 (p : Nat → Bool) (l : Str) (h : Gy l = true) : ∀ (f Zd : Nat), l.length ≤ Zd + f → decide (0 ≤ idxFuncFrom p true (bs l) f Zd) = (l.drop Zd).any (fun b => p b.toNat)
 | 0, Zd, hf => by
  rw [List.drop_eq_nil_of_le (by omega)]; rfl
 | f + 1, Zd, hf => by
  by_cases hp : Zd < l.length
  ·
   obtain ⟨c, hc⟩ := Z29 hp
   rw [idxFuncFrom, if_pos (by rw [Xv]; exact hp), Z2k l Zd c hc (Z6n h hc), Ry hc, List.any_cons]
   by_cases hq : p c.toNat = true
   · rw [if_pos hq, hq, Bool.true_or]; exact decide_eq_true (by omega)
   ·
    rw [if_neg hq, Bool.eq_false_iff.2 hq, Bool.false_or]
    exact Z71 p l h f (Zd + 1) (by omega)
  · rw [idxFuncFrom_end _ _ _ _ _ (by rw [Xv]; exact hp), List.drop_eq_nil_of_le (by omega)]; rfl
theorem Z6i (p : Nat → Bool) (l : Str) : decide (0 ≤ idxFunc p true (bs l)) = anyT p l := by
 unfold anyT
 by_cases h : Gy l = true
 ·
  rw [if_pos h]
  have := Z71 p l h l.length 0 (by omega)
  unfold idxFunc
  rw [Xv, this, List.drop_zero]
 · rw [if_neg h]
def Xy (l : Str) (st : Option Nat) (Zd : Nat) : Str :=
  match st with
  | some a => (l.take Zd).drop a
  | none => []
def opn (st : Option Nat) (Zd : Nat) : Prop := ∀ a, st = some a → a < Zd
theorem Zc6 (p : Nat → Bool) (l : Str) (h : Gy l = true) : ∀ (f Zd : Nat) (st : Option Nat) (acc : List (Nat × Nat)), l.length ≤ Zd + f → Zd ≤ l.length → opn st Zd →
    (closeSpans (bs l) (spansFromP p (bs l) f Zd st acc)).map (fun x => (l.take x.2).drop x.1) = acc.map (fun x => (l.take x.2).drop x.1) ++ Xc p (l.drop Zd) (Xy l st Zd) := by
  have fin : ∀ (f Zd : Nat) (st : Option Nat) (acc : List (Nat × Nat)), Zd = l.length → opn st Zd →
      (closeSpans (bs l) (spansFromP p (bs l) f Zd st acc)).map (fun x => (l.take x.2).drop x.1) = acc.map (fun x => (l.take x.2).drop x.1) ++ Xc p (l.drop Zd) (Xy l st Zd) := by
    intro f Zd st acc hp ho
    subst hp
    rw [spansFromP_end _ _ _ _ _ _ (by rw [Xv]; omega), List.drop_eq_nil_of_le (Nat.le_refl _)]
    cases st with
    | none => simp [closeSpans, Xy, Xc]
    | some a =>
      have h1 : a < l.length := ho a rfl
      have h2 : Xy l (some a) l.length ≠ [] := by
        intro e
        have := congrArg List.length e
        unfold Xy at this
        simp only at this
        rw [List.length_drop, List.length_take] at this
        simp only [List.length_nil] at this
        omega
      rw [Z4d h2]
      simp only [closeSpans, Xy, Xv, List.map_append, List.map_cons, List.map_nil]
  intro f
  induction f with
  | zero => intro Zd st acc hf hp ho; exact fin 0 Zd st acc (by omega) ho
  | succ f ih =>
    intro Zd st acc hf hp ho
    by_cases hlt : Zd < l.length
    · obtain ⟨c, hc⟩ := Z29 hlt
      have hd := Z2k l Zd c hc (Z6n h hc)
      rw [Ry hc]
      have hsz : Zd < (bs l).size := by rw [Xv]; exact hlt
      by_cases hq : p c.toNat = true
      · cases st with
        | none =>
          have e : spansFromP p (bs l) (f + 1) Zd none acc = spansFromP p (bs l) f (Zd + 1) none acc := by
            simp only [spansFromP, if_pos hsz, hd, if_pos hq]
          rw [e, ih (Zd + 1) none acc (by omega) (by omega) (fun a e => by cases e)]
          rw [show Xy l none Zd = [] from rfl, Z7k hq]; rfl
        | some a =>
          have h1 : a < Zd := ho a rfl
          have h2 : Xy l (some a) Zd ≠ [] := by
            intro e
            have := congrArg List.length e
            unfold Xy at this
            simp only at this
            rw [List.length_drop, List.length_take] at this
            simp only [List.length_nil] at this
            omega
          have e : spansFromP p (bs l) (f + 1) Zd (some a) acc = spansFromP p (bs l) f (Zd + 1) none (acc ++ [(a, Zd)]) := by
            simp only [spansFromP, if_pos hsz, hd, if_pos hq]
          rw [e, ih (Zd + 1) none (acc ++ [(a, Zd)]) (by omega) (by omega) (fun a e => by cases e)]
          rw [Z3b hq h2]
          simp only [Xy, List.map_append, List.map_cons, List.map_nil, List.append_assoc, List.cons_append, List.nil_append]
      · cases st with
        | none =>
          have e : spansFromP p (bs l) (f + 1) Zd none acc = spansFromP p (bs l) f (Zd + 1) (some Zd) acc := by
            simp only [spansFromP, if_pos hsz, hd, if_neg hq]
          rw [e, ih (Zd + 1) (some Zd) acc (by omega) (by omega) (fun a e => by cases e; omega)]
          have : (l.take (Zd + 1)).drop Zd = [c] := by
            rw [Z7w hc, List.drop_append, List.drop_eq_nil_of_le (by rw [List.length_take]; omega), List.length_take, Nat.min_eq_left (Nat.le_of_lt hlt), Nat.sub_self]; rfl
          rw [Z3t hq]
          simp only [Xy, this, List.nil_append]
        | some a =>
          have h1 : a < Zd := ho a rfl
          have e : spansFromP p (bs l) (f + 1) Zd (some a) acc = spansFromP p (bs l) f (Zd + 1) (some a) acc := by
            simp only [spansFromP, if_pos hsz, hd, if_neg hq]
          rw [e, ih (Zd + 1) (some a) acc (by omega) (by omega) (fun b e => by cases e; omega)]
          have : (l.take (Zd + 1)).drop a = (l.take Zd).drop a ++ [c] := by
            rw [Z7w hc, List.drop_append_of_le_length (by rw [List.length_take]; omega)]
          rw [Z3t hq]
          simp only [Xy, this]
    · exact fin (f + 1) Zd st acc (by omega) ho
theorem Z5c (p : Nat → Bool) (l : Str) : goFieldsP p (bs l) = (Z08 p l).map bs := by
 unfold Z08
 by_cases h : Gy l = true
 ·
  rw [if_pos h]
  have h1 := Zc6 p l h l.length 0 none [] (by omega) (by omega) (fun a e => by cases e)
  simp only [List.map_nil, List.nil_append, List.drop_zero] at h1
  have h2 : Xy l none 0 = [] := rfl
  rw [h2] at h1
  rw [← h1]
  unfold goFieldsP spansOfP
  rw [Xv, List.map_map]
  apply List.map_congr_left
  intro x _
  exact Z89 l x.1 x.2
 ·
  rw [if_neg h, List.map_map]
  conv => lhs; rw [← List.map_id (goFieldsP p (bs l))]
  apply List.map_congr_left
  intro b _
  exact (bs_of b).symm
def Wb : Nat → Nat → Str
  | 0, _ => []
  | f + 1, u => if u < 10 then [UInt8.ofNat (48 + u)] else Wb f (u / 10) ++ [UInt8.ofNat (48 + u % 10)]
def Yj (n : Int) : Str := if n < 0 then 45 :: Wb 20 n.natAbs else Wb 20 n.toNat
theorem Z4r : ∀ (f u : Nat), u < 10 ^ (f + 1) → decDigits u = Wb (f + 1) u
 | 0, u, h => by
  have h2 : u < 10 := by simpa using h
  rw [decDigits, Wb, dif_pos h2, if_pos h2]
 | f + 1, u, h => by
  rw [decDigits, Wb]
  by_cases hu : u < 10
  · rw [dif_pos hu, if_pos hu]
  · rw [dif_neg hu, if_neg hu, Z4r f (u / 10) (by rw [Nat.pow_succ] at h; omega)]
theorem Z7j {n : Int} (h : i64ok n) : itoa n = Yj n := by
 obtain ⟨h1, h2⟩ := h
 have e : (10 : Nat) ^ (19 + 1) = 100000000000000000000 := by decide
 unfold itoa Yj
 rw [Z4r 19 n.natAbs (by rw [e]; omega), Z4r 19 n.toNat (by rw [e]; omega)]
end Go.Acq
namespace Go.Acq
open Go Go.RowKit Go.Proofs Go.Shelf
structure GK (P : Program) (w : World) (M : List Nat) : Prop where
  pow : Lib.TabIs P w "internal/strconv.uint64pow10" .u64 Lib.pow10Tab
  syn : ∃ tp p, w.var? P "strconv.ErrSyntax" = some #[.iface tp p]
  ran : ∃ tp p, w.var? P "strconv.ErrRange" = some #[.iface tp p]
  mxl : ∃ m, w.var? P "internal/bytealg.MaxLen" = some #[.int .i64 m]
  low : ∀ n, n ∈ ["internal/strconv.uint64pow10", "strconv.ErrSyntax", "strconv.ErrRange", "internal/bytealg.MaxLen"] → ∀ g, P.globalNamed n = some g → g ∉ M
section
variable {P : Program} {w0 w : World} {M M' : List Nat} {H Hm R : Heap}
theorem Z30 {n : String} {cs : Array Value} (h : w0.var? P n = some cs) (hl : ∀ g, P.globalNamed n = some g → g ∉ M) (hi : Inv w0 M w H) : w.var? P n = some cs := by
 unfold World.var? at h ⊢
 cases hg : P.globalNamed n with
 | none => simp [hg] at h
 | some g =>
  simp only [hg, Option.bind_some] at h ⊢
  have hlt : g < w0.heap.size := by
   rcases Nat.lt_or_ge g w0.heap.size with h' | h'
   · exact h'
   · simp [Array.getElem?_eq_none h'] at h
  rw [hi.keep g hlt (hl g hg)]
  exact h
theorem Z33 {n : String} {cs : Array Value} (h : w0.var? P n = some cs) {g : Nat} (hg : P.globalNamed n = some g) : g < w0.heap.size := by
 unfold World.var? at h
 simp only [hg, Option.bind_some] at h
 rcases Nat.lt_or_ge g w0.heap.size with h' | h'
 · exact h'
 · simp [Array.getElem?_eq_none h'] at h
theorem GK.lt (h : GK P w0 M) {n : String} (hn : n ∈ ["internal/strconv.uint64pow10", "strconv.ErrSyntax", "strconv.ErrRange", "internal/bytealg.MaxLen"]) {g : Nat} (hg : P.globalNamed n = some g) : g < w0.heap.size := by
 simp only [List.mem_cons, List.mem_nil_iff, or_false] at hn
 rcases hn with rfl | rfl | rfl | rfl
 · exact Z33 h.pow hg
 · obtain ⟨_, _, e⟩ := h.syn; exact Z33 e hg
 · obtain ⟨_, _, e⟩ := h.ran; exact Z33 e hg
 · obtain ⟨_, e⟩ := h.mxl; exact Z33 e hg
theorem GK.with (h : GK P w0 M) (hi : Inv w0 M w H) (hl : ∀ n, n ∈ ["internal/strconv.uint64pow10", "strconv.ErrSyntax", "strconv.ErrRange", "internal/bytealg.MaxLen"] → ∀ g, P.globalNamed n = some g → g ∉ M') : GK P w M' :=
 ⟨Z30 h.pow (h.low _ (by simp)) hi, by obtain ⟨a, b, e⟩ := h.syn; exact ⟨a, b, Z30 e (h.low _ (by simp)) hi⟩, by obtain ⟨a, b, e⟩ := h.ran; exact ⟨a, b, Z30 e (h.low _ (by simp)) hi⟩,
  by obtain ⟨a, e⟩ := h.mxl; exact ⟨a, Z30 e (h.low _ (by simp)) hi⟩, hl⟩
theorem GK.mono (h : GK P w0 M) (hi : Inv w0 M w H) : GK P w [] := h.with hi (fun _ _ _ _ => by simp)
theorem GK.monoM (h : GK P w0 M) (hi : Inv w0 M w H) (hp : List.Perm H (Hm ++ R)) (hM : Hm.filterMap (·.1) = M') : GK P w M' := h.with hi (fun n hn g hg hm => by
 subst hM
 obtain ⟨o, ho⟩ := Kl hm
 rcases hi.low g o ((List.Perm.mem_iff hp).2 (List.mem_append_left _ ho)) with hl | hl
 · have := h.lt hn hg; omega
 · exact h.low n hn g hg hl)
theorem Nr {w w' : World} (hb : Below w.heap.size w w') : Inv w [] w' [] := ⟨hb.os, hb.tape, hb.output, hb.size, fun b h _ => hb.block b h, by simp, by simp, by simp⟩
theorem Z8f {w w' : World} (hb : Below w.heap.size w w') {A : Nat} {o : Obj} (h : w'.heap[A]? = some o) (hl : w.heap.size ≤ A) : Inv w [] w' [(some A, o)] :=
 ⟨hb.os, hb.tape, hb.output, hb.size, fun b h _ => hb.block b h, fun b o' hm => by simp at hm; obtain ⟨rfl, rfl⟩ := hm; exact h, fun b o' hm => by simp at hm; obtain ⟨rfl, rfl⟩ := hm; exact .inl hl, by simp⟩
end
section fns
variable {P : Program} {ρ : Ren}
def PredF (P : Program) (g : Nat) (p : Nat → Bool) : Prop := ∀ (w : World) (x : Nat), x ≤ 1114111 → Fnc P g #[.int .i32 (x : Int)] w [] (fun v N => v = .bool (p x) ∧ N = [])
theorem PredF.grows {g : Nat} {p : Nat → Bool} (h : PredF P g p) (w : World) : PredGrows P g #[] p w := fun W x hx _ => by
 have := h W x hx
 simp only [Array.append_empty]
 refine Calls.mono this ?_
 rintro e w' ⟨v, N, ⟨rfl, rfl⟩, rfl, hi⟩
 exact ⟨rfl, hi.below⟩
theorem Zbf (L : Lays.n229 P ρ) (g : Nat) (hF : Yb P g = true) (p : Nat → Bool) (hp : PredF P g p)
    (hi154 : (P.info? (ρ.t 154)).map (fun i => (i.zero, i.size, i.bytes)) = some (some (.agg #[.int .i64 0, .int .i64 0]), 2, 16))
    (hi9 : (P.info? (ρ.t 9)).map (fun i => (i.zero, i.size, i.bytes)) = some (some (.string ⟨#[]⟩), 1, 16)) (s : Str) (hs : s.length ≤ 4294967296) (w : World) {r : List Str} (hr : Z08 p s = r) :
    Fnc P (ρ.f 229) #[.string (bs s), .func (.func g) #[] #[]] w [] (fun v N => ∃ (ob : Option Nat) (n c : Nat) (j : List Value), v = .slice (sb ob) n c ∧ N = [(ob, .cells (arr Ud r j).toArray (ρ.t 9) (0, 0))] ∧ r.length = n ∧ n ≤ c ∧ j.length = (c - n) * 1 ∧ (ob = none → c = 0)) := by
  have h := Any.strings_FieldsFunc_grows L g #[] (fun args w => Gs hF args w) p (bs s) w (by rw [Xv]; exact hs) (hp.grows w) hi154 hi9
  refine Calls.mono h ?_
  rintro e w' ⟨A, rfl, hA, ⟨hl, hO⟩, hb⟩
  rw [Z5c, hr] at hl hO ⊢
  simp only [List.length_map] at hl hO ⊢
  rcases hO with ⟨hv, _⟩ | ⟨q, cap, cur, hv, _, hc, _, _, hsz, htk⟩
  · exact absurd hv (by simp)
  · simp only [Value.slice.injEq, Option.some.injEq, Addr.mk.injEq] at hv
    obtain ⟨⟨rfl, _⟩, _, rfl⟩ := hv
    have hcur : cur = (arr Ud r []).toArray := by
      apply Array.ext'
      rw [List.take_of_length_le (by rw [Array.length_toList, hsz]; exact Nat.le_refl _)] at htk
      rw [htk]
      simp only [arr, List.append_nil, List.map_map]
      rw [List.map_eq_flatMap]; rfl
    refine ⟨_, _, ⟨some A, r.length, r.length, [], rfl, rfl, rfl, Nat.le_refl _, by simp, fun e => by cases e⟩, rfl, ?_⟩
    rw [← hcur]
    exact Z8f hb hc hA
theorem Fnc.anyf (L : LaysGw.n17 P ρ) (g : Nat) (hF : Yb P g = true) (p : Nat → Bool) (hp : PredF P g p) (s : Str) (w : World) :
    Fnc P (ρ.f 17) #[.string (bs s), .func (.func g) #[] #[]] w [] (fun v N => v = .bool (anyT p s) ∧ N = []) := by
  have h := Any.strings_ContainsFunc_grows L g #[] (fun args w => Gs hF args w) p (bs s) w (hp.grows w)
  refine Calls.mono h ?_
  rintro e w' ⟨rfl, hb⟩
  rw [Z6i]
  exact ⟨_, _, ⟨rfl, rfl⟩, rfl, Nr hb⟩
def IfV (ev : Value) (b : Bool) : Prop := (b = true ∧ ev = .nilIface) ∨ (b = false ∧ ∃ t v, ev = .iface t v)
def Z09 (s : Str) : Int × Bool :=
  match Lib.parseIntB 64 s with
  | .ok v => (v, true)
  | .range => (Lib.intSat 64 s, false)
  | _ => (0, false)
theorem Z9e (L : LaysC.n174 P ρ) (s : Str) (hs : s.length ≤ 281474976710656) (w : World) {M : List Nat} (hG : GK P w M) {n : Int} {b : Bool} (hr : Z09 s = (n, b)) :
    Fnc P (ρ.f 174) #[.string (bs s), .int .i64 10, .int .i64 64] w [] (fun v N => ∃ ev : Value, v = .tuple #[.int .i64 n, ev] ∧ N = [] ∧ IfV ev b) := by
  have hd := Z3f s
  have hz : (bs s).size ≤ 281474976710656 := by rw [Xv]; exact hs
  unfold Z09 at hr
  cases h : Lib.parseIntB 64 s
  · rename_i v
    rw [h] at hr
    cases hr
    refine Calls.mono (Any.strconv_ParseInt_10_at64_ok L (bs s) (by omega) _ (by rw [hd]; exact h) w) ?_
    rintro e w' ⟨rfl, hw⟩
    refine ⟨_, _, ⟨_, rfl, rfl, .inl ⟨rfl, rfl⟩⟩, rfl, ?_⟩
    rcases hw with rfl | ⟨t, rfl⟩
    · exact Inv.refl w'
    · refine Nr ⟨rfl, rfl, rfl, by rw [Lib.bytesWorld_size]; omega, fun k hk => Lib.bytesWorld_at_old _ _ _ _ hk⟩
  · rw [h] at hr
    cases hr
    obtain ⟨tp, p, hv⟩ := hG.syn
    refine Calls.mono (Any.strconv_ParseInt_10_at64_syntax_var L (bs s) hz (by rw [hd]; exact h) tp p w hv) ?_
    rintro e w' ⟨A, rfl, hA, hc, hb⟩
    exact ⟨_, _, ⟨_, rfl, rfl, .inr ⟨rfl, _, _, rfl⟩⟩, rfl, Nr hb⟩
  · rw [h] at hr
    cases hr
    obtain ⟨tp, p, hv⟩ := hG.ran
    refine Calls.mono (Any.strconv_ParseInt_10_at64_range_var L (bs s) hz (by rw [hd]; exact h) tp p w hv) ?_
    rintro e w' ⟨A, rfl, hA, hc, hb⟩
    rw [hd]
    exact ⟨_, _, ⟨_, rfl, rfl, .inr ⟨rfl, _, _, rfl⟩⟩, rfl, Nr hb⟩
theorem Z72 (w : World) (k : Nat) (os : Array Obj) : Below w.heap.size w (Sort.grow (w.drewN k) os) := ⟨rfl, rfl, rfl, by show w.heap.size ≤ (w.heap ++ os).size; rw [Array.size_append]; omega, fun j hj => by
 show (w.heap ++ os)[j]? = _
 rw [Array.getElem?_append_left hj]⟩
theorem Zap (L : LaysM.n173 P ρ) (n : Int) (hn : i64ok n) (w : World) {M : List Nat} (hG : GK P w M) : Fnc P (ρ.f 173) #[.int .i64 n, .int .i64 10] w [] (fun v N => v = .string (bs (Yj n)) ∧ N = []) := by
 refine Calls.mono (Any.strconv_FormatInt_10 L n hn.1 hn.2 w hG.pow) ?_
 rintro e w' ⟨rfl, k, os, rfl⟩
 rw [Z7j hn]
 exact ⟨_, _, ⟨rfl, rfl⟩, rfl, Nr (Z72 w k os)⟩
theorem Fnc.itoa (L : LaysM.n171 P ρ) (n : Int) (hn : i64ok n) (w : World) {M : List Nat} (hG : GK P w M) : Fnc P (ρ.f 171) #[.int .i64 n] w [] (fun v N => v = .string (bs (Yj n)) ∧ N = []) := by
 refine Calls.mono (Any.strconv_Itoa L n hn.1 hn.2 w hG.pow) ?_
 rintro e w' ⟨rfl, k, os, rfl⟩
 rw [Z7j hn]
 exact ⟨_, _, ⟨rfl, rfl⟩, rfl, Nr (Z72 w k os)⟩
def idxB : List Int → Int → Int
  | [], _ => -1
  | x :: l, c => if x = c then 0 else if idxB l c = -1 then -1 else idxB l c + 1
end fns
end Go.Acq
namespace Go.Acq
open Go
variable {H : Type} {enc : TypeId × Value → H}
theorem handed_of_change {a : Assume} {C : Checked} {os : Os} {f : FuncId} {fn : Func} {s : ChangeSpec} {conds : List PathCond} {apart fresh handsOn again : Bool} {X : World → Array Value → Prop}
    (hX : ∀ (w w' : World) (args : Array Value), w.heap = w'.heap → X w args → X w' args)
    (own : ownKnob C.prog.godebug = none) (started : os.Started) (noInit : C.prog.inits.idxOf? f = none) (hfn : C.prog.funcs[f]? = some fn)
    (witness : ∃ (w : World) (tape : Tape) (i : Input), w.os = os ∧ (w.forCall tape i).Shaped C.prog ∧ i.vars = [] ∧ Input.okWide C.prog (w.forCall tape i) .any w.heap.size f i ∧
      ((s.pre enc C.prog fn conds apart (w.forCall tape i).memory i.args ∧ X (w.forCall tape i).memory i.args) ∧ sizedMet enc C.prog fn (OpenSpec.ofChange s) apart (w.forCall tape i).memory i.args) ∧ a.holds C.prog (lone (Frame.enter C.prog f i.args .normal) [] (w.forCall tape i)))
    (contract : ∀ (W : World) (base : Nat) (args : Array Value) (ds gs : List (DataW H)) (before : List MemPlace),
      (∀ (j : Nat) t v, fn.params[j]? = some t → args[j]? = some v → Value.okWide C.prog W .any base t v) →
      DataW.Whole enc C.prog fn.params.toList s.vars apart W args.toList ds gs before → X W args → W.ShapedOpen C.prog →
      Calls C.prog f args W fun e W' => ∃ v, e = .returned v ∧ s.post enc C.prog fn apart fresh handsOn again W args v W') :
    ReturnsInHanded a C os f .any (fun w args => (s.pre enc C.prog fn conds apart w args ∧ X w args) ∧ sizedMet enc C.prog fn (OpenSpec.ofChange s) apart w args) (s.post enc C.prog fn apart fresh handsOn again) := by
  refine returnsInHanded_of_calls own started noInit witness ?_
  intro w tape i _ hsh _ hok hpre hholds
  obtain ⟨_, _, _, fn', hfn', _, _, _, _, hval⟩ := hok
  have e : fn' = fn := Option.some.inj (hfn'.symm.trans hfn)
  subst e
  obtain ⟨⟨⟨ds, gs, before, hw, hc⟩, hx⟩, hz⟩ := hpre
  have hw' := DataW.Whole.of_heap (w' := w.forCall tape i) (by rfl) hw
  refine (contract (w.forCall tape i) w.heap.size i.args ds gs before hval hw' (hX _ _ _ (by rfl) hx) hsh).mono fun e W' ⟨v, he, hp⟩ => ?_
  subst he
  exact ChangeSpec.post_blind hp
theorem int_of_shaped {P : Program} {w : World} {n : String} {g : Nat} {t : TypeId} {zero : Array Value} {k : IntKind} (h : w.ShapedOpen P) (hn : P.globalNamed n = some g) (hg : g < P.globals.size)
    (h0 : ((begin P (fun _ _ => 0) default).world.heap[g]?).bind Obj.row? = some (zero, t)) (hz : zero.size = 1) (hb : P.buildable t = true) (hc : P.cellTypes P.depth t = some [t]) (hu : P.underlying t = some (.int k)) :
    ∃ m, w.var? P n = some #[.int k m] := by
  obtain ⟨m, hm⟩ := Go.Proofs.cell_of_shapedOpen_int h hg h0 hz hb hc hu
  obtain ⟨cs, hh, hs, -⟩ := h.1 g zero t hg h0
  refine ⟨m, ?_⟩
  have h1 : cs.size = 1 := hs.trans hz
  unfold World.cell? at hm
  rw [hh] at hm
  unfold World.var?
  rw [hn]
  simp only [Option.bind_some, hh]
  have h2 : cs[0]? = some (.int k m) := by simpa using hm
  obtain ⟨l⟩ := cs
  match l, h1, h2 with
  | [x], _, h2 =>
    have : x = .int k m := by simpa using h2
    rw [this]
  | [], h1, _ => simp at h1
  | _ :: _ :: _, h1, _ => simp at h1
end Go.Acq
namespace Go.Acq
open Go Go.RowKit Go.Proofs Go.Shelf
def idxT (xs : List Int) (c : Int) : Int := Lib.indexByte (bu xs) (UInt8.ofNat c.toNat)
section rules
variable {C : Cx} {ops : Array Oper} {Q : Exit → Act → World → Prop} {l : List Nat} {E : Env} {H R : Heap} {i d : Nat} {ty : TypeId} {Zd : String} {af : Array Edge} {g : Option (Nat × Bool)}
theorem TO.idxB {f : FuncId} {x y : Operand} {at' : Array TypeId} {base : Option Addr} {n c : Nat} {xs : List Int} {cv : Int} (hF : ExtF C.P f Extern.BytealgIndexByte.indexByte)
    (q0_ : ops[i]? = some ⟨some d, .call ⟨.value (.func f), #[x, y], at'⟩, ty, Zd, af, g⟩ ∧ Zk ops E g = true ∧ Nat.ble (d + 1) C.n = true ∧ ev E x = some (.slice base n c) ∧ ev E y = some (.int .u8 cv)) (hr : ∀ w, Inv C.w0 C.M w H → RS w [] (intC .u8) 1 base n c xs)
    (kk : TO C ops Q l ((d, .int .i64 (idxT xs cv)) :: E) H) : TO C ops Q (i :: l) E H := have ⟨ho, hg, hd, hx, hy⟩ := q0_;
  Xi ho hg hd (by simp) (fun a w hf hi => by
    obtain ⟨fn, h1, h2, h3, h4, h5⟩ := hF
    have hR := (hr w hi).ro
    have hcall : (Extern.BytealgIndexByte.indexByte #[.slice base n c, .int .u8 cv]).run C.P w = .ok (.int .i64 (idxT xs cv)) w := by
      cases base with
      | none =>
        have h6 := hR.nil rfl
        have h7 : xs = [] := List.eq_nil_of_length_eq_zero (by rw [hR.len]; exact h6)
        subst h7
        rw [Lib.run_indexByteNil w n c cv]; rfl
      | some ad =>
        rw [Lib.run_indexByteAt w ad n c xs hR.len (fun q hq => by
          have := hR.at 0 (o := q) (c := 0) (by rw [hR.len]; exact hq) (by omega)
          simpa [ea, intC] using this) cv]; rfl
    have e : a.eval (.func f) = .func (.func f) #[] #[] := rfl
    simp [execOp, resolve, Deferred.ofValue, invoke, hf.ev hx, hf.ev hy, e, run_callFunc_extern h1 h2 h3 h4 h5, hcall, Result.andThen]) kk
theorem Z6x {α : Type} {xs : List α} {t e : TypeId} {x y z : Operand} {base : Option Addr} {n c s : Nat} {k k' : IntKind} {p : Int} (hn : xs.length = n) (hc : n ≤ c) (hp : 0 ≤ p ∧ p ≤ (xs.length : Int))
    (q0_ : ops[i]? = some ⟨some d, .slice t x none (some y) (some z), ty, Zd, af, g⟩ ∧ Zk ops E g = true ∧ Nat.ble (d + 1) C.n = true ∧ ev E x = some (.slice base n c) ∧ ev E y = some (.int k p) ∧ ev E z = some (.int k' p)) (ht : Yu C.P t = some e) (hs : Yg C.P e = some s)
    (kk : TO C ops Q l ((d, .slice base p.toNat p.toNat) :: E) H) : TO C ops Q (i :: l) E H := have ⟨ho, hg, hd, hx, hy, hz⟩ := q0_;
  Xi ho hg hd (by simp) (fun a w hf hi => by
    have hu := Vz ht
    have hb : ∀ b : Option Addr, Option.map (fun x => x.add 0) b = b := fun b => by cases b <;> simp [Addr.add]
    have h0 := hp.1
    have h1 : p ≤ (c : Int) := by have := hp.2; omega
    have h2 : p ≤ (p.toNat : Int) := by omega
    simp [execOp, hf.ev hx, hf.ev hy, hf.ev hz, Instr.sliceAt, Instr.slice, Instr.sliceBounds, Instr.sliceBound, asIntOf, run_underlying hu, h0, h1, Ux hs, hb]
    intro hh; omega) kk
theorem Z75 {α : Type} {w : World} {M : List Nat} {f : α → List Value} {s n c : Nat} {base : Option Addr} {xs : List α} (h : RS w M f s base n c xs) {p : Int} (hp : 0 ≤ p ∧ p ≤ (xs.length : Int)) : RS w M f s base p.toNat p.toNat (xs.take p.toNat) := by
 have h1 := h.take hp
 exact ⟨h1.ro, h1.far, Nat.le_refl _⟩
def Rv (P : Program) (t : TypeId) : Bool :=
  match P.underlying t with
  | some (.interface _) => true
  | _ => false
theorem Z9k {P : Program} {t : TypeId} (h : Rv P t = true) : ∃ ms, P.underlying t = some (.interface ms) := by
 unfold Rv at h
 split at h
 · rename_i ms hu; exact ⟨ms, hu⟩
 · cases h
theorem Zcb {P : Program} (w : World) (n : Nat) {t : TypeId} {ev' : Value} {b : Bool} (hI : IfV ev' b) (ht : Rv P t = true) : (Op.equalIn (n + 1) t ev' .nilIface).run P w = .ok b w := by
 obtain ⟨ms, hu⟩ := Z9k ht
 rcases hI with ⟨rfl, rfl⟩ | ⟨rfl, tt, vv, rfl⟩
 · simp [Op.equalIn, run_underlying hu]
 · simp [Op.equalIn, run_underlying hu]
theorem Z9a {op : BinOp} {t : TypeId} {x : Operand} {ev' : Value} {b : Bool} (hI : IfV ev' b) : eqGuard op t x (.const .nilIface) ev' .nilIface = pure () := by
 rcases hI with ⟨rfl, rfl⟩ | ⟨rfl, tt, vv, rfl⟩
 · cases op <;> first | rfl | (cases x <;> rfl)
 · cases op <;> rfl
theorem Zat {t t2 : TypeId} {x : Operand} {ev' : Value} {b : Bool} (hI : IfV ev' b) (q0_ : ops[i]? = some ⟨some d, .binOp .neq t x (.const .nilIface) t2, ty, Zd, af, g⟩ ∧ Zk ops E g = true ∧ Nat.ble (d + 1) C.n = true ∧ ev E x = some ev') (ht : Rv C.P t = true) (kk : TO C ops Q l ((d, .bool (!b)) :: E) H) : TO C ops Q (i :: l) E H := have ⟨ho, hg, hd, hx⟩ := q0_;
  Xi ho hg hd (by simp) (fun a w hf _ => by
    have hb : binOp .neq t ev' .nilIface = (do pure (.bool (!(← Op.equal t ev' .nilIface)))) := by
      rcases hI with ⟨rfl, rfl⟩ | ⟨rfl, tt, vv, rfl⟩ <;> rfl
    have := Z78 (Z6k fun q => Zcb (P := C.P) w q hI ht) hb
    have ey : a.eval (.const .nilIface) = .nilIface := rfl
    simp only [execOp, hf.ev hx, ey, Z9a hI]
    simp [this]) kk
end rules
def BufO (ob : Option Nat) (b c : Nat) : Prop := c ≤ 9223372036854775807 ∧ ∀ q, ob = some q → b ≤ q
end Go.Acq
namespace Go.Acq
open Go Go.RowKit Go.Proofs Go.Shelf
def Z2c (e : TypeId) (R : Heap) : Bool := R.all fun p => match p.1, p.2 with
  | none, _ => true
  | some _, .cells _ T' _ => T' != e
  | some _, _ => true
theorem Z57 {e : TypeId} {R : Heap} (h : Z2c e R = true) {k : Nat} {o : Obj} (hm : (some k, o) ∈ R) : ∀ c fz, o ≠ .cells c e fz := by
 intro c fz ho
 have := List.all_eq_true.1 h _ hm
 subst ho
 simp at this
theorem BufO.nil (b : Nat) : BufO none b 0 := ⟨by omega, fun q e => by cases e⟩
section rules
variable {C : Cx} {ops : Array Oper} {Q : Exit → Act → World → Prop} {l : List Nat} {E : Env} {H R : Heap} {i d : Nat} {ty : TypeId} {Zd : String} {af : Array Edge} {g : Option (Nat × Bool)}
theorem Z83 {f : FuncId} {xs : Array Operand} {at' : Array TypeId} {vs : List Value} {Post : Value → Heap → Prop} (hF : Yb C.P f = true)
    (ho : ops[i]? = some ⟨some d, .call ⟨.value (.func f), xs, at'⟩, ty, Zd, af, g⟩) (hg : Zk ops E g = true) (hd : Nat.ble (d + 1) C.n = true) (hx : Vp E xs.toList = some vs)
    (hc : ∀ w, Inv C.w0 C.M w H → Calls C.P f vs.toArray w (fun e w' => ∃ v H', Post v H' ∧ e = .returned v ∧ Inv C.w0 C.M w' H'))
    (kk : ∀ v H', Post v H' → TO C ops Q l ((d, v) :: E) H') : TO C ops Q (i :: l) E H :=
  Jd ho hg (by simp) fun a w hf hi => by
    have e1 : xs.map a.eval = vs.toArray := by apply Array.ext'; simpa using Jm hf hx
    have hrun : (execOp a.eval ⟨some d, .call ⟨.value (.func f), xs, at'⟩, ty, Zd, af, g⟩).run C.P w = .ok (.enter f vs.toArray) w := by
      simp [execOp, resolve, Deferred.ofValue, invoke, Act.eval, e1, Gs hF]
    rw [hrun]
    refine ⟨by simp [FW], ?_⟩
    refine callsIn_FW.2 (Calls.mono (hc w hi) ?_)
    rintro e w' ⟨v, H', hP, rfl, hN⟩
    exact kk v H' hP _ _ (hf.put hd v) hN
variable {ρ : Ren} {b n c : Nat} {lr : Int} {ob : Option Nat} {xs : List Int} {j : List Value}
theorem Z85 (T e : TypeId) {w0 w : World} {M : List Nat} {R1 : Heap} (hi : Inv w0 M w H)
    (hb : Take (some b, .cells #[.slice (sb ob) n c, .int .i64 0, .int .i8 lr] T (0, 0)) H R1) (hr : Take (ob, .cells (arr (intC .u8) xs j).toArray e (0, 0)) R1 R)
    (hn : xs.length = n) (hc : n ≤ c) (hj : j.length = (c - n) * 1) (hz : ob = none → c = 0) (hB : BufO ob b c) : Lib.IsBuffer T e b b (xs.map (Value.int .u8)) w := by
  have h1 := hi.perm (hb.trans (List.Perm.cons _ hr))
  have hbk := h1.own b _ (.head _)
  have hl : (xs.map (Value.int .u8)).length = n := by rw [List.length_map]; exact hn
  refine ⟨Nat.le_refl _, .slice (sb ob) n c, lr, hbk, ⟨by rw [Nat.mul_one], ?_⟩, ?_⟩
  · cases ob with
    | none =>
      have h0 := hz rfl
      have hn0 : n = 0 := by omega
      subst hn0; subst h0
      exact .inl ⟨rfl, hl⟩
    | some q =>
      have hq := h1.own q _ (.tail _ (.head _))
      refine .inr ⟨q, c, _, by rw [hl]; rfl, hB.2 q rfl, hq, by rw [hl]; exact hc, ?_, ?_, ?_⟩
      · have := hB.1; unfold maxLen; omega
      · simp only [List.size_toArray, arr, List.length_append, Vs (s := 1) (f := intC .u8) (fun _ => rfl)]; omega
      · rw [hl]
        have e1 : xs.flatMap (intC .u8) = xs.map (Value.int .u8) := by rw [List.map_eq_flatMap]
        simp only [arr, e1, Nat.mul_one]
        rw [List.take_left' hl]
  · cases ob with
    | none => simp [sb, Value.ownBlock]
    | some q =>
      simp only [sb, Option.map_some, Value.ownBlock, ne_eq, Option.some.injEq]
      have ha := h1.apart
      simp only [List.filterMap_cons, List.nodup_cons, List.mem_cons, not_or] at ha
      exact fun e => ha.1.1 e.symm
theorem buf_back {T e : TypeId} {w0 w w' : World} {R1 : Heap} {ys : List Int} (hi : Inv w0 [] w H)
    (hb : Take (some b, .cells #[.slice (sb ob) n c, .int .i64 0, .int .i8 lr] T (0, 0)) H R1) (hr : Take (ob, .cells (arr (intC .u8) xs j).toArray e (0, 0)) R1 R) (hR : Z2c e R = true)
    (h : Lib.IsBuffer T e b b (ys.map (Value.int .u8)) w') (hBe : Below b w w') (hO : Lib.OthersKept e (some b) w w') (hlim : ys.length ≤ 140737488355328) :
    ∃ (ob' : Option Nat) (c' : Nat) (j' : List Value) (lr' : Int), ys.length ≤ c' ∧ j'.length = (c' - ys.length) * 1 ∧ (ob' = none → c' = 0) ∧ BufO ob' b c' ∧
      Inv w0 [] w' ((some b, .cells #[.slice (sb ob') ys.length c', .int .i64 0, .int .i8 lr'] T (0, 0)) :: (ob', .cells (arr (intC .u8) ys j').toArray e (0, 0)) :: R) := by
  obtain ⟨_, v, lr', hbk, ⟨hl1, hO1⟩, hne⟩ := h
  have hl : (ys.map (Value.int .u8)).length = ys.length := List.length_map ..
  rw [hl] at hO1
  have h1 := hi.perm (hb.trans (List.Perm.cons _ hr))
  have hbl : w0.heap.size ≤ b := by
    rcases h1.low b _ (.head _) with hh | hh
    · exact hh
    · simp at hh
  have hap := h1.apart
  simp only [List.filterMap_cons, List.nodup_cons] at hap
  have hRb : ∀ k o, (some k, o) ∈ R → k ≠ b := fun k o hm e => by
    subst e
    have hm2 := Gd hm
    cases ob with
    | none => exact hap.1 hm2
    | some q => exact hap.1 (List.mem_cons_of_mem _ hm2)
  have hRk : ∀ k o, (some k, o) ∈ R → w'.heap[k]? = some o := fun k o hm => by
    have hk : w.heap[k]? = some o := h1.own k o (.tail _ (.tail _ hm))
    exact hO k o hk (by simpa using hRb k o hm) (Z57 hR hm)
  have hRl : ∀ k o, (some k, o) ∈ R → w0.heap.size ≤ k ∨ k ∈ ([] : List Nat) := fun k o hm => h1.low k o (.tail _ (.tail _ hm))
  have hRn : (R.filterMap (·.1)).Nodup := by
    cases ob with
    | none => exact hap.2
    | some q => exact (List.nodup_cons.1 hap.2).2
  have hRb2 : b ∉ R.filterMap (·.1) := fun hm => by
    obtain ⟨o, ho⟩ := Kl hm
    exact hRb b o ho rfl
  have hkeep : ∀ k, k < w0.heap.size → k ∉ ([] : List Nat) → w'.heap[k]? = w0.heap[k]? := fun k hk hm => by
    rw [hBe.block k (by omega)]; exact h1.keep k hk hm
  have hsz : w0.heap.size ≤ w'.heap.size := Nat.le_trans h1.size hBe.size
  rcases hO1 with ⟨rfl, h0⟩ | ⟨q, cap, cur, rfl, hq, hcur, hnc, hcm, hcs, htk⟩
  · have hy : ys = [] := List.eq_nil_of_length_eq_zero h0
    subst hy
    refine ⟨none, 0, [], lr', Nat.le_refl _, rfl, fun _ => rfl, ⟨by omega, fun q e => by cases e⟩, ?_⟩
    refine ⟨hBe.os.trans h1.os, hBe.tape.trans h1.tape, hBe.output.trans h1.output, hsz, hkeep, fun k o hm => ?_, fun k o hm => ?_, ?_⟩
    · rcases List.mem_cons.1 hm with e | hm
      · cases e; exact hbk
      · rcases List.mem_cons.1 hm with e | hm
        · cases e
        · exact hRk k o hm
    · rcases List.mem_cons.1 hm with e | hm
      · cases e; exact .inl hbl
      · rcases List.mem_cons.1 hm with e | hm
        · cases e
        · exact hRl k o hm
    · simp only [List.filterMap_cons, List.nodup_cons]
      exact ⟨hRb2, hRn⟩
  · rw [Nat.mul_one] at hcs htk
    have hqb : q ≠ b := fun e => hne (by rw [← e]; rfl)
    have hqR : q ∉ R.filterMap (·.1) := fun hm => by
      obtain ⟨o, ho⟩ := Kl hm
      have h9 := hRk q o ho
      rw [hcur] at h9
      injection h9 with h9
      exact Z57 hR ho _ _ h9.symm
    have e1 : ys.flatMap (intC .u8) = ys.map (Value.int .u8) := by rw [List.map_eq_flatMap]
    have hrow : cur = (arr (intC .u8) ys (cur.toList.drop ys.length)).toArray := by
      apply Array.ext'
      simp only [arr, e1]
      rw [← htk, List.take_append_drop]
    refine ⟨some q, cap, cur.toList.drop ys.length, lr', hnc, by rw [List.length_drop, Array.length_toList, hcs, Nat.mul_one], (fun e => by cases e), ⟨by unfold maxLen at hcm; omega, fun q' e => by cases e; exact hq⟩, ?_⟩
    refine ⟨hBe.os.trans h1.os, hBe.tape.trans h1.tape, hBe.output.trans h1.output, hsz, hkeep, fun k o hm => ?_, fun k o hm => ?_, ?_⟩
    · rcases List.mem_cons.1 hm with e | hm
      · cases e; exact hbk
      · rcases List.mem_cons.1 hm with e | hm
        · injection e with e1 e2
          injection e1 with e1
          subst e1; subst e2
          rw [← hrow]; exact hcur
        · exact hRk k o hm
    · rcases List.mem_cons.1 hm with e | hm
      · cases e; exact .inl hbl
      · rcases List.mem_cons.1 hm with e | hm
        · injection e with e1 e2
          injection e1 with e1
          subst e1
          exact .inl (by omega)
        · exact hRl k o hm
    · simp only [List.filterMap_cons, List.nodup_cons, List.mem_cons, not_or]
      exact ⟨⟨fun e => hqb e.symm, hRb2⟩, hqR, hRn⟩
theorem Z3d (L : LaysM.n178 C.P ρ) {x y : Operand} {at' : Array TypeId} {s : Str} {R1 : Heap} (hlim : (xs ++ ub s).length ≤ 140737488355328) (hM : C.M = []) (hF : Yb C.P (ρ.f 178) = true)
    (q0_ : ops[i]? = some ⟨some d, .call ⟨.value (.func (ρ.f 178)), #[x, y], at'⟩, ty, Zd, af, g⟩ ∧ Zk ops E g = true ∧ Nat.ble (d + 1) C.n = true ∧ ev E x = some (.pointer (some ⟨b, 0, none⟩)) ∧ ev E y = some (.string (bs s)))
    (hb : Take (some b, .cells #[.slice (sb ob) n c, .int .i64 0, .int .i8 lr] (ρ.t 93) (0, 0)) H R1) (hr : Take (ob, .cells (arr (intC .u8) xs j).toArray (ρ.t 5) (0, 0)) R1 R) (hR : Z2c (ρ.t 5) R = true)
    (hn : xs.length = n) (hc : n ≤ c) (hj : j.length = (c - n) * 1) (hz : ob = none → c = 0) (hB : BufO ob b c)
    (kk : ∀ (ob' : Option Nat) (n' c' : Nat) (j' : List Value) (lr' : Int), (xs ++ ub s).length = n' → n' ≤ c' → j'.length = (c' - n') * 1 → (ob' = none → c' = 0) → BufO ob' b c' →
      TO C ops Q l ((d, .tuple #[.int .i64 (s.length : Int), .nilIface]) :: E) ((some b, .cells #[.slice (sb ob') n' c', .int .i64 0, .int .i8 lr'] (ρ.t 93) (0, 0)) :: (ob', .cells (arr (intC .u8) (xs ++ ub s) j').toArray (ρ.t 5) (0, 0)) :: R)) :
    TO C ops Q (i :: l) E H := by
  obtain ⟨ho, hg, hd, hx, hy⟩ := q0_
  refine Z83 (vs := [.pointer (some ⟨b, 0, none⟩), .string (bs s)]) (Post := fun v H' => v = .tuple #[.int .i64 (s.length : Int), .nilIface] ∧ ∃ (ob' : Option Nat) (c' : Nat) (j' : List Value) (lr' : Int), (xs ++ ub s).length ≤ c' ∧ j'.length = (c' - (xs ++ ub s).length) * 1 ∧ (ob' = none → c' = 0) ∧ BufO ob' b c' ∧
      H' = (some b, .cells #[.slice (sb ob') (xs ++ ub s).length c', .int .i64 0, .int .i8 lr'] (ρ.t 93) (0, 0)) :: (ob', .cells (arr (intC .u8) (xs ++ ub s) j').toArray (ρ.t 5) (0, 0)) :: R) hF ho hg hd (by simp [Vp, hx, hy]) (fun w hi => ?_) ?_
  · have hB1 := Z85 (ρ.t 93) (ρ.t 5) hi hb hr hn hc hj hz hB
    have hbl : b < w.heap.size := hi.lt hb.mem
    rw [hM] at hi ⊢
    have hcall := Any.Buffer_WriteString_k L b b (xs.map (Value.int .u8)) (bs s) w hB1 (by omega) (fun v hv => by
      obtain ⟨y', _, rfl⟩ := List.mem_map.1 hv; rfl) (by rw [List.length_map, Xv]; rw [List.length_append, Jb] at hlim; exact hlim)
    refine Calls.mono hcall ?_
    rintro e w' ⟨rfl, hB2, hBe, hOk⟩
    have e2 : xs.map (Value.int .u8) ++ Lib.byteCells (bs s).data.toList = (xs ++ ub s).map (Value.int .u8) := by
      rw [Z3f, List.map_append]; simp [Lib.byteCells, ub]
    rw [e2] at hB2
    obtain ⟨ob', c', j', lr', h1, h2, h3, h4, h5⟩ := buf_back hi hb hr hR hB2 hBe hOk hlim
    refine ⟨_, _, ⟨?_, ob', c', j', lr', h1, h2, h3, h4, rfl⟩, rfl, h5⟩
    rw [Xv]
  · rintro v H' ⟨rfl, ob', c', j', lr', h1, h2, h3, h4, rfl⟩
    exact kk ob' _ c' j' lr' rfl h1 h2 h3 h4
theorem Z82 (L : LaysM.n183 C.P ρ) {x : Operand} {at' : Array TypeId} {R1 : Heap} (hF : Yb C.P (ρ.f 183) = true)
    (q0_ : ops[i]? = some ⟨some d, .call ⟨.value (.func (ρ.f 183)), #[x], at'⟩, ty, Zd, af, g⟩ ∧ Zk ops E g = true ∧ Nat.ble (d + 1) C.n = true ∧ ev E x = some (.pointer (some ⟨b, 0, none⟩)) ∧ C.M = [])
    (hb : Take (some b, .cells #[.slice (sb ob) n c, .int .i64 0, .int .i8 lr] (ρ.t 93) (0, 0)) H R1) (hr : Take (ob, .cells (arr (intC .u8) xs j).toArray (ρ.t 5) (0, 0)) R1 R) (hR : Z2c (ρ.t 5) R = true)
    (hn : xs.length = n) (hc : n ≤ c) (hj : j.length = (c - n) * 1) (hz : ob = none → c = 0) (hB : BufO ob b c)
    (kk : ∀ (ob' : Option Nat) (n' c' : Nat) (j' : List Value), xs.length = n' → n' ≤ c' → j'.length = (c' - n') * 1 → (ob' = none → c' = 0) →
      TO C ops Q l ((d, .slice (sb ob') n' c') :: E) ((ob', .cells (arr (intC .u8) xs j').toArray (ρ.t 5) (0, 0)) :: R)) :
    TO C ops Q (i :: l) E H := by
  obtain ⟨ho, hg, hd, hx, hM⟩ := q0_
  refine Z83 (vs := [.pointer (some ⟨b, 0, none⟩)]) (Post := fun v H' => ∃ (ob' : Option Nat) (c' : Nat) (j' : List Value), v = .slice (sb ob') xs.length c' ∧ xs.length ≤ c' ∧ j'.length = (c' - xs.length) * 1 ∧ (ob' = none → c' = 0) ∧
      H' = (ob', .cells (arr (intC .u8) xs j').toArray (ρ.t 5) (0, 0)) :: R) hF ho hg hd (by simp [Vp, hx]) (fun w hi => ?_) ?_
  · have hB1 := Z85 (ρ.t 93) (ρ.t 5) hi hb hr hn hc hj hz hB
    have hbl : b < w.heap.size := hi.lt hb.mem
    rw [hM] at hi ⊢
    refine Calls.mono (Any.Buffer_Bytes L b b (xs.map (Value.int .u8)) w hB1) ?_
    rintro e w' ⟨v, rfl, hv, k, rfl⟩
    have hbk : (w.drewN k).heap[b]? = some (.cells #[v, .int .i64 0, .int .i8 0] (ρ.t 93) (0, 0)) ∨ True := .inr trivial
    have hl : (xs.map (Value.int .u8)).length = xs.length := List.length_map ..
    have h1 := hi.perm (hb.trans (List.Perm.cons _ hr))
    have hi2 : Inv C.w0 [] (w.drewN k) R := (hi.pick (Z04 (S := [(some b, Obj.cells #[.slice (sb ob) n c, .int .i64 0, .int .i8 lr] (ρ.t 93) (0, 0)), (ob, .cells (arr (intC .u8) xs j).toArray (ρ.t 5) (0, 0))]) ((hb.trans (List.Perm.cons _ hr)).trans (by
      exact (List.perm_append_comm (l₁ := [_, _]) (l₂ := R)))))).ofHeap rfl rfl rfl rfl
    rcases hv with ⟨_, ⟨rfl, h0⟩ | ⟨q, cap, cur, rfl, hq, hcur, hnc, hcm, hcs, htk⟩⟩
    · rw [hl] at h0
      have hy : xs = [] := List.eq_nil_of_length_eq_zero h0
      subst hy
      exact ⟨_, _, ⟨none, 0, [], rfl, Nat.le_refl _, rfl, fun _ => rfl, rfl⟩, rfl, hi2.addNone _⟩
    · rw [hl] at hnc htk
      rw [Nat.mul_one] at hcs htk
      have hcur' : w.heap[q]? = some (.cells cur (ρ.t 5) (0, 0)) := hcur
      have hqR : q ∉ R.filterMap (·.1) := fun hm => by
        obtain ⟨o, ho'⟩ := Kl hm
        have h9 : w.heap[q]? = some o := h1.own q o (.tail _ (.tail _ ho'))
        rw [hcur'] at h9
        injection h9 with h9
        exact Z57 hR ho' _ _ h9.symm
      have e1 : xs.flatMap (intC .u8) = xs.map (Value.int .u8) := by rw [List.map_eq_flatMap]
      have hrow : cur = (arr (intC .u8) xs (cur.toList.drop xs.length)).toArray := by
        apply Array.ext'
        simp only [arr, e1]
        rw [← htk, List.take_append_drop]
      have hbl2 : C.w0.heap.size ≤ b := by
        rcases h1.low b _ (.head _) with hh | hh
        · exact hh
        · simp at hh
      refine ⟨_, _, ⟨some q, cap, cur.toList.drop xs.length, by rw [hl]; rfl, hnc, by rw [List.length_drop, Array.length_toList]; omega, (fun e => by cases e), rfl⟩, rfl, ?_⟩
      refine ⟨hi2.os, hi2.tape, hi2.output, hi2.size, hi2.keep, fun k' o hm => ?_, fun k' o hm => ?_, ?_⟩
      · rcases List.mem_cons.1 hm with e | hm
        · injection e with e1 e2
          injection e1 with e1
          subst e1; subst e2
          rw [← hrow]; exact hcur
        · exact hi2.own k' o hm
      · rcases List.mem_cons.1 hm with e | hm
        · injection e with e1 e2
          injection e1 with e1
          subst e1
          exact .inl (by omega)
        · exact hi2.low k' o hm
      · simp only [List.filterMap_cons, List.nodup_cons]
        exact ⟨hqR, hi2.apart⟩
  · rintro v H' ⟨ob', c', j', rfl, h1, h2, h3, rfl⟩
    exact kk ob' _ c' j' rfl h1 h2 h3
theorem Z9c {P : Program} {w : World} {b : Nat} {cs : Array Value} {T : TypeId} {fr : Nat × Nat} (hb : w.heap[b]? = some (.cells cs T fr)) : (markStringish ⟨b, 0, none⟩).run P w = .ok () (w.freeze ⟨b, cs.size, none⟩ 1) := by
 show ((Go.shape b).bind _).run P w = _
 simp only [Go.shape, Sem.bind, Sem.run, World.shape?, hb]
 rfl
theorem Z4c {s e T : TypeId} {x : Operand} {b n c : Nat} {cs : Array Value} {fr : Nat × Nat} (q0_ : ops[i]? = some ⟨some d, .convert s s x, ty, Zd, af, g⟩ ∧ Zk ops E g = true ∧ Nat.ble (d + 1) C.n = true ∧ ev E x = some (.slice (some ⟨b, 0, none⟩) n c)) (hs : Yu C.P s = some e) (he : C.P.underlying e = some (.int .u8)) (ht : Take (some b, .cells cs T fr) H R)
    (kk : ∀ fr' : Nat × Nat, TO C ops Q l ((d, .slice (some ⟨b, 0, none⟩) n c) :: E) ((some b, .cells cs T fr') :: R)) : TO C ops Q (i :: l) E H := have ⟨ho, hg, hd, hx⟩ := q0_;
  Jd ho hg (by simp) fun a w hf hi => by
    have hb := hi.own _ _ ht.mem
    have h1 : (execOp a.eval ⟨some d, .convert s s x, ty, Zd, af, g⟩).run C.P w = .ok (.value (.slice (some ⟨b, 0, none⟩) n c)) (w.freeze ⟨b, cs.size, none⟩ 1) := by
      simp only [execOp, hf.ev hx]
      simp [convert, run_underlying (Vz hs), run_underlying he, Z9c hb]
    rw [h1]
    have hi2 : Inv C.w0 C.M (w.freeze ⟨b, cs.size, none⟩ 1) ((some b, .cells cs T (if fr.1 == fr.2 then (cs.size, cs.size + 1) else (min fr.1 cs.size, max fr.2 (cs.size + 1)))) :: R) := by
      refine hi.upd ht rfl rfl rfl (by simp [World.freeze]) ?_ fun k hk => ?_
      · obtain ⟨lo, hi⟩ := fr
        simp [World.freeze, Array.getElem?_modify, hb]
      · simp only [World.freeze, if_neg (Nat.one_ne_zero), Array.getElem?_modify]
        rw [if_neg (fun e => hk e.symm)]
    exact kk _ _ _ (hf.put hd _) hi2
end rules
end Go.Acq
namespace Go.Acq
open Go
structure Net where
  N : Int
  S : Int
  T : Int
  Arcs : List Arc
  deriving DecidableEq
instance : Inhabited Net := ⟨⟨default, default, default, default⟩⟩
structure Csr where
  N : Int
  S : Int
  T : Int
  First : List Int
  Head : List Int
  Rev : List Int
  Cap : List Int
  Arc : List Int
  Back : List Bool
  deriving DecidableEq
instance : Inhabited Csr := ⟨⟨default, default, default, default, default, default, default, default, default⟩⟩
def Kw (x0 n1 : Int) : Option (Int) :=
  if n1 < 1 then
  (some 0)
  else
  gd (n1 ≠ 0) <|
  gd (i64ok ((x0.tmod n1) + n1)) <|
  gd (n1 ≠ 0) <|
  some (((x0.tmod n1) + n1).tmod n1)
def Nw (n0 : Net) (a1 r6 : Int) (a0 : List Arc) (a2 c38 : Int) : Option ((List Arc × Int) ⊕ (List Arc)) :=
  Option.bind (Kw (((n0.Arcs.take (min (n0.Arcs.length : Int) a1).toNat).getD a2.toNat default).fr) (2 + r6)) fun a3 =>
  Option.bind (Kw (((n0.Arcs.take (min (n0.Arcs.length : Int) a1).toNat).getD a2.toNat default).to) (2 + r6)) fun a4 =>
  gd (apok (a0 ++ ([(Arc.mk a3 a4 (c38.tmod 1125899906842624))])).length 24) <|
  gd (i64ok (a2 + 1)) <|
  some (.inl ((a0 ++ ([(Arc.mk a3 a4 (c38.tmod 1125899906842624))])), (a2 + 1)))
def Re (n0 : Net) (a0 r6 : Int) (a1 : List Arc) (a2 : Int) : Option ((List Arc × Int) ⊕ (List Arc)) :=
  if a2 < ((n0.Arcs.take (min (n0.Arcs.length : Int) a0).toNat).length : Int) then
  (gd (inb a2 (n0.Arcs.take (min (n0.Arcs.length : Int) a0).toNat).length) <|
  if (((n0.Arcs.take (min (n0.Arcs.length : Int) a0).toNat).getD a2.toNat default).cap) < 0 then
  (gd (i64ok ((((n0.Arcs.take (min (n0.Arcs.length : Int) a0).toNat).getD a2.toNat default).cap) + 1)) <|
  gd (i64ok (-((((n0.Arcs.take (min (n0.Arcs.length : Int) a0).toNat).getD a2.toNat default).cap) + 1))) <|
  Nw n0 a0 r6 a1 a2 (-((((n0.Arcs.take (min (n0.Arcs.length : Int) a0).toNat).getD a2.toNat default).cap) + 1)))
  else
  Nw n0 a0 r6 a1 a2 (((n0.Arcs.take (min (n0.Arcs.length : Int) a0).toNat).getD a2.toNat default).cap))
  else
  some (.inr a1)
def Z1d (r6 a1 a2 : Int) (a0 : List Arc) : Option (Net) :=
  some (Net.mk (2 + r6) a1 a2 a0)
def Ln (n0 : Net) (a0 r6 a1 a2 : Int) : Option (Net) :=
  gd (0 ≤ (min (n0.Arcs.length : Int) a0) ∧ (min (n0.Arcs.length : Int) a0) ≤ (n0.Arcs.length : Int)) <|
  Option.bind (Xf (fun s => Re n0 a0 r6 s.1 s.2) Yy ([], 0)) fun p2_0_0 => Z1d r6 a1 a2 p2_0_0
def Z06 (n0 : Net) (a0 a1 : Int) : Option (Net) :=
  gd (i64ok (a0 - 1)) <|
  Option.bind (Kw n0.N (a0 - 1)) fun r6 =>
  gd (i64ok (2 + r6)) <|
  Option.bind (Kw n0.S (2 + r6)) fun a2 =>
  Option.bind (Kw n0.T (2 + r6)) fun a3 =>
  if a2 = a3 then
  (gd (i64ok (a2 + 1)) <|
  gd ((2 + r6) ≠ 0) <|
  Ln n0 a1 r6 a2 ((a2 + 1).tmod (2 + r6)))
  else
  Ln n0 a1 r6 a2 a3
def La (n0 : Net) (a0 : List Int) (x8 a1 : Int) : Option ((List Int × Int) ⊕ (List Int)) :=
  gd (inb x8 a0.length) <|
  gd (i64ok (x8 + 1)) <|
  some (.inl ((a0.set x8.toNat (min a1 ((n0.Arcs.getD x8.toNat default).cap))), (x8 + 1)))
def Lx (n0 : Net) (a0 : List Int) (x8 a1 : Int) : Option ((List Int × Int) ⊕ (List Int)) :=
  if ((n0.Arcs.getD x8.toNat default).cap) < 4611686018427387904 then
  (gd (i64ok (((n0.Arcs.getD x8.toNat default).cap) + 1)) <|
  gd ((((n0.Arcs.getD x8.toNat default).cap) + 1) ≠ 0) <|
  La n0 a0 x8 (a1.tmod (((n0.Arcs.getD x8.toNat default).cap) + 1)))
  else
  La n0 a0 x8 a1
def Z0m (n0 : Net) (l1 a0 : List Int) (x8 : Int) : Option ((List Int × Int) ⊕ (List Int)) :=
  if x8 < (n0.Arcs.length : Int) then
  (gd (inb x8 n0.Arcs.length) <|
  if (l1.length : Int) ≤ x8 then
  (gd (i64ok (x8 + 1)) <|
  some (.inl (a0, (x8 + 1))))
  else
  if ((n0.Arcs.getD x8.toNat default).fr) = ((n0.Arcs.getD x8.toNat default).to) then
  (gd (i64ok (x8 + 1)) <|
  some (.inl (a0, (x8 + 1))))
  else
  gd (inb x8 l1.length) <|
  if (l1.getD x8.toNat 0) < 0 then
  (gd (i64ok ((l1.getD x8.toNat 0) + 1)) <|
  gd (i64ok (-((l1.getD x8.toNat 0) + 1))) <|
  Lx n0 a0 x8 (-((l1.getD x8.toNat 0) + 1)))
  else
  Lx n0 a0 x8 (l1.getD x8.toNat 0))
  else
  some (.inr a0)
def Z1i (a0 : List Int) : Option (List Int) :=
  some a0
def Z0b (n0 : Net) (l1 : List Int) : Option (List Int) :=
  gd (mkok (n0.Arcs.length : Int)) <|
  Option.bind (Xf (fun s => Z0m n0 l1 s.1 s.2) Yy ((List.replicate ((n0.Arcs.length : Int).toNat) (0 : Int)), 0)) fun p1_0_0 => Z1i p1_0_0
def Z1b  : Option (Unit) :=
  some ()
def Z25  : Option (Unit) :=
  some ()
def Z2y  : Option (Unit) :=
  Option.bind Z1b fun _ =>
  Option.bind Z25 fun _ =>
  some ()
def Z1r (n0 : Net) : Option (Bool) :=
  if 2 ≤ n0.N then
  (some (decide (n0.N ≤ 4096)))
  else
  some false
def Z2r (n0 : Net) : Option (Bool) :=
  some (decide ((n0.Arcs.length : Int) ≤ 16384))
def Gc (n0 : Net) (v1 : Int) : Option (Bool) :=
  if 0 ≤ v1 then
  (some (decide (v1 < n0.N)))
  else
  some false
def Z1g (n0 : Net) : Option (Bool) :=
  Option.bind (Gc n0 n0.S) fun r3 =>
  if r3 = true then
  (Option.bind (Gc n0 n0.T) fun r6 =>
  if r6 = true then
  (some (decide (n0.S ≠ n0.T)))
  else
  some false)
  else
  some false
def Z0w (n0 : Net) (a1 : Arc) : Option (Bool) :=
  Option.bind (Gc n0 a1.fr) fun r5 =>
  if r5 = true then
  (Option.bind (Gc n0 a1.to) fun r8 =>
  some r8)
  else
  some false
def Z1u (a0 : Arc) (c2 : Net) : Option (Bool) :=
  Option.bind (Z0w c2 a0) fun r3 =>
  some (!r3)
def Rt (s0 : List Arc) (a0 : Net) (x1 : Int) : Option ((Int) ⊕ (Int ⊕ Unit)) :=
  if x1 < (s0.length : Int) then
  (gd (inb x1 s0.length) <|
  Option.bind (Z1u (s0.getD x1.toNat default) a0) fun r4 =>
  if r4 = true then
  (some (.inr (.inl x1)))
  else
  gd (i64ok (x1 + 1)) <|
  some (.inl (x1 + 1)))
  else
  some (.inr (.inr ()))
def Z40  : Option (Int) :=
  some (-1)
def Z1w (s0 : List Arc) (a0 : Net) : Option (Int) :=
  Option.bind (Xf (fun s => Rt s0 a0 s) Yy 0) fun o => match o with | .inl p1_0_0 => (some p1_0_0) | .inr () => Z40
def Z28 (s0 : List Arc) (a0 : Net) : Option (Bool) :=
  Option.bind (Z1w s0 a0) fun r1 =>
  some (decide (0 ≤ r1))
def Rg (n0 : Net) : Option (Bool) :=
  Option.bind (Z28 n0.Arcs n0) fun r3 =>
  some (!r3)
def Z1y (n0 : Net) (a1 : Arc) : Option (Bool) :=
  some (decide (0 ≤ a1.cap))
def Z38 (a0 : Arc) (c2 : Net) : Option (Bool) :=
  Option.bind (Z1y c2 a0) fun r3 =>
  some (!r3)
def Z0d (s0 : List Arc) (a0 : Net) (x1 : Int) : Option ((Int) ⊕ (Int ⊕ Unit)) :=
  if x1 < (s0.length : Int) then
  (gd (inb x1 s0.length) <|
  Option.bind (Z38 (s0.getD x1.toNat default) a0) fun r4 =>
  if r4 = true then
  (some (.inr (.inl x1)))
  else
  gd (i64ok (x1 + 1)) <|
  some (.inl (x1 + 1)))
  else
  some (.inr (.inr ()))
def Z4f  : Option (Int) :=
  some (-1)
def Z2g (s0 : List Arc) (a0 : Net) : Option (Int) :=
  Option.bind (Xf (fun s => Z0d s0 a0 s) Yy 0) fun o => match o with | .inl p1_0_0 => (some p1_0_0) | .inr () => Z4f
def Z2m (s0 : List Arc) (a0 : Net) : Option (Bool) :=
  Option.bind (Z2g s0 a0) fun r1 =>
  some (decide (0 ≤ r1))
def Z0h (n0 : Net) : Option (Bool) :=
  Option.bind (Z2m n0.Arcs n0) fun r3 =>
  some (!r3)
def Rw (n0 : Net) (a0 x4 : Int) (a1 : Bool) : Option ((Int × Int) ⊕ ((Int × Bool) ⊕ Int)) :=
  if a1 = true then
  (some (.inr (.inl (0, false))))
  else
  gd (i64ok (a0 - ((n0.Arcs.getD x4.toNat default).cap))) <|
  gd (i64ok (x4 + 1)) <|
  some (.inl ((a0 - ((n0.Arcs.getD x4.toNat default).cap)), (x4 + 1)))
def Ru (n0 : Net) (a0 x4 : Int) : Option ((Int × Int) ⊕ ((Int × Bool) ⊕ Int)) :=
  if x4 < (n0.Arcs.length : Int) then
  (gd (inb x4 n0.Arcs.length) <|
  if ((n0.Arcs.getD x4.toNat default).cap) < 0 then
  (Rw n0 a0 x4 true)
  else
  Rw n0 a0 x4 (decide (a0 < ((n0.Arcs.getD x4.toNat default).cap))))
  else
  some (.inr (.inr a0))
def Z2b (a0 : Int) : Option (Int × Bool) :=
  gd (i64ok (4611686018427387904 - a0)) <|
  some ((4611686018427387904 - a0), true)
def Z0r (n0 : Net) : Option (Int × Bool) :=
  Option.bind (Xf (fun s => Ru n0 s.1 s.2) Yy (4611686018427387904, 0)) fun o => match o with | .inl (p1_0_0, p1_0_1) => (some (p1_0_0, p1_0_1)) | .inr p1_1_0 => (Z2b p1_1_0)
def Z1a (n0 : Net) : Option (Bool) :=
  Option.bind (Z0r n0) fun (r3, r4) =>
  some r4
def Z2j  : Option (Int) :=
  some 0
def Ji (n0 : Net) : Option (Int) :=
  Option.bind Z2y fun _ =>
  Option.bind (Z1r n0) fun a0 =>
  if (!a0) = true then
  (some 10)
  else
  Option.bind (Z2r n0) fun a1 =>
  if (!a1) = true then
  (some 11)
  else
  Option.bind (Z1g n0) fun a2 =>
  if (!a2) = true then
  (some 12)
  else
  Option.bind (Rg n0) fun a3 =>
  if (!a3) = true then
  (some 13)
  else
  Option.bind (Z0h n0) fun a4 =>
  if (!a4) = true then
  (some 14)
  else
  Option.bind (Z1a n0) fun a5 =>
  if (!a5) = true then
  (some 15)
  else
  Z2j
def Z0p (a0 b1 : List Int) (x2 : Int) : Option ((Int) ⊕ (Bool ⊕ Unit)) :=
  if x2 < (a0.length : Int) then
  (gd (inb x2 a0.length) <|
  gd (inb x2 b1.length) <|
  if (a0.getD x2.toNat 0) ≠ (b1.getD x2.toNat 0) then
  (some (.inr (.inl false)))
  else
  gd (i64ok (x2 + 1)) <|
  some (.inl (x2 + 1)))
  else
  some (.inr (.inr ()))
def Z3x  : Option (Bool) :=
  some true
def Gh (a0 b1 : List Int) : Option (Bool) :=
  if (a0.length : Int) ≠ (b1.length : Int) then
  (some false)
  else
  Option.bind (Xf (fun s => Z0p a0 b1 s) Yy 0) fun o => match o with | .inl p1_0_0 => (some p1_0_0) | .inr () => Z3x
def Z0x (a0 b1 : List Bool) (x2 : Int) : Option ((Int) ⊕ (Bool ⊕ Unit)) :=
  if x2 < (a0.length : Int) then
  (gd (inb x2 a0.length) <|
  gd (inb x2 b1.length) <|
  if (!((a0.getD x2.toNat false) == (b1.getD x2.toNat false))) = true then
  (some (.inr (.inl false)))
  else
  gd (i64ok (x2 + 1)) <|
  some (.inl (x2 + 1)))
  else
  some (.inr (.inr ()))
def Z52  : Option (Bool) :=
  some true
def Nb (a0 b1 : List Bool) : Option (Bool) :=
  if (a0.length : Int) ≠ (b1.length : Int) then
  (some false)
  else
  Option.bind (Xf (fun s => Z0x a0 b1 s) Yy 0) fun o => match o with | .inl p1_0_0 => (some p1_0_0) | .inr () => Z52
end Go.Acq
namespace Go.Acq
open Go
structure Hop where
  Arc : Int
  Back : Bool
  deriving DecidableEq
instance : Inhabited Hop := ⟨⟨default, default⟩⟩
def Z0v (n0 : Net) (f1 : List Int) (x7 : Int) : Option ((Int) ⊕ (Bool ⊕ Unit)) :=
  if x7 < (n0.Arcs.length : Int) then
  (gd (inb x7 n0.Arcs.length) <|
  gd (inb x7 f1.length) <|
  if (f1.getD x7.toNat 0) < 0 then
  (some (.inr (.inl false)))
  else
  gd (inb x7 f1.length) <|
  if ((n0.Arcs.getD x7.toNat default).cap) < (f1.getD x7.toNat 0) then
  (some (.inr (.inl false)))
  else
  gd (i64ok (x7 + 1)) <|
  some (.inl (x7 + 1)))
  else
  some (.inr (.inr ()))
def Z1s  : Option (Bool) :=
  some true
def Ni (n0 : Net) (f1 : List Int) : Option (Bool) :=
  Option.bind (Ji n0) fun r3 =>
  if r3 ≠ 0 then
  (some false)
  else
  if (f1.length : Int) ≠ (n0.Arcs.length : Int) then
  (some false)
  else
  Option.bind (Xf (fun s => Z0v n0 f1 s) Yy 0) fun o => match o with | .inl p1_0_0 => (some p1_0_0) | .inr () => Z1s
def Rm (n0 : Net) (f1 a1 : List Int) (a0 : Int) : Option ((List Int × Int) ⊕ (List Int)) :=
  if a0 < (n0.Arcs.length : Int) then
  (gd (inb a0 n0.Arcs.length) <|
  gd (inb ((n0.Arcs.getD a0.toNat default).fr) a1.length) <|
  gd (inb a0 f1.length) <|
  gd (i64ok ((a1.getD ((n0.Arcs.getD a0.toNat default).fr).toNat 0) - (f1.getD a0.toNat 0))) <|
  gd (inb ((n0.Arcs.getD a0.toNat default).fr) a1.length) <|
  gd (inb ((n0.Arcs.getD a0.toNat default).to) (a1.set ((n0.Arcs.getD a0.toNat default).fr).toNat ((a1.getD ((n0.Arcs.getD a0.toNat default).fr).toNat 0) - (f1.getD a0.toNat 0))).length) <|
  gd (inb a0 f1.length) <|
  gd (i64ok (((a1.set ((n0.Arcs.getD a0.toNat default).fr).toNat ((a1.getD ((n0.Arcs.getD a0.toNat default).fr).toNat 0) - (f1.getD a0.toNat 0))).getD ((n0.Arcs.getD a0.toNat default).to).toNat 0) + (f1.getD a0.toNat 0))) <|
  gd (inb ((n0.Arcs.getD a0.toNat default).to) (a1.set ((n0.Arcs.getD a0.toNat default).fr).toNat ((a1.getD ((n0.Arcs.getD a0.toNat default).fr).toNat 0) - (f1.getD a0.toNat 0))).length) <|
  gd (i64ok (a0 + 1)) <|
  some (.inl (((a1.set ((n0.Arcs.getD a0.toNat default).fr).toNat ((a1.getD ((n0.Arcs.getD a0.toNat default).fr).toNat 0) - (f1.getD a0.toNat 0))).set ((n0.Arcs.getD a0.toNat default).to).toNat (((a1.set ((n0.Arcs.getD a0.toNat default).fr).toNat ((a1.getD ((n0.Arcs.getD a0.toNat default).fr).toNat 0) - (f1.getD a0.toNat 0))).getD ((n0.Arcs.getD a0.toNat default).to).toNat 0) + (f1.getD a0.toNat 0))), (a0 + 1))))
  else
  some (.inr a1)
def Z35 (a0 : List Int) : Option (List Int × Int) :=
  some (a0, 0)
def Z0e (n0 : Net) (f1 : List Int) : Option (List Int × Int) :=
  Option.bind (Ni n0 f1) fun r3 =>
  if (!r3) = true then
  (some ([], 20))
  else
  gd (mkok n0.N) <|
  Option.bind (Xf (fun s => Rm n0 f1 s.1 s.2) Yy ((List.replicate n0.N.toNat (0 : Int)), 0)) fun p1_0_0 => Z35 p1_0_0
end Go.Acq
namespace Go.Acq
open Go
end Go.Acq
namespace Go.Acq
open Go
structure BytesBuffer where
  buf : List Int
  off : Int
  lastRead : Int
  deriving DecidableEq
instance : Inhabited BytesBuffer := ⟨⟨default, default, default⟩⟩
def Lt (c0 : Int) : Option (Bool) :=
  if c0 = 9 then
  (some true)
  else
  if c0 = 13 then
  (some true)
  else
  some (decide (c0 = 32))
def Wf (x : Nat) : Bool := decide (Lt (x : Int) = some true)
def Z17 (s0 : Str) : Option (List Str) :=
  gd (s0.length ≤ 4294967296) <| some (Z08 Wf s0)
def Rh (a0 : List Int) : Option (List Str) :=
  Option.bind (Z17 (bu a0)) fun r1 =>
  some r1
def Nq (c0 : Int) : Option (Bool) :=
  if c0 < 48 then
  (some true)
  else
  some (decide (57 < c0))
def Gu (x : Nat) : Bool := decide (Nq (x : Int) = some true)
def Z2l (s0 : Str) : Option (Bool) :=
  some (anyT Gu s0)
def Z24 (s0 : Str) (i1 i2 : Int) : Option (Int × Bool) :=
  gd (s0.length ≤ 281474976710656 ∧ i1 = 10 ∧ i2 = 64) <| some (Z09 s0)
def Lm (s0 : Str) (x4 : Bool) : Option (Int × Bool) :=
  if x4 = true then
  (some (0, false))
  else
  Option.bind (Z24 s0 10 64) fun (r6, r7) =>
  if (!r7) = true then
  (some (0, false))
  else
  some (r6, true)
def Rq (s0 : Str) : Option (Int × Bool) :=
  if 19 < (s0.length : Int) then
  (Lm s0 true)
  else
  Option.bind (Z2l s0) fun r2 =>
  Lm s0 r2
def Rd (i0 i1 : Int) : Option (Str) :=
  gd (i64ok i0 ∧ i1 = 10) <| some (Yj i0)
def Gl (n0 : Int) : Option (Str) :=
  Option.bind (Rd n0 10) fun r1 =>
  some r1
def Gq (i0 : Int) : Option (Str) :=
  gd (i64ok i0) <| some (Yj i0)
def Z02 (a0 : Arc) : Option (Str) :=
  gd (i64ok (a0.fr + 1)) <|
  Option.bind (Gq (a0.fr + 1)) fun r4 =>
  gd (slok (([102, 32] : Str) ++ r4).length) <|
  gd (slok ((([102, 32] : Str) ++ r4) ++ ([32] : Str)).length) <|
  gd (i64ok (a0.to + 1)) <|
  Option.bind (Gq (a0.to + 1)) fun r9 =>
  gd (slok (((([102, 32] : Str) ++ r4) ++ ([32] : Str)) ++ r9).length) <|
  gd (slok ((((([102, 32] : Str) ++ r4) ++ ([32] : Str)) ++ r9) ++ ([32] : Str)).length) <|
  some ((((([102, 32] : Str) ++ r4) ++ ([32] : Str)) ++ r9) ++ ([32] : Str))
def Jy (s0 : Str) (a1 a0 : Int) : Option (Int × Bool) :=
  Option.bind (Rq s0) fun (r1, r2) =>
  if r2 = true then
  (if a1 ≤ r1 then
  (some (r1, (decide (r1 ≤ a0))))
  else
  some (r1, false))
  else
  some (r1, false)
def No (a0 : Arc) (w1 : List Str) (x5 : Bool) : Option (Int × Bool) :=
  if x5 = true then
  (some (0, false))
  else
  gd (inb 1 w1.length) <|
  gd (i64ok (a0.fr + 1)) <|
  gd (i64ok (a0.fr + 1)) <|
  Option.bind (Jy (w1.getD (1 : Int).toNat ([] : Str)) (a0.fr + 1) (a0.fr + 1)) fun (a5, a2) =>
  gd (inb 2 w1.length) <|
  gd (i64ok (a0.to + 1)) <|
  gd (i64ok (a0.to + 1)) <|
  Option.bind (Jy (w1.getD (2 : Int).toNat ([] : Str)) (a0.to + 1) (a0.to + 1)) fun (a6, a3) =>
  gd (inb 3 w1.length) <|
  Option.bind (Jy (w1.getD (3 : Int).toNat ([] : Str)) 0 a0.cap) fun (a1, a4) =>
  if a4 = true then
  (if a2 = true then
  (some (a1, a3))
  else
  some (a1, false))
  else
  some (a1, false)
def Z0o (a0 : Arc) (w1 : List Str) : Option (Int × Bool) :=
  if (w1.length : Int) ≠ 4 then
  (No a0 w1 true)
  else
  gd (inb 0 w1.length) <|
  No a0 w1 (decide (¬((w1.getD (0 : Int).toNat ([] : Str)) = ([102] : Str))))
def Nt (n0 : Net) (f1 : List Int) : Option (Str × Int) :=
  Option.bind (Z0e n0 f1) fun (r3, r4) =>
  if r4 ≠ 0 then
  (some (([] : Str), r4))
  else
  gd (inb n0.T r3.length) <|
  Option.bind (Gl (r3.getD n0.T.toNat 0)) fun a0 =>
  some (a0, 0)
def Z0u (n0 : Net) (f1 a0 : List Int) (a1 : Int) : Option ((List Int × Int) ⊕ (List Int)) :=
  if a1 < (n0.Arcs.length : Int) then
  (gd (inb a1 n0.Arcs.length) <|
  Option.bind (Z02 (n0.Arcs.getD a1.toNat default)) fun a2 =>
  gd (inb a1 f1.length) <|
  Option.bind (Gl (f1.getD a1.toNat 0)) fun a3 =>
  gd (slok (a2 ++ a3).length) <|
  gd (slok ((a2 ++ a3) ++ ([10] : Str)).length) <|
  gd ((a0 ++ ub ((a2 ++ a3) ++ ([10] : Str))).length ≤ 140737488355328) <|
  gd (i64ok (a1 + 1)) <|
  some (.inl ((a0 ++ ub ((a2 ++ a3) ++ ([10] : Str))), (a1 + 1))))
  else
  some (.inr a0)
def Z2q (a0 : List Int) : Option (List Int × Int) :=
  some (a0, 0)
def Jt (n0 : Net) (f1 : List Int) : Option (List Int × Int) :=
  Option.bind (Ji n0) fun r3 =>
  if r3 ≠ 0 then
  (some ([], r3))
  else
  Option.bind (Nt n0 f1) fun (r6, r7) =>
  if r7 ≠ 0 then
  (some ([], r7))
  else
  gd (slok (([115, 32] : Str) ++ r6).length) <|
  gd (slok ((([115, 32] : Str) ++ r6) ++ ([10] : Str)).length) <|
  gd ((([] : List Int) ++ ub ((([115, 32] : Str) ++ r6) ++ ([10] : Str))).length ≤ 140737488355328) <|
  Option.bind (Xf (fun s => Z0u n0 f1 s.1 s.2) Yy ((([] : List Int) ++ ub ((([115, 32] : Str) ++ r6) ++ ([10] : Str))), 0)) fun p1_0_0 => Z2q p1_0_0
def Rj (s1 : List Bool) (a0 : List Int) (a1 : Int) : Option ((List Int × Int) ⊕ (List Int)) :=
  if a1 < (s1.length : Int) then
  (gd (inb a1 s1.length) <|
  if (s1.getD a1.toNat false) = true then
  (gd (i64ok (a1 + 1)) <|
  Option.bind (Gq (a1 + 1)) fun a2 =>
  gd (slok (([107, 32] : Str) ++ a2).length) <|
  gd (slok ((([107, 32] : Str) ++ a2) ++ ([10] : Str)).length) <|
  gd ((a0 ++ ub ((([107, 32] : Str) ++ a2) ++ ([10] : Str))).length ≤ 140737488355328) <|
  gd (i64ok (a1 + 1)) <|
  some (.inl ((a0 ++ ub ((([107, 32] : Str) ++ a2) ++ ([10] : Str))), (a1 + 1))))
  else
  gd (i64ok (a1 + 1)) <|
  some (.inl (a0, (a1 + 1))))
  else
  some (.inr a0)
def Z1o (a0 : List Int) : Option (List Int × Int) :=
  some (a0, 0)
def Gm (n0 : Net) (s1 : List Bool) : Option (List Int × Int) :=
  Option.bind (Ji n0) fun r3 =>
  if r3 ≠ 0 then
  (some ([], r3))
  else
  if (s1.length : Int) ≠ n0.N then
  (some ([], 60))
  else
  Option.bind (Xf (fun s => Rj s1 s.1 s.2) Yy ([], 0)) fun p1_0_0 => Z1o p1_0_0
def Lk (b0 : List Int) : Option (Unit) :=
  some ()
def Z1e (s0 a1 : List Int) (a0 : Int) : Option (Unit) :=
  some ()
def Z2t (s0 a0 : List Int) : Option (Unit) :=
  Option.bind (Z1e s0 a0 0) fun _ =>
  some ()
def Z2i (b0 : List Int) (c1 : Int) : Option (Int) :=
  some (idxT b0 c1)
def Z03 (s0 a0 : List Int) : Option (Int) :=
  if (a0.length : Int) = 0 then
  (none)
  else
  if (a0.length : Int) = 1 then
  (gd (inb 0 a0.length) <|
  Option.bind (Z2i s0 (a0.getD (0 : Int).toNat 0)) fun r4 =>
  some r4)
  else
  none
def Jj {S_ X_ : Type} (a3 : S_ → List Int → Option (S_ ⊕ X_)) (c1 : List Int) (c3 : Int) (c4 : List Int) (a2 : S_ ⊕ X_) : Option ((List Int × (S_ ⊕ X_)) ⊕ ((List Int × (S_ ⊕ X_)) ⊕ (S_ ⊕ X_))) :=
  Option.bind (Z03 c4 c1) fun a0 =>
  if a0 < 0 then
  (some (.inr (.inl (c4, a2))))
  else
  gd (i64ok (a0 + c3)) <|
  gd (0 ≤ (a0 + c3) ∧ (a0 + c3) ≤ (c4.length : Int)) <|
  gd (0 ≤ ((c4.take (a0 + c3).toNat).length : Int) ∧ ((c4.take (a0 + c3).toNat).length : Int) ≤ ((c4.take (a0 + c3).toNat).length : Int)) <|
  Option.bind (Ju a3 a2 ((c4.take (a0 + c3).toNat).take ((c4.take (a0 + c3).toNat).length : Int).toNat)) fun a1 =>
  if (!a1.isLeft) = true then
  (some (.inr (.inr a1)))
  else
  gd (i64ok (a0 + (c1.length : Int))) <|
  gd (0 ≤ (a0 + (c1.length : Int)) ∧ (a0 + (c1.length : Int)) ≤ (c4.length : Int)) <|
  some (.inl ((c4.drop (a0 + (c1.length : Int)).toNat), a1))
def Z0c {S_ X_ : Type} (a3 : S_ → List Int → Option (S_ ⊕ X_)) (a0 : List Int) (a1 : S_ ⊕ X_) : Option ((S_ ⊕ X_)) :=
  gd (0 ≤ (a0.length : Int) ∧ (a0.length : Int) ≤ (a0.length : Int)) <|
  Option.bind (Ju a3 a1 (a0.take (a0.length : Int).toNat)) fun a2 =>
  some a2
def Z2x {S_ X_ : Type} (a0 : S_ → List Int → Option (S_ ⊕ X_)) (c1 : List Int) (c2 : List Int) (c3 : Int) (a1 : S_ ⊕ X_) : Option ((S_ ⊕ X_)) :=
  Option.bind (Xf (fun s => Jj a0 c1 c3 s.1 s.2) Yy (c2, a1)) fun o => match o with | .inl (p2_0_0, p2_0_1) => (Z0c a0 p2_0_0 p2_0_1) | .inr p2_1_0 => (some p2_1_0)
def Z05 {S_ X_ : Type} (a1 : S_ → List Int → Option (S_ ⊕ X_)) (c1 : List Int) (c2 : List Int) (c3 : Int) (a0 : S_ ⊕ X_) : Option ((S_ ⊕ X_)) :=
  if (c1.length : Int) = 0 then
  (none)
  else
  Z2x a1 c1 c2 c3 a0
def Jn {S_ X_ : Type} (a4 : S_ → List Str → Option (S_ ⊕ X_)) (a0 : S_ ⊕ X_) (a3 : List Int) : Option (((S_ ⊕ X_)) ⊕ ((S_ ⊕ X_))) :=
  Option.bind (Rh a3) fun a2 =>
  if 0 < (a2.length : Int) then
  (gd (inb 0 a2.length) <|
  gd (inb 0 (a2.getD (0 : Int).toNat ([] : Str)).length) <|
  if (((a2.getD (0 : Int).toNat ([] : Str)).getD (0 : Int).toNat 0).toNat : Int) ≠ 99 then
  (Option.bind (Ju a4 a0 a2) fun a1 =>
  if (!a1.isLeft) = true then
  (some (.inr a1))
  else
  some (.inl a1))
  else
  some (.inl a0))
  else
  some (.inl a0)
def Lh {S_ X_ : Type} (a2 : S_ → List Str → Option (S_ ⊕ X_)) (c1 : List Int) (a1 : S_ ⊕ X_) : Option ((S_ ⊕ X_)) :=
  Option.bind (Z2t c1 ([10])) fun _ =>
  Option.bind (Z05 (fun s v => Jn a2 s v) ([10]) c1 0 (.inl a1)) fun t => match t with | .inl a0 => (some a0) | .inr a0 => (some a0)
def Ny (a0 : Str) (a1 : List Int) (a2 : List Str) (a3 : Bool) : Option ((Str × List Int) ⊕ (Str × List Int)) :=
  if a3 = true then
  (some (.inr (a0, a1)))
  else
  gd (inb 1 a2.length) <|
  some (.inl ((a2.getD (1 : Int).toNat ([] : Str)), a1))
def Jl (n0 : Net) (a0 : Str) (a1 : List Int) (a2 : List Str) : Option ((Str × List Int) ⊕ (Str × List Int)) :=
  if a0 = ([] : Str) then
  (if (a2.length : Int) ≠ 2 then
  (Ny a0 a1 a2 true)
  else
  gd (inb 0 a2.length) <|
  Ny a0 a1 a2 (decide (¬((a2.getD (0 : Int).toNat ([] : Str)) = ([115] : Str)))))
  else
  if (a1.length : Int) = (n0.Arcs.length : Int) then
  (some (.inr (a0, a1)))
  else
  gd (inb (a1.length : Int) n0.Arcs.length) <|
  Option.bind (Z0o (n0.Arcs.getD (a1.length : Int).toNat default) a2) fun (a3, a4) =>
  if (!a4) = true then
  (some (.inr (a0, a1)))
  else
  gd (apok (a1 ++ ([a3])).length 8) <|
  some (.inl (a0, (a1 ++ ([a3]))))
def Z07 (n0 : Net) (b1 : List Int) : Option (Str × List Int × Bool) :=
  Option.bind (Lk b1) fun _ =>
  Option.bind (Lh (fun s v => Jl n0 s.1 s.2 v) b1 (.inl (([] : Str), ([] : List Int)))) fun t => match t with | .inl (a0, a1) => (if ¬(a0 = ([] : Str)) then (some (a0, a1, (decide ((a1.length : Int) = (n0.Arcs.length : Int))))) else some (a0, a1, false)) | .inr (a0, a1) => (some (([] : Str), [], false))
def Z2v (r8 : List Int) (a0 : Bool) : Option (List Int × Int) :=
  if a0 = true then
  (some ([], 70))
  else
  some (r8, 0)
def Kn (n0 : Net) (b1 : List Int) : Option (List Int × Int) :=
  Option.bind (Ji n0) fun r4 =>
  if r4 ≠ 0 then
  (some ([], r4))
  else
  Option.bind (Z07 n0 b1) fun (r7, r8, r9) =>
  if (!r9) = true then
  (some ([], 70))
  else
  Option.bind (Nt n0 r8) fun (a0, a1) =>
  if a1 ≠ 0 then
  (Z2v r8 true)
  else
  Z2v r8 (decide (¬(a0 = r7)))
def Ra (n0 : Net) (a4 : Int) (a1 : List Bool) (a0 : Int) (a3 : List Str) (a5 : Bool) : Option ((Int × List Bool × Int) ⊕ (Int × List Bool × Int)) :=
  if a5 = true then
  (some (.inr (70, a1, a0)))
  else
  gd (inb 1 a3.length) <|
  gd (i64ok (a0 + 1)) <|
  Option.bind (Jy (a3.getD (1 : Int).toNat ([] : Str)) (a0 + 1) n0.N) fun (a2, a6) =>
  if (!a6) = true then
  (some (.inr (70, a1, a0)))
  else
  gd (i64ok (a2 - 1)) <|
  gd (inb (a2 - 1) a1.length) <|
  some (.inl (a4, (a1.set (a2 - 1).toNat true), a2))
def Gv (n0 : Net) (a3 : Int) (a1 : List Bool) (a0 : Int) (a2 : List Str) : Option ((Int × List Bool × Int) ⊕ (Int × List Bool × Int)) :=
  if (a2.length : Int) ≠ 2 then
  (Ra n0 a3 a1 a0 a2 true)
  else
  gd (inb 0 a2.length) <|
  Ra n0 a3 a1 a0 a2 (decide (¬((a2.getD (0 : Int).toNat ([] : Str)) = ([107] : Str))))
def Km (n0 : Net) (b1 : List Int) : Option (List Bool × Int) :=
  Option.bind (Ji n0) fun r8 =>
  if r8 ≠ 0 then
  (some ([], r8))
  else
  gd (mkok n0.N) <|
  Option.bind (Lk b1) fun _ =>
  Option.bind (Lh (fun s v => Gv n0 s.1 s.2.1 s.2.2 v) b1 (.inl (0, (List.replicate n0.N.toNat (false : Bool)), 0))) fun t => match t with | .inl (a2, a1, a0) => (some (a1, 0)) | .inr (a2, a1, a0) => (some ([], a2))
def Z2a (a2 : List Bool) (a0 : Bool) : Option (Bool) :=
  if a0 = true then
  (Option.bind (Nb a2 ([false, false])) fun a1 =>
  some a1)
  else
  some false
def Z13 (a1 : List Bool) (a2 : Int) (a0 : Bool) : Option (Bool) :=
  if a0 = true then
  (Z2a a1 (decide (a2 = 0)))
  else
  Z2a a1 false
def Z18 (a3 : Int) (a1 : List Bool) (a2 : Int) (a0 : Bool) : Option (Bool) :=
  if a0 = true then
  (Z13 a1 a2 (decide (a3 = 70)))
  else
  Z13 a1 a2 false
def Z32 (a4 : List Int) (a1 : Int) (a2 : List Bool) (a3 : Int) (a0 : Bool) : Option (Bool) :=
  if a0 = true then
  (Z18 a1 a2 a3 (decide ((bu a4) = ([107, 32, 49, 10] : Str))))
  else
  Z18 a1 a2 a3 false
def Z1c (a1 : List Int) (a5 a2 : Int) (a3 : List Bool) (a4 : Int) (a0 : Bool) : Option (Bool) :=
  if a0 = true then
  (Z32 a1 a2 a3 a4 (decide (a5 = 0)))
  else
  Z32 a1 a2 a3 a4 false
def Z2u (a7 : List Int) (a8 : Int) (a2 : List Int) (a3 a4 : Int) (a5 : List Bool) (a6 : Int) (a0 : Bool) : Option (Bool) :=
  if a0 = true then
  (Option.bind (Gh a7 ([3])) fun a1 =>
  if a1 = true then
  (Z1c a2 a3 a4 a5 a6 (decide (a8 = 70)))
  else
  Z1c a2 a3 a4 a5 a6 false)
  else
  some false
def Z19 (a1 : List Int) (a8 a2 : Int) (a3 : List Int) (a4 a5 : Int) (a6 : List Bool) (a7 : Int) (a0 : Bool) : Option (Bool) :=
  if a0 = true then
  (Z2u a1 a2 a3 a4 a5 a6 a7 (decide (a8 = 0)))
  else
  Z2u a1 a2 a3 a4 a5 a6 a7 false
def Z2d (a9 : Int) (a1 : List Int) (a2 a3 : Int) (a4 : List Int) (a5 a6 : Int) (a7 : List Bool) (a8 : Int) (a0 : Bool) : Option (Bool) :=
  if a0 = true then
  (Z19 a1 a2 a3 a4 a5 a6 a7 a8 (decide (a9 = 20)))
  else
  Z19 a1 a2 a3 a4 a5 a6 a7 a8 false
def Nm  : Option (Bool) :=
  Option.bind (Jt (Net.mk 2 0 1 ([(Arc.mk 0 1 5)])) ([3])) fun (r7, r8) =>
  Option.bind (Jt (Net.mk 2 0 1 ([(Arc.mk 0 1 5)])) ([6])) fun (a9, a0) =>
  Option.bind (Kn (Net.mk 2 0 1 ([(Arc.mk 0 1 5)])) ([115, 32, 51, 10, 102, 32, 49, 32, 50, 32, 51])) fun (a1, a2) =>
  Option.bind (Kn (Net.mk 2 0 1 ([(Arc.mk 0 1 5)])) ([115, 32, 50, 10, 102, 32, 49, 32, 50, 32, 51, 10])) fun (b0, a3) =>
  Option.bind (Gm (Net.mk 2 0 1 ([(Arc.mk 0 1 5)])) ([true, false])) fun (a4, a5) =>
  Option.bind (Km (Net.mk 2 0 1 ([(Arc.mk 0 1 5)])) ([107, 32, 50, 10, 107, 32, 49, 10])) fun (b1, a6) =>
  Option.bind (Km (Net.mk 2 0 1 ([(Arc.mk 0 1 5)])) ([])) fun (a7, a8) =>
  if r8 = 0 then
  (Z2d a0 a1 a2 a3 a4 a5 a6 a7 a8 (decide ((bu r7) = ([115, 32, 51, 10, 102, 32, 49, 32, 50, 32, 51, 10] : Str))))
  else
  Z2d a0 a1 a2 a3 a4 a5 a6 a7 a8 false
end Go.Acq
namespace Go.Acq
open Go
def Z0s  : Option (Bool) :=
  Option.bind Nm fun a0 =>
  some a0
def Le (b3 : List Int) (r3 : Net) : Option (Bool) :=
  Option.bind (Km r3 b3) fun (a0, a1) =>
  if a1 = 0 then
  (Option.bind (Gm r3 a0) fun (a2, a3) =>
  Option.bind (Km r3 a2) fun (a4, a5) =>
  if a3 ≠ 0 then
  (some false)
  else
  if a5 ≠ 0 then
  (some false)
  else
  Option.bind (Nb a0 a4) fun a6 =>
  if (!a6) = true then
  (some false)
  else
  if (a0.length : Int) ≠ r3.N then
  (some false)
  else
  Z0s)
  else
  Z0s
def Z0n (b3 : List Int) (r3 : Net) (a7 : Bool) : Option (Bool) :=
  if a7 = true then
  (some false)
  else
  Option.bind (Kn r3 b3) fun (a0, a8) =>
  if a8 = 0 then
  (Option.bind (Jt r3 a0) fun (a1, a2) =>
  Option.bind (Kn r3 a1) fun (a3, a4) =>
  if a2 ≠ 0 then
  (some false)
  else
  if a4 ≠ 0 then
  (some false)
  else
  Option.bind (Gh a0 a3) fun a5 =>
  if (!a5) = true then
  (some false)
  else
  Option.bind (Ni r3 a0) fun a6 =>
  if (!a6) = true then
  (some false)
  else
  Le b3 r3)
  else
  Le b3 r3
def Z0t (a0 : List Bool) (b3 : List Int) (r3 : Net) (a1 : List Bool) (a2 : Bool) : Option (Bool) :=
  if a2 = true then
  (Z0n b3 r3 true)
  else
  Option.bind (Nb (Uh (List.replicate r3.N.toNat (false : Bool)) a0) a1) fun a3 =>
  Z0n b3 r3 (!a3)
def Rk (a0 : List Bool) (b3 : List Int) (r3 : Net) (a2 a3 : List Int) (a1 : List Bool) (a4 : Bool) : Option (Bool) :=
  if a4 = true then
  (Z0t a0 b3 r3 a1 true)
  else
  Option.bind (Gh a2 a3) fun a5 =>
  Z0t a0 b3 r3 a1 (!a5)
def Rz (a0 : List Bool) (b3 : List Int) (r3 : Net) (a1 a2 : List Int) (a3 : List Bool) (a4 : Int) (a5 : Bool) : Option (Bool) :=
  if a5 = true then
  (Rk a0 b3 r3 a1 a2 a3 true)
  else
  Rk a0 b3 r3 a1 a2 a3 (decide (a4 ≠ 0))
def Z0l (a0 : List Bool) (b3 : List Int) (r3 : Net) (a1 a2 : List Int) (a5 : Int) (a3 : List Bool) (a4 : Int) (a6 : Bool) : Option (Bool) :=
  if a6 = true then
  (Rz a0 b3 r3 a1 a2 a3 a4 true)
  else
  Rz a0 b3 r3 a1 a2 a3 a4 (decide (a5 ≠ 0))
def Z2p (n0 : Net) (l1 : List Int) (a0 : List Bool) (b3 : List Int) : Option (Bool) :=
  Option.bind (Z06 n0 20 30) fun r3 =>
  Option.bind (Z0b r3 l1) fun a1 =>
  gd (mkok r3.N) <|
  if 1000 < (b3.length : Int) then
  (Option.bind Nm fun a6 =>
  some a6)
  else
  Option.bind (Jt r3 a1) fun (a7, a8) =>
  Option.bind (Kn r3 a7) fun (a2, a9) =>
  Option.bind (Gm r3 (Uh (List.replicate r3.N.toNat (false : Bool)) a0)) fun (b0, a3) =>
  Option.bind (Km r3 b0) fun (a4, a5) =>
  if a8 ≠ 0 then
  (Z0l a0 b3 r3 a1 a2 a3 a4 a5 true)
  else
  Z0l a0 b3 r3 a1 a2 a3 a4 a5 (decide (a9 ≠ 0))
end Go.Acq
namespace Go.Proofs
open Go.Shelf
def Zby : Go.Shelf.Ren := ⟨fun | 171 => 22 | 243 => 31 | 246 => 48 | 283 => 59 | 284 => 60 | 285 => 61 | 286 => 62 | 129 => 71 | 317 => 70 | 318 => 72 | 319 => 73 | 320 => 74 | 337 => 87 | 338 => 88 | n => n, fun | 3 => 3 | 9 => 9 | 2 => 2 | 4 => 4 | 171 => 101 | 0 => 0 | 53 => 102 | 37 => 27 | 5 => 5 | 173 => 105 | 212 => 118 | 51 => 119 | 20 => 20 | 213 => 120 | 46 => 122 | 232 => 146 | 233 => 147 | n => n, fun | 17 => 1 | 18 => 7 | 19 => 8 | n => n⟩
theorem Zb0 : Go.Proofs.LaysM.n171 Tryd.prog Zby := {
 mixed := by kernel_rfl
 f129 := Tryd.func71.trans (congrArg some (by kernel_rfl))
 f171 := Tryd.func22.trans (congrArg some (by kernel_rfl))
 f243 := Tryd.func31.trans (congrArg some (by kernel_rfl))
 f246 := Tryd.func48.trans (congrArg some (by kernel_rfl))
 f283 := Tryd.func59.trans (congrArg some (by kernel_rfl))
 f284 := Tryd.func60.trans (congrArg some (by kernel_rfl))
 f285 := Tryd.func61.trans (congrArg some (by kernel_rfl))
 f286 := Tryd.func62.trans (congrArg some (by kernel_rfl))
 f317 := Tryd.func70.trans (congrArg some (by kernel_rfl))
 f318 := Tryd.func72.trans (congrArg some (by kernel_rfl))
 f319 := Tryd.func73.trans (congrArg some (by kernel_rfl))
 f320 := Tryd.func74.trans (congrArg some (by kernel_rfl))
 f337 := Tryd.func87.trans (congrArg some (by kernel_rfl))
 f338 := Tryd.func88.trans (congrArg some (by kernel_rfl))
 t0 := Tryd.underlying0
 a0 := Tryd.isAgg0
 z0 := Tryd.sizeOf0
 v0 := Tryd.zeroValue0
 t2 := Tryd.underlying2
 a2 := Tryd.isAgg2
 z2 := Tryd.sizeOf2
 v2 := Tryd.zeroValue2
 t3 := Tryd.underlying3
 a3 := Tryd.isAgg3
 z3 := Tryd.sizeOf3
 v3 := Tryd.zeroValue3
 t4 := Tryd.underlying4
 a4 := Tryd.isAgg4
 z4 := Tryd.sizeOf4
 v4 := Tryd.zeroValue4
 t5 := Tryd.underlying5
 a5 := Tryd.isAgg5
 z5 := Tryd.sizeOf5
 v5 := Tryd.zeroValue5
 t9 := Tryd.underlying9
 a9 := Tryd.isAgg9
 z9 := Tryd.sizeOf9
 v9 := Tryd.zeroValue9
 t20 := Tryd.underlying20
 a20 := Tryd.isAgg20
 z20 := Tryd.sizeOf20
 v20 := Tryd.zeroValue20
 t37 := Tryd.underlying27
 a37 := Tryd.isAgg27
 z37 := Tryd.sizeOf27
 v37 := Tryd.zeroValue27
 t46 := Tryd.underlying122
 a46 := Tryd.isAgg122
 z46 := Tryd.sizeOf122
 v46 := Tryd.zeroValue122
 t51 := Tryd.underlying119
 a51 := Tryd.isAgg119
 z51 := Tryd.sizeOf119
 v51 := Tryd.zeroValue119
 t53 := Tryd.underlying102
 a53 := Tryd.isAgg102
 z53 := Tryd.sizeOf102
 v53 := Tryd.zeroValue102
 t171 := Tryd.underlying101
 a171 := Tryd.isAgg101
 z171 := Tryd.sizeOf101
 v171 := Tryd.zeroValue101
 t173 := Tryd.underlying105
 a173 := Tryd.isAgg105
 z173 := Tryd.sizeOf105
 v173 := Tryd.zeroValue105
 t212 := Tryd.underlying118
 a212 := Tryd.isAgg118
 z212 := Tryd.sizeOf118
 v212 := Tryd.zeroValue118
 t213 := Tryd.underlying120
 a213 := Tryd.isAgg120
 z213 := Tryd.sizeOf120
 t232 := Tryd.underlying146
 a232 := Tryd.isAgg146
 z232 := Tryd.sizeOf146
 v232 := Tryd.zeroValue146
 t233 := Tryd.underlying147
 a233 := Tryd.isAgg147
 z233 := Tryd.sizeOf147
 v233 := Tryd.zeroValue147
 g17 := by kernel_rfl
 g18 := by kernel_rfl
 g19 := by kernel_rfl
 i0 := by kernel_rfl
 i2 := by kernel_rfl
 i3 := by kernel_rfl
 i4 := by kernel_rfl
 i5 := by kernel_rfl
 i9 := by kernel_rfl
 i20 := by kernel_rfl
 i37 := by kernel_rfl
 i46 := by kernel_rfl
 i51 := by kernel_rfl
 i53 := by kernel_rfl
 i171 := by kernel_rfl
 i173 := by kernel_rfl
 i212 := by kernel_rfl
 i232 := by kernel_rfl
 i233 := by kernel_rfl
 m17 := by kernel_rfl
 m18 := by kernel_rfl
 m19 := by kernel_rfl }
def Z8l : Go.Shelf.Ren := ⟨fun | 173 => 29 | 246 => 48 | 283 => 59 | 284 => 60 | 285 => 61 | 286 => 62 | 129 => 71 | 317 => 70 | 318 => 72 | 319 => 73 | 320 => 74 | 337 => 87 | 338 => 88 | n => n, fun | 2 => 2 | 3 => 3 | 9 => 9 | 4 => 4 | 171 => 101 | 0 => 0 | 53 => 102 | 37 => 27 | 5 => 5 | 173 => 105 | 212 => 118 | 51 => 119 | 20 => 20 | 213 => 120 | 46 => 122 | 232 => 146 | 233 => 147 | n => n, fun | 17 => 1 | 18 => 7 | 19 => 8 | n => n⟩
theorem Z8i : Go.Proofs.LaysM.n173 Tryd.prog Z8l := {
 mixed := by kernel_rfl
 f129 := Tryd.func71.trans (congrArg some (by kernel_rfl))
 f173 := Tryd.func29.trans (congrArg some (by kernel_rfl))
 f246 := Tryd.func48.trans (congrArg some (by kernel_rfl))
 f283 := Tryd.func59.trans (congrArg some (by kernel_rfl))
 f284 := Tryd.func60.trans (congrArg some (by kernel_rfl))
 f285 := Tryd.func61.trans (congrArg some (by kernel_rfl))
 f286 := Tryd.func62.trans (congrArg some (by kernel_rfl))
 f317 := Tryd.func70.trans (congrArg some (by kernel_rfl))
 f318 := Tryd.func72.trans (congrArg some (by kernel_rfl))
 f319 := Tryd.func73.trans (congrArg some (by kernel_rfl))
 f320 := Tryd.func74.trans (congrArg some (by kernel_rfl))
 f337 := Tryd.func87.trans (congrArg some (by kernel_rfl))
 f338 := Tryd.func88.trans (congrArg some (by kernel_rfl))
 t0 := Tryd.underlying0
 a0 := Tryd.isAgg0
 z0 := Tryd.sizeOf0
 v0 := Tryd.zeroValue0
 t2 := Tryd.underlying2
 a2 := Tryd.isAgg2
 z2 := Tryd.sizeOf2
 v2 := Tryd.zeroValue2
 t3 := Tryd.underlying3
 a3 := Tryd.isAgg3
 z3 := Tryd.sizeOf3
 v3 := Tryd.zeroValue3
 t4 := Tryd.underlying4
 a4 := Tryd.isAgg4
 z4 := Tryd.sizeOf4
 v4 := Tryd.zeroValue4
 t5 := Tryd.underlying5
 a5 := Tryd.isAgg5
 z5 := Tryd.sizeOf5
 v5 := Tryd.zeroValue5
 t9 := Tryd.underlying9
 a9 := Tryd.isAgg9
 z9 := Tryd.sizeOf9
 v9 := Tryd.zeroValue9
 t20 := Tryd.underlying20
 a20 := Tryd.isAgg20
 z20 := Tryd.sizeOf20
 v20 := Tryd.zeroValue20
 t37 := Tryd.underlying27
 a37 := Tryd.isAgg27
 z37 := Tryd.sizeOf27
 v37 := Tryd.zeroValue27
 t46 := Tryd.underlying122
 a46 := Tryd.isAgg122
 z46 := Tryd.sizeOf122
 v46 := Tryd.zeroValue122
 t51 := Tryd.underlying119
 a51 := Tryd.isAgg119
 z51 := Tryd.sizeOf119
 v51 := Tryd.zeroValue119
 t53 := Tryd.underlying102
 a53 := Tryd.isAgg102
 z53 := Tryd.sizeOf102
 v53 := Tryd.zeroValue102
 t171 := Tryd.underlying101
 a171 := Tryd.isAgg101
 z171 := Tryd.sizeOf101
 v171 := Tryd.zeroValue101
 t173 := Tryd.underlying105
 a173 := Tryd.isAgg105
 z173 := Tryd.sizeOf105
 v173 := Tryd.zeroValue105
 t212 := Tryd.underlying118
 a212 := Tryd.isAgg118
 z212 := Tryd.sizeOf118
 v212 := Tryd.zeroValue118
 t213 := Tryd.underlying120
 a213 := Tryd.isAgg120
 z213 := Tryd.sizeOf120
 t232 := Tryd.underlying146
 a232 := Tryd.isAgg146
 z232 := Tryd.sizeOf146
 v232 := Tryd.zeroValue146
 t233 := Tryd.underlying147
 a233 := Tryd.isAgg147
 z233 := Tryd.sizeOf147
 v233 := Tryd.zeroValue147
 g17 := by kernel_rfl
 g18 := by kernel_rfl
 g19 := by kernel_rfl
 i0 := by kernel_rfl
 i2 := by kernel_rfl
 i3 := by kernel_rfl
 i4 := by kernel_rfl
 i5 := by kernel_rfl
 i9 := by kernel_rfl
 i20 := by kernel_rfl
 i37 := by kernel_rfl
 i46 := by kernel_rfl
 i51 := by kernel_rfl
 i53 := by kernel_rfl
 i171 := by kernel_rfl
 i173 := by kernel_rfl
 i212 := by kernel_rfl
 i232 := by kernel_rfl
 i233 := by kernel_rfl
 m17 := by kernel_rfl
 m18 := by kernel_rfl
 m19 := by kernel_rfl }
def Z26 : Go.Shelf.Ren := ⟨fun | 178 => 17 | 251 => 27 | 252 => 28 | 181 => 45 | 184 => 46 | 290 => 47 | 324 => 58 | n => n, fun | 130 => 75 | 9 => 9 | 3 => 3 | 75 => 54 | 0 => 0 | 93 => 52 | 91 => 50 | 131 => 76 | 4 => 4 | 37 => 27 | 20 => 20 | 80 => 152 | 5 => 5 | n => n, fun | 14 => 0 | n => n⟩
theorem Z3e : Go.Proofs.LaysM.n178 Tryd.prog Z26 := {
 mixed := by kernel_rfl
 f178 := Tryd.func17.trans (congrArg some (by kernel_rfl))
 f181 := Tryd.func45.trans (congrArg some (by kernel_rfl))
 f184 := Tryd.func46.trans (congrArg some (by kernel_rfl))
 f251 := Tryd.func27.trans (congrArg some (by kernel_rfl))
 f252 := Tryd.func28.trans (congrArg some (by kernel_rfl))
 f290 := Tryd.func47.trans (congrArg some (by kernel_rfl))
 f324 := Tryd.func58.trans (congrArg some (by kernel_rfl))
 t0 := Tryd.underlying0
 a0 := Tryd.isAgg0
 z0 := Tryd.sizeOf0
 v0 := Tryd.zeroValue0
 t3 := Tryd.underlying3
 a3 := Tryd.isAgg3
 z3 := Tryd.sizeOf3
 v3 := Tryd.zeroValue3
 t4 := Tryd.underlying4
 a4 := Tryd.isAgg4
 z4 := Tryd.sizeOf4
 v4 := Tryd.zeroValue4
 t9 := Tryd.underlying9
 a9 := Tryd.isAgg9
 z9 := Tryd.sizeOf9
 v9 := Tryd.zeroValue9
 t20 := Tryd.underlying20
 a20 := Tryd.isAgg20
 z20 := Tryd.sizeOf20
 v20 := Tryd.zeroValue20
 t37 := Tryd.underlying27
 a37 := Tryd.isAgg27
 z37 := Tryd.sizeOf27
 v37 := Tryd.zeroValue27
 t75 := Tryd.underlying54
 a75 := Tryd.isAgg54
 z75 := Tryd.sizeOf54
 v75 := Tryd.zeroValue54
 t91 := Tryd.underlying50
 a91 := Tryd.isAgg50
 z91 := Tryd.sizeOf50
 v91 := Tryd.zeroValue50
 t93 := Tryd.underlying52
 a93 := Tryd.isAgg52
 z93 := Tryd.sizeOf52
 v93 := Tryd.zeroValue52
 t130 := Tryd.underlying75
 a130 := Tryd.isAgg75
 z130 := Tryd.sizeOf75
 v130 := Tryd.zeroValue75
 t131 := Tryd.underlying76
 a131 := Tryd.isAgg76
 z131 := Tryd.sizeOf76
 v131 := Tryd.zeroValue76
 g14 := by kernel_rfl
 t5 := Tryd.underlying5
 a5 := Tryd.isAgg5
 z5 := Tryd.sizeOf5
 v5 := Tryd.zeroValue5
 t80 := Tryd.underlying152
 a80 := Tryd.isAgg152
 z80 := Tryd.sizeOf152
 v80 := Tryd.zeroValue152
 i0 := by kernel_rfl
 i3 := by kernel_rfl
 i4 := by kernel_rfl
 i5 := by kernel_rfl
 i9 := by kernel_rfl
 i20 := by kernel_rfl
 i37 := by kernel_rfl
 i75 := by kernel_rfl
 i80 := by kernel_rfl
 i91 := by kernel_rfl
 i93 := by kernel_rfl
 i130 := by kernel_rfl
 i131 := by kernel_rfl
 m14 := by kernel_rfl }
def Z3j : Go.Shelf.Ren := ⟨fun | 183 => 20 | n => n, fun | 130 => 75 | 37 => 27 | 0 => 0 | 93 => 52 | 3 => 3 | 5 => 5 | 91 => 50 | n => n, fun | n => n⟩
theorem Z7s : Go.Proofs.LaysM.n183 Tryd.prog Z3j := {
 mixed := by kernel_rfl
 f183 := Tryd.func20.trans (congrArg some (by kernel_rfl))
 t0 := Tryd.underlying0
 a0 := Tryd.isAgg0
 z0 := Tryd.sizeOf0
 v0 := Tryd.zeroValue0
 t3 := Tryd.underlying3
 a3 := Tryd.isAgg3
 z3 := Tryd.sizeOf3
 v3 := Tryd.zeroValue3
 t37 := Tryd.underlying27
 a37 := Tryd.isAgg27
 z37 := Tryd.sizeOf27
 v37 := Tryd.zeroValue27
 t93 := Tryd.underlying52
 a93 := Tryd.isAgg52
 z93 := Tryd.sizeOf52
 v93 := Tryd.zeroValue52
 t130 := Tryd.underlying75
 a130 := Tryd.isAgg75
 z130 := Tryd.sizeOf75
 v130 := Tryd.zeroValue75
 t5 := Tryd.underlying5
 a5 := Tryd.isAgg5
 z5 := Tryd.sizeOf5
 v5 := Tryd.zeroValue5
 t91 := Tryd.underlying50
 a91 := Tryd.isAgg50
 z91 := Tryd.sizeOf50
 v91 := Tryd.zeroValue50
 i0 := by kernel_rfl
 i3 := by kernel_rfl
 i5 := by kernel_rfl
 i37 := by kernel_rfl
 i91 := by kernel_rfl
 i93 := by kernel_rfl
 i130 := by kernel_rfl }
def Zb3 : Go.Shelf.Ren := ⟨fun | 174 => 54 | 247 => 67 | 245 => 68 | 287 => 82 | 279 => 83 | 280 => 84 | 281 => 85 | 282 => 86 | 321 => 91 | 322 => 92 | 316 => 93 | 171 => 22 | 205 => 94 | 243 => 31 | 246 => 48 | 283 => 59 | 284 => 60 | 285 => 61 | 286 => 62 | 129 => 71 | 317 => 70 | 318 => 72 | 319 => 73 | 320 => 74 | 337 => 87 | 338 => 88 | n => n, fun | 9 => 9 | 3 => 3 | 2 => 2 | 75 => 54 | 85 => 97 | 4 => 4 | 167 => 127 | 5 => 5 | 53 => 102 | 175 => 128 | 46 => 122 | 168 => 130 | 37 => 27 | 0 => 0 | 210 => 144 | 21 => 21 | 127 => 148 | 145 => 151 | 143 => 149 | 171 => 101 | 173 => 105 | 212 => 118 | 51 => 119 | 20 => 20 | 213 => 120 | 232 => 146 | 233 => 147 | 80 => 152 | n => n, fun | 15 => 5 | 16 => 6 | 17 => 1 | 18 => 7 | 19 => 8 | n => n⟩
theorem Z95 : Go.Proofs.LaysC.n174 Tryd.prog Zb3 := {
 mixed := by kernel_rfl
 f129 := Tryd.func71.trans (congrArg some (by kernel_rfl))
 f171 := Tryd.func22.trans (congrArg some (by kernel_rfl))
 f174 := Tryd.func54.trans (congrArg some (by kernel_rfl))
 f205 := Tryd.func94.trans (congrArg some (by kernel_rfl))
 f243 := Tryd.func31.trans (congrArg some (by kernel_rfl))
 f245 := Tryd.func68.trans (congrArg some (by kernel_rfl))
 f246 := Tryd.func48.trans (congrArg some (by kernel_rfl))
 f247 := Tryd.func67.trans (congrArg some (by kernel_rfl))
 f279 := Tryd.func83.trans (congrArg some (by kernel_rfl))
 f280 := Tryd.func84.trans (congrArg some (by kernel_rfl))
 f281 := Tryd.func85.trans (congrArg some (by kernel_rfl))
 f282 := Tryd.func86.trans (congrArg some (by kernel_rfl))
 f283 := Tryd.func59.trans (congrArg some (by kernel_rfl))
 f284 := Tryd.func60.trans (congrArg some (by kernel_rfl))
 f285 := Tryd.func61.trans (congrArg some (by kernel_rfl))
 f286 := Tryd.func62.trans (congrArg some (by kernel_rfl))
 f287 := Tryd.func82.trans (congrArg some (by kernel_rfl))
 f316 := Tryd.func93.trans (congrArg some (by kernel_rfl))
 f317 := Tryd.func70.trans (congrArg some (by kernel_rfl))
 f318 := Tryd.func72.trans (congrArg some (by kernel_rfl))
 f319 := Tryd.func73.trans (congrArg some (by kernel_rfl))
 f320 := Tryd.func74.trans (congrArg some (by kernel_rfl))
 f321 := Tryd.func91.trans (congrArg some (by kernel_rfl))
 f322 := Tryd.func92.trans (congrArg some (by kernel_rfl))
 f337 := Tryd.func87.trans (congrArg some (by kernel_rfl))
 f338 := Tryd.func88.trans (congrArg some (by kernel_rfl))
 t0 := Tryd.underlying0
 a0 := Tryd.isAgg0
 z0 := Tryd.sizeOf0
 v0 := Tryd.zeroValue0
 t2 := Tryd.underlying2
 a2 := Tryd.isAgg2
 z2 := Tryd.sizeOf2
 v2 := Tryd.zeroValue2
 t3 := Tryd.underlying3
 a3 := Tryd.isAgg3
 z3 := Tryd.sizeOf3
 v3 := Tryd.zeroValue3
 t4 := Tryd.underlying4
 a4 := Tryd.isAgg4
 z4 := Tryd.sizeOf4
 v4 := Tryd.zeroValue4
 t5 := Tryd.underlying5
 a5 := Tryd.isAgg5
 z5 := Tryd.sizeOf5
 v5 := Tryd.zeroValue5
 t9 := Tryd.underlying9
 a9 := Tryd.isAgg9
 z9 := Tryd.sizeOf9
 v9 := Tryd.zeroValue9
 t20 := Tryd.underlying20
 a20 := Tryd.isAgg20
 z20 := Tryd.sizeOf20
 v20 := Tryd.zeroValue20
 t21 := Tryd.underlying21
 a21 := Tryd.isAgg21
 z21 := Tryd.sizeOf21
 v21 := Tryd.zeroValue21
 t37 := Tryd.underlying27
 a37 := Tryd.isAgg27
 z37 := Tryd.sizeOf27
 v37 := Tryd.zeroValue27
 t46 := Tryd.underlying122
 a46 := Tryd.isAgg122
 z46 := Tryd.sizeOf122
 v46 := Tryd.zeroValue122
 t51 := Tryd.underlying119
 a51 := Tryd.isAgg119
 z51 := Tryd.sizeOf119
 v51 := Tryd.zeroValue119
 t53 := Tryd.underlying102
 a53 := Tryd.isAgg102
 z53 := Tryd.sizeOf102
 v53 := Tryd.zeroValue102
 t75 := Tryd.underlying54
 a75 := Tryd.isAgg54
 z75 := Tryd.sizeOf54
 v75 := Tryd.zeroValue54
 t85 := Tryd.underlying97
 a85 := Tryd.isAgg97
 z85 := Tryd.sizeOf97
 v85 := Tryd.zeroValue97
 t127 := Tryd.underlying148
 a127 := Tryd.isAgg148
 z127 := Tryd.sizeOf148
 v127 := Tryd.zeroValue148
 t143 := Tryd.underlying149
 a143 := Tryd.isAgg149
 z143 := Tryd.sizeOf149
 v143 := Tryd.zeroValue149
 t145 := Tryd.underlying151
 a145 := Tryd.isAgg151
 z145 := Tryd.sizeOf151
 v145 := Tryd.zeroValue151
 t167 := Tryd.underlying127
 a167 := Tryd.isAgg127
 z167 := Tryd.sizeOf127
 v167 := Tryd.zeroValue127
 t168 := Tryd.underlying130
 a168 := Tryd.isAgg130
 z168 := Tryd.sizeOf130
 v168 := Tryd.zeroValue130
 t171 := Tryd.underlying101
 a171 := Tryd.isAgg101
 z171 := Tryd.sizeOf101
 v171 := Tryd.zeroValue101
 t173 := Tryd.underlying105
 a173 := Tryd.isAgg105
 z173 := Tryd.sizeOf105
 v173 := Tryd.zeroValue105
 t175 := Tryd.underlying128
 a175 := Tryd.isAgg128
 z175 := Tryd.sizeOf128
 v175 := Tryd.zeroValue128
 t210 := Tryd.underlying144
 a210 := Tryd.isAgg144
 z210 := Tryd.sizeOf144
 v210 := Tryd.zeroValue144
 t212 := Tryd.underlying118
 a212 := Tryd.isAgg118
 z212 := Tryd.sizeOf118
 v212 := Tryd.zeroValue118
 t213 := Tryd.underlying120
 a213 := Tryd.isAgg120
 z213 := Tryd.sizeOf120
 t232 := Tryd.underlying146
 a232 := Tryd.isAgg146
 z232 := Tryd.sizeOf146
 v232 := Tryd.zeroValue146
 t233 := Tryd.underlying147
 a233 := Tryd.isAgg147
 z233 := Tryd.sizeOf147
 v233 := Tryd.zeroValue147
 g15 := by kernel_rfl
 g16 := by kernel_rfl
 g17 := by kernel_rfl
 g18 := by kernel_rfl
 g19 := by kernel_rfl
 t80 := Tryd.underlying152
 a80 := Tryd.isAgg152
 z80 := Tryd.sizeOf152
 v80 := Tryd.zeroValue152
 i0 := by kernel_rfl
 i2 := by kernel_rfl
 i3 := by kernel_rfl
 i4 := by kernel_rfl
 i5 := by kernel_rfl
 i9 := by kernel_rfl
 i20 := by kernel_rfl
 i21 := by kernel_rfl
 i37 := by kernel_rfl
 i46 := by kernel_rfl
 i51 := by kernel_rfl
 i53 := by kernel_rfl
 i75 := by kernel_rfl
 i80 := by kernel_rfl
 i85 := by kernel_rfl
 i127 := by kernel_rfl
 i143 := by kernel_rfl
 i145 := by kernel_rfl
 i167 := by kernel_rfl
 i168 := by kernel_rfl
 i171 := by kernel_rfl
 i173 := by kernel_rfl
 i175 := by kernel_rfl
 i210 := by kernel_rfl
 i212 := by kernel_rfl
 i232 := by kernel_rfl
 i233 := by kernel_rfl
 m15 := by kernel_rfl
 m16 := by kernel_rfl
 m17 := by kernel_rfl
 m18 := by kernel_rfl
 m19 := by kernel_rfl
 c0 := by kernel_rfl
 c2 := by kernel_rfl
 c3 := by kernel_rfl
 c4 := by kernel_rfl
 c5 := by kernel_rfl
 c9 := by kernel_rfl
 c20 := by kernel_rfl
 c21 := by kernel_rfl
 c37 := by kernel_rfl
 c46 := by kernel_rfl
 c51 := by kernel_rfl
 c53 := by kernel_rfl
 c75 := by kernel_rfl
 c80 := by kernel_rfl
 c85 := by kernel_rfl
 c127 := by kernel_rfl
 c143 := by kernel_rfl
 c145 := by kernel_rfl
 c167 := by kernel_rfl
 c168 := by kernel_rfl
 c171 := by kernel_rfl
 c173 := by kernel_rfl
 c175 := by kernel_rfl
 c210 := by kernel_rfl
 c212 := by kernel_rfl
 c213 := by kernel_rfl
 c232 := by kernel_rfl
 c233 := by kernel_rfl }
def Zaw : Go.Shelf.Ren := ⟨fun | 229 => 50 | n => n, fun | 9 => 9 | 40 => 95 | 31 => 66 | 152 => 111 | 3 => 3 | 0 => 0 | 4 => 4 | 21 => 21 | 154 => 113 | n => n, fun | n => n⟩
theorem Zah : Go.Proofs.Lays.n229 Tryd.prog Zaw := {
 mixed := by kernel_rfl
 f229 := Tryd.func50.trans (congrArg some (by kernel_rfl))
 t0 := Tryd.underlying0
 a0 := Tryd.isAgg0
 z0 := Tryd.sizeOf0
 v0 := Tryd.zeroValue0
 t3 := Tryd.underlying3
 a3 := Tryd.isAgg3
 z3 := Tryd.sizeOf3
 v3 := Tryd.zeroValue3
 t4 := Tryd.underlying4
 a4 := Tryd.isAgg4
 z4 := Tryd.sizeOf4
 v4 := Tryd.zeroValue4
 t9 := Tryd.underlying9
 a9 := Tryd.isAgg9
 z9 := Tryd.sizeOf9
 v9 := Tryd.zeroValue9
 t21 := Tryd.underlying21
 a21 := Tryd.isAgg21
 z21 := Tryd.sizeOf21
 v21 := Tryd.zeroValue21
 t31 := Tryd.underlying66
 a31 := Tryd.isAgg66
 z31 := Tryd.sizeOf66
 v31 := Tryd.zeroValue66
 t40 := Tryd.underlying95
 a40 := Tryd.isAgg95
 z40 := Tryd.sizeOf95
 v40 := Tryd.zeroValue95
 t152 := Tryd.underlying111
 a152 := Tryd.isAgg111
 z152 := Tryd.sizeOf111
 v152 := Tryd.zeroValue111
 t154 := Tryd.underlying113
 a154 := Tryd.isAgg113
 z154 := Tryd.sizeOf113
 v154 := Tryd.zeroValue113 }
def Zc2 : Go.Shelf.Ren := ⟨fun | 17 => 53 | 15 => 66 | 20 => 81 | n => n, fun | 9 => 9 | 23 => 95 | 4 => 4 | 3 => 3 | 0 => 0 | 21 => 21 | n => n, fun | n => n⟩
theorem Zb8 : Go.Proofs.LaysGw.n17 Tryd.prog Zc2 := {
 mixed := by kernel_rfl
 f15 := Tryd.func66.trans (congrArg some (by kernel_rfl))
 f17 := Tryd.func53.trans (congrArg some (by kernel_rfl))
 f20 := Tryd.func81.trans (congrArg some (by kernel_rfl))
 t0 := Tryd.underlying0
 a0 := Tryd.isAgg0
 z0 := Tryd.sizeOf0
 v0 := Tryd.zeroValue0
 i0 := by kernel_rfl
 t3 := Tryd.underlying3
 a3 := Tryd.isAgg3
 z3 := Tryd.sizeOf3
 v3 := Tryd.zeroValue3
 i3 := by kernel_rfl
 t4 := Tryd.underlying4
 a4 := Tryd.isAgg4
 z4 := Tryd.sizeOf4
 v4 := Tryd.zeroValue4
 i4 := by kernel_rfl
 t9 := Tryd.underlying9
 a9 := Tryd.isAgg9
 z9 := Tryd.sizeOf9
 v9 := Tryd.zeroValue9
 i9 := by kernel_rfl
 t21 := Tryd.underlying21
 a21 := Tryd.isAgg21
 z21 := Tryd.sizeOf21
 v21 := Tryd.zeroValue21
 i21 := by kernel_rfl
 t23 := Tryd.underlying95
 a23 := Tryd.isAgg95
 z23 := Tryd.sizeOf95
 v23 := Tryd.zeroValue95
 i23 := by kernel_rfl }
end Go.Proofs
namespace Go.Proofs.YtnppjbofdkokkaaDoor.Ax
open Go Go.Acq Go.RowKit Go.Proofs
set_option maxHeartbeats 8000000
set_option maxRecDepth 20000
abbrev iC := intC .i64
abbrev eA {α : Type} (o : Option Nat) (f : α → List Value) (x : List α) (j : List Value) (t : TypeId) : Option Nat × Obj := (o, .cells (arr f x j).toArray t)
abbrev eI (o : Option Nat) (x : List Int) (j : List Value) (t : TypeId) : Option Nat × Obj := (o, .cells (arr (intC .i64) x j).toArray t)
abbrev eC (b : Nat) (c : Array Value) (t : TypeId) : Option Nat × Obj := (some b, .cells c t)
abbrev iV (x : Int) : Value := .int .i64 x
abbrev sV (a : Option Nat) (b c : Nat) : Value := .slice (sb a) b c
abbrev nV (a b c : Nat) : Value := .slice (some ⟨a, 0, none⟩) b c
abbrev pV (a : Nat) : Value := .pointer (some ⟨a, 0, none⟩)
theorem Uf {p q : Prop} [Decidable p] [Decidable q] {α : Type} {x : Option α} {r : α} (h : gd p (gd q x) = some r) : p ∧ q ∧ x = some r := have ⟨a, h⟩ := Ye h; ⟨a, Ye h⟩
theorem gd3 {p q s : Prop} [Decidable p] [Decidable q] [Decidable s] {α : Type} {x : Option α} {r : α} (h : gd p (gd q (gd s x)) = some r) : p ∧ q ∧ s ∧ x = some r := have ⟨a, h⟩ := Ye h; ⟨a, Uf h⟩
theorem gd4 {p q s t : Prop} [Decidable p] [Decidable q] [Decidable s] [Decidable t] {α : Type} {x : Option α} {r : α} (h : gd p (gd q (gd s (gd t x))) = some r) : p ∧ q ∧ s ∧ t ∧ x = some r := have ⟨a, h⟩ := Ye h; ⟨a, gd3 h⟩
theorem dN {C : Cx} {ops : Array Oper} {Q : Exit → Act → World → Prop} {E : Env} {H : Heap} {y : Code} (h : T C y Q E H) : TO C ops (Exit.then (y.wpIn (FW C.ρ) 0 C.P Q) Q) [] E H := h
theorem dS {C : Cx} {ops : Array Oper} {Q : Exit → Act → World → Prop} {E : Env} {H : Heap} {x y : Code} (h : T C x (Exit.then (y.wpIn (FW C.ρ) 0 C.P Q) Q) E H) : TO C ops (Exit.then ((Code.seq x y).wpIn (FW C.ρ) 0 C.P Q) Q) [] E H := dN (Zi h)
theorem rG {C : Cx} {ops : Array Oper} {Q : Exit → Act → World → Prop} {E : Env} {H : Heap} {id : Nat} (l : List Nat) (hl : List.range ops.size = l) (h : TO C ops Q l E H) : T C (.region id ops false) Q E H := Z65 hl h
theorem sR {C : Cx} {ops : Array Oper} {Q : Exit → Act → World → Prop} {E : Env} {H : Heap} {id : Nat} {y : Code} (l : List Nat) (hl : List.range ops.size = l) (h : TO C ops (Exit.then (y.wpIn (FW C.ρ) 0 C.P Q) Q) l E H) : T C (.seq (.region id ops false) y) Q E H := Zi (Z65 hl h)
theorem aN {C : Cx} {ops : Array Oper} {Q : Exit → Act → World → Prop} {E : Env} {H : Heap} {y : Code} {i d : Nat} {ty : TypeId} {Zd : String} {af : Array Edge} {g : Option (Nat × Bool)} {x : Operand} {v : Value} (q : ops[i]? = some ⟨some d, .assign x, ty, Zd, af, g⟩ ∧ Zk ops E g = true ∧ Nat.ble (d + 1) C.n = true ∧ ev E x = some v) (k : T C y Q ((d, v) :: E) H) : TO C ops (Exit.then (y.wpIn (FW C.ρ) 0 C.P Q) Q) [i] E H := have ⟨ho, hg, hd, hx⟩ := q; Xi ho hg hd (by simp) (fun a w hf _ => by simp [execOp, hf.ev hx]) (dN k)
inductive TkI : Option Nat × Obj → Heap → Heap → Prop
  | head (p : Option Nat × Obj) (l : Heap) : TkI p (p :: l) l
  | tail {p q : Option Nat × Obj} {l r : Heap} (h : TkI p l r) : TkI p (q :: l) (q :: r)
inductive PkI : Heap → Heap → Prop
  | refl (H : Heap) : PkI H H
  | nil (H : Heap) : PkI [] H
  | none {o : Obj} {T H : Heap} (h : PkI T H) : PkI ((none, o) :: T) H
  | cons {p : Option Nat × Obj} {T H R : Heap} (h : TkI p H R) (k : PkI T R) : PkI (p :: T) H
theorem tkI {p : Option Nat × Obj} {H R : Heap} (h : TkI p H R) : Take p H R := by
  induction h with
  | head => exact Take.head _ _
  | tail _ ih => exact Take.tail ih
theorem pkI {T H : Heap} (h : PkI T H) : Pick T H := by
  induction h with
  | refl H => exact Zs H
  | nil H => exact Zg
  | none _ ih => exact Pick.none ih
  | cons h _ ih => exact Zf (tkI h) ih
theorem Ke {w0 w : World} {M : List Nat} {H : Heap} (hi : Inv w0 M w H) {n c : Nat} {xs : List Int} {ob : Option Nat} {T' : TypeId} {fr : Nat × Nat} {j : List Value} (hm : (ob, Obj.cells (arr (intC .i64) xs j).toArray T' fr) ∈ H) (hn : xs.length = n) (hc : n ≤ c) (h0 : ob = none → c = 0) : RS w [] (intC .i64) 1 (sb ob) n c xs := hi.rs (f := intC .i64) (s := 1) (fun _ => rfl) hm hn hc h0
theorem rsB {w0 w : World} {M : List Nat} {H : Heap} (hi : Inv w0 M w H) {n c : Nat} {xs : List Bool} {ob : Option Nat} {T' : TypeId} {fr : Nat × Nat} {j : List Value} (hm : (ob, Obj.cells (arr boolC xs j).toArray T' fr) ∈ H) (hn : xs.length = n) (hc : n ≤ c) (h0 : ob = none → c = 0) : RS w [] boolC 1 (sb ob) n c xs := hi.rs (f := boolC) (s := 1) (fun _ => rfl) hm hn hc h0
abbrev rV (l : List Nat) (x : Value) : Sp := ⟨l, false, [], relV x⟩
def pkE : List Nat → Env → Option Env
  | [], _ => some []
  | t :: l, E => match find E t with
    | none => none
    | some v => match pkE l E with
      | none => none
      | some L => some ((t, v) :: L)
theorem aT {E : Env} : ∀ (l : List Nat) {L : Env}, pkE l E = some L → AllF L E
  | [], L, h => by injection h with h; subst h; exact Kt
  | t :: l, L, h => by
    simp only [pkE] at h
    split at h
    · cases h
    · rename_i v hv
      split at h
      · cases h
      · rename_i L' hL
        injection h with h
        subst h
        exact Zau hv (aT l hL)
theorem aF {L E : Env} (h : pkE (L.map Prod.fst) E = some L) : AllF L E := aT _ h
abbrev Y1 : List Nat := [0]
abbrev Y2 : List Nat := [0, 1]
abbrev Y3 : List Nat := [0, 1, 2]
abbrev Y4 : List Nat := [0, 1, 2, 3]
abbrev Y5 : List Nat := [0, 1, 2, 3, 4]
abbrev Y6 : List Nat := [0, 1, 2, 3, 4, 5]
abbrev Y7 : List Nat := [0, 1, 2, 3, 4, 5, 6]
abbrev Y8 : List Nat := [0, 1, 2, 3, 4, 5, 6, 7]
abbrev Y9 : List Nat := [0, 1, 2, 3, 4, 5, 6, 7, 8]
abbrev Y10 : List Nat := [0, 1, 2, 3, 4, 5, 6, 7, 8, 9]
abbrev Y11 : List Nat := [0, 1, 2, 3, 4, 5, 6, 7, 8, 9, 10]
abbrev Y13 : List Nat := [0, 1, 2, 3, 4, 5, 6, 7, 8, 9, 10, 11, 12]
abbrev Y14 : List Nat := [0, 1, 2, 3, 4, 5, 6, 7, 8, 9, 10, 11, 12, 13]
abbrev Y16 : List Nat := [0, 1, 2, 3, 4, 5, 6, 7, 8, 9, 10, 11, 12, 13, 14, 15]
abbrev Y18 : List Nat := [0, 1, 2, 3, 4, 5, 6, 7, 8, 9, 10, 11, 12, 13, 14, 15, 16, 17]
abbrev Y19 : List Nat := [0, 1, 2, 3, 4, 5, 6, 7, 8, 9, 10, 11, 12, 13, 14, 15, 16, 17, 18]
abbrev Y26 : List Nat := [0, 1, 2, 3, 4, 5, 6, 7, 8, 9, 10, 11, 12, 13, 14, 15, 16, 17, 18, 19, 20, 21, 22, 23, 24, 25]
abbrev Y47 : List Nat := [0, 1, 2, 3, 4, 5, 6, 7, 8, 9, 10, 11, 12, 13, 14, 15, 16, 17, 18, 19, 20, 21, 22, 23, 24, 25, 26, 27, 28, 29, 30, 31, 32, 33, 34, 35, 36, 37, 38, 39, 40, 41, 42, 43, 44, 45, 46]
theorem Vu : Tryd.prog.follows .mixedOrders = true := by kernel_rfl
theorem Yk : Wv Tryd.prog 24 4 = true := by kernel_rfl
theorem Uj : Wv Tryd.prog 45 3 = true := by kernel_rfl
theorem Ng : Wv Tryd.prog 71 2 = true := by kernel_rfl
theorem Zbe : Wv Tryd.prog 72 12 = true := by kernel_rfl
theorem Z3z : Uy Tryd.prog 2 = some 8 := by kernel_rfl
theorem Zbg : Uy Tryd.prog 45 = some 24 := by kernel_rfl
theorem Z0i : Yb Tryd.prog 14 = true := by kernel_rfl
theorem Z9n : Yb Tryd.prog 25 = true := by kernel_rfl
theorem Zb6 : Yb Tryd.prog 36 = true := by kernel_rfl
theorem Zae : Yb Tryd.prog 37 = true := by kernel_rfl
theorem Zce : Yb Tryd.prog 38 = true := by kernel_rfl
theorem Jr : Yb Tryd.prog 39 = true := by kernel_rfl
theorem Z5z : Yb Tryd.prog 40 = true := by kernel_rfl
theorem Z9s : Yb Tryd.prog 41 = true := by kernel_rfl
theorem Zcg : Yb Tryd.prog 42 = true := by kernel_rfl
theorem Zak : Yb Tryd.prog 43 = true := by kernel_rfl
theorem Za0 : Yb Tryd.prog 44 = true := by kernel_rfl
theorem Z5k : Yb Tryd.prog 55 = true := by kernel_rfl
theorem Z6h : Yb Tryd.prog 56 = true := by kernel_rfl
theorem Z73 : Yb Tryd.prog 57 = true := by kernel_rfl
theorem Z7y : Yb Tryd.prog 69 = true := by kernel_rfl
theorem Vn : Vj Tryd.prog 24 0 = some 0 := by kernel_rfl
theorem Jq : Vj Tryd.prog 24 1 = some 1 := by kernel_rfl
theorem Jk : Vj Tryd.prog 24 2 = some 2 := by kernel_rfl
theorem Vd : Vj Tryd.prog 24 3 = some 3 := by kernel_rfl
theorem Js : Vj Tryd.prog 45 0 = some 0 := by kernel_rfl
theorem Gr : Vj Tryd.prog 45 1 = some 1 := by kernel_rfl
theorem Uv : Vj Tryd.prog 45 2 = some 2 := by kernel_rfl
theorem Nl : Vj Tryd.prog 71 0 = some 0 := by kernel_rfl
theorem Li : Vj Tryd.prog 71 1 = some 1 := by kernel_rfl
theorem Xr : Yu Tryd.prog 22 = some 45 := by kernel_rfl
theorem Xh : Yu Tryd.prog 25 = some 2 := by kernel_rfl
theorem Vt : Yu Tryd.prog 26 = some 4 := by kernel_rfl
theorem Xp : Yg Tryd.prog 2 = some 1 := by kernel_rfl
theorem Zbh : Yg Tryd.prog 22 = some 1 := by kernel_rfl
theorem Z15 : Yg Tryd.prog 24 = some 4 := by kernel_rfl
theorem Z4k : Yg Tryd.prog 3 = some 1 := by kernel_rfl
theorem Vx : Yg Tryd.prog 4 = some 1 := by kernel_rfl
theorem Ws : Yg Tryd.prog 45 = some 3 := by kernel_rfl
theorem Ll : Yg Tryd.prog 71 = some 2 := by kernel_rfl
theorem Zbj : Yg Tryd.prog 72 = some 12 := by kernel_rfl
theorem Rb : Tryd.prog.underlying 72 = some (.array 6 71) := by kernel_rfl
theorem Wc : Xa Tryd.prog 2 = true := by kernel_rfl
theorem Vm : Xa Tryd.prog 22 = true := by kernel_rfl
theorem Yr : Xa Tryd.prog 3 = true := by kernel_rfl
theorem Ks : Xa Tryd.prog 31 = true := by kernel_rfl
theorem Nk : Xa Tryd.prog 4 = true := by kernel_rfl
theorem Lc : Xa Tryd.prog 69 = true := by kernel_rfl
theorem Z6p : Xa Tryd.prog 89 = true := by kernel_rfl
theorem TWDS4.u4 : Tryd.prog.underlying 4 = some .bool := by kernel_rfl
theorem Gf : Xq Tryd.prog 2 = some (iV 0) := by kernel_rfl
theorem Z4b : Xq Tryd.prog 24 = some (.agg #[iV 0, iV 0, iV 0, .slice none 0 0]) := by kernel_rfl
theorem Kr : Xq Tryd.prog 45 = some (.agg #[iV 0, iV 0, iV 0]) := by kernel_rfl
theorem Ly : Xq Tryd.prog 71 = some (.agg #[.nilFunc, iV 0]) := by kernel_rfl
theorem Zc1 : Xq Tryd.prog 72 = some (.agg #[.nilFunc, iV 0, .nilFunc, iV 0, .nilFunc, iV 0, .nilFunc, iV 0, .nilFunc, iV 0, .nilFunc, iV 0]) := by kernel_rfl
theorem Zba : ElemT Tryd.prog 22 45 3 24 (.agg #[iV 0, iV 0, iV 0]) := ⟨Xr, Ws, Zbg, Kr, rfl⟩
theorem Z0z {x0 n1 : Int} (w : World) {r0 : Int} (H : Kw x0 n1 = some r0) : Fnc Tryd.prog 14 #[iV x0, iV n1] w [] (fun v N => v = iV r0 ∧ N = []) := by
 unfold Kw at H; refine Fnc.enter (vs := [iV x0, iV n1]) Tryd.func14 rfl rfl (Inv.refl w) ?_; refine sR Y1 rfl ?_; refine aN Za ?_; refine Zi ?_; refine sR Y2 rfl ?_; refine Zc Za ?_; refine Zo Zm ?_; refine dN ?_; rcases Zp H with ⟨g1, H⟩ | ⟨g1, H⟩
 · refine Yz rfl g1 ?_; refine sR Y1 rfl ?_; refine aN Za ?_; refine T.ret ?_; refine Zu ?_; obtain rfl := ret1 H; exact Zy Za (Res.tmp rfl) Zg ⟨rfl, rfl⟩
 · refine Yv rfl g1 ?_; refine T.skip ?_; refine Ya ?_; obtain ⟨g2, g3, g4, H⟩ := gd3 H; refine sR Y8 rfl ?_; refine Zc Za ?_; refine Zc Za ?_; refine TO.rem Zb g2 ?_; refine Zc Za ?_; refine Wa g3 Zb ?_; refine Zc Za ?_; refine TO.rem Zb g4 ?_; refine aN Za ?_; refine Zn (aT [4] rfl) ?_; refine T.ret ?_; obtain rfl := ret1 H; exact Zy Za (Res.tmp rfl) Zg ⟨rfl, rfl⟩
theorem Zbb {n0 : Net} {verts1 arcs2 : Int} {a6 : Option Addr} {a9 a7 : Nat} (w : World) (a5 : RS w [] Yd 3 a6 a9 a7 n0.Arcs) {r0 : Net} (H : Z06 n0 verts1 arcs2 = some r0) : Fnc Tryd.prog 4 #[.agg #[iV n0.N, iV n0.S, iV n0.T, .slice a6 a9 a7], iV verts1, iV arcs2] w [] (fun v N => ∃ (d6 : Option Nat) (g4 g6 : Nat) (j3 : List Value), v = .agg #[iV r0.N, iV r0.S, iV r0.T, sV d6 g4 g6] ∧ N = [(eA d6 Yd r0.Arcs j3 45)] ∧ r0.Arcs.length = g4 ∧ g4 ≤ g6 ∧ j3.length = (g6 - g4) * 3 ∧ (d6 = none → g6 = 0)) := by
 unfold Z06 at H; refine Fnc.enter (vs := [.agg #[iV n0.N, iV n0.S, iV n0.T, .slice a6 a9 a7], iV verts1, iV arcs2]) Tryd.func4 rfl rfl (Inv.refl w) ?_; refine sR Y2 rfl ?_; refine Xo Za ?_; intro b1; refine Ww Zv Z4b ?_; intro b3; refine dN ?_; refine Zi ?_; obtain ⟨g5, H⟩ := Ye H; obtain ⟨r6, e7, H⟩ := Zq H; obtain ⟨g8, H⟩ := Ye H; refine rG Y9 rfl ?_; refine Zx Za Vn ?_; refine Zt Za Yr Xk rfl ?_; refine Zc Za ?_; refine Z0g g5 Zb ?_; refine Zw Z0i Za (fun wc hwc => Z0z (x0 := n0.N) (n1 := (verts1 - 1)) wc  e7) ?_; rintro _ _ ⟨rfl, rfl⟩; refine Wa g8 Zb ?_; refine Us (t := 24) [iV 0, iV 0, iV 0, .slice none 0 0] [0, 1, 2, 3] Za (by simp only [Xz, setCells, Value.cells, List.toList_toArray, List.getD_cons_zero, List.getD_cons_succ, List.set_cons_zero, List.set_cons_succ]; rfl) (by kernel_rfl) ?_; refine Ww Zv Z4b ?_; intro b9; refine Vg Za Zh Z15 Zv ?_; refine dN ?_; refine Zn (aT [2, 3, 6, 7] rfl) ?_; refine Zi ?_; obtain ⟨b6, k1, H⟩ := Zq H; refine rG Y7 rfl ?_; refine Zx Za Jq ?_; refine Zt Za Yr Xw rfl ?_; refine Zx Za Vn ?_; refine Zt Za Yr Zl rfl ?_; refine Zw Z0i Za (fun wc hwc => Z0z (x0 := n0.S) (n1 := (2 + r6)) wc  k1) ?_; rintro _ _ ⟨rfl, rfl⟩; refine Zx Za Jq ?_; refine Xd (cs' := [iV (2 + r6), iV b6, iV 0, .slice none 0 0]) Za Zh Z4k Zv ?_; refine dS ?_; obtain ⟨j4, k2, H⟩ := Zq H; refine rG Y7 rfl ?_; refine Zx Za Jk ?_; refine Zt Za Yr Xw rfl ?_; refine Zx Za Vn ?_; refine Zt Za Yr Zl rfl ?_; refine Zw Z0i Za (fun wc hwc => Z0z (x0 := n0.T) (n1 := (2 + r6)) wc  k2) ?_; rintro _ _ ⟨rfl, rfl⟩; refine Zx Za Jk ?_; refine Xd (cs' := [iV (2 + r6), iV b6, iV j4, .slice none 0 0]) Za Zh Z4k Zv ?_; refine dN ?_; refine Zn (aT [2, 3, 6, 7] rfl) ?_; refine Zi ?_; refine sR Y5 rfl ?_; refine Zx Za Jq ?_; refine Zt Za Yr Zl rfl ?_; refine Zx Za Jk ?_; refine Zt Za Yr Zl rfl ?_; refine Zo Zm ?_; refine dN ?_; refine Wh (fun (b8 : Int) => Ln n0 arcs2 r6 b6 b8 = some r0) (fun (b8 : Int) => [(2, iV arcs2), (3, pV b1), (6, pV b3), (7, pV b9)]) (fun (b8 : Int) => [(eC b1 #[iV n0.N, iV n0.S, iV n0.T, .slice a6 a9 a7] 24), (eC b3 #[iV 0, iV 0, iV 0, .slice none 0 0] 24), (eC b9 #[iV (2 + r6), iV b6, iV b8, .slice none 0 0] 24)]) ?_ ?_
 ·
  rcases Zp H with ⟨h1, H⟩ | ⟨h1, H⟩
  · refine Yz rfl h1 ?_; obtain ⟨k3, k4, H⟩ := Uf H; refine rG Y8 rfl ?_; refine Zx Za Jq ?_; refine Zt Za Yr Zl rfl ?_; refine Wa k3 Zb ?_; refine Zx Za Vn ?_; refine Zt Za Yr Zl rfl ?_; refine TO.rem Zb k4 ?_; refine Zx Za Jk ?_; refine Xd (cs' := [iV (2 + r6), iV b6, iV ((b6 + 1).tmod (2 + r6)), .slice none 0 0]) Za Zh Z4k Zv ?_; refine Zj ?_; exact Xg ((b6 + 1).tmod (2 + r6)) H (aF rfl) (Zf Wj (Zf Yl (Zf Zh Zg)))
  · refine Yv rfl h1 ?_; refine T.skip ?_; exact Xg j4 H (aF rfl) (Zf Wj (Zf Yl (Zf Zh Zg)))
 ·
  rintro b8 H; unfold Ln at H; refine Zi ?_; obtain ⟨g7, H⟩ := Ye H; refine sR Y10 rfl ?_; refine Zx Za Vd ?_; refine Zt Za Vm Zl rfl ?_; refine Zx Za Vd ?_; refine Zt Za Vm Zl rfl ?_; refine Yq (xs := n0.Arcs) a5.len Zb Xr ?_; refine Zc Za ?_; refine TO.min2 Zb ?_; refine TO.slH (xs := n0.Arcs) a5.len a5.cap g7 Zb Xr Ws ?_; refine Yq (xs := (n0.Arcs.take (min (n0.Arcs.length : Int) arcs2).toNat)) ((RS.take a5 g7).len) Zb Xr ?_; refine Zc Za ?_; refine dN ?_; refine Zn (aT [6, 7, 49, 50, 51] rfl) ?_; refine Z8p (fun (a3 : List Arc) (d5 c56 : Nat) (b5 : Option Nat) (e3 : List Value) => Z1d r6 b6 b8 a3 = some r0 ∧ a3.length = d5 ∧ d5 ≤ c56 ∧ e3.length = (c56 - d5) * 3 ∧ (b5 = none → c56 = 0)) (fun (a3 : List Arc) (d5 c56 : Nat) (b5 : Option Nat) (e3 : List Value) => [(6, pV b3), (7, pV b9)]) (fun (a3 : List Arc) (d5 c56 : Nat) (b5 : Option Nat) (e3 : List Value) => [(eC b3 #[iV 0, iV 0, iV 0, .slice none 0 0] 24), (eC b9 #[iV (2 + r6), iV b6, iV b8, sV b5 d5 c56] 24), (eA b5 Yd a3 e3 45)]) ?_ ?_
  ·
   refine T.block ?_; obtain ⟨k5, e5, k6⟩ := Zq H; refine Z6o (fun (e4 : Nat) (a2 : List Arc) (b7 c22 : Nat) (a4 : Option Nat) (d4 : List Value) (a8 : Int) => Xf (fun s => Re n0 arcs2 r6 s.1 s.2) e4 (a2, a8) = some k5 ∧ a2.length = b7 ∧ b7 ≤ c22 ∧ d4.length = (c22 - b7) * 3 ∧ (a4 = none → c22 = 0)) (fun (e4 : Nat) (a2 : List Arc) (b7 c22 : Nat) (a4 : Option Nat) (d4 : List Value) (a8 : Int) => [(6, pV b3), (7, pV b9), (49, .slice a6 ((min (n0.Arcs.length : Int) arcs2).toNat) a7), (50, iV ((n0.Arcs.take (min (n0.Arcs.length : Int) arcs2).toNat).length : Int)), (51, iV a8)]) (fun (e4 : Nat) (a2 : List Arc) (b7 c22 : Nat) (a4 : Option Nat) (d4 : List Value) (a8 : Int) => [(eC b3 #[iV 0, iV 0, iV 0, .slice none 0 0] 24), (eC b9 #[iV (2 + r6), iV b6, iV b8, sV a4 b7 c22] 24), (eA a4 Yd a2 d4 45)]) (fun (e4 : Nat) (a2 : List Arc) (b7 c22 : Nat) (a4 : Option Nat) (d4 : List Value) (a8 : Int) => e4) Yy ([]) 0 0 none ([]) 0 ⟨e5, rfl, (Nat.le_refl _), (Wy 0 _), (fun _ => rfl)⟩ (aF rfl) (Zf Yl (Zf Yl (Pick.none Zg))) ?_; rintro e4 a2 b7 c22 a4 d4 a8 ⟨H, d7, e6, e8, e9⟩; obtain ⟨k7, j5, rfl, H, j6⟩ := Ul H; have H : Re n0 arcs2 r6 a2 a8 = some j5 := H; unfold Re at H; refine sR Y1 rfl ?_; refine Zo Zm ?_; refine dS ?_; rcases Zp H with ⟨h2, H⟩ | ⟨h2, H⟩
   ·
    refine Yz rfl h2 ?_; refine T.skip ?_; refine Ya ?_; refine Zi ?_; refine T.block ?_; obtain ⟨j7, H⟩ := Ye H; refine sR Y4 rfl ?_; refine Wl (RS.take a5 g7) j7 Zb Xr Ws ?_; refine Jh (cs := [iV (((n0.Arcs.take (min (n0.Arcs.length : Int) arcs2).toNat).getD a8.toNat default).fr), iV (((n0.Arcs.take (min (n0.Arcs.length : Int) arcs2).toNat).getD a8.toNat default).to), iV (((n0.Arcs.take (min (n0.Arcs.length : Int) arcs2).toNat).getD a8.toNat default).cap)]) default (RS.take a5 g7) j7 Zb Uj ?_; refine Ww Zv Kr ?_; intro h3; refine Vg Za Zh Ws Zv ?_; refine dN ?_; refine sR Y3 rfl ?_; refine Zx Za Uv ?_; refine Zt Za Wc Zl rfl ?_; refine aN Za ?_; refine Zi ?_; refine sR Y2 rfl ?_; refine Zc Za ?_; refine Zo Zm ?_; refine dN ?_; refine Wh (fun (c38 : Int) => Nw n0 arcs2 r6 a2 a8 c38 = some j5) (fun (c38 : Int) => [(6, pV b3), (7, pV b9), (9, pV h3), (10, iV c38), (49, .slice a6 ((min (n0.Arcs.length : Int) arcs2).toNat) a7), (50, iV ((n0.Arcs.take (min (n0.Arcs.length : Int) arcs2).toNat).length : Int)), (51, iV a8)]) (fun (c38 : Int) => [(eC b3 #[iV 0, iV 0, iV 0, .slice none 0 0] 24), (eC b9 #[iV (2 + r6), iV b6, iV b8, sV a4 b7 c22] 24), (eA a4 Yd a2 d4 45), (eC h3 #[iV (((n0.Arcs.take (min (n0.Arcs.length : Int) arcs2).toNat).getD a8.toNat default).fr), iV (((n0.Arcs.take (min (n0.Arcs.length : Int) arcs2).toNat).getD a8.toNat default).to), iV (((n0.Arcs.take (min (n0.Arcs.length : Int) arcs2).toNat).getD a8.toNat default).cap)] 45)]) ?_ ?_
    ·
     rcases Zp H with ⟨h4, H⟩ | ⟨h4, H⟩
     · refine Yz rfl h4 ?_; obtain ⟨k8, k9, H⟩ := Uf H; refine rG Y4 rfl ?_; refine Zc Za ?_; refine Wa k8 Zb ?_; refine Z87 k9 Za ?_; refine Zz Za ?_; refine Zj ?_; exact Xg (-((((n0.Arcs.take (min (n0.Arcs.length : Int) arcs2).toNat).getD a8.toNat default).cap) + 1)) H (aF rfl) (Zf Yl (Zf Yl (Zf Yl (Zf Zh Zg))))
     · refine Yv rfl h4 ?_; refine T.skip ?_; exact Xg (((n0.Arcs.take (min (n0.Arcs.length : Int) arcs2).toNat).getD a8.toNat default).cap) H (aF rfl) (Zf Yl (Zf Yl (Zf Yl (Zf Zh Zg))))
    ·
     rintro c38 H; unfold Nw at H; obtain ⟨g9, l0, H⟩ := Zq H; obtain ⟨h0, l3, H⟩ := Zq H; obtain ⟨l4, H⟩ := Ye H; apply Z4a [rV [] _, rV [0] _, rV [] _, rV [2] _, rV [] _, rV [4] _, rV [3, 5] _, rV [] _, rV [7] _, rV [] _, rV [9] _, rV [8, 10] _, rV [] _, rV [12] _, rV [6, 11, 13] _, ⟨[14], false, [], fun _ v e => ∃ (f0 : Nat), v = nV f0 1 1 ∧ e = [(eA (some f0) Yd ([(Arc.mk g9 h0 (c38.tmod 1125899906842624))]) ([]) 45)]⟩] [62, 63, 64, 65, 66, 67, 68, 69, 70, 71, 72, 73, 74, 75, 76, 77] 16 (HRk [[]]) [[]] [] [(eC b3 #[iV 0, iV 0, iV 0, .slice none 0 0] 24), (eC b9 #[iV (2 + r6), iV b6, iV b8, sV a4 b7 c22] 24), (eA a4 Yd a2 d4 45), (eC h3 #[iV (((n0.Arcs.take (min (n0.Arcs.length : Int) arcs2).toNat).getD a8.toNat default).fr), iV (((n0.Arcs.take (min (n0.Arcs.length : Int) arcs2).toNat).getD a8.toNat default).to), iV (((n0.Arcs.take (min (n0.Arcs.length : Int) arcs2).toNat).getD a8.toNat default).cap)] 45)]
     · exact Vu
     · exact rfl
     · kernel_rfl
     · kernel_rfl
     · kernel_rfl
     · exact rfl
     · exact rfl
     · exact rfl
     · exact rfl
     · exact pkI (by repeat constructor)
     ·
      refine ⟨?_, ?_, ?_, ?_, ?_, ?_, ?_, ?_, ?_, ?_, ?_, ?_, ?_, ?_, ?_, ?_, trivial⟩
      · rintro vs es Es Hx -; refine Yp (D := []) rfl ?_; refine Zx Za Vd ?_; refine Zj ?_; exact Yw rfl ⟨rfl, rfl⟩ (Zs _) rfl
      · rintro vs es Es Hx ⟨⟨f2, h5⟩, -⟩; refine Yp (D := [(62, vs 0)]) rfl ?_; rw [f2]; refine Zt Za Vm Xk rfl ?_; refine Zj ?_; exact Yw rfl ⟨rfl, rfl⟩ (Zs _) (by show [(62, vs 0)] = _; rw [f2])
      · rintro vs es Es Hx -; refine Yp (D := []) rfl ?_; refine Zx Za Js ?_; refine Zj ?_; exact Yw rfl ⟨rfl, rfl⟩ (Zs _) rfl
      · rintro vs es Es Hx ⟨⟨f3, e5⟩, -⟩; refine Yp (D := [(64, vs 2)]) rfl ?_; rw [f3]; refine Zt Za Yr Ui rfl ?_; refine Zj ?_; exact Yw rfl ⟨rfl, rfl⟩ (Zs _) (by show [(64, vs 2)] = _; rw [f3])
      · rintro vs es Es Hx -; refine Yp (D := []) rfl ?_; refine Zx Za Vn ?_; refine Zj ?_; exact Yw rfl ⟨rfl, rfl⟩ (Zs _) rfl
      · rintro vs es Es Hx ⟨⟨f4, h6⟩, -⟩; refine Yp (D := [(66, vs 4)]) rfl ?_; rw [f4]; refine Zt Za Yr Xk rfl ?_; refine Zj ?_; exact Yw rfl ⟨rfl, rfl⟩ (Zs _) (by show [(66, vs 4)] = _; rw [f4])
      · rintro vs es Es Hx ⟨⟨f5, h7⟩, ⟨f6, h8⟩, -⟩; refine Yp (D := [(65, vs 3), (67, vs 5)]) rfl ?_; rw [f5, f6]; refine Zw Z0i Za (fun wc hwc => Z0z (x0 := ((n0.Arcs.take (min (n0.Arcs.length : Int) arcs2).toNat).getD a8.toNat default).fr) (n1 := (2 + r6)) wc  l0) ?_; rintro _ _ ⟨rfl, rfl⟩; refine Zj ?_; exact Yw rfl ⟨rfl, rfl⟩ (Zs _) (by show [(65, vs 3), (67, vs 5)] = _; rw [f5, f6])
      · rintro vs es Es Hx -; refine Yp (D := []) rfl ?_; refine Zx Za Gr ?_; refine Zj ?_; exact Yw rfl ⟨rfl, rfl⟩ (Zs _) rfl
      · rintro vs es Es Hx ⟨⟨f7, h9⟩, -⟩; refine Yp (D := [(69, vs 7)]) rfl ?_; rw [f7]; refine Zt Za Yr Ui rfl ?_; refine Zj ?_; exact Yw rfl ⟨rfl, rfl⟩ (Zs _) (by show [(69, vs 7)] = _; rw [f7])
      · rintro vs es Es Hx -; refine Yp (D := []) rfl ?_; refine Zx Za Vn ?_; refine Zj ?_; exact Yw rfl ⟨rfl, rfl⟩ (Zs _) rfl
      · rintro vs es Es Hx ⟨⟨f8, i3⟩, -⟩; refine Yp (D := [(71, vs 9)]) rfl ?_; rw [f8]; refine Zt Za Yr Xk rfl ?_; refine Zj ?_; exact Yw rfl ⟨rfl, rfl⟩ (Zs _) (by show [(71, vs 9)] = _; rw [f8])
      · rintro vs es Es Hx ⟨⟨f9, i4⟩, ⟨c0, d8⟩, -⟩; refine Yp (D := [(70, vs 8), (72, vs 10)]) rfl ?_; rw [f9, c0]; refine Zw Z0i Za (fun wc hwc => Z0z (x0 := ((n0.Arcs.take (min (n0.Arcs.length : Int) arcs2).toNat).getD a8.toNat default).to) (n1 := (2 + r6)) wc  l3) ?_; rintro _ _ ⟨rfl, rfl⟩; refine Zj ?_; exact Yw rfl ⟨rfl, rfl⟩ (Zs _) (by show [(70, vs 8), (72, vs 10)] = _; rw [f9, c0])
      · rintro vs es Es Hx -; refine Yp (D := []) rfl ?_; refine Zc Za ?_; refine Zj ?_; exact Yw rfl ⟨rfl, rfl⟩ (Zs _) rfl
      · rintro vs es Es Hx ⟨⟨d0, d9⟩, -⟩; refine Yp (D := [(74, vs 12)]) rfl ?_; rw [d0]; refine TO.rem Zb (by decide) ?_; refine Zj ?_; exact Yw rfl ⟨rfl, rfl⟩ (Zs _) (by show [(74, vs 12)] = _; rw [d0])
      · rintro vs es Es Hx ⟨⟨g0, i5⟩, ⟨d1, e0⟩, ⟨d2, e1⟩, -⟩; refine Yp (D := [(68, vs 6), (73, vs 11), (75, vs 13)]) rfl ?_; rw [g0, d1, d2]; refine Us (t := 45) [iV 0, iV 0, iV 0] [0, 1, 2] Za (by simp only [Xz, setCells, Value.cells, List.toList_toArray, List.getD_cons_zero, List.getD_cons_succ, List.set_cons_zero, List.set_cons_succ]; rfl) (by kernel_rfl) ?_; refine Zj ?_; exact Yw rfl ⟨rfl, rfl⟩ (Zs _) (by show [(68, vs 6), (73, vs 11), (75, vs 13)] = _; rw [g0, d1, d2])
      · rintro vs es Es Hx ⟨⟨d3, e2⟩, -⟩; refine Yp (D := [(76, vs 14)]) rfl ?_; rw [d3]; refine Un [iV 0, iV 0, iV 0] [0] Za Xr Ws Kr Xj (by simp only [Xz, setCells, Value.cells, List.toList_toArray, List.getD_cons_zero, List.getD_cons_succ, List.set_cons_zero, List.set_cons_succ]; rfl) (by kernel_rfl) ?_; intro f0; refine Zj ?_; exact Yw rfl ⟨f0, rfl, rfl⟩ (pkI (by repeat constructor)) (by show [(76, vs 14)] = _; rw [d3])
     · rintro vs es hb ⟨⟨f2, h5⟩, ⟨j8, j9⟩, ⟨f3, e5⟩, ⟨f5, h7⟩, ⟨f4, h6⟩, ⟨f6, h8⟩, ⟨g0, i5⟩, ⟨f7, h9⟩, ⟨f9, i4⟩, ⟨f8, i3⟩, ⟨c0, d8⟩, ⟨d1, e0⟩, ⟨d0, d9⟩, ⟨d2, e1⟩, ⟨d3, e2⟩, ⟨f0, g1, g2⟩, -⟩ hHR; obtain rfl : hb = [] := hHR; refine Yp (D := [(62, vs 0), (63, vs 1), (64, vs 2), (65, vs 3), (66, vs 4), (67, vs 5), (68, vs 6), (69, vs 7), (70, vs 8), (71, vs 9), (72, vs 10), (73, vs 11), (74, vs 12), (75, vs 13), (76, vs 14), (77, vs 15)]) rfl ?_; refine Ld (H := _ ++ (_ ++ (es 0 ++ (es 1 ++ (es 2 ++ (es 3 ++ (es 4 ++ (es 5 ++ (es 6 ++ (es 7 ++ (es 8 ++ (es 9 ++ (es 10 ++ (es 11 ++ (es 12 ++ (es 13 ++ (es 14 ++ (es 15 ++ ([]))))))))))))))))))) rfl ?_; rw [h5, j9, e5, h7, h6, h8, i5, h9, i4, i3, d8, e0, d9, e1, e2, g2]; rw [f2, j8, f3, f5, f4, f6, g0, f7, f9, f8, c0, d1, d0, d2, d3, g1]; clear g1 d3 d2 d0 d1 c0 f8 f9 f7 g0 f6 f4 f5 f3 j8 f2 h5 j9 e5 h7 h6 h8 i5 h9 i4 i3 d8 e0 d9 e1 e2 g2; refine TO.app (f := Yd) (s := 3) (xs := a2) (ob := a4) (j := d4) (ys := [(Arc.mk g9 h0 (c38.tmod 1125899906842624))]) (fun _ => rfl) (fun _ => rfl) Zba l4 Zb Wj d7 e6 e8 e9 (fun wc hwc => (hwc.rs (f := Yd) (s := 3) (xs := [(Arc.mk g9 h0 (c38.tmod 1125899906842624))]) (j := ([])) (fun _ => rfl) Wt rfl (Nat.le_refl _) Xu)) ?_; intro g3 k0 l5 i6 i7 i8; refine Zx Za Vd ?_; refine Xd (cs' := [iV (2 + r6), iV b6, iV b8, sV g3 (b7 + 1) k0]) Za Wj Zbh Zv ?_; refine Zj ?_; refine Xs ?_; refine Ya ?_; refine Zn (aT [6, 7, 49, 50, 51] rfl) ?_; obtain ⟨l6, H⟩ := Ye H; refine rG Y2 rfl ?_; refine Wa l6 Zb ?_; refine Zc Za ?_; refine Zj ?_; have H := Vv H j6; exact Z5m k7 (a2 ++ ([(Arc.mk g9 h0 (c38.tmod 1125899906842624))])) (b7 + 1) k0 g3 l5 (a8 + 1) ⟨H, (Z3h d7 rfl), i6, i7, i8⟩ (Nat.lt_succ_self _) (aF rfl) (Zf Wj (Zf Zh (Zf Zh Zg)))
   · refine Yv rfl h2 ?_; refine T.exit ?_; refine Xn ?_; have H := Wm H j6 ▸ k6; refine Xn ?_; refine Vl ?_; exact X.metE5 a2 b7 c22 a4 d4 ⟨H, d7, e6, e8, e9⟩ (aF rfl) (Zf Zh (Zf Zh (Zf Zh Zg)))
  · rintro a3 d5 c56 b5 e3 ⟨H, i9, j0, j1, j2⟩; unfold Z1d at H; refine sR Y2 rfl ?_; refine Ym Za Yk Xk rfl ?_; refine Vg Za Zh Z15 Zv ?_; refine dN ?_; refine T.ret ?_; obtain rfl := ret1 H; exact Zy Za (Z5x rfl Yk Zl rfl) (Zf Wj Zg) ⟨b5, d5, c56, e3, rfl, rfl, i9, j0, j1, j2⟩
theorem Z9i {n0 : Net} {l1 : List Int} {a2 a9 : Option Addr} {a4 a3 a8 b5 : Nat} (w : World) (a5 : RS w [] Yd 3 a2 a4 a3 n0.Arcs) (b6 : RS w [] iC 1 a9 a8 b5 l1) {r0 : List Int} (H : Z0b n0 l1 = some r0) : Fnc Tryd.prog 5 #[.agg #[iV n0.N, iV n0.S, iV n0.T, .slice a2 a4 a3], .slice a9 a8 b5] w [] (fun v N => ∃ (b8 : Option Nat) (d2 d3 : Nat) (e2 : List Value), v = sV b8 d2 d3 ∧ N = [(eI b8 r0 e2 2)] ∧ r0.length = d2 ∧ d2 ≤ d3 ∧ e2.length = (d3 - d2) * 1 ∧ (b8 = none → d3 = 0)) := by
 unfold Z0b at H; refine Fnc.enter (vs := [.agg #[iV n0.N, iV n0.S, iV n0.T, .slice a2 a4 a3], .slice a9 a8 b5]) Tryd.func5 rfl rfl (Inv.refl w) ?_; refine sR Y2 rfl ?_; refine Xo Za ?_; intro b1; refine aN Za ?_; obtain ⟨g3, H⟩ := Ye H; refine sR Y5 rfl ?_; refine Zx Za Vd ?_; refine Zt Za Vm Zl rfl ?_; refine Yq (xs := n0.Arcs) a5.len Zb Xr ?_; refine TO.mkI g3 Zb Xh Xp Gf Z3z rfl ?_; intro b4; refine aN Za ?_; refine Zi ?_; refine sR Y4 rfl ?_; refine Zx Za Vd ?_; refine Zt Za Vm Xk rfl ?_; refine Yq (xs := n0.Arcs) a5.len Zb Xr ?_; refine Zc Za ?_; refine dN ?_; refine Zn (aT [1, 5, 14, 15, 16] rfl) ?_; refine Wh (fun (a7 : List Int) => Z1i a7 = some r0 ∧ a7.length = (n0.Arcs.length : Int).toNat) (fun (a7 : List Int) => [(5, nV b4 ((n0.Arcs.length : Int).toNat) ((n0.Arcs.length : Int).toNat))]) (fun (a7 : List Int) => [(eI (some b4) a7 ([]) 2)]) ?_ ?_
 ·
  refine T.block ?_; obtain ⟨e6, e7, e8⟩ := Zq H; refine Z4e (fun (c0 : Nat) (a6 : List Int) (x8 : Int) => Xf (fun s => Z0m n0 l1 s.1 s.2) c0 (a6, x8) = some e6 ∧ a6.length = (n0.Arcs.length : Int).toNat) (fun (c0 : Nat) (a6 : List Int) (x8 : Int) => [(1, .slice a9 a8 b5), (5, nV b4 ((n0.Arcs.length : Int).toNat) ((n0.Arcs.length : Int).toNat)), (14, .slice a2 a4 a3), (15, iV (n0.Arcs.length : Int)), (16, iV x8)]) (fun (c0 : Nat) (a6 : List Int) (x8 : Int) => [(eI (some b4) a6 ([]) 2)]) (fun (c0 : Nat) (a6 : List Int) (x8 : Int) => c0) Yy (List.replicate ((n0.Arcs.length : Int).toNat) (0 : Int)) 0 ⟨e7, List.length_replicate⟩ (aF rfl) (Zf Zh Zg) ?_; rintro c0 a6 x8 ⟨H, d1⟩; obtain ⟨d5, d6, rfl, H, d4⟩ := Ul H; have H : Z0m n0 l1 a6 x8 = some d6 := H; unfold Z0m at H; refine sR Y1 rfl ?_; refine Zo Zm ?_; refine dS ?_; rcases Zp H with ⟨g9, H⟩ | ⟨g9, H⟩
  ·
   refine Yz rfl g9 ?_; refine T.skip ?_; refine Ya ?_; refine Zi ?_; refine T.block ?_; obtain ⟨e3, H⟩ := Ye H; refine sR Y6 rfl ?_; refine Zc Za ?_; refine Wl a5 e3 Zb Xr Ws ?_; refine Jh (cs := [iV ((n0.Arcs.getD x8.toNat default).fr), iV ((n0.Arcs.getD x8.toNat default).to), iV ((n0.Arcs.getD x8.toNat default).cap)]) default a5 e3 Zb Uj ?_; refine Ww Zv Kr ?_; intro b7; refine Zz Za ?_; refine Vg Za Zh Ws Zv ?_; refine dS ?_; refine Zi ?_; rcases Zp H with ⟨d7, H⟩ | ⟨d7, H⟩
   · refine rG Y11 rfl ?_; refine Zc Za ?_; refine Zc Za ?_; refine Yq (xs := l1) b6.len Zb Xh ?_; refine Zo Zm ?_; refine Zc Za ?_; refine Zr (t := 25) (b' := true) rfl (decide_eq_true d7) ?_; refine Ze Za ?_; refine Ze Za ?_; refine Ze Za ?_; refine Ze Za ?_; refine Ze Za ?_; refine Yf Zb ?_; refine dN ?_; refine Zn (aT [1, 5, 14, 15, 16, 7, 6, 26, 27, 28, 29, 30, 31] rfl) ?_; refine Ys rfl rfl ?_; refine T.exit ?_; refine Xn ?_; refine Vl ?_; refine Ya ?_; obtain ⟨e9, H⟩ := Ye H; refine rG Y2 rfl ?_; refine Wa e9 Zb ?_; refine Zc Za ?_; refine Zj ?_; have H := Vv H d4; exact Rx d5 a6 (x8 + 1) ⟨H, d1⟩ (Nat.lt_succ_self _) (aF rfl) (Zf Yl Zg)
   ·
    refine rG Y11 rfl ?_; refine Zc Za ?_; refine Zc Za ?_; refine Yq (xs := l1) b6.len Zb Xh ?_; refine Zo Zm ?_; refine Zc Za ?_; refine Zr (t := 25) (b' := false) rfl (decide_eq_false d7) ?_; refine Zx Za Js ?_; refine Zt Za Yr Zl rfl ?_; refine Zx Za Gr ?_; refine Zt Za Yr Zl rfl ?_; refine Zo Zm ?_; refine Yc Zb ?_; refine dN ?_; refine Zn (aT [1, 5, 14, 15, 16, 7, 6, 26, 27, 28, 29, 30, 31] rfl) ?_; rcases Zp H with ⟨d8, H⟩ | ⟨d8, H⟩
    · refine Yz rfl d8 ?_; refine T.exit ?_; refine Xn ?_; refine Vl ?_; refine Ya ?_; obtain ⟨f0, H⟩ := Ye H; refine rG Y2 rfl ?_; refine Wa f0 Zb ?_; refine Zc Za ?_; refine Zj ?_; have H := Vv H d4; exact Rx d5 a6 (x8 + 1) ⟨H, d1⟩ (Nat.lt_succ_self _) (aF rfl) (Zf Yl Zg)
    ·
     refine Yv rfl d8 ?_; refine T.skip ?_; refine Ya ?_; obtain ⟨e4, H⟩ := Ye H; refine sR Y5 rfl ?_; refine Zc Za ?_; refine Zc Za ?_; refine Wl b6 e4 Zb Xh Xp ?_; refine Z27 b6 e4 Za Wc ?_; refine aN Za ?_; refine Zi ?_; refine sR Y2 rfl ?_; refine Zc Za ?_; refine Zo Zm ?_; refine dN ?_; refine Wh (fun (b9 : Int) => Lx n0 a6 x8 b9 = some d6) (fun (b9 : Int) => [(1, .slice a9 a8 b5), (5, nV b4 ((n0.Arcs.length : Int).toNat) ((n0.Arcs.length : Int).toNat)), (6, iV x8), (7, pV b7), (8, iV b9), (14, .slice a2 a4 a3), (15, iV (n0.Arcs.length : Int)), (16, iV x8), (26, pV b7), (27, iV ((n0.Arcs.getD x8.toNat default).fr)), (28, .pointer (some ⟨b7, 1, none⟩)), (29, iV ((n0.Arcs.getD x8.toNat default).to)), (30, .bool (decide (((n0.Arcs.getD x8.toNat default).fr) = ((n0.Arcs.getD x8.toNat default).to))))]) (fun (b9 : Int) => [(eI (some b4) a6 ([]) 2), (eC b7 #[iV ((n0.Arcs.getD x8.toNat default).fr), iV ((n0.Arcs.getD x8.toNat default).to), iV ((n0.Arcs.getD x8.toNat default).cap)] 45)]) ?_ ?_
     ·
      rcases Zp H with ⟨d9, H⟩ | ⟨d9, H⟩
      · refine Yz rfl d9 ?_; obtain ⟨f2, f3, H⟩ := Uf H; refine rG Y4 rfl ?_; refine Zc Za ?_; refine Wa f2 Zb ?_; refine Z87 f3 Za ?_; refine Zz Za ?_; refine Zj ?_; exact Xg (-((l1.getD x8.toNat 0) + 1)) H (aF rfl) (Zf Yl (Zf Zh Zg))
      · refine Yv rfl d9 ?_; refine T.skip ?_; exact Xg (l1.getD x8.toNat 0) H (aF rfl) (Zf Yl (Zf Zh Zg))
     ·
      rintro b9 H; unfold Lx at H; refine Zi ?_; refine sR Y3 rfl ?_; refine Zx Za Uv ?_; refine Zt Za Wc Xk rfl ?_; refine Zo Zm ?_; refine dN ?_; refine Wh (fun (d0 : Int) => La n0 a6 x8 d0 = some d6) (fun (d0 : Int) => [(1, .slice a9 a8 b5), (5, nV b4 ((n0.Arcs.length : Int).toNat) ((n0.Arcs.length : Int).toNat)), (6, iV x8), (7, pV b7), (8, iV d0), (14, .slice a2 a4 a3), (15, iV (n0.Arcs.length : Int)), (16, iV x8), (26, pV b7), (27, iV ((n0.Arcs.getD x8.toNat default).fr)), (28, .pointer (some ⟨b7, 1, none⟩)), (29, iV ((n0.Arcs.getD x8.toNat default).to)), (30, .bool (decide (((n0.Arcs.getD x8.toNat default).fr) = ((n0.Arcs.getD x8.toNat default).to))))]) (fun (d0 : Int) => [(eI (some b4) a6 ([]) 2), (eC b7 #[iV ((n0.Arcs.getD x8.toNat default).fr), iV ((n0.Arcs.getD x8.toNat default).to), iV ((n0.Arcs.getD x8.toNat default).cap)] 45)]) ?_ ?_
      ·
       rcases Zp H with ⟨e0, H⟩ | ⟨e0, H⟩
       · refine Yz rfl e0 ?_; obtain ⟨f4, f5, H⟩ := Uf H; refine rG Y6 rfl ?_; refine Zc Za ?_; refine Zx Za Uv ?_; refine Zt Za Wc Xk rfl ?_; refine Wa f4 Zb ?_; refine TO.rem Zb f5 ?_; refine Zz Za ?_; refine Zj ?_; exact Xg (b9.tmod (((n0.Arcs.getD x8.toNat default).cap) + 1)) H (aF rfl) (Zf Zh (Zf Zh Zg))
       · refine Yv rfl e0 ?_; refine T.skip ?_; exact Xg b9 H (aF rfl) (Zf Zh (Zf Zh Zg))
      · rintro d0 H; unfold La at H; obtain ⟨e5, H⟩ := Ye H; refine rG Y8 rfl ?_; refine Zc Za ?_; refine Zc Za ?_; refine Zc Za ?_; refine Zx Za Uv ?_; refine Zt Za Wc Xk rfl ?_; refine TO.min2 Zb ?_; refine Z1m d1 e5 Zb Xh Xp ?_; refine Z3g e5 Za Zh Xp ?_; refine Zj ?_; refine Xs ?_; refine Ya ?_; refine Zn (aT [1, 5, 14, 15, 16, 26, 27, 28, 29, 30] rfl) ?_; obtain ⟨f6, H⟩ := Ye H; refine rG Y2 rfl ?_; refine Wa f6 Zb ?_; refine Zc Za ?_; refine Zj ?_; have H := Vv H d4; exact Rx d5 (a6.set x8.toNat (min d0 ((n0.Arcs.getD x8.toNat default).cap))) (x8 + 1) ⟨H, (List.length_set.trans d1)⟩ (Nat.lt_succ_self _) (aF rfl) (Zf Zh Zg)
  · refine Yv rfl g9 ?_; refine T.exit ?_; refine Xn ?_; have H := Wm H d4 ▸ e8; refine Xn ?_; refine Vl ?_; exact Xg a6 ⟨H, d1⟩ (aF rfl) (Zf Zh Zg)
 · rintro a7 ⟨H, e1⟩; unfold Z1i at H; refine sR Y2 rfl ?_; refine Zc Za ?_; refine aN Za ?_; refine T.ret ?_; obtain rfl := ret1 H; exact Zy Za (Res.tmp rfl) (Zf Zh Zg) ⟨(some b4), ((n0.Arcs.length : Int).toNat), ((n0.Arcs.length : Int).toNat), ([]), rfl, rfl, e1, (Nat.le_refl _), (Wy _ _), Xu⟩
theorem Zbv (w : World) (H : Z1b = some ()) : Fnc Tryd.prog 40 #[.func (.func 41) #[] #[]] w [] (fun v N => ∃ (a2 : Nat), v = .func (.func 55) #[] #[pV a2] ∧ N = [(eC a2 #[.func (.func 41) #[] #[]] 89)]) := by
 unfold Z1b at H; refine Fnc.enter (vs := [.func (.func 41) #[] #[]]) Tryd.func40 rfl rfl (Inv.refl w) ?_; refine sR Y2 rfl ?_; refine TO.box Za ?_; intro b1; refine aN Za ?_; refine sR Y2 rfl ?_; refine TO.makeFunc Zb ?_; refine aN Za ?_; refine T.ret ?_; exact Zy Za (Res.tmp rfl) (Zf Zh Zg) ⟨b1, rfl, rfl⟩
theorem Zb9 (w : World) (H : Z25 = some ()) : Fnc Tryd.prog 40 #[.func (.func 42) #[] #[]] w [] (fun v N => ∃ (a2 : Nat), v = .func (.func 55) #[] #[pV a2] ∧ N = [(eC a2 #[.func (.func 42) #[] #[]] 89)]) := by
 unfold Z25 at H; refine Fnc.enter (vs := [.func (.func 42) #[] #[]]) Tryd.func40 rfl rfl (Inv.refl w) ?_; refine sR Y2 rfl ?_; refine TO.box Za ?_; intro b1; refine aN Za ?_; refine sR Y2 rfl ?_; refine TO.makeFunc Zb ?_; refine aN Za ?_; refine T.ret ?_; exact Zy Za (Res.tmp rfl) (Zf Zh Zg) ⟨b1, rfl, rfl⟩
theorem Z8k (w : World) (H : Z2y = some ()) : Fnc Tryd.prog 25 #[] w [] (fun v N => ∃ (a2 a3 : Nat), v = .agg #[.func (.func 36) #[] #[], iV 10, .func (.func 37) #[] #[], iV 11, .func (.func 38) #[] #[], iV 12, .func (.func 55) #[] #[pV a2], iV 13, .func (.func 55) #[] #[pV a3], iV 14, .func (.func 43) #[] #[], iV 15] ∧ N = [(eC a2 #[.func (.func 41) #[] #[]] 89), (eC a3 #[.func (.func 42) #[] #[]] 89)]) := by
 unfold Z2y at H; refine Fnc.enter (vs := []) Tryd.func25 rfl rfl (Inv.refl w) ?_; refine sR Y1 rfl ?_; refine Ww Zv Zc1 ?_; intro b1; refine dS ?_; obtain ⟨⟨⟩, e3, H⟩ := Zq H; obtain ⟨⟨⟩, e6, H⟩ := Zq H; refine rG Y10 rfl ?_; refine Us (t := 71) [.nilFunc, iV 0] [0, 1] Za (by simp only [Xz, setCells, Value.cells, List.toList_toArray, List.getD_cons_zero, List.getD_cons_succ, List.set_cons_zero, List.set_cons_succ]; rfl) (by kernel_rfl) ?_; refine Us (t := 71) [.nilFunc, iV 0] [0, 1] Za (by simp only [Xz, setCells, Value.cells, List.toList_toArray, List.getD_cons_zero, List.getD_cons_succ, List.set_cons_zero, List.set_cons_succ]; rfl) (by kernel_rfl) ?_; refine Us (t := 71) [.nilFunc, iV 0] [0, 1] Za (by simp only [Xz, setCells, Value.cells, List.toList_toArray, List.getD_cons_zero, List.getD_cons_succ, List.set_cons_zero, List.set_cons_succ]; rfl) (by kernel_rfl) ?_; refine Zw Z5z Za (fun wc hwc => Zbv  wc  e3) ?_; rintro _ _ ⟨b4, rfl, rfl⟩; refine Us (t := 71) [.nilFunc, iV 0] [0, 1] Za (by simp only [Xz, setCells, Value.cells, List.toList_toArray, List.getD_cons_zero, List.getD_cons_succ, List.set_cons_zero, List.set_cons_succ]; rfl) (by kernel_rfl) ?_; refine Zw Z5z Za (fun wc hwc => Zb9  wc  e6) ?_; rintro _ _ ⟨b7, rfl, rfl⟩; refine Us (t := 71) [.nilFunc, iV 0] [0, 1] Za (by simp only [Xz, setCells, Value.cells, List.toList_toArray, List.getD_cons_zero, List.getD_cons_succ, List.set_cons_zero, List.set_cons_succ]; rfl) (by kernel_rfl) ?_; refine Us (t := 71) [.nilFunc, iV 0] [0, 1] Za (by simp only [Xz, setCells, Value.cells, List.toList_toArray, List.getD_cons_zero, List.getD_cons_succ, List.set_cons_zero, List.set_cons_succ]; rfl) (by kernel_rfl) ?_; refine Us (t := 72) [.nilFunc, iV 0, .nilFunc, iV 0, .nilFunc, iV 0, .nilFunc, iV 0, .nilFunc, iV 0, .nilFunc, iV 0] [0, 2, 4, 6, 8, 10] Za (by simp only [Xz, setCells, Value.cells, List.toList_toArray, List.getD_cons_zero, List.getD_cons_succ, List.set_cons_zero, List.set_cons_succ]; rfl) (by kernel_rfl) ?_; refine Vg Za Wj Zbj Zv ?_; refine dN ?_; refine Zn (aT [0] rfl) ?_; refine T.ret ?_; exact Zy Za (Z5x rfl Zbe Zl rfl) (Zf Wj (Zf Yl Zg)) ⟨b4, b7, rfl, rfl⟩
theorem Z8q {n0 : Net} {a2 : Option Addr} {a3 a4 : Nat} (w : World) (a5 : RS w [] Yd 3 a2 a3 a4 n0.Arcs) {r0 : Bool} (H : Z1r n0 = some r0) : Fnc Tryd.prog 36 #[.agg #[iV n0.N, iV n0.S, iV n0.T, .slice a2 a3 a4]] w [] (fun v N => v = .bool r0 ∧ N = []) := by
 unfold Z1r at H; refine Fnc.enter (vs := [.agg #[iV n0.N, iV n0.S, iV n0.T, .slice a2 a3 a4]]) Tryd.func36 rfl rfl (Inv.refl w) ?_; refine sR Y2 rfl ?_; refine Xo Za ?_; intro b1; refine aN Za ?_; refine Zi ?_; rcases Zp H with ⟨g3, H⟩ | ⟨g3, H⟩
 · refine rG Y9 rfl ?_; refine Zx Za Vn ?_; refine Zt Za Yr Zl rfl ?_; refine Zo Zm ?_; refine Zc Za ?_; refine Zr (t := 6) (b' := true) rfl (decide_eq_true g3) ?_; refine Zx Za Vn ?_; refine Zt Za Yr Zl rfl ?_; refine Zo Zm ?_; refine Yf Zb ?_; refine aN Za ?_; refine Zn (aT [2] rfl) ?_; refine T.ret ?_; obtain rfl := ret1 H; exact Zy Za (Res.tmp rfl) Zg ⟨rfl, rfl⟩
 · refine rG Y9 rfl ?_; refine Zx Za Vn ?_; refine Zt Za Yr Zl rfl ?_; refine Zo Zm ?_; refine Zc Za ?_; refine Zr (t := 6) (b' := false) rfl (decide_eq_false g3) ?_; refine Ze Za ?_; refine Ze Za ?_; refine Ze Za ?_; refine Yc Zb ?_; refine aN Za ?_; refine Zn (aT [2] rfl) ?_; refine T.ret ?_; obtain rfl := ret1 H; exact Zy Za (Res.tmp rfl) Zg ⟨rfl, rfl⟩
theorem Za2 {n0 : Net} {a2 : Option Addr} {a3 a4 : Nat} (w : World) (a5 : RS w [] Yd 3 a2 a3 a4 n0.Arcs) {r0 : Bool} (H : Z2r n0 = some r0) : Fnc Tryd.prog 37 #[.agg #[iV n0.N, iV n0.S, iV n0.T, .slice a2 a3 a4]] w [] (fun v N => v = .bool r0 ∧ N = []) := by
 unfold Z2r at H; refine Fnc.enter (vs := [.agg #[iV n0.N, iV n0.S, iV n0.T, .slice a2 a3 a4]]) Tryd.func37 rfl rfl (Inv.refl w) ?_; refine sR Y2 rfl ?_; refine Xo Za ?_; intro b1; refine aN Za ?_; refine sR Y5 rfl ?_; refine Zx Za Vd ?_; refine Zt Za Vm Zl rfl ?_; refine Yq (xs := n0.Arcs) a5.len Zb Xr ?_; refine Zo Zm ?_; refine aN Za ?_; refine T.ret ?_; obtain rfl := ret1 H; exact Zy Za (Res.tmp rfl) Zg ⟨rfl, rfl⟩
theorem Jz {n0 : Net} {v1 : Int} {a2 : Option Addr} {a4 a3 : Nat} (w : World) (a5 : RS w [] Yd 3 a2 a4 a3 n0.Arcs) {r0 : Bool} (H : Gc n0 v1 = some r0) : Fnc Tryd.prog 39 #[.agg #[iV n0.N, iV n0.S, iV n0.T, .slice a2 a4 a3], iV v1] w [] (fun v N => v = .bool r0 ∧ N = []) := by
 unfold Gc at H; refine Fnc.enter (vs := [.agg #[iV n0.N, iV n0.S, iV n0.T, .slice a2 a4 a3], iV v1]) Tryd.func39 rfl rfl (Inv.refl w) ?_; refine sR Y2 rfl ?_; refine Xo Za ?_; intro b1; refine aN Za ?_; refine Zi ?_; rcases Zp H with ⟨g3, H⟩ | ⟨g3, H⟩
 · refine rG Y9 rfl ?_; refine Zc Za ?_; refine Zo Zm ?_; refine Zc Za ?_; refine Zr (t := 7) (b' := true) rfl (decide_eq_true g3) ?_; refine Zc Za ?_; refine Zx Za Vn ?_; refine Zt Za Yr Zl rfl ?_; refine Zo Zm ?_; refine Yf Zb ?_; refine aN Za ?_; refine Zn (aT [4] rfl) ?_; refine T.ret ?_; obtain rfl := ret1 H; exact Zy Za (Res.tmp rfl) Zg ⟨rfl, rfl⟩
 · refine rG Y9 rfl ?_; refine Zc Za ?_; refine Zo Zm ?_; refine Zc Za ?_; refine Zr (t := 7) (b' := false) rfl (decide_eq_false g3) ?_; refine Ze Za ?_; refine Ze Za ?_; refine Ze Za ?_; refine Ze Za ?_; refine Yc Zb ?_; refine aN Za ?_; refine Zn (aT [4] rfl) ?_; refine T.ret ?_; obtain rfl := ret1 H; exact Zy Za (Res.tmp rfl) Zg ⟨rfl, rfl⟩
theorem Za9 {n0 : Net} {a3 : Option Addr} {a4 a5 : Nat} (w : World) (a2 : RS w [] Yd 3 a3 a4 a5 n0.Arcs) {r0 : Bool} (H : Z1g n0 = some r0) : Fnc Tryd.prog 38 #[.agg #[iV n0.N, iV n0.S, iV n0.T, .slice a3 a4 a5]] w [] (fun v N => v = .bool r0 ∧ N = []) := by
 unfold Z1g at H; refine Fnc.enter (vs := [.agg #[iV n0.N, iV n0.S, iV n0.T, .slice a3 a4 a5]]) Tryd.func38 rfl rfl (Inv.refl w) ?_; refine sR Y2 rfl ?_; refine Xo Za ?_; intro b1; refine aN Za ?_; refine Zi ?_; obtain ⟨r3, e4, H⟩ := Zq H; rcases Zp H with ⟨g5, H⟩ | ⟨g5, H⟩
 ·
  obtain ⟨r6, e7, H⟩ := Zq H; rcases Zp H with ⟨g8, H⟩ | ⟨g8, H⟩
  · refine rG Y18 rfl ?_; refine Ym Za Yk Zl rfl ?_; refine Zx Za Jq ?_; refine Zt Za Yr Zl rfl ?_; refine Zw Jr Za (fun wc hwc => Jz (n0 := n0) (v1 := n0.S) wc (a2.mono hwc) e4) ?_; rintro _ _ ⟨rfl, rfl⟩; refine Zc Za ?_; refine Zr (t := 7) (b' := true) rfl g5 ?_; refine Ym Za Yk Zl rfl ?_; refine Zx Za Jk ?_; refine Zt Za Yr Zl rfl ?_; refine Zw Jr Za (fun wc hwc => Jz (n0 := n0) (v1 := n0.T) wc (a2.mono hwc) e7) ?_; rintro _ _ ⟨rfl, rfl⟩; refine Yf Zb ?_; refine Zc Za ?_; refine Zr (t := 13) (b' := true) rfl g8 ?_; refine Zx Za Jq ?_; refine Zt Za Yr Zl rfl ?_; refine Zx Za Jk ?_; refine Zt Za Yr Zl rfl ?_; refine Zo Zm ?_; refine Yf Zb ?_; refine aN Za ?_; refine Zn (aT [2] rfl) ?_; refine T.ret ?_; obtain rfl := ret1 H; exact Zy Za (Res.tmp rfl) Zg ⟨rfl, rfl⟩
  · refine rG Y18 rfl ?_; refine Ym Za Yk Zl rfl ?_; refine Zx Za Jq ?_; refine Zt Za Yr Zl rfl ?_; refine Zw Jr Za (fun wc hwc => Jz (n0 := n0) (v1 := n0.S) wc (a2.mono hwc) e4) ?_; rintro _ _ ⟨rfl, rfl⟩; refine Zc Za ?_; refine Zr (t := 7) (b' := true) rfl g5 ?_; refine Ym Za Yk Zl rfl ?_; refine Zx Za Jk ?_; refine Zt Za Yr Zl rfl ?_; refine Zw Jr Za (fun wc hwc => Jz (n0 := n0) (v1 := n0.T) wc (a2.mono hwc) e7) ?_; rintro _ _ ⟨rfl, rfl⟩; refine Yf Zb ?_; refine Zc Za ?_; refine Zr (t := 13) (b' := false) rfl (Bool.eq_false_iff.2 g8) ?_; refine Ze Za ?_; refine Ze Za ?_; refine Ze Za ?_; refine Ze Za ?_; refine Ze Za ?_; refine Yc Zb ?_; refine aN Za ?_; refine Zn (aT [2] rfl) ?_; refine T.ret ?_; obtain rfl := ret1 H; exact Zy Za (Res.tmp rfl) Zg ⟨rfl, rfl⟩
 · refine rG Y18 rfl ?_; refine Ym Za Yk Zl rfl ?_; refine Zx Za Jq ?_; refine Zt Za Yr Zl rfl ?_; refine Zw Jr Za (fun wc hwc => Jz (n0 := n0) (v1 := n0.S) wc (a2.mono hwc) e4) ?_; rintro _ _ ⟨rfl, rfl⟩; refine Zc Za ?_; refine Zr (t := 7) (b' := false) rfl (Bool.eq_false_iff.2 g5) ?_; refine Ze Za ?_; refine Ze Za ?_; refine Ze Za ?_; refine Ze Za ?_; refine Yc Zb ?_; refine Zc Za ?_; refine Ze Za ?_; refine Ze Za ?_; refine Ze Za ?_; refine Ze Za ?_; refine Ze Za ?_; refine Yc Zb ?_; refine aN Za ?_; refine Zn (aT [2] rfl) ?_; refine T.ret ?_; obtain rfl := ret1 H; exact Zy Za (Res.tmp rfl) Zg ⟨rfl, rfl⟩
theorem Zb4 {n0 : Net} {a1 : Arc} {a3 : Option Addr} {a5 a4 : Nat} (w : World) (a2 : RS w [] Yd 3 a3 a5 a4 n0.Arcs) {r0 : Bool} (H : Z0w n0 a1 = some r0) : Fnc Tryd.prog 41 #[.agg #[iV n0.N, iV n0.S, iV n0.T, .slice a3 a5 a4], .agg #[iV a1.fr, iV a1.to, iV a1.cap]] w [] (fun v N => v = .bool r0 ∧ N = []) := by
 unfold Z0w at H; refine Fnc.enter (vs := [.agg #[iV n0.N, iV n0.S, iV n0.T, .slice a3 a5 a4], .agg #[iV a1.fr, iV a1.to, iV a1.cap]]) Tryd.func41 rfl rfl (Inv.refl w) ?_; refine sR Y3 rfl ?_; refine Xo Za ?_; intro b1; refine Xo Za ?_; intro b3; refine aN Za ?_; refine Zi ?_; obtain ⟨r5, e6, H⟩ := Zq H; rcases Zp H with ⟨g7, H⟩ | ⟨g7, H⟩
 · obtain ⟨r8, e9, H⟩ := Zq H; refine rG Y11 rfl ?_; refine Ym Za Yk Xk rfl ?_; refine Zx Za Js ?_; refine Zt Za Yr Zl rfl ?_; refine Zw Jr Za (fun wc hwc => Jz (n0 := n0) (v1 := a1.fr) wc (a2.mono hwc) e6) ?_; rintro _ _ ⟨rfl, rfl⟩; refine Zc Za ?_; refine Zr (t := 9) (b' := true) rfl g7 ?_; refine Ym Za Yk Xk rfl ?_; refine Zx Za Gr ?_; refine Zt Za Yr Zl rfl ?_; refine Zw Jr Za (fun wc hwc => Jz (n0 := n0) (v1 := a1.to) wc (a2.mono hwc) e9) ?_; rintro _ _ ⟨rfl, rfl⟩; refine Yf Zb ?_; refine aN Za ?_; refine Zn (aT [4] rfl) ?_; refine T.ret ?_; obtain rfl := ret1 H; exact Zy Za (Res.tmp rfl) Zg ⟨rfl, rfl⟩
 · refine rG Y11 rfl ?_; refine Ym Za Yk Xk rfl ?_; refine Zx Za Js ?_; refine Zt Za Yr Zl rfl ?_; refine Zw Jr Za (fun wc hwc => Jz (n0 := n0) (v1 := a1.fr) wc (a2.mono hwc) e6) ?_; rintro _ _ ⟨rfl, rfl⟩; refine Zc Za ?_; refine Zr (t := 9) (b' := false) rfl (Bool.eq_false_iff.2 g7) ?_; refine Ze Za ?_; refine Ze Za ?_; refine Ze Za ?_; refine Ze Za ?_; refine Yc Zb ?_; refine aN Za ?_; refine Zn (aT [4] rfl) ?_; refine T.ret ?_; obtain rfl := ret1 H; exact Zy Za (Res.tmp rfl) Zg ⟨rfl, rfl⟩
theorem Zc7 {a0 : Arc} {c2 : Net} {a8 a5 a2 a3 : Nat} {a4 : Option Addr} (w : World) (a6 : HB w [] a8 [.func (.func 41) #[] #[]]) (a9 : RS w [] Yd 3 a4 a2 a3 c2.Arcs) (a7 : HB w [] a5 [iV c2.N, iV c2.S, iV c2.T, .slice a4 a2 a3]) {r0 : Bool} (H : Z1u a0 c2 = some r0) : Fnc Tryd.prog 57 #[.agg #[iV a0.fr, iV a0.to, iV a0.cap], pV a8, pV a5] w [] (fun v N => v = .bool r0 ∧ N = []) := by
 unfold Z1u at H; refine Fnc.enter (vs := [.agg #[iV a0.fr, iV a0.to, iV a0.cap], pV a8, pV a5]) Tryd.func57 rfl rfl (Inv.refl w) ?_; refine sR Y2 rfl ?_; refine Xo Za ?_; intro b1; refine aN Za ?_; refine Zi ?_; obtain ⟨r3, e4, H⟩ := Zq H; refine rG Y6 rfl ?_; refine Uz a6 Zb Z6p ?_; refine Z7t a7 Zb Yk ?_; refine Ym Za Uj Zl rfl ?_; refine Ki Z9s Zb (fun wc hwc => Zb4 (n0 := c2) (a1 := a0) wc (a9.mono hwc) e4) ?_; rintro _ _ ⟨rfl, rfl⟩; refine TO.not Za ?_; refine aN Za ?_; refine Zn (aT [4] rfl) ?_; refine T.ret ?_; obtain rfl := ret1 H; exact Zy Za (Res.tmp rfl) Zg ⟨rfl, rfl⟩
theorem Zaa {s0 : List Arc} {f1_1 : Net} {b6 a4 : Option Addr} {b7 b5 a2 a3 a5 a6 : Nat} (w : World) (b8 : RS w [] Yd 3 b6 b7 b5 s0) (a8 : HB w [] a2 [.func (.func 41) #[] #[]]) (a9 : RS w [] Yd 3 a4 a5 a6 f1_1.Arcs) (a7 : HB w [] a3 [iV f1_1.N, iV f1_1.S, iV f1_1.T, .slice a4 a5 a6]) {r0 : Int} (H : Z1w s0 f1_1 = some r0) : Fnc Tryd.prog 69 #[.slice b6 b7 b5, .func (.func 57) #[] #[pV a2, pV a3]] w [] (fun v N => v = iV r0 ∧ N = []) := by
 unfold Z1w at H; refine Fnc.enter (vs := [.slice b6 b7 b5, .func (.func 57) #[] #[pV a2, pV a3]]) Tryd.func69 rfl rfl (Inv.refl w) ?_; refine sR Y1 rfl ?_; refine aN Za ?_; refine Zi ?_; refine sR Y3 rfl ?_; refine Zc Za ?_; refine Yq (xs := s0) b8.len Zb Xr ?_; refine Zc Za ?_; refine dN ?_; refine Wh (fun (u8 : Unit) => Z40 = some r0) (fun (u8 : Unit) => []) (fun (u8 : Unit) => []) ?_ ?_
 ·
  refine T.block ?_; obtain ⟨d1, d2, d0⟩ := Zq H; refine Rl (fun (b9 : Nat) (x1 : Int) => Xf (fun s => Rt s0 f1_1 s) b9 x1 = some d1) (fun (b9 : Nat) (x1 : Int) => [(0, .slice b6 b7 b5), (1, .func (.func 57) #[] #[pV a2, pV a3]), (7, iV (s0.length : Int)), (8, iV x1)]) (fun (b9 : Nat) (x1 : Int) => []) (fun (b9 : Nat) (x1 : Int) => b9) Yy 0 d2 (aF rfl) Zg ?_; rintro b9 x1 H; obtain ⟨d3, d4, rfl, H, c0⟩ := Ul H; have H : Rt s0 f1_1 x1 = some d4 := H; unfold Rt at H; refine sR Y1 rfl ?_; refine Zo Zm ?_; refine dS ?_; rcases Zp H with ⟨g2, H⟩ | ⟨g2, H⟩
  ·
   refine Yz rfl g2 ?_; refine T.skip ?_; refine Ya ?_; refine Zi ?_; refine T.block ?_; refine sR Y2 rfl ?_; refine Zc Za ?_; refine aN Za ?_; refine Zi ?_; obtain ⟨g3, H⟩ := Ye H; obtain ⟨r4, e5, H⟩ := Zq H; refine rG Y6 rfl ?_; refine Zc Za ?_; refine Zc Za ?_; refine Zc Za ?_; refine Wl b8 g3 Zb Xr Ws ?_; refine Jh (cs := [iV ((s0.getD x1.toNat default).fr), iV ((s0.getD x1.toNat default).to), iV ((s0.getD x1.toNat default).cap)]) default b8 g3 Zb Uj ?_; refine Ki Z73 Zb (fun wc hwc => Zc7 (a0 := (s0.getD x1.toNat default)) (c2 := f1_1) wc (a8.mono hwc) (a9.mono hwc) (a7.mono hwc) e5) ?_; rintro _ _ ⟨rfl, rfl⟩; refine dN ?_; rcases Zp H with ⟨g6, H⟩ | ⟨g6, H⟩
   · refine Ys rfl g6 ?_; refine sR Y2 rfl ?_; refine Zc Za ?_; refine aN Za ?_; refine Zn (aT [4] rfl) ?_; refine T.ret ?_; refine Yx ?_; refine Zu ?_; have H := Wm H c0 ▸ d0; refine Zu ?_; refine Yx ?_; refine Zu ?_; obtain rfl := ret1 H; exact Zy Za (Res.tmp rfl) Zg ⟨rfl, rfl⟩
   · refine Xl rfl (Bool.eq_false_iff.2 g6) ?_; refine T.skip ?_; refine Xs ?_; refine Ya ?_; refine Zn (aT [0, 1, 7, 8] rfl) ?_; obtain ⟨g7, H⟩ := Ye H; refine rG Y2 rfl ?_; refine Wa g7 Zb ?_; refine Zc Za ?_; refine Zj ?_; have H := Vv H c0; exact Z0a d3 (x1 + 1) H (Nat.lt_succ_self _) (aF rfl) Zg
  · refine Yv rfl g2 ?_; refine T.exit ?_; refine Xn ?_; have H := Wm H c0 ▸ d0; refine Xn ?_; refine Vl ?_; exact Xg () H Kt Zg
 · rintro u8 H; unfold Z40 at H; refine sR Y1 rfl ?_; refine aN Za ?_; refine T.ret ?_; obtain rfl := ret1 H; exact Zy Za (Res.tmp rfl) Zg ⟨rfl, rfl⟩
theorem Z9g {s0 : List Arc} {f1_1 : Net} {b6 a2 : Option Addr} {b7 b5 a5 a6 a3 a4 : Nat} (w : World) (b8 : RS w [] Yd 3 b6 b7 b5 s0) (a8 : HB w [] a5 [.func (.func 41) #[] #[]]) (a9 : RS w [] Yd 3 a2 a3 a4 f1_1.Arcs) (a7 : HB w [] a6 [iV f1_1.N, iV f1_1.S, iV f1_1.T, .slice a2 a3 a4]) {r0 : Bool} (H : Z28 s0 f1_1 = some r0) : Fnc Tryd.prog 56 #[.slice b6 b7 b5, .func (.func 57) #[] #[pV a5, pV a6]] w [] (fun v N => v = .bool r0 ∧ N = []) := by
 unfold Z28 at H; refine Fnc.enter (vs := [.slice b6 b7 b5, .func (.func 57) #[] #[pV a5, pV a6]]) Tryd.func56 rfl rfl (Inv.refl w) ?_; refine sR Y1 rfl ?_; refine aN Za ?_; refine Zi ?_; obtain ⟨r1, e2, H⟩ := Zq H; refine rG Y5 rfl ?_; refine Zc Za ?_; refine Zc Za ?_; refine Zw Z7y Za (fun wc hwc => Zaa (s0 := s0) (f1_1 := f1_1) wc (b8.mono hwc) (a8.mono hwc) (a9.mono hwc) (a7.mono hwc) e2) ?_; rintro _ _ ⟨rfl, rfl⟩; refine Zo Zm ?_; refine aN Za ?_; refine T.ret ?_; obtain rfl := ret1 H; exact Zy Za (Res.tmp rfl) Zg ⟨rfl, rfl⟩
theorem Z92 {n0 : Net} {a2 : Option Addr} {a4 a3 a6 : Nat} (w : World) (a5 : RS w [] Yd 3 a2 a4 a3 n0.Arcs) (a7 : HB w [] a6 [.func (.func 41) #[] #[]]) {r0 : Bool} (H : Rg n0 = some r0) : Fnc Tryd.prog 55 #[.agg #[iV n0.N, iV n0.S, iV n0.T, .slice a2 a4 a3], pV a6] w [] (fun v N => v = .bool r0 ∧ N = []) := by
 unfold Rg at H; refine Fnc.enter (vs := [.agg #[iV n0.N, iV n0.S, iV n0.T, .slice a2 a4 a3], pV a6]) Tryd.func55 rfl rfl (Inv.refl w) ?_; refine sR Y2 rfl ?_; refine Xo Za ?_; intro b1; refine aN Za ?_; refine Zi ?_; obtain ⟨r3, e4, H⟩ := Zq H; refine rG Y6 rfl ?_; refine Zx Za Vd ?_; refine Zt Za Vm Zl rfl ?_; refine TO.makeFunc Zb ?_; refine Zw Z6h Za (fun wc hwc => Z9g (s0 := n0.Arcs) (f1_1 := n0) wc (a5.mono hwc) (a7.mono hwc) (a5.mono hwc) (hwc.hb (cs := [iV n0.N, iV n0.S, iV n0.T, .slice a2 a4 a3]) Zl) e4) ?_; rintro _ _ ⟨rfl, rfl⟩; refine TO.not Za ?_; refine aN Za ?_; refine Zn (aT [3] rfl) ?_; refine T.ret ?_; obtain rfl := ret1 H; exact Zy Za (Res.tmp rfl) Zg ⟨rfl, rfl⟩
theorem Zaq {n0 : Net} {a1 : Arc} {a2 : Option Addr} {a4 a3 : Nat} (w : World) (a5 : RS w [] Yd 3 a2 a4 a3 n0.Arcs) {r0 : Bool} (H : Z1y n0 a1 = some r0) : Fnc Tryd.prog 42 #[.agg #[iV n0.N, iV n0.S, iV n0.T, .slice a2 a4 a3], .agg #[iV a1.fr, iV a1.to, iV a1.cap]] w [] (fun v N => v = .bool r0 ∧ N = []) := by
 unfold Z1y at H; refine Fnc.enter (vs := [.agg #[iV n0.N, iV n0.S, iV n0.T, .slice a2 a4 a3], .agg #[iV a1.fr, iV a1.to, iV a1.cap]]) Tryd.func42 rfl rfl (Inv.refl w) ?_; refine sR Y3 rfl ?_; refine Xo Za ?_; intro b1; refine Xo Za ?_; intro b3; refine aN Za ?_; refine sR Y4 rfl ?_; refine Zx Za Uv ?_; refine Zt Za Wc Zl rfl ?_; refine Zo Zm ?_; refine aN Za ?_; refine T.ret ?_; obtain rfl := ret1 H; exact Zy Za (Res.tmp rfl) Zg ⟨rfl, rfl⟩
theorem Z8g {a0 : Arc} {c2 : Net} {a8 a5 a2 a3 : Nat} {a4 : Option Addr} (w : World) (a6 : HB w [] a8 [.func (.func 42) #[] #[]]) (a9 : RS w [] Yd 3 a4 a2 a3 c2.Arcs) (a7 : HB w [] a5 [iV c2.N, iV c2.S, iV c2.T, .slice a4 a2 a3]) {r0 : Bool} (H : Z38 a0 c2 = some r0) : Fnc Tryd.prog 57 #[.agg #[iV a0.fr, iV a0.to, iV a0.cap], pV a8, pV a5] w [] (fun v N => v = .bool r0 ∧ N = []) := by
 unfold Z38 at H; refine Fnc.enter (vs := [.agg #[iV a0.fr, iV a0.to, iV a0.cap], pV a8, pV a5]) Tryd.func57 rfl rfl (Inv.refl w) ?_; refine sR Y2 rfl ?_; refine Xo Za ?_; intro b1; refine aN Za ?_; refine Zi ?_; obtain ⟨r3, e4, H⟩ := Zq H; refine rG Y6 rfl ?_; refine Uz a6 Zb Z6p ?_; refine Z7t a7 Zb Yk ?_; refine Ym Za Uj Zl rfl ?_; refine Ki Zcg Zb (fun wc hwc => Zaq (n0 := c2) (a1 := a0) wc (a9.mono hwc) e4) ?_; rintro _ _ ⟨rfl, rfl⟩; refine TO.not Za ?_; refine aN Za ?_; refine Zn (aT [4] rfl) ?_; refine T.ret ?_; obtain rfl := ret1 H; exact Zy Za (Res.tmp rfl) Zg ⟨rfl, rfl⟩
theorem Zag {s0 : List Arc} {f1_1 : Net} {b6 a4 : Option Addr} {b7 b5 a2 a3 a5 a6 : Nat} (w : World) (b8 : RS w [] Yd 3 b6 b7 b5 s0) (a8 : HB w [] a2 [.func (.func 42) #[] #[]]) (a9 : RS w [] Yd 3 a4 a5 a6 f1_1.Arcs) (a7 : HB w [] a3 [iV f1_1.N, iV f1_1.S, iV f1_1.T, .slice a4 a5 a6]) {r0 : Int} (H : Z2g s0 f1_1 = some r0) : Fnc Tryd.prog 69 #[.slice b6 b7 b5, .func (.func 57) #[] #[pV a2, pV a3]] w [] (fun v N => v = iV r0 ∧ N = []) := by
 unfold Z2g at H; refine Fnc.enter (vs := [.slice b6 b7 b5, .func (.func 57) #[] #[pV a2, pV a3]]) Tryd.func69 rfl rfl (Inv.refl w) ?_; refine sR Y1 rfl ?_; refine aN Za ?_; refine Zi ?_; refine sR Y3 rfl ?_; refine Zc Za ?_; refine Yq (xs := s0) b8.len Zb Xr ?_; refine Zc Za ?_; refine dN ?_; refine Wh (fun (u8 : Unit) => Z4f = some r0) (fun (u8 : Unit) => []) (fun (u8 : Unit) => []) ?_ ?_
 ·
  refine T.block ?_; obtain ⟨d1, d2, d0⟩ := Zq H; refine Rl (fun (b9 : Nat) (x1 : Int) => Xf (fun s => Z0d s0 f1_1 s) b9 x1 = some d1) (fun (b9 : Nat) (x1 : Int) => [(0, .slice b6 b7 b5), (1, .func (.func 57) #[] #[pV a2, pV a3]), (7, iV (s0.length : Int)), (8, iV x1)]) (fun (b9 : Nat) (x1 : Int) => []) (fun (b9 : Nat) (x1 : Int) => b9) Yy 0 d2 (aF rfl) Zg ?_; rintro b9 x1 H; obtain ⟨d3, d4, rfl, H, c0⟩ := Ul H; have H : Z0d s0 f1_1 x1 = some d4 := H; unfold Z0d at H; refine sR Y1 rfl ?_; refine Zo Zm ?_; refine dS ?_; rcases Zp H with ⟨g2, H⟩ | ⟨g2, H⟩
  ·
   refine Yz rfl g2 ?_; refine T.skip ?_; refine Ya ?_; refine Zi ?_; refine T.block ?_; refine sR Y2 rfl ?_; refine Zc Za ?_; refine aN Za ?_; refine Zi ?_; obtain ⟨g3, H⟩ := Ye H; obtain ⟨r4, e5, H⟩ := Zq H; refine rG Y6 rfl ?_; refine Zc Za ?_; refine Zc Za ?_; refine Zc Za ?_; refine Wl b8 g3 Zb Xr Ws ?_; refine Jh (cs := [iV ((s0.getD x1.toNat default).fr), iV ((s0.getD x1.toNat default).to), iV ((s0.getD x1.toNat default).cap)]) default b8 g3 Zb Uj ?_; refine Ki Z73 Zb (fun wc hwc => Z8g (a0 := (s0.getD x1.toNat default)) (c2 := f1_1) wc (a8.mono hwc) (a9.mono hwc) (a7.mono hwc) e5) ?_; rintro _ _ ⟨rfl, rfl⟩; refine dN ?_; rcases Zp H with ⟨g6, H⟩ | ⟨g6, H⟩
   · refine Ys rfl g6 ?_; refine sR Y2 rfl ?_; refine Zc Za ?_; refine aN Za ?_; refine Zn (aT [4] rfl) ?_; refine T.ret ?_; refine Yx ?_; refine Zu ?_; have H := Wm H c0 ▸ d0; refine Zu ?_; refine Yx ?_; refine Zu ?_; obtain rfl := ret1 H; exact Zy Za (Res.tmp rfl) Zg ⟨rfl, rfl⟩
   · refine Xl rfl (Bool.eq_false_iff.2 g6) ?_; refine T.skip ?_; refine Xs ?_; refine Ya ?_; refine Zn (aT [0, 1, 7, 8] rfl) ?_; obtain ⟨g7, H⟩ := Ye H; refine rG Y2 rfl ?_; refine Wa g7 Zb ?_; refine Zc Za ?_; refine Zj ?_; have H := Vv H c0; exact Z0a d3 (x1 + 1) H (Nat.lt_succ_self _) (aF rfl) Zg
  · refine Yv rfl g2 ?_; refine T.exit ?_; refine Xn ?_; have H := Wm H c0 ▸ d0; refine Xn ?_; refine Vl ?_; exact Xg () H Kt Zg
 · rintro u8 H; unfold Z4f at H; refine sR Y1 rfl ?_; refine aN Za ?_; refine T.ret ?_; obtain rfl := ret1 H; exact Zy Za (Res.tmp rfl) Zg ⟨rfl, rfl⟩
theorem Zcc {s0 : List Arc} {f1_1 : Net} {b6 a2 : Option Addr} {b7 b5 a5 a6 a3 a4 : Nat} (w : World) (b8 : RS w [] Yd 3 b6 b7 b5 s0) (a8 : HB w [] a5 [.func (.func 42) #[] #[]]) (a9 : RS w [] Yd 3 a2 a3 a4 f1_1.Arcs) (a7 : HB w [] a6 [iV f1_1.N, iV f1_1.S, iV f1_1.T, .slice a2 a3 a4]) {r0 : Bool} (H : Z2m s0 f1_1 = some r0) : Fnc Tryd.prog 56 #[.slice b6 b7 b5, .func (.func 57) #[] #[pV a5, pV a6]] w [] (fun v N => v = .bool r0 ∧ N = []) := by
 unfold Z2m at H; refine Fnc.enter (vs := [.slice b6 b7 b5, .func (.func 57) #[] #[pV a5, pV a6]]) Tryd.func56 rfl rfl (Inv.refl w) ?_; refine sR Y1 rfl ?_; refine aN Za ?_; refine Zi ?_; obtain ⟨r1, e2, H⟩ := Zq H; refine rG Y5 rfl ?_; refine Zc Za ?_; refine Zc Za ?_; refine Zw Z7y Za (fun wc hwc => Zag (s0 := s0) (f1_1 := f1_1) wc (b8.mono hwc) (a8.mono hwc) (a9.mono hwc) (a7.mono hwc) e2) ?_; rintro _ _ ⟨rfl, rfl⟩; refine Zo Zm ?_; refine aN Za ?_; refine T.ret ?_; obtain rfl := ret1 H; exact Zy Za (Res.tmp rfl) Zg ⟨rfl, rfl⟩
theorem Zbc {n0 : Net} {a2 : Option Addr} {a4 a3 a6 : Nat} (w : World) (a5 : RS w [] Yd 3 a2 a4 a3 n0.Arcs) (a7 : HB w [] a6 [.func (.func 42) #[] #[]]) {r0 : Bool} (H : Z0h n0 = some r0) : Fnc Tryd.prog 55 #[.agg #[iV n0.N, iV n0.S, iV n0.T, .slice a2 a4 a3], pV a6] w [] (fun v N => v = .bool r0 ∧ N = []) := by
 unfold Z0h at H; refine Fnc.enter (vs := [.agg #[iV n0.N, iV n0.S, iV n0.T, .slice a2 a4 a3], pV a6]) Tryd.func55 rfl rfl (Inv.refl w) ?_; refine sR Y2 rfl ?_; refine Xo Za ?_; intro b1; refine aN Za ?_; refine Zi ?_; obtain ⟨r3, e4, H⟩ := Zq H; refine rG Y6 rfl ?_; refine Zx Za Vd ?_; refine Zt Za Vm Zl rfl ?_; refine TO.makeFunc Zb ?_; refine Zw Z6h Za (fun wc hwc => Zcc (s0 := n0.Arcs) (f1_1 := n0) wc (a5.mono hwc) (a7.mono hwc) (a5.mono hwc) (hwc.hb (cs := [iV n0.N, iV n0.S, iV n0.T, .slice a2 a4 a3]) Zl) e4) ?_; rintro _ _ ⟨rfl, rfl⟩; refine TO.not Za ?_; refine aN Za ?_; refine Zn (aT [3] rfl) ?_; refine T.ret ?_; obtain rfl := ret1 H; exact Zy Za (Res.tmp rfl) Zg ⟨rfl, rfl⟩
theorem Zaf {n0 : Net} {a4 : Option Addr} {a5 a6 : Nat} (w : World) (a7 : RS w [] Yd 3 a4 a5 a6 n0.Arcs) {r0 : Int} {r1 : Bool} (H : Z0r n0 = some (r0, r1)) : Fnc Tryd.prog 44 #[.agg #[iV n0.N, iV n0.S, iV n0.T, .slice a4 a5 a6]] w [] (fun v N => v = .tuple #[iV r0, .bool r1] ∧ N = []) := by
 unfold Z0r at H; refine Fnc.enter (vs := [.agg #[iV n0.N, iV n0.S, iV n0.T, .slice a4 a5 a6]]) Tryd.func44 rfl rfl (Inv.refl w) ?_; refine sR Y3 rfl ?_; refine Xo Za ?_; intro b1; refine Zz Za ?_; refine aN Za ?_; refine sR Y1 rfl ?_; refine aN Za ?_; refine Zi ?_; refine sR Y4 rfl ?_; refine Zx Za Vd ?_; refine Zt Za Vm Zl rfl ?_; refine Yq (xs := n0.Arcs) a7.len Zb Xr ?_; refine Zc Za ?_; refine dN ?_; refine Wh (fun (a3 : Int) => Z2b a3 = some (r0, r1)) (fun (a3 : Int) => [(4, iV a3)]) (fun (a3 : Int) => []) ?_ ?_
 ·
  refine T.block ?_; obtain ⟨c0, d0, b8⟩ := Zq H; refine Z4e (fun (a8 : Nat) (a2 x4 : Int) => Xf (fun s => Ru n0 s.1 s.2) a8 (a2, x4) = some c0) (fun (a8 : Nat) (a2 x4 : Int) => [(4, iV a2), (8, .slice a4 a5 a6), (9, iV (n0.Arcs.length : Int)), (10, iV x4)]) (fun (a8 : Nat) (a2 x4 : Int) => []) (fun (a8 : Nat) (a2 x4 : Int) => a8) Yy 4611686018427387904 0 d0 (aF rfl) Zg ?_; rintro a8 a2 x4 H; obtain ⟨d1, b9, rfl, H, b5⟩ := Ul H; have H : Ru n0 a2 x4 = some b9 := H; unfold Ru at H; refine sR Y1 rfl ?_; refine Zo Zm ?_; refine dS ?_; rcases Zp H with ⟨g5, H⟩ | ⟨g5, H⟩
  ·
   refine Yz rfl g5 ?_; refine T.skip ?_; refine Ya ?_; refine Zi ?_; refine T.block ?_; obtain ⟨g6, H⟩ := Ye H; refine sR Y4 rfl ?_; refine Wl a7 g6 Zb Xr Ws ?_; refine Jh (cs := [iV ((n0.Arcs.getD x4.toNat default).fr), iV ((n0.Arcs.getD x4.toNat default).to), iV ((n0.Arcs.getD x4.toNat default).cap)]) default a7 g6 Zb Uj ?_; refine Ww Zv Kr ?_; intro b7; refine Vg Za Zh Ws Zv ?_; refine dS ?_; refine Zi ?_; refine Wh (fun (a9 : Bool) => Rw n0 a2 x4 a9 = some b9) (fun (a9 : Bool) => [(4, iV a2), (6, pV b7), (8, .slice a4 a5 a6), (9, iV (n0.Arcs.length : Int)), (10, iV x4), (22, .bool a9)]) (fun (a9 : Bool) => [(eC b7 #[iV ((n0.Arcs.getD x4.toNat default).fr), iV ((n0.Arcs.getD x4.toNat default).to), iV ((n0.Arcs.getD x4.toNat default).cap)] 45)]) ?_ ?_
   ·
    rcases Zp H with ⟨g9, H⟩ | ⟨g9, H⟩
    · refine rG Y9 rfl ?_; refine Zx Za Uv ?_; refine Zt Za Wc Zl rfl ?_; refine Zo Zm ?_; refine Zc Za ?_; refine Zr (t := 17) (b' := true) rfl (decide_eq_true g9) ?_; refine Ze Za ?_; refine Ze Za ?_; refine Ze Za ?_; refine Ze Za ?_; refine Yf Zb ?_; refine Zj ?_; exact Xg true H (aF rfl) (Zf Zh Zg)
    · refine rG Y9 rfl ?_; refine Zx Za Uv ?_; refine Zt Za Wc Zl rfl ?_; refine Zo Zm ?_; refine Zc Za ?_; refine Zr (t := 17) (b' := false) rfl (decide_eq_false g9) ?_; refine Zx Za Uv ?_; refine Zt Za Wc Zl rfl ?_; refine Zc Za ?_; refine Zo Zm ?_; refine Yc Zb ?_; refine Zj ?_; exact Xg (decide (a2 < ((n0.Arcs.getD x4.toNat default).cap))) H (aF rfl) (Zf Zh Zg)
   ·
    rintro a9 H; unfold Rw at H; rcases Zp H with ⟨b6, H⟩ | ⟨b6, H⟩
    · refine Ys rfl b6 ?_; refine sR Y2 rfl ?_; refine Zz Za ?_; refine aN Za ?_; refine T.ret ?_; refine Zu ?_; refine Yx ?_; refine Zu ?_; have H := Wm H b5 ▸ b8; refine Zu ?_; refine Yx ?_; refine Zu ?_; obtain ⟨rfl, rfl⟩ := ret2 H; exact Xx Za (Res.tmp rfl) (Res.tmp rfl) Zg ⟨rfl, rfl⟩
    · refine Xl rfl (Bool.eq_false_iff.2 b6) ?_; refine T.skip ?_; refine Ya ?_; obtain ⟨d2, H⟩ := Ye H; refine rG Y5 rfl ?_; refine Zc Za ?_; refine Zx Za Uv ?_; refine Zt Za Wc Zl rfl ?_; refine Z0g d2 Zb ?_; refine Zz Za ?_; refine Zj ?_; refine Xs ?_; refine Ya ?_; obtain ⟨d3, H⟩ := Ye H; refine rG Y2 rfl ?_; refine Wa d3 Zb ?_; refine Zc Za ?_; refine Zj ?_; have H := Vv H b5; exact Rx d1 (a2 - ((n0.Arcs.getD x4.toNat default).cap)) (x4 + 1) H (Nat.lt_succ_self _) (aF rfl) Zg
  · refine Yv rfl g5 ?_; refine T.exit ?_; refine Xn ?_; have H := Wm H b5 ▸ b8; refine Xn ?_; refine Vl ?_; exact Xg a2 H (aF rfl) Zg
 · rintro a3 H; unfold Z2b at H; obtain ⟨d4, H⟩ := Ye H; refine sR Y4 rfl ?_; refine Zc Za ?_; refine Z0g d4 Zb ?_; refine Zz Za ?_; refine aN Za ?_; refine T.ret ?_; obtain ⟨rfl, rfl⟩ := ret2 H; exact Xx Za (Res.tmp rfl) (Res.tmp rfl) Zg ⟨rfl, rfl⟩
theorem Z8e {n0 : Net} {a2 : Option Addr} {a3 a4 : Nat} (w : World) (a5 : RS w [] Yd 3 a2 a3 a4 n0.Arcs) {r0 : Bool} (H : Z1a n0 = some r0) : Fnc Tryd.prog 43 #[.agg #[iV n0.N, iV n0.S, iV n0.T, .slice a2 a3 a4]] w [] (fun v N => v = .bool r0 ∧ N = []) := by
 unfold Z1a at H; refine Fnc.enter (vs := [.agg #[iV n0.N, iV n0.S, iV n0.T, .slice a2 a3 a4]]) Tryd.func43 rfl rfl (Inv.refl w) ?_; refine sR Y2 rfl ?_; refine Xo Za ?_; intro b1; refine aN Za ?_; refine Zi ?_; obtain ⟨⟨r3, r4⟩, e5, H⟩ := Zq H; refine rG Y7 rfl ?_; refine Ym Za Yk Zl rfl ?_; refine Zw Za0 Za (fun wc hwc => Zaf (n0 := n0) wc (a5.mono hwc) e5) ?_; rintro _ _ ⟨rfl, rfl⟩; refine Zc Za ?_; refine TO.extract Zb ?_; refine TO.extract Zb ?_; refine Zz Za ?_; refine aN Za ?_; refine Zn (aT [4] rfl) ?_; refine sR Y2 rfl ?_; refine Zc Za ?_; refine aN Za ?_; refine T.ret ?_; obtain rfl := ret1 H; exact Zy Za (Res.tmp rfl) Zg ⟨rfl, rfl⟩
theorem Ns {n0 : Net} {a3 : Option Addr} {a4 a5 : Nat} (w : World) (a2 : RS w [] Yd 3 a3 a4 a5 n0.Arcs) {r0 : Int} (H : Ji n0 = some r0) : Fnc Tryd.prog 15 #[.agg #[iV n0.N, iV n0.S, iV n0.T, .slice a3 a4 a5]] w [] (fun v N => v = iV r0 ∧ N = []) := by
 unfold Ji at H; refine Fnc.enter (vs := [.agg #[iV n0.N, iV n0.S, iV n0.T, .slice a3 a4 a5]]) Tryd.func15 rfl rfl (Inv.refl w) ?_; refine sR Y2 rfl ?_; refine Xo Za ?_; intro b1; refine aN Za ?_; refine Zi ?_; refine Zi ?_; obtain ⟨⟨⟩, e3, H⟩ := Zq H; refine rG Y2 rfl ?_; refine Zw Z9n Za (fun wc hwc => Z8k  wc  e3) ?_; rintro _ _ ⟨b4, b5, rfl, rfl⟩; refine Zc Za ?_; refine dN ?_; refine Wh (fun (a6 : Unit) => Z2j = some r0) (fun (a6 : Unit) => []) (fun (a6 : Unit) => []) ?_ ?_
 ·
  refine T.block ?_; refine T.loopU ?_; refine Nc ?_; refine sR Y1 rfl ?_; refine Gz (b := true) Zm (by first | decide | rfl) ?_; refine dS ?_; refine Ys rfl rfl ?_; refine T.skip ?_; refine Ya ?_; refine Zi ?_; refine T.block ?_; refine sR Y3 rfl ?_; refine Lv (vs := [.func (.func 36) #[] #[], iV 10]) Zb Rb Ng (by decide) rfl ?_; refine Ww Zv Ly ?_; intro b8; refine Vg Za Zh Ll Zv ?_; refine dS ?_; obtain ⟨d5, c0, H⟩ := Zq H; refine rG Y5 rfl ?_; refine Zx Za Nl ?_; refine Zt Za Lc Zl rfl ?_; refine Ym Za Yk Ui rfl ?_; refine Ki Zb6 Zb (fun wc hwc => Z8q (n0 := n0) wc (a2.mono hwc) c0) ?_; rintro _ _ ⟨rfl, rfl⟩; refine TO.not Za ?_; refine dN ?_; refine Zn (aT [1, 5, 6, 4, 13] rfl) ?_; rcases Zp H with ⟨a7, H⟩ | ⟨a7, H⟩
  · refine Ys rfl a7 ?_; refine sR Y3 rfl ?_; refine Zx Za Li ?_; refine Zt Za Ks Zl rfl ?_; refine aN Za ?_; refine T.ret ?_; refine Yx ?_; refine Zu ?_; refine Zu ?_; refine Yx ?_; refine Zu ?_; obtain rfl := ret1 H; exact Zy Za (Res.tmp rfl) Zg ⟨rfl, rfl⟩
  ·
   refine Xl rfl (Bool.eq_false_iff.2 a7) ?_; refine T.skip ?_; refine Xs ?_; refine Ya ?_; refine rG Y2 rfl ?_; refine Ls (r := 1) (by decide) Zb ?_; refine Zc Za ?_; refine Zj ?_; refine Nv ?_; refine Nc ?_; refine sR Y1 rfl ?_; refine Gz (b := true) Zm (by first | decide | rfl) ?_; refine dS ?_; refine Ys rfl rfl ?_; refine T.skip ?_; refine Ya ?_; refine Zi ?_; refine T.block ?_; refine sR Y3 rfl ?_; refine Lv (vs := [.func (.func 37) #[] #[], iV 11]) Zb Rb Ng (by decide) rfl ?_; refine Ww Zv Ly ?_; intro d6; refine Vg Za Zh Ll Zv ?_; refine dS ?_; obtain ⟨d7, d0, H⟩ := Zq H; refine rG Y5 rfl ?_; refine Zx Za Nl ?_; refine Zt Za Lc Zl rfl ?_; refine Ym Za Yk Wt rfl ?_; refine Ki Zae Zb (fun wc hwc => Za2 (n0 := n0) wc (a2.mono hwc) d0) ?_; rintro _ _ ⟨rfl, rfl⟩; refine TO.not Za ?_; refine dN ?_; rcases Zp H with ⟨a8, H⟩ | ⟨a8, H⟩
   · refine Ys rfl a8 ?_; refine sR Y3 rfl ?_; refine Zx Za Li ?_; refine Zt Za Ks Zl rfl ?_; refine aN Za ?_; refine Zn (aT [2] rfl) ?_; refine T.ret ?_; refine Yx ?_; refine Zu ?_; refine Zu ?_; refine Yx ?_; refine Zu ?_; obtain rfl := ret1 H; exact Zy Za (Res.tmp rfl) Zg ⟨rfl, rfl⟩
   ·
    refine Xl rfl (Bool.eq_false_iff.2 a8) ?_; refine T.skip ?_; refine Xs ?_; refine Ya ?_; refine Zn (aT [1, 5, 6] rfl) ?_; refine rG Y2 rfl ?_; refine Ls (r := 2) (by decide) Zb ?_; refine Zc Za ?_; refine Zj ?_; refine Nv ?_; refine Nc ?_; refine sR Y1 rfl ?_; refine Gz (b := true) Zm (by first | decide | rfl) ?_; refine dS ?_; refine Ys rfl rfl ?_; refine T.skip ?_; refine Ya ?_; refine Zi ?_; refine T.block ?_; refine sR Y3 rfl ?_; refine Lv (vs := [.func (.func 38) #[] #[], iV 12]) Zb Rb Ng (by decide) rfl ?_; refine Ww Zv Ly ?_; intro d8; refine Vg Za Zh Ll Zv ?_; refine dS ?_; obtain ⟨d9, d1, H⟩ := Zq H; refine rG Y5 rfl ?_; refine Zx Za Nl ?_; refine Zt Za Lc Zl rfl ?_; refine Ym Za Yk mm5 rfl ?_; refine Ki Zce Zb (fun wc hwc => Za9 (n0 := n0) wc (a2.mono hwc) d1) ?_; rintro _ _ ⟨rfl, rfl⟩; refine TO.not Za ?_; refine dN ?_; rcases Zp H with ⟨a9, H⟩ | ⟨a9, H⟩
    · refine Ys rfl a9 ?_; refine sR Y3 rfl ?_; refine Zx Za Li ?_; refine Zt Za Ks Zl rfl ?_; refine aN Za ?_; refine Zn (aT [2] rfl) ?_; refine T.ret ?_; refine Yx ?_; refine Zu ?_; refine Zu ?_; refine Yx ?_; refine Zu ?_; obtain rfl := ret1 H; exact Zy Za (Res.tmp rfl) Zg ⟨rfl, rfl⟩
    ·
     refine Xl rfl (Bool.eq_false_iff.2 a9) ?_; refine T.skip ?_; refine Xs ?_; refine Ya ?_; refine Zn (aT [1, 5, 6] rfl) ?_; refine rG Y2 rfl ?_; refine Ls (r := 3) (by decide) Zb ?_; refine Zc Za ?_; refine Zj ?_; refine Nv ?_; refine Nc ?_; refine sR Y1 rfl ?_; refine Gz (b := true) Zm (by first | decide | rfl) ?_; refine dS ?_; refine Ys rfl rfl ?_; refine T.skip ?_; refine Ya ?_; refine Zi ?_; refine T.block ?_; refine sR Y3 rfl ?_; refine Lv (vs := [.func (.func 55) #[] #[pV b4], iV 13]) Zb Rb Ng (by decide) rfl ?_; refine Ww Zv Ly ?_; intro e0; refine Vg Za Zh Ll Zv ?_; refine dS ?_; obtain ⟨e1, d2, H⟩ := Zq H; refine rG Y5 rfl ?_; refine Zx Za Nl ?_; refine Zt Za Lc Zl rfl ?_; refine Ym Za Yk mm6 rfl ?_; refine Ki Z5k Zb (fun wc hwc => Z92 (n0 := n0) wc (a2.mono hwc) (hwc.hb (cs := [.func (.func 41) #[] #[]]) Wt) d2) ?_; rintro _ _ ⟨rfl, rfl⟩; refine TO.not Za ?_; refine dN ?_; rcases Zp H with ⟨b6, H⟩ | ⟨b6, H⟩
     · refine Ys rfl b6 ?_; refine sR Y3 rfl ?_; refine Zx Za Li ?_; refine Zt Za Ks Zl rfl ?_; refine aN Za ?_; refine Zn (aT [2] rfl) ?_; refine T.ret ?_; refine Yx ?_; refine Zu ?_; refine Zu ?_; refine Yx ?_; refine Zu ?_; obtain rfl := ret1 H; exact Zy Za (Res.tmp rfl) Zg ⟨rfl, rfl⟩
     ·
      refine Xl rfl (Bool.eq_false_iff.2 b6) ?_; refine T.skip ?_; refine Xs ?_; refine Ya ?_; refine Zn (aT [1, 5, 6] rfl) ?_; refine rG Y2 rfl ?_; refine Ls (r := 4) (by decide) Zb ?_; refine Zc Za ?_; refine Zj ?_; refine Nv ?_; refine Nc ?_; refine sR Y1 rfl ?_; refine Gz (b := true) Zm (by first | decide | rfl) ?_; refine dS ?_; refine Ys rfl rfl ?_; refine T.skip ?_; refine Ya ?_; refine Zi ?_; refine T.block ?_; refine sR Y3 rfl ?_; refine Lv (vs := [.func (.func 55) #[] #[pV b5], iV 14]) Zb Rb Ng (by decide) rfl ?_; refine Ww Zv Ly ?_; intro e2; refine Vg Za Zh Ll Zv ?_; refine dS ?_; obtain ⟨e4, d3, H⟩ := Zq H; refine rG Y5 rfl ?_; refine Zx Za Nl ?_; refine Zt Za Lc Zl rfl ?_; refine Ym Za Yk mm7 rfl ?_; refine Ki Z5k Zb (fun wc hwc => Zbc (n0 := n0) wc (a2.mono hwc) (hwc.hb (cs := [.func (.func 42) #[] #[]]) mm6) d3) ?_; rintro _ _ ⟨rfl, rfl⟩; refine TO.not Za ?_; refine dN ?_; rcases Zp H with ⟨b7, H⟩ | ⟨b7, H⟩
      · refine Ys rfl b7 ?_; refine sR Y3 rfl ?_; refine Zx Za Li ?_; refine Zt Za Ks Zl rfl ?_; refine aN Za ?_; refine Zn (aT [2] rfl) ?_; refine T.ret ?_; refine Yx ?_; refine Zu ?_; refine Zu ?_; refine Yx ?_; refine Zu ?_; obtain rfl := ret1 H; exact Zy Za (Res.tmp rfl) Zg ⟨rfl, rfl⟩
      ·
       refine Xl rfl (Bool.eq_false_iff.2 b7) ?_; refine T.skip ?_; refine Xs ?_; refine Ya ?_; refine Zn (aT [1, 5, 6] rfl) ?_; refine rG Y2 rfl ?_; refine Ls (r := 5) (by decide) Zb ?_; refine Zc Za ?_; refine Zj ?_; refine Nv ?_; refine Nc ?_; refine sR Y1 rfl ?_; refine Gz (b := true) Zm (by first | decide | rfl) ?_; refine dS ?_; refine Ys rfl rfl ?_; refine T.skip ?_; refine Ya ?_; refine Zi ?_; refine T.block ?_; refine sR Y3 rfl ?_; refine Lv (vs := [.func (.func 43) #[] #[], iV 15]) Zb Rb Ng (by decide) rfl ?_; refine Ww Zv Ly ?_; intro e5; refine Vg Za Zh Ll Zv ?_; refine dS ?_; obtain ⟨e6, d4, H⟩ := Zq H; refine rG Y5 rfl ?_; refine Zx Za Nl ?_; refine Zt Za Lc Zl rfl ?_; refine Ym Za Yk mm8 rfl ?_; refine Ki Zak Zb (fun wc hwc => Z8e (n0 := n0) wc (a2.mono hwc) d4) ?_; rintro _ _ ⟨rfl, rfl⟩; refine TO.not Za ?_; refine dN ?_; rcases Zp H with ⟨b9, H⟩ | ⟨b9, H⟩
       · refine Ys rfl b9 ?_; refine sR Y3 rfl ?_; refine Zx Za Li ?_; refine Zt Za Ks Zl rfl ?_; refine aN Za ?_; refine Zn (aT [2] rfl) ?_; refine T.ret ?_; refine Yx ?_; refine Zu ?_; refine Zu ?_; refine Yx ?_; refine Zu ?_; obtain rfl := ret1 H; exact Zy Za (Res.tmp rfl) Zg ⟨rfl, rfl⟩
       · refine Xl rfl (Bool.eq_false_iff.2 b9) ?_; refine T.skip ?_; refine Xs ?_; refine Ya ?_; refine Zn (aT [1, 5, 6] rfl) ?_; refine rG Y2 rfl ?_; refine Ls (r := 6) (by decide) Zb ?_; refine Zc Za ?_; refine Zj ?_; refine Nv ?_; refine Nc ?_; refine sR Y1 rfl ?_; refine Gz (b := false) Zm (by first | decide | rfl) ?_; refine dS ?_; refine Xl rfl rfl ?_; refine T.exit ?_; refine Xn ?_; refine Xn ?_; refine Vl ?_; exact Xg () H Kt Zg
 · rintro a6 H; unfold Z2j at H; refine sR Y1 rfl ?_; refine aN Za ?_; refine T.ret ?_; obtain rfl := ret1 H; exact Zy Za (Res.tmp rfl) Zg ⟨rfl, rfl⟩
theorem Z31 {a0 b1 : List Int} {a4 a3 : Option Addr} {a7 a6 a8 a5 : Nat} (w : World) (a2 : RS w [] iC 1 a4 a7 a6 a0) (a9 : RS w [] iC 1 a3 a8 a5 b1) {r0 : Bool} (H : Gh a0 b1 = some r0) : Fnc Tryd.prog 11 #[.slice a4 a7 a6, .slice a3 a8 a5] w [] (fun v N => v = .bool r0 ∧ N = []) := by
 unfold Gh at H; refine Fnc.enter (vs := [.slice a4 a7 a6, .slice a3 a8 a5]) Tryd.func11 rfl rfl (Inv.refl w) ?_; refine sR Y1 rfl ?_; refine aN Za ?_; refine Zi ?_; refine sR Y5 rfl ?_; refine Zc Za ?_; refine Yq (xs := a0) a2.len Zb Xh ?_; refine Zc Za ?_; refine Yq (xs := b1) a9.len Zb Xh ?_; refine Zo Zm ?_; refine dN ?_; rcases Zp H with ⟨g1, H⟩ | ⟨g1, H⟩
 · refine Yz rfl g1 ?_; refine sR Y1 rfl ?_; refine aN Za ?_; refine T.ret ?_; refine Zu ?_; obtain rfl := ret1 H; exact Zy Za (Res.tmp rfl) Zg ⟨rfl, rfl⟩
 ·
  refine Yv rfl g1 ?_; refine T.skip ?_; refine Ya ?_; refine Zi ?_; refine sR Y3 rfl ?_; refine Zc Za ?_; refine Yq (xs := a0) a2.len Zb Xh ?_; refine Zc Za ?_; refine dN ?_; refine Wh (fun (u8 : Unit) => Z3x = some r0) (fun (u8 : Unit) => []) (fun (u8 : Unit) => []) ?_ ?_
  ·
   refine T.block ?_; obtain ⟨b8, b9, b7⟩ := Zq H; refine Rl (fun (b5 : Nat) (x2 : Int) => Xf (fun s => Z0p a0 b1 s) b5 x2 = some b8) (fun (b5 : Nat) (x2 : Int) => [(0, .slice a4 a7 a6), (1, .slice a3 a8 a5), (12, iV (a0.length : Int)), (13, iV x2)]) (fun (b5 : Nat) (x2 : Int) => []) (fun (b5 : Nat) (x2 : Int) => b5) Yy 0 b9 (aF rfl) Zg ?_; rintro b5 x2 H; obtain ⟨c0, d0, rfl, H, b6⟩ := Ul H; have H : Z0p a0 b1 x2 = some d0 := H; unfold Z0p at H; refine sR Y1 rfl ?_; refine Zo Zm ?_; refine dS ?_; rcases Zp H with ⟨g3, H⟩ | ⟨g3, H⟩
   ·
    refine Yz rfl g3 ?_; refine T.skip ?_; refine Ya ?_; refine Zi ?_; refine T.block ?_; refine sR Y2 rfl ?_; refine Zc Za ?_; refine aN Za ?_; refine Zi ?_; obtain ⟨g4, g5, H⟩ := Uf H; apply Z74 [(16, _), (17, _), (18, _), (19, _), (20, _), (21, _), (22, _), (23, _)]
    · exact Vu
    · kernel_rfl
    · kernel_rfl
    · exact rfl
    · exact rfl
    ·
     refine ⟨?_, ?_, ?_, ?_, ?_, ?_, ?_, ?_, trivial⟩
     · intro Es; refine Zc Za ?_; exact Zj (X.ob rfl (Zs _))
     · intro Es; refine Zc Za ?_; exact Zj (X.ob rfl (Zs _))
     · intro Es; refine Wl a2 g4 Zb Xh Xp ?_; exact Zj (X.ob rfl (Zs _))
     · intro Es; refine Z27 a2 g4 Za Wc ?_; exact Zj (X.ob rfl (Zs _))
     · intro Es; refine Zc Za ?_; exact Zj (X.ob rfl (Zs _))
     · intro Es; refine Zc Za ?_; exact Zj (X.ob rfl (Zs _))
     · intro Es; refine Wl a9 g5 Zb Xh Xp ?_; exact Zj (X.ob rfl (Zs _))
     · intro Es; refine Z27 a9 g5 Za Wc ?_; exact Zj (X.ob rfl (Zs _))
    refine Zo Zm ?_; refine dN ?_; refine Zn (aT [0, 1, 12, 13, 24] rfl) ?_; rcases Zp H with ⟨g6, H⟩ | ⟨g6, H⟩
    · refine Yz rfl g6 ?_; refine sR Y1 rfl ?_; refine aN Za ?_; refine T.ret ?_; refine Yx ?_; refine Zu ?_; have H := Wm H b6 ▸ b7; refine Zu ?_; refine Yx ?_; refine Zu ?_; obtain rfl := ret1 H; exact Zy Za (Res.tmp rfl) Zg ⟨rfl, rfl⟩
    · refine Yv rfl g6 ?_; refine T.skip ?_; refine Xs ?_; refine Ya ?_; obtain ⟨g7, H⟩ := Ye H; refine rG Y2 rfl ?_; refine Wa g7 Zb ?_; refine Zc Za ?_; refine Zj ?_; have H := Vv H b6; exact Z0a c0 (x2 + 1) H (Nat.lt_succ_self _) (aF rfl) Zg
   · refine Yv rfl g3 ?_; refine T.exit ?_; refine Xn ?_; have H := Wm H b6 ▸ b7; refine Xn ?_; refine Vl ?_; exact Xg () H Kt Zg
  · rintro u8 H; unfold Z3x at H; refine sR Y1 rfl ?_; refine aN Za ?_; refine T.ret ?_; obtain rfl := ret1 H; exact Zy Za (Res.tmp rfl) Zg ⟨rfl, rfl⟩
theorem Z1j {a0 b1 : List Bool} {a4 a3 : Option Addr} {a7 a6 a8 a5 : Nat} (w : World) (a2 : RS w [] boolC 1 a4 a7 a6 a0) (a9 : RS w [] boolC 1 a3 a8 a5 b1) {r0 : Bool} (H : Nb a0 b1 = some r0) : Fnc Tryd.prog 12 #[.slice a4 a7 a6, .slice a3 a8 a5] w [] (fun v N => v = .bool r0 ∧ N = []) := by
 unfold Nb at H; refine Fnc.enter (vs := [.slice a4 a7 a6, .slice a3 a8 a5]) Tryd.func12 rfl rfl (Inv.refl w) ?_; refine sR Y1 rfl ?_; refine aN Za ?_; refine Zi ?_; refine sR Y5 rfl ?_; refine Zc Za ?_; refine Yq (xs := a0) a2.len Zb Vt ?_; refine Zc Za ?_; refine Yq (xs := b1) a9.len Zb Vt ?_; refine Zo Zm ?_; refine dN ?_; rcases Zp H with ⟨g1, H⟩ | ⟨g1, H⟩
 · refine Yz rfl g1 ?_; refine sR Y1 rfl ?_; refine aN Za ?_; refine T.ret ?_; refine Zu ?_; obtain rfl := ret1 H; exact Zy Za (Res.tmp rfl) Zg ⟨rfl, rfl⟩
 ·
  refine Yv rfl g1 ?_; refine T.skip ?_; refine Ya ?_; refine Zi ?_; refine sR Y3 rfl ?_; refine Zc Za ?_; refine Yq (xs := a0) a2.len Zb Vt ?_; refine Zc Za ?_; refine dN ?_; refine Wh (fun (u8 : Unit) => Z52 = some r0) (fun (u8 : Unit) => []) (fun (u8 : Unit) => []) ?_ ?_
  ·
   refine T.block ?_; obtain ⟨b8, b9, b7⟩ := Zq H; refine Rl (fun (b5 : Nat) (x2 : Int) => Xf (fun s => Z0x a0 b1 s) b5 x2 = some b8) (fun (b5 : Nat) (x2 : Int) => [(0, .slice a4 a7 a6), (1, .slice a3 a8 a5), (12, iV (a0.length : Int)), (13, iV x2)]) (fun (b5 : Nat) (x2 : Int) => []) (fun (b5 : Nat) (x2 : Int) => b5) Yy 0 b9 (aF rfl) Zg ?_; rintro b5 x2 H; obtain ⟨c0, d0, rfl, H, b6⟩ := Ul H; have H : Z0x a0 b1 x2 = some d0 := H; unfold Z0x at H; refine sR Y1 rfl ?_; refine Zo Zm ?_; refine dS ?_; rcases Zp H with ⟨g3, H⟩ | ⟨g3, H⟩
   ·
    refine Yz rfl g3 ?_; refine T.skip ?_; refine Ya ?_; refine Zi ?_; refine T.block ?_; refine sR Y2 rfl ?_; refine Zc Za ?_; refine aN Za ?_; refine Zi ?_; obtain ⟨g4, g5, H⟩ := Uf H; apply Z74 [(16, _), (17, _), (18, _), (19, _), (20, _), (21, _), (22, _), (23, _)]
    · exact Vu
    · kernel_rfl
    · kernel_rfl
    · exact rfl
    · exact rfl
    ·
     refine ⟨?_, ?_, ?_, ?_, ?_, ?_, ?_, ?_, trivial⟩
     · intro Es; refine Zc Za ?_; exact Zj (X.ob rfl (Zs _))
     · intro Es; refine Zc Za ?_; exact Zj (X.ob rfl (Zs _))
     · intro Es; refine Wl a2 g4 Zb Vt Vx ?_; exact Zj (X.ob rfl (Zs _))
     · intro Es; refine Z51 a2 g4 Za Nk ?_; exact Zj (X.ob rfl (Zs _))
     · intro Es; refine Zc Za ?_; exact Zj (X.ob rfl (Zs _))
     · intro Es; refine Zc Za ?_; exact Zj (X.ob rfl (Zs _))
     · intro Es; refine Wl a9 g5 Zb Vt Vx ?_; exact Zj (X.ob rfl (Zs _))
     · intro Es; refine Z51 a9 g5 Za Nk ?_; exact Zj (X.ob rfl (Zs _))
    refine TO.neb Zb TWDS4.u4 ?_; refine dN ?_; refine Zn (aT [0, 1, 12, 13, 24] rfl) ?_; rcases Zp H with ⟨g6, H⟩ | ⟨g6, H⟩
    · refine Ys rfl g6 ?_; refine sR Y1 rfl ?_; refine aN Za ?_; refine T.ret ?_; refine Yx ?_; refine Zu ?_; have H := Wm H b6 ▸ b7; refine Zu ?_; refine Yx ?_; refine Zu ?_; obtain rfl := ret1 H; exact Zy Za (Res.tmp rfl) Zg ⟨rfl, rfl⟩
    · refine Xl rfl (Bool.eq_false_iff.2 g6) ?_; refine T.skip ?_; refine Xs ?_; refine Ya ?_; obtain ⟨g7, H⟩ := Ye H; refine rG Y2 rfl ?_; refine Wa g7 Zb ?_; refine Zc Za ?_; refine Zj ?_; have H := Vv H b6; exact Z0a c0 (x2 + 1) H (Nat.lt_succ_self _) (aF rfl) Zg
   · refine Yv rfl g3 ?_; refine T.exit ?_; refine Xn ?_; have H := Wm H b6 ▸ b7; refine Xn ?_; refine Vl ?_; exact Xg () H Kt Zg
  · rintro u8 H; unfold Z52 at H; refine sR Y1 rfl ?_; refine aN Za ?_; refine T.ret ?_; obtain rfl := ret1 H; exact Zy Za (Res.tmp rfl) Zg ⟨rfl, rfl⟩
end Go.Proofs.YtnppjbofdkokkaaDoor.Ax
