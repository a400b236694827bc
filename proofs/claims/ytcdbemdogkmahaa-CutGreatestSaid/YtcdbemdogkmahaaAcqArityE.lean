/- The layer of triples: loops and meeting ways with several ghosts, all live slots written out. (Written by arityE.py.) -/
import Derived.Test.YtcdbemdogkmahaaAcqRs3
namespace Go.Acq
open Go Go.RowKit
section
variable {C : Cx} {Q : Exit → Act → World → Prop} {E : Env} {H : Heap} {c x y : Code}
theorem T.meetSE1 {α0 : Type} (φ : α0 → Prop) (L : α0 → Env) (Hs : α0 → Heap) (hx : T C x (Exit.then (fun ac w => ∃ (b0 : α0), φ b0 ∧ Fits C.n C.D (L b0) ac ∧ Inv C.w0 C.M w (Hs b0)) Q) E H)
    (hy : ∀ (b0 : α0), φ b0 → T C y Q (L b0) (Hs b0)) : T C x (Exit.then (y.wpIn (FW C.ρ) 0 C.P Q) Q) E H := T.mono hx (fun e ac w h => by
  cases e with
  | normal => obtain ⟨b0, h1, h2, h3⟩ := h; exact hy b0 h1 ac w h2 h3
  | _ => exact h)
theorem X.metE1 {α0 : Type} {φ : α0 → Prop} {L : α0 → Env} {Hs : α0 → Heap} (b0 : α0) (hφ : φ b0) (hL : AllF (L b0) E) (hH : Pick (Hs b0) H) :
    X C (Exit.then (fun ac w => ∃ (b0 : α0), φ b0 ∧ Fits C.n C.D (L b0) ac ∧ Inv C.w0 C.M w (Hs b0)) Q) .normal E H := fun _ _ hf hi => ⟨b0, hφ, hf.all hL, hi.pick hH⟩
theorem T.loopE2 {α0 α1 : Type} (φ : α0 → α1 → Prop) (L : α0 → α1 → Env) (Hs : α0 → α1 → Heap) (μ : α0 → α1 → Nat) (a0 : α0) (a1 : α1) (h0 : φ a0 a1) (hE : AllF (L a0 a1) E) (hH : Pick (Hs a0 a1) H)
    (round : ∀ (a0 : α0) (a1 : α1), φ a0 a1 → T C c (Exit.then (fun ac w => ∃ (b0 : α0) (b1 : α1), φ b0 b1 ∧ μ b0 b1 < μ a0 a1 ∧ Fits C.n C.D (L b0 b1) ac ∧ Inv C.w0 C.M w (Hs b0 b1)) Q) (L a0 a1) (Hs a0 a1)) : T C (.loop c) Q E H :=
  T.loopE (α := α0 × α1) (fun s => φ s.1 s.2) (fun s => L s.1 s.2) (fun s => Hs s.1 s.2) (fun s => μ s.1 s.2) (a0, a1) h0 hE hH (fun s hs => T.mono (round s.1 s.2 hs) (fun e ac w h => by
    cases e with
    | normal => obtain ⟨b0, b1, h1, h2, h3, h4⟩ := h; exact ⟨⟨b0, b1⟩, h1, h2, h3, h4⟩
    | _ => exact h))
theorem X.againE2 {α0 α1 : Type} {φ : α0 → α1 → Prop} {L : α0 → α1 → Env} {Hs : α0 → α1 → Heap} {μ : α0 → α1 → Nat} {m : Nat} (b0 : α0) (b1 : α1) (hφ : φ b0 b1) (hμ : μ b0 b1 < m) (hL : AllF (L b0 b1) E) (hH : Pick (Hs b0 b1) H) :
    X C (Exit.then (fun ac w => ∃ (b0 : α0) (b1 : α1), φ b0 b1 ∧ μ b0 b1 < m ∧ Fits C.n C.D (L b0 b1) ac ∧ Inv C.w0 C.M w (Hs b0 b1)) Q) .normal E H := fun _ _ hf hi => ⟨b0, b1, hφ, hμ, hf.all hL, hi.pick hH⟩
theorem T.meetSE2 {α0 α1 : Type} (φ : α0 → α1 → Prop) (L : α0 → α1 → Env) (Hs : α0 → α1 → Heap) (hx : T C x (Exit.then (fun ac w => ∃ (b0 : α0) (b1 : α1), φ b0 b1 ∧ Fits C.n C.D (L b0 b1) ac ∧ Inv C.w0 C.M w (Hs b0 b1)) Q) E H)
    (hy : ∀ (b0 : α0) (b1 : α1), φ b0 b1 → T C y Q (L b0 b1) (Hs b0 b1)) : T C x (Exit.then (y.wpIn (FW C.ρ) 0 C.P Q) Q) E H := T.mono hx (fun e ac w h => by
  cases e with
  | normal => obtain ⟨b0, b1, h1, h2, h3⟩ := h; exact hy b0 b1 h1 ac w h2 h3
  | _ => exact h)
theorem X.metE2 {α0 α1 : Type} {φ : α0 → α1 → Prop} {L : α0 → α1 → Env} {Hs : α0 → α1 → Heap} (b0 : α0) (b1 : α1) (hφ : φ b0 b1) (hL : AllF (L b0 b1) E) (hH : Pick (Hs b0 b1) H) :
    X C (Exit.then (fun ac w => ∃ (b0 : α0) (b1 : α1), φ b0 b1 ∧ Fits C.n C.D (L b0 b1) ac ∧ Inv C.w0 C.M w (Hs b0 b1)) Q) .normal E H := fun _ _ hf hi => ⟨b0, b1, hφ, hf.all hL, hi.pick hH⟩
theorem T.loopE3 {α0 α1 α2 : Type} (φ : α0 → α1 → α2 → Prop) (L : α0 → α1 → α2 → Env) (Hs : α0 → α1 → α2 → Heap) (μ : α0 → α1 → α2 → Nat) (a0 : α0) (a1 : α1) (a2 : α2) (h0 : φ a0 a1 a2) (hE : AllF (L a0 a1 a2) E) (hH : Pick (Hs a0 a1 a2) H)
    (round : ∀ (a0 : α0) (a1 : α1) (a2 : α2), φ a0 a1 a2 → T C c (Exit.then (fun ac w => ∃ (b0 : α0) (b1 : α1) (b2 : α2), φ b0 b1 b2 ∧ μ b0 b1 b2 < μ a0 a1 a2 ∧ Fits C.n C.D (L b0 b1 b2) ac ∧ Inv C.w0 C.M w (Hs b0 b1 b2)) Q) (L a0 a1 a2) (Hs a0 a1 a2)) : T C (.loop c) Q E H :=
  T.loopE (α := α0 × α1 × α2) (fun s => φ s.1 s.2.1 s.2.2) (fun s => L s.1 s.2.1 s.2.2) (fun s => Hs s.1 s.2.1 s.2.2) (fun s => μ s.1 s.2.1 s.2.2) (a0, a1, a2) h0 hE hH (fun s hs => T.mono (round s.1 s.2.1 s.2.2 hs) (fun e ac w h => by
    cases e with
    | normal => obtain ⟨b0, b1, b2, h1, h2, h3, h4⟩ := h; exact ⟨⟨b0, b1, b2⟩, h1, h2, h3, h4⟩
    | _ => exact h))
theorem X.againE3 {α0 α1 α2 : Type} {φ : α0 → α1 → α2 → Prop} {L : α0 → α1 → α2 → Env} {Hs : α0 → α1 → α2 → Heap} {μ : α0 → α1 → α2 → Nat} {m : Nat} (b0 : α0) (b1 : α1) (b2 : α2) (hφ : φ b0 b1 b2) (hμ : μ b0 b1 b2 < m) (hL : AllF (L b0 b1 b2) E) (hH : Pick (Hs b0 b1 b2) H) :
    X C (Exit.then (fun ac w => ∃ (b0 : α0) (b1 : α1) (b2 : α2), φ b0 b1 b2 ∧ μ b0 b1 b2 < m ∧ Fits C.n C.D (L b0 b1 b2) ac ∧ Inv C.w0 C.M w (Hs b0 b1 b2)) Q) .normal E H := fun _ _ hf hi => ⟨b0, b1, b2, hφ, hμ, hf.all hL, hi.pick hH⟩
theorem T.meetSE3 {α0 α1 α2 : Type} (φ : α0 → α1 → α2 → Prop) (L : α0 → α1 → α2 → Env) (Hs : α0 → α1 → α2 → Heap) (hx : T C x (Exit.then (fun ac w => ∃ (b0 : α0) (b1 : α1) (b2 : α2), φ b0 b1 b2 ∧ Fits C.n C.D (L b0 b1 b2) ac ∧ Inv C.w0 C.M w (Hs b0 b1 b2)) Q) E H)
    (hy : ∀ (b0 : α0) (b1 : α1) (b2 : α2), φ b0 b1 b2 → T C y Q (L b0 b1 b2) (Hs b0 b1 b2)) : T C x (Exit.then (y.wpIn (FW C.ρ) 0 C.P Q) Q) E H := T.mono hx (fun e ac w h => by
  cases e with
  | normal => obtain ⟨b0, b1, b2, h1, h2, h3⟩ := h; exact hy b0 b1 b2 h1 ac w h2 h3
  | _ => exact h)
theorem X.metE3 {α0 α1 α2 : Type} {φ : α0 → α1 → α2 → Prop} {L : α0 → α1 → α2 → Env} {Hs : α0 → α1 → α2 → Heap} (b0 : α0) (b1 : α1) (b2 : α2) (hφ : φ b0 b1 b2) (hL : AllF (L b0 b1 b2) E) (hH : Pick (Hs b0 b1 b2) H) :
    X C (Exit.then (fun ac w => ∃ (b0 : α0) (b1 : α1) (b2 : α2), φ b0 b1 b2 ∧ Fits C.n C.D (L b0 b1 b2) ac ∧ Inv C.w0 C.M w (Hs b0 b1 b2)) Q) .normal E H := fun _ _ hf hi => ⟨b0, b1, b2, hφ, hf.all hL, hi.pick hH⟩
theorem T.loopE4 {α0 α1 α2 α3 : Type} (φ : α0 → α1 → α2 → α3 → Prop) (L : α0 → α1 → α2 → α3 → Env) (Hs : α0 → α1 → α2 → α3 → Heap) (μ : α0 → α1 → α2 → α3 → Nat) (a0 : α0) (a1 : α1) (a2 : α2) (a3 : α3) (h0 : φ a0 a1 a2 a3) (hE : AllF (L a0 a1 a2 a3) E) (hH : Pick (Hs a0 a1 a2 a3) H)
    (round : ∀ (a0 : α0) (a1 : α1) (a2 : α2) (a3 : α3), φ a0 a1 a2 a3 → T C c (Exit.then (fun ac w => ∃ (b0 : α0) (b1 : α1) (b2 : α2) (b3 : α3), φ b0 b1 b2 b3 ∧ μ b0 b1 b2 b3 < μ a0 a1 a2 a3 ∧ Fits C.n C.D (L b0 b1 b2 b3) ac ∧ Inv C.w0 C.M w (Hs b0 b1 b2 b3)) Q) (L a0 a1 a2 a3) (Hs a0 a1 a2 a3)) : T C (.loop c) Q E H :=
  T.loopE (α := α0 × α1 × α2 × α3) (fun s => φ s.1 s.2.1 s.2.2.1 s.2.2.2) (fun s => L s.1 s.2.1 s.2.2.1 s.2.2.2) (fun s => Hs s.1 s.2.1 s.2.2.1 s.2.2.2) (fun s => μ s.1 s.2.1 s.2.2.1 s.2.2.2) (a0, a1, a2, a3) h0 hE hH (fun s hs => T.mono (round s.1 s.2.1 s.2.2.1 s.2.2.2 hs) (fun e ac w h => by
    cases e with
    | normal => obtain ⟨b0, b1, b2, b3, h1, h2, h3, h4⟩ := h; exact ⟨⟨b0, b1, b2, b3⟩, h1, h2, h3, h4⟩
    | _ => exact h))
theorem X.againE4 {α0 α1 α2 α3 : Type} {φ : α0 → α1 → α2 → α3 → Prop} {L : α0 → α1 → α2 → α3 → Env} {Hs : α0 → α1 → α2 → α3 → Heap} {μ : α0 → α1 → α2 → α3 → Nat} {m : Nat} (b0 : α0) (b1 : α1) (b2 : α2) (b3 : α3) (hφ : φ b0 b1 b2 b3) (hμ : μ b0 b1 b2 b3 < m) (hL : AllF (L b0 b1 b2 b3) E) (hH : Pick (Hs b0 b1 b2 b3) H) :
    X C (Exit.then (fun ac w => ∃ (b0 : α0) (b1 : α1) (b2 : α2) (b3 : α3), φ b0 b1 b2 b3 ∧ μ b0 b1 b2 b3 < m ∧ Fits C.n C.D (L b0 b1 b2 b3) ac ∧ Inv C.w0 C.M w (Hs b0 b1 b2 b3)) Q) .normal E H := fun _ _ hf hi => ⟨b0, b1, b2, b3, hφ, hμ, hf.all hL, hi.pick hH⟩
theorem T.meetSE5 {α0 α1 α2 α3 α4 : Type} (φ : α0 → α1 → α2 → α3 → α4 → Prop) (L : α0 → α1 → α2 → α3 → α4 → Env) (Hs : α0 → α1 → α2 → α3 → α4 → Heap) (hx : T C x (Exit.then (fun ac w => ∃ (b0 : α0) (b1 : α1) (b2 : α2) (b3 : α3) (b4 : α4), φ b0 b1 b2 b3 b4 ∧ Fits C.n C.D (L b0 b1 b2 b3 b4) ac ∧ Inv C.w0 C.M w (Hs b0 b1 b2 b3 b4)) Q) E H)
    (hy : ∀ (b0 : α0) (b1 : α1) (b2 : α2) (b3 : α3) (b4 : α4), φ b0 b1 b2 b3 b4 → T C y Q (L b0 b1 b2 b3 b4) (Hs b0 b1 b2 b3 b4)) : T C x (Exit.then (y.wpIn (FW C.ρ) 0 C.P Q) Q) E H := T.mono hx (fun e ac w h => by
  cases e with
  | normal => obtain ⟨b0, b1, b2, b3, b4, h1, h2, h3⟩ := h; exact hy b0 b1 b2 b3 b4 h1 ac w h2 h3
  | _ => exact h)
theorem X.metE5 {α0 α1 α2 α3 α4 : Type} {φ : α0 → α1 → α2 → α3 → α4 → Prop} {L : α0 → α1 → α2 → α3 → α4 → Env} {Hs : α0 → α1 → α2 → α3 → α4 → Heap} (b0 : α0) (b1 : α1) (b2 : α2) (b3 : α3) (b4 : α4) (hφ : φ b0 b1 b2 b3 b4) (hL : AllF (L b0 b1 b2 b3 b4) E) (hH : Pick (Hs b0 b1 b2 b3 b4) H) :
    X C (Exit.then (fun ac w => ∃ (b0 : α0) (b1 : α1) (b2 : α2) (b3 : α3) (b4 : α4), φ b0 b1 b2 b3 b4 ∧ Fits C.n C.D (L b0 b1 b2 b3 b4) ac ∧ Inv C.w0 C.M w (Hs b0 b1 b2 b3 b4)) Q) .normal E H := fun _ _ hf hi => ⟨b0, b1, b2, b3, b4, hφ, hf.all hL, hi.pick hH⟩
theorem T.meetSE6 {α0 α1 α2 α3 α4 α5 : Type} (φ : α0 → α1 → α2 → α3 → α4 → α5 → Prop) (L : α0 → α1 → α2 → α3 → α4 → α5 → Env) (Hs : α0 → α1 → α2 → α3 → α4 → α5 → Heap) (hx : T C x (Exit.then (fun ac w => ∃ (b0 : α0) (b1 : α1) (b2 : α2) (b3 : α3) (b4 : α4) (b5 : α5), φ b0 b1 b2 b3 b4 b5 ∧ Fits C.n C.D (L b0 b1 b2 b3 b4 b5) ac ∧ Inv C.w0 C.M w (Hs b0 b1 b2 b3 b4 b5)) Q) E H)
    (hy : ∀ (b0 : α0) (b1 : α1) (b2 : α2) (b3 : α3) (b4 : α4) (b5 : α5), φ b0 b1 b2 b3 b4 b5 → T C y Q (L b0 b1 b2 b3 b4 b5) (Hs b0 b1 b2 b3 b4 b5)) : T C x (Exit.then (y.wpIn (FW C.ρ) 0 C.P Q) Q) E H := T.mono hx (fun e ac w h => by
  cases e with
  | normal => obtain ⟨b0, b1, b2, b3, b4, b5, h1, h2, h3⟩ := h; exact hy b0 b1 b2 b3 b4 b5 h1 ac w h2 h3
  | _ => exact h)
theorem X.metE6 {α0 α1 α2 α3 α4 α5 : Type} {φ : α0 → α1 → α2 → α3 → α4 → α5 → Prop} {L : α0 → α1 → α2 → α3 → α4 → α5 → Env} {Hs : α0 → α1 → α2 → α3 → α4 → α5 → Heap} (b0 : α0) (b1 : α1) (b2 : α2) (b3 : α3) (b4 : α4) (b5 : α5) (hφ : φ b0 b1 b2 b3 b4 b5) (hL : AllF (L b0 b1 b2 b3 b4 b5) E) (hH : Pick (Hs b0 b1 b2 b3 b4 b5) H) :
    X C (Exit.then (fun ac w => ∃ (b0 : α0) (b1 : α1) (b2 : α2) (b3 : α3) (b4 : α4) (b5 : α5), φ b0 b1 b2 b3 b4 b5 ∧ Fits C.n C.D (L b0 b1 b2 b3 b4 b5) ac ∧ Inv C.w0 C.M w (Hs b0 b1 b2 b3 b4 b5)) Q) .normal E H := fun _ _ hf hi => ⟨b0, b1, b2, b3, b4, b5, hφ, hf.all hL, hi.pick hH⟩
theorem T.loopE7 {α0 α1 α2 α3 α4 α5 α6 : Type} (φ : α0 → α1 → α2 → α3 → α4 → α5 → α6 → Prop) (L : α0 → α1 → α2 → α3 → α4 → α5 → α6 → Env) (Hs : α0 → α1 → α2 → α3 → α4 → α5 → α6 → Heap) (μ : α0 → α1 → α2 → α3 → α4 → α5 → α6 → Nat) (a0 : α0) (a1 : α1) (a2 : α2) (a3 : α3) (a4 : α4) (a5 : α5) (a6 : α6) (h0 : φ a0 a1 a2 a3 a4 a5 a6) (hE : AllF (L a0 a1 a2 a3 a4 a5 a6) E) (hH : Pick (Hs a0 a1 a2 a3 a4 a5 a6) H)
    (round : ∀ (a0 : α0) (a1 : α1) (a2 : α2) (a3 : α3) (a4 : α4) (a5 : α5) (a6 : α6), φ a0 a1 a2 a3 a4 a5 a6 → T C c (Exit.then (fun ac w => ∃ (b0 : α0) (b1 : α1) (b2 : α2) (b3 : α3) (b4 : α4) (b5 : α5) (b6 : α6), φ b0 b1 b2 b3 b4 b5 b6 ∧ μ b0 b1 b2 b3 b4 b5 b6 < μ a0 a1 a2 a3 a4 a5 a6 ∧ Fits C.n C.D (L b0 b1 b2 b3 b4 b5 b6) ac ∧ Inv C.w0 C.M w (Hs b0 b1 b2 b3 b4 b5 b6)) Q) (L a0 a1 a2 a3 a4 a5 a6) (Hs a0 a1 a2 a3 a4 a5 a6)) : T C (.loop c) Q E H :=
  T.loopE (α := α0 × α1 × α2 × α3 × α4 × α5 × α6) (fun s => φ s.1 s.2.1 s.2.2.1 s.2.2.2.1 s.2.2.2.2.1 s.2.2.2.2.2.1 s.2.2.2.2.2.2) (fun s => L s.1 s.2.1 s.2.2.1 s.2.2.2.1 s.2.2.2.2.1 s.2.2.2.2.2.1 s.2.2.2.2.2.2) (fun s => Hs s.1 s.2.1 s.2.2.1 s.2.2.2.1 s.2.2.2.2.1 s.2.2.2.2.2.1 s.2.2.2.2.2.2) (fun s => μ s.1 s.2.1 s.2.2.1 s.2.2.2.1 s.2.2.2.2.1 s.2.2.2.2.2.1 s.2.2.2.2.2.2) (a0, a1, a2, a3, a4, a5, a6) h0 hE hH (fun s hs => T.mono (round s.1 s.2.1 s.2.2.1 s.2.2.2.1 s.2.2.2.2.1 s.2.2.2.2.2.1 s.2.2.2.2.2.2 hs) (fun e ac w h => by
    cases e with
    | normal => obtain ⟨b0, b1, b2, b3, b4, b5, b6, h1, h2, h3, h4⟩ := h; exact ⟨⟨b0, b1, b2, b3, b4, b5, b6⟩, h1, h2, h3, h4⟩
    | _ => exact h))
theorem X.againE7 {α0 α1 α2 α3 α4 α5 α6 : Type} {φ : α0 → α1 → α2 → α3 → α4 → α5 → α6 → Prop} {L : α0 → α1 → α2 → α3 → α4 → α5 → α6 → Env} {Hs : α0 → α1 → α2 → α3 → α4 → α5 → α6 → Heap} {μ : α0 → α1 → α2 → α3 → α4 → α5 → α6 → Nat} {m : Nat} (b0 : α0) (b1 : α1) (b2 : α2) (b3 : α3) (b4 : α4) (b5 : α5) (b6 : α6) (hφ : φ b0 b1 b2 b3 b4 b5 b6) (hμ : μ b0 b1 b2 b3 b4 b5 b6 < m) (hL : AllF (L b0 b1 b2 b3 b4 b5 b6) E) (hH : Pick (Hs b0 b1 b2 b3 b4 b5 b6) H) :
    X C (Exit.then (fun ac w => ∃ (b0 : α0) (b1 : α1) (b2 : α2) (b3 : α3) (b4 : α4) (b5 : α5) (b6 : α6), φ b0 b1 b2 b3 b4 b5 b6 ∧ μ b0 b1 b2 b3 b4 b5 b6 < m ∧ Fits C.n C.D (L b0 b1 b2 b3 b4 b5 b6) ac ∧ Inv C.w0 C.M w (Hs b0 b1 b2 b3 b4 b5 b6)) Q) .normal E H := fun _ _ hf hi => ⟨b0, b1, b2, b3, b4, b5, b6, hφ, hμ, hf.all hL, hi.pick hH⟩
theorem T.meetSE7 {α0 α1 α2 α3 α4 α5 α6 : Type} (φ : α0 → α1 → α2 → α3 → α4 → α5 → α6 → Prop) (L : α0 → α1 → α2 → α3 → α4 → α5 → α6 → Env) (Hs : α0 → α1 → α2 → α3 → α4 → α5 → α6 → Heap) (hx : T C x (Exit.then (fun ac w => ∃ (b0 : α0) (b1 : α1) (b2 : α2) (b3 : α3) (b4 : α4) (b5 : α5) (b6 : α6), φ b0 b1 b2 b3 b4 b5 b6 ∧ Fits C.n C.D (L b0 b1 b2 b3 b4 b5 b6) ac ∧ Inv C.w0 C.M w (Hs b0 b1 b2 b3 b4 b5 b6)) Q) E H)
    (hy : ∀ (b0 : α0) (b1 : α1) (b2 : α2) (b3 : α3) (b4 : α4) (b5 : α5) (b6 : α6), φ b0 b1 b2 b3 b4 b5 b6 → T C y Q (L b0 b1 b2 b3 b4 b5 b6) (Hs b0 b1 b2 b3 b4 b5 b6)) : T C x (Exit.then (y.wpIn (FW C.ρ) 0 C.P Q) Q) E H := T.mono hx (fun e ac w h => by
  cases e with
  | normal => obtain ⟨b0, b1, b2, b3, b4, b5, b6, h1, h2, h3⟩ := h; exact hy b0 b1 b2 b3 b4 b5 b6 h1 ac w h2 h3
  | _ => exact h)
theorem X.metE7 {α0 α1 α2 α3 α4 α5 α6 : Type} {φ : α0 → α1 → α2 → α3 → α4 → α5 → α6 → Prop} {L : α0 → α1 → α2 → α3 → α4 → α5 → α6 → Env} {Hs : α0 → α1 → α2 → α3 → α4 → α5 → α6 → Heap} (b0 : α0) (b1 : α1) (b2 : α2) (b3 : α3) (b4 : α4) (b5 : α5) (b6 : α6) (hφ : φ b0 b1 b2 b3 b4 b5 b6) (hL : AllF (L b0 b1 b2 b3 b4 b5 b6) E) (hH : Pick (Hs b0 b1 b2 b3 b4 b5 b6) H) :
    X C (Exit.then (fun ac w => ∃ (b0 : α0) (b1 : α1) (b2 : α2) (b3 : α3) (b4 : α4) (b5 : α5) (b6 : α6), φ b0 b1 b2 b3 b4 b5 b6 ∧ Fits C.n C.D (L b0 b1 b2 b3 b4 b5 b6) ac ∧ Inv C.w0 C.M w (Hs b0 b1 b2 b3 b4 b5 b6)) Q) .normal E H := fun _ _ hf hi => ⟨b0, b1, b2, b3, b4, b5, b6, hφ, hf.all hL, hi.pick hH⟩
theorem T.loopE8 {α0 α1 α2 α3 α4 α5 α6 α7 : Type} (φ : α0 → α1 → α2 → α3 → α4 → α5 → α6 → α7 → Prop) (L : α0 → α1 → α2 → α3 → α4 → α5 → α6 → α7 → Env) (Hs : α0 → α1 → α2 → α3 → α4 → α5 → α6 → α7 → Heap) (μ : α0 → α1 → α2 → α3 → α4 → α5 → α6 → α7 → Nat) (a0 : α0) (a1 : α1) (a2 : α2) (a3 : α3) (a4 : α4) (a5 : α5) (a6 : α6) (a7 : α7) (h0 : φ a0 a1 a2 a3 a4 a5 a6 a7) (hE : AllF (L a0 a1 a2 a3 a4 a5 a6 a7) E) (hH : Pick (Hs a0 a1 a2 a3 a4 a5 a6 a7) H)
    (round : ∀ (a0 : α0) (a1 : α1) (a2 : α2) (a3 : α3) (a4 : α4) (a5 : α5) (a6 : α6) (a7 : α7), φ a0 a1 a2 a3 a4 a5 a6 a7 → T C c (Exit.then (fun ac w => ∃ (b0 : α0) (b1 : α1) (b2 : α2) (b3 : α3) (b4 : α4) (b5 : α5) (b6 : α6) (b7 : α7), φ b0 b1 b2 b3 b4 b5 b6 b7 ∧ μ b0 b1 b2 b3 b4 b5 b6 b7 < μ a0 a1 a2 a3 a4 a5 a6 a7 ∧ Fits C.n C.D (L b0 b1 b2 b3 b4 b5 b6 b7) ac ∧ Inv C.w0 C.M w (Hs b0 b1 b2 b3 b4 b5 b6 b7)) Q) (L a0 a1 a2 a3 a4 a5 a6 a7) (Hs a0 a1 a2 a3 a4 a5 a6 a7)) : T C (.loop c) Q E H :=
  T.loopE (α := α0 × α1 × α2 × α3 × α4 × α5 × α6 × α7) (fun s => φ s.1 s.2.1 s.2.2.1 s.2.2.2.1 s.2.2.2.2.1 s.2.2.2.2.2.1 s.2.2.2.2.2.2.1 s.2.2.2.2.2.2.2) (fun s => L s.1 s.2.1 s.2.2.1 s.2.2.2.1 s.2.2.2.2.1 s.2.2.2.2.2.1 s.2.2.2.2.2.2.1 s.2.2.2.2.2.2.2) (fun s => Hs s.1 s.2.1 s.2.2.1 s.2.2.2.1 s.2.2.2.2.1 s.2.2.2.2.2.1 s.2.2.2.2.2.2.1 s.2.2.2.2.2.2.2) (fun s => μ s.1 s.2.1 s.2.2.1 s.2.2.2.1 s.2.2.2.2.1 s.2.2.2.2.2.1 s.2.2.2.2.2.2.1 s.2.2.2.2.2.2.2) (a0, a1, a2, a3, a4, a5, a6, a7) h0 hE hH (fun s hs => T.mono (round s.1 s.2.1 s.2.2.1 s.2.2.2.1 s.2.2.2.2.1 s.2.2.2.2.2.1 s.2.2.2.2.2.2.1 s.2.2.2.2.2.2.2 hs) (fun e ac w h => by
    cases e with
    | normal => obtain ⟨b0, b1, b2, b3, b4, b5, b6, b7, h1, h2, h3, h4⟩ := h; exact ⟨⟨b0, b1, b2, b3, b4, b5, b6, b7⟩, h1, h2, h3, h4⟩
    | _ => exact h))
theorem X.againE8 {α0 α1 α2 α3 α4 α5 α6 α7 : Type} {φ : α0 → α1 → α2 → α3 → α4 → α5 → α6 → α7 → Prop} {L : α0 → α1 → α2 → α3 → α4 → α5 → α6 → α7 → Env} {Hs : α0 → α1 → α2 → α3 → α4 → α5 → α6 → α7 → Heap} {μ : α0 → α1 → α2 → α3 → α4 → α5 → α6 → α7 → Nat} {m : Nat} (b0 : α0) (b1 : α1) (b2 : α2) (b3 : α3) (b4 : α4) (b5 : α5) (b6 : α6) (b7 : α7) (hφ : φ b0 b1 b2 b3 b4 b5 b6 b7) (hμ : μ b0 b1 b2 b3 b4 b5 b6 b7 < m) (hL : AllF (L b0 b1 b2 b3 b4 b5 b6 b7) E) (hH : Pick (Hs b0 b1 b2 b3 b4 b5 b6 b7) H) :
    X C (Exit.then (fun ac w => ∃ (b0 : α0) (b1 : α1) (b2 : α2) (b3 : α3) (b4 : α4) (b5 : α5) (b6 : α6) (b7 : α7), φ b0 b1 b2 b3 b4 b5 b6 b7 ∧ μ b0 b1 b2 b3 b4 b5 b6 b7 < m ∧ Fits C.n C.D (L b0 b1 b2 b3 b4 b5 b6 b7) ac ∧ Inv C.w0 C.M w (Hs b0 b1 b2 b3 b4 b5 b6 b7)) Q) .normal E H := fun _ _ hf hi => ⟨b0, b1, b2, b3, b4, b5, b6, b7, hφ, hμ, hf.all hL, hi.pick hH⟩
theorem T.loopE9 {α0 α1 α2 α3 α4 α5 α6 α7 α8 : Type} (φ : α0 → α1 → α2 → α3 → α4 → α5 → α6 → α7 → α8 → Prop) (L : α0 → α1 → α2 → α3 → α4 → α5 → α6 → α7 → α8 → Env) (Hs : α0 → α1 → α2 → α3 → α4 → α5 → α6 → α7 → α8 → Heap) (μ : α0 → α1 → α2 → α3 → α4 → α5 → α6 → α7 → α8 → Nat) (a0 : α0) (a1 : α1) (a2 : α2) (a3 : α3) (a4 : α4) (a5 : α5) (a6 : α6) (a7 : α7) (a8 : α8) (h0 : φ a0 a1 a2 a3 a4 a5 a6 a7 a8) (hE : AllF (L a0 a1 a2 a3 a4 a5 a6 a7 a8) E) (hH : Pick (Hs a0 a1 a2 a3 a4 a5 a6 a7 a8) H)
    (round : ∀ (a0 : α0) (a1 : α1) (a2 : α2) (a3 : α3) (a4 : α4) (a5 : α5) (a6 : α6) (a7 : α7) (a8 : α8), φ a0 a1 a2 a3 a4 a5 a6 a7 a8 → T C c (Exit.then (fun ac w => ∃ (b0 : α0) (b1 : α1) (b2 : α2) (b3 : α3) (b4 : α4) (b5 : α5) (b6 : α6) (b7 : α7) (b8 : α8), φ b0 b1 b2 b3 b4 b5 b6 b7 b8 ∧ μ b0 b1 b2 b3 b4 b5 b6 b7 b8 < μ a0 a1 a2 a3 a4 a5 a6 a7 a8 ∧ Fits C.n C.D (L b0 b1 b2 b3 b4 b5 b6 b7 b8) ac ∧ Inv C.w0 C.M w (Hs b0 b1 b2 b3 b4 b5 b6 b7 b8)) Q) (L a0 a1 a2 a3 a4 a5 a6 a7 a8) (Hs a0 a1 a2 a3 a4 a5 a6 a7 a8)) : T C (.loop c) Q E H :=
  T.loopE (α := α0 × α1 × α2 × α3 × α4 × α5 × α6 × α7 × α8) (fun s => φ s.1 s.2.1 s.2.2.1 s.2.2.2.1 s.2.2.2.2.1 s.2.2.2.2.2.1 s.2.2.2.2.2.2.1 s.2.2.2.2.2.2.2.1 s.2.2.2.2.2.2.2.2) (fun s => L s.1 s.2.1 s.2.2.1 s.2.2.2.1 s.2.2.2.2.1 s.2.2.2.2.2.1 s.2.2.2.2.2.2.1 s.2.2.2.2.2.2.2.1 s.2.2.2.2.2.2.2.2) (fun s => Hs s.1 s.2.1 s.2.2.1 s.2.2.2.1 s.2.2.2.2.1 s.2.2.2.2.2.1 s.2.2.2.2.2.2.1 s.2.2.2.2.2.2.2.1 s.2.2.2.2.2.2.2.2) (fun s => μ s.1 s.2.1 s.2.2.1 s.2.2.2.1 s.2.2.2.2.1 s.2.2.2.2.2.1 s.2.2.2.2.2.2.1 s.2.2.2.2.2.2.2.1 s.2.2.2.2.2.2.2.2) (a0, a1, a2, a3, a4, a5, a6, a7, a8) h0 hE hH (fun s hs => T.mono (round s.1 s.2.1 s.2.2.1 s.2.2.2.1 s.2.2.2.2.1 s.2.2.2.2.2.1 s.2.2.2.2.2.2.1 s.2.2.2.2.2.2.2.1 s.2.2.2.2.2.2.2.2 hs) (fun e ac w h => by
    cases e with
    | normal => obtain ⟨b0, b1, b2, b3, b4, b5, b6, b7, b8, h1, h2, h3, h4⟩ := h; exact ⟨⟨b0, b1, b2, b3, b4, b5, b6, b7, b8⟩, h1, h2, h3, h4⟩
    | _ => exact h))
theorem X.againE9 {α0 α1 α2 α3 α4 α5 α6 α7 α8 : Type} {φ : α0 → α1 → α2 → α3 → α4 → α5 → α6 → α7 → α8 → Prop} {L : α0 → α1 → α2 → α3 → α4 → α5 → α6 → α7 → α8 → Env} {Hs : α0 → α1 → α2 → α3 → α4 → α5 → α6 → α7 → α8 → Heap} {μ : α0 → α1 → α2 → α3 → α4 → α5 → α6 → α7 → α8 → Nat} {m : Nat} (b0 : α0) (b1 : α1) (b2 : α2) (b3 : α3) (b4 : α4) (b5 : α5) (b6 : α6) (b7 : α7) (b8 : α8) (hφ : φ b0 b1 b2 b3 b4 b5 b6 b7 b8) (hμ : μ b0 b1 b2 b3 b4 b5 b6 b7 b8 < m) (hL : AllF (L b0 b1 b2 b3 b4 b5 b6 b7 b8) E) (hH : Pick (Hs b0 b1 b2 b3 b4 b5 b6 b7 b8) H) :
    X C (Exit.then (fun ac w => ∃ (b0 : α0) (b1 : α1) (b2 : α2) (b3 : α3) (b4 : α4) (b5 : α5) (b6 : α6) (b7 : α7) (b8 : α8), φ b0 b1 b2 b3 b4 b5 b6 b7 b8 ∧ μ b0 b1 b2 b3 b4 b5 b6 b7 b8 < m ∧ Fits C.n C.D (L b0 b1 b2 b3 b4 b5 b6 b7 b8) ac ∧ Inv C.w0 C.M w (Hs b0 b1 b2 b3 b4 b5 b6 b7 b8)) Q) .normal E H := fun _ _ hf hi => ⟨b0, b1, b2, b3, b4, b5, b6, b7, b8, hφ, hμ, hf.all hL, hi.pick hH⟩
end
end Go.Acq
