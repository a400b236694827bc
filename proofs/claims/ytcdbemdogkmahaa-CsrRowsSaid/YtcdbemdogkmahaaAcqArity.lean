/- The layer of triples: loops and meeting ways with several ghosts. (Written by arity.py.) -/
import Derived.Test.YtcdbemdogkmahaaAcqCore
namespace Go.Acq
open Go Go.RowKit
section
variable {C : Cx} {Q : Exit → Act → World → Prop} {E : Env} {H : Heap} {c x y : Code}
theorem T.loop1 {α0 : Type} (φ : α0 → Prop) (L : α0 → Env) (D : List Nat) (Hs : α0 → Heap) (μ : α0 → Nat) (a0 : α0) (h0 : φ a0)
    (hE : AllF (L a0) E) (hH : Pick (Hs a0) H)
    (round : ∀ (a0 : α0), φ a0 → T C c (Exit.then (fun ac w => ∃ (b0 : α0), φ b0 ∧ μ b0 < μ a0 ∧ Fits C.n C.D (L b0 ++ wo D E) ac ∧ Inv C.w0 C.M w (Hs b0)) Q) (L a0 ++ wo D E) (Hs a0)) :
    T C (.loop c) Q E H :=
  T.loop (α := α0) (fun s => φ s) (fun s => L s) D (fun s => Hs s) (fun s => μ s) a0 h0 hE hH (fun s hs => T.mono (round s hs) (fun e ac w h => by
    cases e with
    | normal => obtain ⟨b0, h1, h2, h3, h4⟩ := h; exact ⟨b0, h1, h2, h3, h4⟩
    | _ => exact h))
theorem X.again1 {α0 : Type} {φ : α0 → Prop} {L : α0 → Env} {D : List Nat} {E0 : Env} {Hs : α0 → Heap} {μ : α0 → Nat} {m : Nat} (b0 : α0) (hφ : φ b0) (hμ : μ b0 < m)
    (hL : AllF (L b0) E) (hK : AllF (wo D E0) E) (hH : Pick (Hs b0) H) :
    X C (Exit.then (fun ac w => ∃ (b0 : α0), φ b0 ∧ μ b0 < m ∧ Fits C.n C.D (L b0 ++ wo D E0) ac ∧ Inv C.w0 C.M w (Hs b0)) Q) .normal E H :=
  fun _ _ hf hi => ⟨b0, hφ, hμ, fits_again hf hL hK, hi.pick hH⟩
theorem T.meet1 {α0 : Type} (φ : α0 → Prop) (L : α0 → Env) (D : List Nat) (Hs : α0 → Heap)
    (hx : T C x (Exit.then (fun ac w => ∃ (b0 : α0), φ b0 ∧ Fits C.n C.D (L b0 ++ wo D E) ac ∧ Inv C.w0 C.M w (Hs b0)) Q) E H)
    (hy : ∀ (b0 : α0), φ b0 → T C y Q (L b0 ++ wo D E) (Hs b0)) : T C (.seq x y) Q E H := by
  intro ac w hf hi
  refine wpIn_seq (wpIn_mono (hx ac w hf hi) ?_)
  intro e ac w h
  cases e with
  | normal => obtain ⟨b0, h1, h2, h3⟩ := h; exact hy b0 h1 ac w h2 h3
  | _ => exact h
theorem X.met1 {α0 : Type} {φ : α0 → Prop} {L : α0 → Env} {D : List Nat} {E0 : Env} {Hs : α0 → Heap} (b0 : α0) (hφ : φ b0) (hL : AllF (L b0) E) (hK : AllF (wo D E0) E) (hH : Pick (Hs b0) H) :
    X C (Exit.then (fun ac w => ∃ (b0 : α0), φ b0 ∧ Fits C.n C.D (L b0 ++ wo D E0) ac ∧ Inv C.w0 C.M w (Hs b0)) Q) .normal E H :=
  fun _ _ hf hi => ⟨b0, hφ, fits_again hf hL hK, hi.pick hH⟩
theorem T.loop2 {α0 α1 : Type} (φ : α0 → α1 → Prop) (L : α0 → α1 → Env) (D : List Nat) (Hs : α0 → α1 → Heap) (μ : α0 → α1 → Nat) (a0 : α0) (a1 : α1) (h0 : φ a0 a1)
    (hE : AllF (L a0 a1) E) (hH : Pick (Hs a0 a1) H)
    (round : ∀ (a0 : α0) (a1 : α1), φ a0 a1 → T C c (Exit.then (fun ac w => ∃ (b0 : α0) (b1 : α1), φ b0 b1 ∧ μ b0 b1 < μ a0 a1 ∧ Fits C.n C.D (L b0 b1 ++ wo D E) ac ∧ Inv C.w0 C.M w (Hs b0 b1)) Q) (L a0 a1 ++ wo D E) (Hs a0 a1)) :
    T C (.loop c) Q E H :=
  T.loop (α := α0 × α1) (fun s => φ s.1 s.2) (fun s => L s.1 s.2) D (fun s => Hs s.1 s.2) (fun s => μ s.1 s.2) (a0, a1) h0 hE hH (fun s hs => T.mono (round s.1 s.2 hs) (fun e ac w h => by
    cases e with
    | normal => obtain ⟨b0, b1, h1, h2, h3, h4⟩ := h; exact ⟨(b0, b1), h1, h2, h3, h4⟩
    | _ => exact h))
theorem X.again2 {α0 α1 : Type} {φ : α0 → α1 → Prop} {L : α0 → α1 → Env} {D : List Nat} {E0 : Env} {Hs : α0 → α1 → Heap} {μ : α0 → α1 → Nat} {m : Nat} (b0 : α0) (b1 : α1) (hφ : φ b0 b1) (hμ : μ b0 b1 < m)
    (hL : AllF (L b0 b1) E) (hK : AllF (wo D E0) E) (hH : Pick (Hs b0 b1) H) :
    X C (Exit.then (fun ac w => ∃ (b0 : α0) (b1 : α1), φ b0 b1 ∧ μ b0 b1 < m ∧ Fits C.n C.D (L b0 b1 ++ wo D E0) ac ∧ Inv C.w0 C.M w (Hs b0 b1)) Q) .normal E H :=
  fun _ _ hf hi => ⟨b0, b1, hφ, hμ, fits_again hf hL hK, hi.pick hH⟩
theorem T.meet2 {α0 α1 : Type} (φ : α0 → α1 → Prop) (L : α0 → α1 → Env) (D : List Nat) (Hs : α0 → α1 → Heap)
    (hx : T C x (Exit.then (fun ac w => ∃ (b0 : α0) (b1 : α1), φ b0 b1 ∧ Fits C.n C.D (L b0 b1 ++ wo D E) ac ∧ Inv C.w0 C.M w (Hs b0 b1)) Q) E H)
    (hy : ∀ (b0 : α0) (b1 : α1), φ b0 b1 → T C y Q (L b0 b1 ++ wo D E) (Hs b0 b1)) : T C (.seq x y) Q E H := by
  intro ac w hf hi
  refine wpIn_seq (wpIn_mono (hx ac w hf hi) ?_)
  intro e ac w h
  cases e with
  | normal => obtain ⟨b0, b1, h1, h2, h3⟩ := h; exact hy b0 b1 h1 ac w h2 h3
  | _ => exact h
theorem X.met2 {α0 α1 : Type} {φ : α0 → α1 → Prop} {L : α0 → α1 → Env} {D : List Nat} {E0 : Env} {Hs : α0 → α1 → Heap} (b0 : α0) (b1 : α1) (hφ : φ b0 b1) (hL : AllF (L b0 b1) E) (hK : AllF (wo D E0) E) (hH : Pick (Hs b0 b1) H) :
    X C (Exit.then (fun ac w => ∃ (b0 : α0) (b1 : α1), φ b0 b1 ∧ Fits C.n C.D (L b0 b1 ++ wo D E0) ac ∧ Inv C.w0 C.M w (Hs b0 b1)) Q) .normal E H :=
  fun _ _ hf hi => ⟨b0, b1, hφ, fits_again hf hL hK, hi.pick hH⟩
theorem T.loop3 {α0 α1 α2 : Type} (φ : α0 → α1 → α2 → Prop) (L : α0 → α1 → α2 → Env) (D : List Nat) (Hs : α0 → α1 → α2 → Heap) (μ : α0 → α1 → α2 → Nat) (a0 : α0) (a1 : α1) (a2 : α2) (h0 : φ a0 a1 a2)
    (hE : AllF (L a0 a1 a2) E) (hH : Pick (Hs a0 a1 a2) H)
    (round : ∀ (a0 : α0) (a1 : α1) (a2 : α2), φ a0 a1 a2 → T C c (Exit.then (fun ac w => ∃ (b0 : α0) (b1 : α1) (b2 : α2), φ b0 b1 b2 ∧ μ b0 b1 b2 < μ a0 a1 a2 ∧ Fits C.n C.D (L b0 b1 b2 ++ wo D E) ac ∧ Inv C.w0 C.M w (Hs b0 b1 b2)) Q) (L a0 a1 a2 ++ wo D E) (Hs a0 a1 a2)) :
    T C (.loop c) Q E H :=
  T.loop (α := α0 × α1 × α2) (fun s => φ s.1 s.2.1 s.2.2) (fun s => L s.1 s.2.1 s.2.2) D (fun s => Hs s.1 s.2.1 s.2.2) (fun s => μ s.1 s.2.1 s.2.2) (a0, a1, a2) h0 hE hH (fun s hs => T.mono (round s.1 s.2.1 s.2.2 hs) (fun e ac w h => by
    cases e with
    | normal => obtain ⟨b0, b1, b2, h1, h2, h3, h4⟩ := h; exact ⟨(b0, b1, b2), h1, h2, h3, h4⟩
    | _ => exact h))
theorem X.again3 {α0 α1 α2 : Type} {φ : α0 → α1 → α2 → Prop} {L : α0 → α1 → α2 → Env} {D : List Nat} {E0 : Env} {Hs : α0 → α1 → α2 → Heap} {μ : α0 → α1 → α2 → Nat} {m : Nat} (b0 : α0) (b1 : α1) (b2 : α2) (hφ : φ b0 b1 b2) (hμ : μ b0 b1 b2 < m)
    (hL : AllF (L b0 b1 b2) E) (hK : AllF (wo D E0) E) (hH : Pick (Hs b0 b1 b2) H) :
    X C (Exit.then (fun ac w => ∃ (b0 : α0) (b1 : α1) (b2 : α2), φ b0 b1 b2 ∧ μ b0 b1 b2 < m ∧ Fits C.n C.D (L b0 b1 b2 ++ wo D E0) ac ∧ Inv C.w0 C.M w (Hs b0 b1 b2)) Q) .normal E H :=
  fun _ _ hf hi => ⟨b0, b1, b2, hφ, hμ, fits_again hf hL hK, hi.pick hH⟩
theorem T.meet3 {α0 α1 α2 : Type} (φ : α0 → α1 → α2 → Prop) (L : α0 → α1 → α2 → Env) (D : List Nat) (Hs : α0 → α1 → α2 → Heap)
    (hx : T C x (Exit.then (fun ac w => ∃ (b0 : α0) (b1 : α1) (b2 : α2), φ b0 b1 b2 ∧ Fits C.n C.D (L b0 b1 b2 ++ wo D E) ac ∧ Inv C.w0 C.M w (Hs b0 b1 b2)) Q) E H)
    (hy : ∀ (b0 : α0) (b1 : α1) (b2 : α2), φ b0 b1 b2 → T C y Q (L b0 b1 b2 ++ wo D E) (Hs b0 b1 b2)) : T C (.seq x y) Q E H := by
  intro ac w hf hi
  refine wpIn_seq (wpIn_mono (hx ac w hf hi) ?_)
  intro e ac w h
  cases e with
  | normal => obtain ⟨b0, b1, b2, h1, h2, h3⟩ := h; exact hy b0 b1 b2 h1 ac w h2 h3
  | _ => exact h
theorem X.met3 {α0 α1 α2 : Type} {φ : α0 → α1 → α2 → Prop} {L : α0 → α1 → α2 → Env} {D : List Nat} {E0 : Env} {Hs : α0 → α1 → α2 → Heap} (b0 : α0) (b1 : α1) (b2 : α2) (hφ : φ b0 b1 b2) (hL : AllF (L b0 b1 b2) E) (hK : AllF (wo D E0) E) (hH : Pick (Hs b0 b1 b2) H) :
    X C (Exit.then (fun ac w => ∃ (b0 : α0) (b1 : α1) (b2 : α2), φ b0 b1 b2 ∧ Fits C.n C.D (L b0 b1 b2 ++ wo D E0) ac ∧ Inv C.w0 C.M w (Hs b0 b1 b2)) Q) .normal E H :=
  fun _ _ hf hi => ⟨b0, b1, b2, hφ, fits_again hf hL hK, hi.pick hH⟩
theorem T.loop4 {α0 α1 α2 α3 : Type} (φ : α0 → α1 → α2 → α3 → Prop) (L : α0 → α1 → α2 → α3 → Env) (D : List Nat) (Hs : α0 → α1 → α2 → α3 → Heap) (μ : α0 → α1 → α2 → α3 → Nat) (a0 : α0) (a1 : α1) (a2 : α2) (a3 : α3) (h0 : φ a0 a1 a2 a3)
    (hE : AllF (L a0 a1 a2 a3) E) (hH : Pick (Hs a0 a1 a2 a3) H)
    (round : ∀ (a0 : α0) (a1 : α1) (a2 : α2) (a3 : α3), φ a0 a1 a2 a3 → T C c (Exit.then (fun ac w => ∃ (b0 : α0) (b1 : α1) (b2 : α2) (b3 : α3), φ b0 b1 b2 b3 ∧ μ b0 b1 b2 b3 < μ a0 a1 a2 a3 ∧ Fits C.n C.D (L b0 b1 b2 b3 ++ wo D E) ac ∧ Inv C.w0 C.M w (Hs b0 b1 b2 b3)) Q) (L a0 a1 a2 a3 ++ wo D E) (Hs a0 a1 a2 a3)) :
    T C (.loop c) Q E H :=
  T.loop (α := α0 × α1 × α2 × α3) (fun s => φ s.1 s.2.1 s.2.2.1 s.2.2.2) (fun s => L s.1 s.2.1 s.2.2.1 s.2.2.2) D (fun s => Hs s.1 s.2.1 s.2.2.1 s.2.2.2) (fun s => μ s.1 s.2.1 s.2.2.1 s.2.2.2) (a0, a1, a2, a3) h0 hE hH (fun s hs => T.mono (round s.1 s.2.1 s.2.2.1 s.2.2.2 hs) (fun e ac w h => by
    cases e with
    | normal => obtain ⟨b0, b1, b2, b3, h1, h2, h3, h4⟩ := h; exact ⟨(b0, b1, b2, b3), h1, h2, h3, h4⟩
    | _ => exact h))
theorem X.again4 {α0 α1 α2 α3 : Type} {φ : α0 → α1 → α2 → α3 → Prop} {L : α0 → α1 → α2 → α3 → Env} {D : List Nat} {E0 : Env} {Hs : α0 → α1 → α2 → α3 → Heap} {μ : α0 → α1 → α2 → α3 → Nat} {m : Nat} (b0 : α0) (b1 : α1) (b2 : α2) (b3 : α3) (hφ : φ b0 b1 b2 b3) (hμ : μ b0 b1 b2 b3 < m)
    (hL : AllF (L b0 b1 b2 b3) E) (hK : AllF (wo D E0) E) (hH : Pick (Hs b0 b1 b2 b3) H) :
    X C (Exit.then (fun ac w => ∃ (b0 : α0) (b1 : α1) (b2 : α2) (b3 : α3), φ b0 b1 b2 b3 ∧ μ b0 b1 b2 b3 < m ∧ Fits C.n C.D (L b0 b1 b2 b3 ++ wo D E0) ac ∧ Inv C.w0 C.M w (Hs b0 b1 b2 b3)) Q) .normal E H :=
  fun _ _ hf hi => ⟨b0, b1, b2, b3, hφ, hμ, fits_again hf hL hK, hi.pick hH⟩
theorem T.meet4 {α0 α1 α2 α3 : Type} (φ : α0 → α1 → α2 → α3 → Prop) (L : α0 → α1 → α2 → α3 → Env) (D : List Nat) (Hs : α0 → α1 → α2 → α3 → Heap)
    (hx : T C x (Exit.then (fun ac w => ∃ (b0 : α0) (b1 : α1) (b2 : α2) (b3 : α3), φ b0 b1 b2 b3 ∧ Fits C.n C.D (L b0 b1 b2 b3 ++ wo D E) ac ∧ Inv C.w0 C.M w (Hs b0 b1 b2 b3)) Q) E H)
    (hy : ∀ (b0 : α0) (b1 : α1) (b2 : α2) (b3 : α3), φ b0 b1 b2 b3 → T C y Q (L b0 b1 b2 b3 ++ wo D E) (Hs b0 b1 b2 b3)) : T C (.seq x y) Q E H := by
  intro ac w hf hi
  refine wpIn_seq (wpIn_mono (hx ac w hf hi) ?_)
  intro e ac w h
  cases e with
  | normal => obtain ⟨b0, b1, b2, b3, h1, h2, h3⟩ := h; exact hy b0 b1 b2 b3 h1 ac w h2 h3
  | _ => exact h
theorem X.met4 {α0 α1 α2 α3 : Type} {φ : α0 → α1 → α2 → α3 → Prop} {L : α0 → α1 → α2 → α3 → Env} {D : List Nat} {E0 : Env} {Hs : α0 → α1 → α2 → α3 → Heap} (b0 : α0) (b1 : α1) (b2 : α2) (b3 : α3) (hφ : φ b0 b1 b2 b3) (hL : AllF (L b0 b1 b2 b3) E) (hK : AllF (wo D E0) E) (hH : Pick (Hs b0 b1 b2 b3) H) :
    X C (Exit.then (fun ac w => ∃ (b0 : α0) (b1 : α1) (b2 : α2) (b3 : α3), φ b0 b1 b2 b3 ∧ Fits C.n C.D (L b0 b1 b2 b3 ++ wo D E0) ac ∧ Inv C.w0 C.M w (Hs b0 b1 b2 b3)) Q) .normal E H :=
  fun _ _ hf hi => ⟨b0, b1, b2, b3, hφ, fits_again hf hL hK, hi.pick hH⟩
theorem T.loop5 {α0 α1 α2 α3 α4 : Type} (φ : α0 → α1 → α2 → α3 → α4 → Prop) (L : α0 → α1 → α2 → α3 → α4 → Env) (D : List Nat) (Hs : α0 → α1 → α2 → α3 → α4 → Heap) (μ : α0 → α1 → α2 → α3 → α4 → Nat) (a0 : α0) (a1 : α1) (a2 : α2) (a3 : α3) (a4 : α4) (h0 : φ a0 a1 a2 a3 a4)
    (hE : AllF (L a0 a1 a2 a3 a4) E) (hH : Pick (Hs a0 a1 a2 a3 a4) H)
    (round : ∀ (a0 : α0) (a1 : α1) (a2 : α2) (a3 : α3) (a4 : α4), φ a0 a1 a2 a3 a4 → T C c (Exit.then (fun ac w => ∃ (b0 : α0) (b1 : α1) (b2 : α2) (b3 : α3) (b4 : α4), φ b0 b1 b2 b3 b4 ∧ μ b0 b1 b2 b3 b4 < μ a0 a1 a2 a3 a4 ∧ Fits C.n C.D (L b0 b1 b2 b3 b4 ++ wo D E) ac ∧ Inv C.w0 C.M w (Hs b0 b1 b2 b3 b4)) Q) (L a0 a1 a2 a3 a4 ++ wo D E) (Hs a0 a1 a2 a3 a4)) :
    T C (.loop c) Q E H :=
  T.loop (α := α0 × α1 × α2 × α3 × α4) (fun s => φ s.1 s.2.1 s.2.2.1 s.2.2.2.1 s.2.2.2.2) (fun s => L s.1 s.2.1 s.2.2.1 s.2.2.2.1 s.2.2.2.2) D (fun s => Hs s.1 s.2.1 s.2.2.1 s.2.2.2.1 s.2.2.2.2) (fun s => μ s.1 s.2.1 s.2.2.1 s.2.2.2.1 s.2.2.2.2) (a0, a1, a2, a3, a4) h0 hE hH (fun s hs => T.mono (round s.1 s.2.1 s.2.2.1 s.2.2.2.1 s.2.2.2.2 hs) (fun e ac w h => by
    cases e with
    | normal => obtain ⟨b0, b1, b2, b3, b4, h1, h2, h3, h4⟩ := h; exact ⟨(b0, b1, b2, b3, b4), h1, h2, h3, h4⟩
    | _ => exact h))
theorem X.again5 {α0 α1 α2 α3 α4 : Type} {φ : α0 → α1 → α2 → α3 → α4 → Prop} {L : α0 → α1 → α2 → α3 → α4 → Env} {D : List Nat} {E0 : Env} {Hs : α0 → α1 → α2 → α3 → α4 → Heap} {μ : α0 → α1 → α2 → α3 → α4 → Nat} {m : Nat} (b0 : α0) (b1 : α1) (b2 : α2) (b3 : α3) (b4 : α4) (hφ : φ b0 b1 b2 b3 b4) (hμ : μ b0 b1 b2 b3 b4 < m)
    (hL : AllF (L b0 b1 b2 b3 b4) E) (hK : AllF (wo D E0) E) (hH : Pick (Hs b0 b1 b2 b3 b4) H) :
    X C (Exit.then (fun ac w => ∃ (b0 : α0) (b1 : α1) (b2 : α2) (b3 : α3) (b4 : α4), φ b0 b1 b2 b3 b4 ∧ μ b0 b1 b2 b3 b4 < m ∧ Fits C.n C.D (L b0 b1 b2 b3 b4 ++ wo D E0) ac ∧ Inv C.w0 C.M w (Hs b0 b1 b2 b3 b4)) Q) .normal E H :=
  fun _ _ hf hi => ⟨b0, b1, b2, b3, b4, hφ, hμ, fits_again hf hL hK, hi.pick hH⟩
theorem T.meet5 {α0 α1 α2 α3 α4 : Type} (φ : α0 → α1 → α2 → α3 → α4 → Prop) (L : α0 → α1 → α2 → α3 → α4 → Env) (D : List Nat) (Hs : α0 → α1 → α2 → α3 → α4 → Heap)
    (hx : T C x (Exit.then (fun ac w => ∃ (b0 : α0) (b1 : α1) (b2 : α2) (b3 : α3) (b4 : α4), φ b0 b1 b2 b3 b4 ∧ Fits C.n C.D (L b0 b1 b2 b3 b4 ++ wo D E) ac ∧ Inv C.w0 C.M w (Hs b0 b1 b2 b3 b4)) Q) E H)
    (hy : ∀ (b0 : α0) (b1 : α1) (b2 : α2) (b3 : α3) (b4 : α4), φ b0 b1 b2 b3 b4 → T C y Q (L b0 b1 b2 b3 b4 ++ wo D E) (Hs b0 b1 b2 b3 b4)) : T C (.seq x y) Q E H := by
  intro ac w hf hi
  refine wpIn_seq (wpIn_mono (hx ac w hf hi) ?_)
  intro e ac w h
  cases e with
  | normal => obtain ⟨b0, b1, b2, b3, b4, h1, h2, h3⟩ := h; exact hy b0 b1 b2 b3 b4 h1 ac w h2 h3
  | _ => exact h
theorem X.met5 {α0 α1 α2 α3 α4 : Type} {φ : α0 → α1 → α2 → α3 → α4 → Prop} {L : α0 → α1 → α2 → α3 → α4 → Env} {D : List Nat} {E0 : Env} {Hs : α0 → α1 → α2 → α3 → α4 → Heap} (b0 : α0) (b1 : α1) (b2 : α2) (b3 : α3) (b4 : α4) (hφ : φ b0 b1 b2 b3 b4) (hL : AllF (L b0 b1 b2 b3 b4) E) (hK : AllF (wo D E0) E) (hH : Pick (Hs b0 b1 b2 b3 b4) H) :
    X C (Exit.then (fun ac w => ∃ (b0 : α0) (b1 : α1) (b2 : α2) (b3 : α3) (b4 : α4), φ b0 b1 b2 b3 b4 ∧ Fits C.n C.D (L b0 b1 b2 b3 b4 ++ wo D E0) ac ∧ Inv C.w0 C.M w (Hs b0 b1 b2 b3 b4)) Q) .normal E H :=
  fun _ _ hf hi => ⟨b0, b1, b2, b3, b4, hφ, fits_again hf hL hK, hi.pick hH⟩
theorem T.loop6 {α0 α1 α2 α3 α4 α5 : Type} (φ : α0 → α1 → α2 → α3 → α4 → α5 → Prop) (L : α0 → α1 → α2 → α3 → α4 → α5 → Env) (D : List Nat) (Hs : α0 → α1 → α2 → α3 → α4 → α5 → Heap) (μ : α0 → α1 → α2 → α3 → α4 → α5 → Nat) (a0 : α0) (a1 : α1) (a2 : α2) (a3 : α3) (a4 : α4) (a5 : α5) (h0 : φ a0 a1 a2 a3 a4 a5)
    (hE : AllF (L a0 a1 a2 a3 a4 a5) E) (hH : Pick (Hs a0 a1 a2 a3 a4 a5) H)
    (round : ∀ (a0 : α0) (a1 : α1) (a2 : α2) (a3 : α3) (a4 : α4) (a5 : α5), φ a0 a1 a2 a3 a4 a5 → T C c (Exit.then (fun ac w => ∃ (b0 : α0) (b1 : α1) (b2 : α2) (b3 : α3) (b4 : α4) (b5 : α5), φ b0 b1 b2 b3 b4 b5 ∧ μ b0 b1 b2 b3 b4 b5 < μ a0 a1 a2 a3 a4 a5 ∧ Fits C.n C.D (L b0 b1 b2 b3 b4 b5 ++ wo D E) ac ∧ Inv C.w0 C.M w (Hs b0 b1 b2 b3 b4 b5)) Q) (L a0 a1 a2 a3 a4 a5 ++ wo D E) (Hs a0 a1 a2 a3 a4 a5)) :
    T C (.loop c) Q E H :=
  T.loop (α := α0 × α1 × α2 × α3 × α4 × α5) (fun s => φ s.1 s.2.1 s.2.2.1 s.2.2.2.1 s.2.2.2.2.1 s.2.2.2.2.2) (fun s => L s.1 s.2.1 s.2.2.1 s.2.2.2.1 s.2.2.2.2.1 s.2.2.2.2.2) D (fun s => Hs s.1 s.2.1 s.2.2.1 s.2.2.2.1 s.2.2.2.2.1 s.2.2.2.2.2) (fun s => μ s.1 s.2.1 s.2.2.1 s.2.2.2.1 s.2.2.2.2.1 s.2.2.2.2.2) (a0, a1, a2, a3, a4, a5) h0 hE hH (fun s hs => T.mono (round s.1 s.2.1 s.2.2.1 s.2.2.2.1 s.2.2.2.2.1 s.2.2.2.2.2 hs) (fun e ac w h => by
    cases e with
    | normal => obtain ⟨b0, b1, b2, b3, b4, b5, h1, h2, h3, h4⟩ := h; exact ⟨(b0, b1, b2, b3, b4, b5), h1, h2, h3, h4⟩
    | _ => exact h))
theorem X.again6 {α0 α1 α2 α3 α4 α5 : Type} {φ : α0 → α1 → α2 → α3 → α4 → α5 → Prop} {L : α0 → α1 → α2 → α3 → α4 → α5 → Env} {D : List Nat} {E0 : Env} {Hs : α0 → α1 → α2 → α3 → α4 → α5 → Heap} {μ : α0 → α1 → α2 → α3 → α4 → α5 → Nat} {m : Nat} (b0 : α0) (b1 : α1) (b2 : α2) (b3 : α3) (b4 : α4) (b5 : α5) (hφ : φ b0 b1 b2 b3 b4 b5) (hμ : μ b0 b1 b2 b3 b4 b5 < m)
    (hL : AllF (L b0 b1 b2 b3 b4 b5) E) (hK : AllF (wo D E0) E) (hH : Pick (Hs b0 b1 b2 b3 b4 b5) H) :
    X C (Exit.then (fun ac w => ∃ (b0 : α0) (b1 : α1) (b2 : α2) (b3 : α3) (b4 : α4) (b5 : α5), φ b0 b1 b2 b3 b4 b5 ∧ μ b0 b1 b2 b3 b4 b5 < m ∧ Fits C.n C.D (L b0 b1 b2 b3 b4 b5 ++ wo D E0) ac ∧ Inv C.w0 C.M w (Hs b0 b1 b2 b3 b4 b5)) Q) .normal E H :=
  fun _ _ hf hi => ⟨b0, b1, b2, b3, b4, b5, hφ, hμ, fits_again hf hL hK, hi.pick hH⟩
theorem T.meet6 {α0 α1 α2 α3 α4 α5 : Type} (φ : α0 → α1 → α2 → α3 → α4 → α5 → Prop) (L : α0 → α1 → α2 → α3 → α4 → α5 → Env) (D : List Nat) (Hs : α0 → α1 → α2 → α3 → α4 → α5 → Heap)
    (hx : T C x (Exit.then (fun ac w => ∃ (b0 : α0) (b1 : α1) (b2 : α2) (b3 : α3) (b4 : α4) (b5 : α5), φ b0 b1 b2 b3 b4 b5 ∧ Fits C.n C.D (L b0 b1 b2 b3 b4 b5 ++ wo D E) ac ∧ Inv C.w0 C.M w (Hs b0 b1 b2 b3 b4 b5)) Q) E H)
    (hy : ∀ (b0 : α0) (b1 : α1) (b2 : α2) (b3 : α3) (b4 : α4) (b5 : α5), φ b0 b1 b2 b3 b4 b5 → T C y Q (L b0 b1 b2 b3 b4 b5 ++ wo D E) (Hs b0 b1 b2 b3 b4 b5)) : T C (.seq x y) Q E H := by
  intro ac w hf hi
  refine wpIn_seq (wpIn_mono (hx ac w hf hi) ?_)
  intro e ac w h
  cases e with
  | normal => obtain ⟨b0, b1, b2, b3, b4, b5, h1, h2, h3⟩ := h; exact hy b0 b1 b2 b3 b4 b5 h1 ac w h2 h3
  | _ => exact h
theorem X.met6 {α0 α1 α2 α3 α4 α5 : Type} {φ : α0 → α1 → α2 → α3 → α4 → α5 → Prop} {L : α0 → α1 → α2 → α3 → α4 → α5 → Env} {D : List Nat} {E0 : Env} {Hs : α0 → α1 → α2 → α3 → α4 → α5 → Heap} (b0 : α0) (b1 : α1) (b2 : α2) (b3 : α3) (b4 : α4) (b5 : α5) (hφ : φ b0 b1 b2 b3 b4 b5) (hL : AllF (L b0 b1 b2 b3 b4 b5) E) (hK : AllF (wo D E0) E) (hH : Pick (Hs b0 b1 b2 b3 b4 b5) H) :
    X C (Exit.then (fun ac w => ∃ (b0 : α0) (b1 : α1) (b2 : α2) (b3 : α3) (b4 : α4) (b5 : α5), φ b0 b1 b2 b3 b4 b5 ∧ Fits C.n C.D (L b0 b1 b2 b3 b4 b5 ++ wo D E0) ac ∧ Inv C.w0 C.M w (Hs b0 b1 b2 b3 b4 b5)) Q) .normal E H :=
  fun _ _ hf hi => ⟨b0, b1, b2, b3, b4, b5, hφ, fits_again hf hL hK, hi.pick hH⟩
theorem T.loop7 {α0 α1 α2 α3 α4 α5 α6 : Type} (φ : α0 → α1 → α2 → α3 → α4 → α5 → α6 → Prop) (L : α0 → α1 → α2 → α3 → α4 → α5 → α6 → Env) (D : List Nat) (Hs : α0 → α1 → α2 → α3 → α4 → α5 → α6 → Heap) (μ : α0 → α1 → α2 → α3 → α4 → α5 → α6 → Nat) (a0 : α0) (a1 : α1) (a2 : α2) (a3 : α3) (a4 : α4) (a5 : α5) (a6 : α6) (h0 : φ a0 a1 a2 a3 a4 a5 a6)
    (hE : AllF (L a0 a1 a2 a3 a4 a5 a6) E) (hH : Pick (Hs a0 a1 a2 a3 a4 a5 a6) H)
    (round : ∀ (a0 : α0) (a1 : α1) (a2 : α2) (a3 : α3) (a4 : α4) (a5 : α5) (a6 : α6), φ a0 a1 a2 a3 a4 a5 a6 → T C c (Exit.then (fun ac w => ∃ (b0 : α0) (b1 : α1) (b2 : α2) (b3 : α3) (b4 : α4) (b5 : α5) (b6 : α6), φ b0 b1 b2 b3 b4 b5 b6 ∧ μ b0 b1 b2 b3 b4 b5 b6 < μ a0 a1 a2 a3 a4 a5 a6 ∧ Fits C.n C.D (L b0 b1 b2 b3 b4 b5 b6 ++ wo D E) ac ∧ Inv C.w0 C.M w (Hs b0 b1 b2 b3 b4 b5 b6)) Q) (L a0 a1 a2 a3 a4 a5 a6 ++ wo D E) (Hs a0 a1 a2 a3 a4 a5 a6)) :
    T C (.loop c) Q E H :=
  T.loop (α := α0 × α1 × α2 × α3 × α4 × α5 × α6) (fun s => φ s.1 s.2.1 s.2.2.1 s.2.2.2.1 s.2.2.2.2.1 s.2.2.2.2.2.1 s.2.2.2.2.2.2) (fun s => L s.1 s.2.1 s.2.2.1 s.2.2.2.1 s.2.2.2.2.1 s.2.2.2.2.2.1 s.2.2.2.2.2.2) D (fun s => Hs s.1 s.2.1 s.2.2.1 s.2.2.2.1 s.2.2.2.2.1 s.2.2.2.2.2.1 s.2.2.2.2.2.2) (fun s => μ s.1 s.2.1 s.2.2.1 s.2.2.2.1 s.2.2.2.2.1 s.2.2.2.2.2.1 s.2.2.2.2.2.2) (a0, a1, a2, a3, a4, a5, a6) h0 hE hH (fun s hs => T.mono (round s.1 s.2.1 s.2.2.1 s.2.2.2.1 s.2.2.2.2.1 s.2.2.2.2.2.1 s.2.2.2.2.2.2 hs) (fun e ac w h => by
    cases e with
    | normal => obtain ⟨b0, b1, b2, b3, b4, b5, b6, h1, h2, h3, h4⟩ := h; exact ⟨(b0, b1, b2, b3, b4, b5, b6), h1, h2, h3, h4⟩
    | _ => exact h))
theorem X.again7 {α0 α1 α2 α3 α4 α5 α6 : Type} {φ : α0 → α1 → α2 → α3 → α4 → α5 → α6 → Prop} {L : α0 → α1 → α2 → α3 → α4 → α5 → α6 → Env} {D : List Nat} {E0 : Env} {Hs : α0 → α1 → α2 → α3 → α4 → α5 → α6 → Heap} {μ : α0 → α1 → α2 → α3 → α4 → α5 → α6 → Nat} {m : Nat} (b0 : α0) (b1 : α1) (b2 : α2) (b3 : α3) (b4 : α4) (b5 : α5) (b6 : α6) (hφ : φ b0 b1 b2 b3 b4 b5 b6) (hμ : μ b0 b1 b2 b3 b4 b5 b6 < m)
    (hL : AllF (L b0 b1 b2 b3 b4 b5 b6) E) (hK : AllF (wo D E0) E) (hH : Pick (Hs b0 b1 b2 b3 b4 b5 b6) H) :
    X C (Exit.then (fun ac w => ∃ (b0 : α0) (b1 : α1) (b2 : α2) (b3 : α3) (b4 : α4) (b5 : α5) (b6 : α6), φ b0 b1 b2 b3 b4 b5 b6 ∧ μ b0 b1 b2 b3 b4 b5 b6 < m ∧ Fits C.n C.D (L b0 b1 b2 b3 b4 b5 b6 ++ wo D E0) ac ∧ Inv C.w0 C.M w (Hs b0 b1 b2 b3 b4 b5 b6)) Q) .normal E H :=
  fun _ _ hf hi => ⟨b0, b1, b2, b3, b4, b5, b6, hφ, hμ, fits_again hf hL hK, hi.pick hH⟩
theorem T.meet7 {α0 α1 α2 α3 α4 α5 α6 : Type} (φ : α0 → α1 → α2 → α3 → α4 → α5 → α6 → Prop) (L : α0 → α1 → α2 → α3 → α4 → α5 → α6 → Env) (D : List Nat) (Hs : α0 → α1 → α2 → α3 → α4 → α5 → α6 → Heap)
    (hx : T C x (Exit.then (fun ac w => ∃ (b0 : α0) (b1 : α1) (b2 : α2) (b3 : α3) (b4 : α4) (b5 : α5) (b6 : α6), φ b0 b1 b2 b3 b4 b5 b6 ∧ Fits C.n C.D (L b0 b1 b2 b3 b4 b5 b6 ++ wo D E) ac ∧ Inv C.w0 C.M w (Hs b0 b1 b2 b3 b4 b5 b6)) Q) E H)
    (hy : ∀ (b0 : α0) (b1 : α1) (b2 : α2) (b3 : α3) (b4 : α4) (b5 : α5) (b6 : α6), φ b0 b1 b2 b3 b4 b5 b6 → T C y Q (L b0 b1 b2 b3 b4 b5 b6 ++ wo D E) (Hs b0 b1 b2 b3 b4 b5 b6)) : T C (.seq x y) Q E H := by
  intro ac w hf hi
  refine wpIn_seq (wpIn_mono (hx ac w hf hi) ?_)
  intro e ac w h
  cases e with
  | normal => obtain ⟨b0, b1, b2, b3, b4, b5, b6, h1, h2, h3⟩ := h; exact hy b0 b1 b2 b3 b4 b5 b6 h1 ac w h2 h3
  | _ => exact h
theorem X.met7 {α0 α1 α2 α3 α4 α5 α6 : Type} {φ : α0 → α1 → α2 → α3 → α4 → α5 → α6 → Prop} {L : α0 → α1 → α2 → α3 → α4 → α5 → α6 → Env} {D : List Nat} {E0 : Env} {Hs : α0 → α1 → α2 → α3 → α4 → α5 → α6 → Heap} (b0 : α0) (b1 : α1) (b2 : α2) (b3 : α3) (b4 : α4) (b5 : α5) (b6 : α6) (hφ : φ b0 b1 b2 b3 b4 b5 b6) (hL : AllF (L b0 b1 b2 b3 b4 b5 b6) E) (hK : AllF (wo D E0) E) (hH : Pick (Hs b0 b1 b2 b3 b4 b5 b6) H) :
    X C (Exit.then (fun ac w => ∃ (b0 : α0) (b1 : α1) (b2 : α2) (b3 : α3) (b4 : α4) (b5 : α5) (b6 : α6), φ b0 b1 b2 b3 b4 b5 b6 ∧ Fits C.n C.D (L b0 b1 b2 b3 b4 b5 b6 ++ wo D E0) ac ∧ Inv C.w0 C.M w (Hs b0 b1 b2 b3 b4 b5 b6)) Q) .normal E H :=
  fun _ _ hf hi => ⟨b0, b1, b2, b3, b4, b5, b6, hφ, fits_again hf hL hK, hi.pick hH⟩
theorem T.loop8 {α0 α1 α2 α3 α4 α5 α6 α7 : Type} (φ : α0 → α1 → α2 → α3 → α4 → α5 → α6 → α7 → Prop) (L : α0 → α1 → α2 → α3 → α4 → α5 → α6 → α7 → Env) (D : List Nat) (Hs : α0 → α1 → α2 → α3 → α4 → α5 → α6 → α7 → Heap) (μ : α0 → α1 → α2 → α3 → α4 → α5 → α6 → α7 → Nat) (a0 : α0) (a1 : α1) (a2 : α2) (a3 : α3) (a4 : α4) (a5 : α5) (a6 : α6) (a7 : α7) (h0 : φ a0 a1 a2 a3 a4 a5 a6 a7)
    (hE : AllF (L a0 a1 a2 a3 a4 a5 a6 a7) E) (hH : Pick (Hs a0 a1 a2 a3 a4 a5 a6 a7) H)
    (round : ∀ (a0 : α0) (a1 : α1) (a2 : α2) (a3 : α3) (a4 : α4) (a5 : α5) (a6 : α6) (a7 : α7), φ a0 a1 a2 a3 a4 a5 a6 a7 → T C c (Exit.then (fun ac w => ∃ (b0 : α0) (b1 : α1) (b2 : α2) (b3 : α3) (b4 : α4) (b5 : α5) (b6 : α6) (b7 : α7), φ b0 b1 b2 b3 b4 b5 b6 b7 ∧ μ b0 b1 b2 b3 b4 b5 b6 b7 < μ a0 a1 a2 a3 a4 a5 a6 a7 ∧ Fits C.n C.D (L b0 b1 b2 b3 b4 b5 b6 b7 ++ wo D E) ac ∧ Inv C.w0 C.M w (Hs b0 b1 b2 b3 b4 b5 b6 b7)) Q) (L a0 a1 a2 a3 a4 a5 a6 a7 ++ wo D E) (Hs a0 a1 a2 a3 a4 a5 a6 a7)) :
    T C (.loop c) Q E H :=
  T.loop (α := α0 × α1 × α2 × α3 × α4 × α5 × α6 × α7) (fun s => φ s.1 s.2.1 s.2.2.1 s.2.2.2.1 s.2.2.2.2.1 s.2.2.2.2.2.1 s.2.2.2.2.2.2.1 s.2.2.2.2.2.2.2) (fun s => L s.1 s.2.1 s.2.2.1 s.2.2.2.1 s.2.2.2.2.1 s.2.2.2.2.2.1 s.2.2.2.2.2.2.1 s.2.2.2.2.2.2.2) D (fun s => Hs s.1 s.2.1 s.2.2.1 s.2.2.2.1 s.2.2.2.2.1 s.2.2.2.2.2.1 s.2.2.2.2.2.2.1 s.2.2.2.2.2.2.2) (fun s => μ s.1 s.2.1 s.2.2.1 s.2.2.2.1 s.2.2.2.2.1 s.2.2.2.2.2.1 s.2.2.2.2.2.2.1 s.2.2.2.2.2.2.2) (a0, a1, a2, a3, a4, a5, a6, a7) h0 hE hH (fun s hs => T.mono (round s.1 s.2.1 s.2.2.1 s.2.2.2.1 s.2.2.2.2.1 s.2.2.2.2.2.1 s.2.2.2.2.2.2.1 s.2.2.2.2.2.2.2 hs) (fun e ac w h => by
    cases e with
    | normal => obtain ⟨b0, b1, b2, b3, b4, b5, b6, b7, h1, h2, h3, h4⟩ := h; exact ⟨(b0, b1, b2, b3, b4, b5, b6, b7), h1, h2, h3, h4⟩
    | _ => exact h))
theorem X.again8 {α0 α1 α2 α3 α4 α5 α6 α7 : Type} {φ : α0 → α1 → α2 → α3 → α4 → α5 → α6 → α7 → Prop} {L : α0 → α1 → α2 → α3 → α4 → α5 → α6 → α7 → Env} {D : List Nat} {E0 : Env} {Hs : α0 → α1 → α2 → α3 → α4 → α5 → α6 → α7 → Heap} {μ : α0 → α1 → α2 → α3 → α4 → α5 → α6 → α7 → Nat} {m : Nat} (b0 : α0) (b1 : α1) (b2 : α2) (b3 : α3) (b4 : α4) (b5 : α5) (b6 : α6) (b7 : α7) (hφ : φ b0 b1 b2 b3 b4 b5 b6 b7) (hμ : μ b0 b1 b2 b3 b4 b5 b6 b7 < m)
    (hL : AllF (L b0 b1 b2 b3 b4 b5 b6 b7) E) (hK : AllF (wo D E0) E) (hH : Pick (Hs b0 b1 b2 b3 b4 b5 b6 b7) H) :
    X C (Exit.then (fun ac w => ∃ (b0 : α0) (b1 : α1) (b2 : α2) (b3 : α3) (b4 : α4) (b5 : α5) (b6 : α6) (b7 : α7), φ b0 b1 b2 b3 b4 b5 b6 b7 ∧ μ b0 b1 b2 b3 b4 b5 b6 b7 < m ∧ Fits C.n C.D (L b0 b1 b2 b3 b4 b5 b6 b7 ++ wo D E0) ac ∧ Inv C.w0 C.M w (Hs b0 b1 b2 b3 b4 b5 b6 b7)) Q) .normal E H :=
  fun _ _ hf hi => ⟨b0, b1, b2, b3, b4, b5, b6, b7, hφ, hμ, fits_again hf hL hK, hi.pick hH⟩
theorem T.meet8 {α0 α1 α2 α3 α4 α5 α6 α7 : Type} (φ : α0 → α1 → α2 → α3 → α4 → α5 → α6 → α7 → Prop) (L : α0 → α1 → α2 → α3 → α4 → α5 → α6 → α7 → Env) (D : List Nat) (Hs : α0 → α1 → α2 → α3 → α4 → α5 → α6 → α7 → Heap)
    (hx : T C x (Exit.then (fun ac w => ∃ (b0 : α0) (b1 : α1) (b2 : α2) (b3 : α3) (b4 : α4) (b5 : α5) (b6 : α6) (b7 : α7), φ b0 b1 b2 b3 b4 b5 b6 b7 ∧ Fits C.n C.D (L b0 b1 b2 b3 b4 b5 b6 b7 ++ wo D E) ac ∧ Inv C.w0 C.M w (Hs b0 b1 b2 b3 b4 b5 b6 b7)) Q) E H)
    (hy : ∀ (b0 : α0) (b1 : α1) (b2 : α2) (b3 : α3) (b4 : α4) (b5 : α5) (b6 : α6) (b7 : α7), φ b0 b1 b2 b3 b4 b5 b6 b7 → T C y Q (L b0 b1 b2 b3 b4 b5 b6 b7 ++ wo D E) (Hs b0 b1 b2 b3 b4 b5 b6 b7)) : T C (.seq x y) Q E H := by
  intro ac w hf hi
  refine wpIn_seq (wpIn_mono (hx ac w hf hi) ?_)
  intro e ac w h
  cases e with
  | normal => obtain ⟨b0, b1, b2, b3, b4, b5, b6, b7, h1, h2, h3⟩ := h; exact hy b0 b1 b2 b3 b4 b5 b6 b7 h1 ac w h2 h3
  | _ => exact h
theorem X.met8 {α0 α1 α2 α3 α4 α5 α6 α7 : Type} {φ : α0 → α1 → α2 → α3 → α4 → α5 → α6 → α7 → Prop} {L : α0 → α1 → α2 → α3 → α4 → α5 → α6 → α7 → Env} {D : List Nat} {E0 : Env} {Hs : α0 → α1 → α2 → α3 → α4 → α5 → α6 → α7 → Heap} (b0 : α0) (b1 : α1) (b2 : α2) (b3 : α3) (b4 : α4) (b5 : α5) (b6 : α6) (b7 : α7) (hφ : φ b0 b1 b2 b3 b4 b5 b6 b7) (hL : AllF (L b0 b1 b2 b3 b4 b5 b6 b7) E) (hK : AllF (wo D E0) E) (hH : Pick (Hs b0 b1 b2 b3 b4 b5 b6 b7) H) :
    X C (Exit.then (fun ac w => ∃ (b0 : α0) (b1 : α1) (b2 : α2) (b3 : α3) (b4 : α4) (b5 : α5) (b6 : α6) (b7 : α7), φ b0 b1 b2 b3 b4 b5 b6 b7 ∧ Fits C.n C.D (L b0 b1 b2 b3 b4 b5 b6 b7 ++ wo D E0) ac ∧ Inv C.w0 C.M w (Hs b0 b1 b2 b3 b4 b5 b6 b7)) Q) .normal E H :=
  fun _ _ hf hi => ⟨b0, b1, b2, b3, b4, b5, b6, b7, hφ, fits_again hf hL hK, hi.pick hH⟩
theorem T.loop9 {α0 α1 α2 α3 α4 α5 α6 α7 α8 : Type} (φ : α0 → α1 → α2 → α3 → α4 → α5 → α6 → α7 → α8 → Prop) (L : α0 → α1 → α2 → α3 → α4 → α5 → α6 → α7 → α8 → Env) (D : List Nat) (Hs : α0 → α1 → α2 → α3 → α4 → α5 → α6 → α7 → α8 → Heap) (μ : α0 → α1 → α2 → α3 → α4 → α5 → α6 → α7 → α8 → Nat) (a0 : α0) (a1 : α1) (a2 : α2) (a3 : α3) (a4 : α4) (a5 : α5) (a6 : α6) (a7 : α7) (a8 : α8) (h0 : φ a0 a1 a2 a3 a4 a5 a6 a7 a8)
    (hE : AllF (L a0 a1 a2 a3 a4 a5 a6 a7 a8) E) (hH : Pick (Hs a0 a1 a2 a3 a4 a5 a6 a7 a8) H)
    (round : ∀ (a0 : α0) (a1 : α1) (a2 : α2) (a3 : α3) (a4 : α4) (a5 : α5) (a6 : α6) (a7 : α7) (a8 : α8), φ a0 a1 a2 a3 a4 a5 a6 a7 a8 → T C c (Exit.then (fun ac w => ∃ (b0 : α0) (b1 : α1) (b2 : α2) (b3 : α3) (b4 : α4) (b5 : α5) (b6 : α6) (b7 : α7) (b8 : α8), φ b0 b1 b2 b3 b4 b5 b6 b7 b8 ∧ μ b0 b1 b2 b3 b4 b5 b6 b7 b8 < μ a0 a1 a2 a3 a4 a5 a6 a7 a8 ∧ Fits C.n C.D (L b0 b1 b2 b3 b4 b5 b6 b7 b8 ++ wo D E) ac ∧ Inv C.w0 C.M w (Hs b0 b1 b2 b3 b4 b5 b6 b7 b8)) Q) (L a0 a1 a2 a3 a4 a5 a6 a7 a8 ++ wo D E) (Hs a0 a1 a2 a3 a4 a5 a6 a7 a8)) :
    T C (.loop c) Q E H :=
  T.loop (α := α0 × α1 × α2 × α3 × α4 × α5 × α6 × α7 × α8) (fun s => φ s.1 s.2.1 s.2.2.1 s.2.2.2.1 s.2.2.2.2.1 s.2.2.2.2.2.1 s.2.2.2.2.2.2.1 s.2.2.2.2.2.2.2.1 s.2.2.2.2.2.2.2.2) (fun s => L s.1 s.2.1 s.2.2.1 s.2.2.2.1 s.2.2.2.2.1 s.2.2.2.2.2.1 s.2.2.2.2.2.2.1 s.2.2.2.2.2.2.2.1 s.2.2.2.2.2.2.2.2) D (fun s => Hs s.1 s.2.1 s.2.2.1 s.2.2.2.1 s.2.2.2.2.1 s.2.2.2.2.2.1 s.2.2.2.2.2.2.1 s.2.2.2.2.2.2.2.1 s.2.2.2.2.2.2.2.2) (fun s => μ s.1 s.2.1 s.2.2.1 s.2.2.2.1 s.2.2.2.2.1 s.2.2.2.2.2.1 s.2.2.2.2.2.2.1 s.2.2.2.2.2.2.2.1 s.2.2.2.2.2.2.2.2) (a0, a1, a2, a3, a4, a5, a6, a7, a8) h0 hE hH (fun s hs => T.mono (round s.1 s.2.1 s.2.2.1 s.2.2.2.1 s.2.2.2.2.1 s.2.2.2.2.2.1 s.2.2.2.2.2.2.1 s.2.2.2.2.2.2.2.1 s.2.2.2.2.2.2.2.2 hs) (fun e ac w h => by
    cases e with
    | normal => obtain ⟨b0, b1, b2, b3, b4, b5, b6, b7, b8, h1, h2, h3, h4⟩ := h; exact ⟨(b0, b1, b2, b3, b4, b5, b6, b7, b8), h1, h2, h3, h4⟩
    | _ => exact h))
theorem X.again9 {α0 α1 α2 α3 α4 α5 α6 α7 α8 : Type} {φ : α0 → α1 → α2 → α3 → α4 → α5 → α6 → α7 → α8 → Prop} {L : α0 → α1 → α2 → α3 → α4 → α5 → α6 → α7 → α8 → Env} {D : List Nat} {E0 : Env} {Hs : α0 → α1 → α2 → α3 → α4 → α5 → α6 → α7 → α8 → Heap} {μ : α0 → α1 → α2 → α3 → α4 → α5 → α6 → α7 → α8 → Nat} {m : Nat} (b0 : α0) (b1 : α1) (b2 : α2) (b3 : α3) (b4 : α4) (b5 : α5) (b6 : α6) (b7 : α7) (b8 : α8) (hφ : φ b0 b1 b2 b3 b4 b5 b6 b7 b8) (hμ : μ b0 b1 b2 b3 b4 b5 b6 b7 b8 < m)
    (hL : AllF (L b0 b1 b2 b3 b4 b5 b6 b7 b8) E) (hK : AllF (wo D E0) E) (hH : Pick (Hs b0 b1 b2 b3 b4 b5 b6 b7 b8) H) :
    X C (Exit.then (fun ac w => ∃ (b0 : α0) (b1 : α1) (b2 : α2) (b3 : α3) (b4 : α4) (b5 : α5) (b6 : α6) (b7 : α7) (b8 : α8), φ b0 b1 b2 b3 b4 b5 b6 b7 b8 ∧ μ b0 b1 b2 b3 b4 b5 b6 b7 b8 < m ∧ Fits C.n C.D (L b0 b1 b2 b3 b4 b5 b6 b7 b8 ++ wo D E0) ac ∧ Inv C.w0 C.M w (Hs b0 b1 b2 b3 b4 b5 b6 b7 b8)) Q) .normal E H :=
  fun _ _ hf hi => ⟨b0, b1, b2, b3, b4, b5, b6, b7, b8, hφ, hμ, fits_again hf hL hK, hi.pick hH⟩
theorem T.meet9 {α0 α1 α2 α3 α4 α5 α6 α7 α8 : Type} (φ : α0 → α1 → α2 → α3 → α4 → α5 → α6 → α7 → α8 → Prop) (L : α0 → α1 → α2 → α3 → α4 → α5 → α6 → α7 → α8 → Env) (D : List Nat) (Hs : α0 → α1 → α2 → α3 → α4 → α5 → α6 → α7 → α8 → Heap)
    (hx : T C x (Exit.then (fun ac w => ∃ (b0 : α0) (b1 : α1) (b2 : α2) (b3 : α3) (b4 : α4) (b5 : α5) (b6 : α6) (b7 : α7) (b8 : α8), φ b0 b1 b2 b3 b4 b5 b6 b7 b8 ∧ Fits C.n C.D (L b0 b1 b2 b3 b4 b5 b6 b7 b8 ++ wo D E) ac ∧ Inv C.w0 C.M w (Hs b0 b1 b2 b3 b4 b5 b6 b7 b8)) Q) E H)
    (hy : ∀ (b0 : α0) (b1 : α1) (b2 : α2) (b3 : α3) (b4 : α4) (b5 : α5) (b6 : α6) (b7 : α7) (b8 : α8), φ b0 b1 b2 b3 b4 b5 b6 b7 b8 → T C y Q (L b0 b1 b2 b3 b4 b5 b6 b7 b8 ++ wo D E) (Hs b0 b1 b2 b3 b4 b5 b6 b7 b8)) : T C (.seq x y) Q E H := by
  intro ac w hf hi
  refine wpIn_seq (wpIn_mono (hx ac w hf hi) ?_)
  intro e ac w h
  cases e with
  | normal => obtain ⟨b0, b1, b2, b3, b4, b5, b6, b7, b8, h1, h2, h3⟩ := h; exact hy b0 b1 b2 b3 b4 b5 b6 b7 b8 h1 ac w h2 h3
  | _ => exact h
theorem X.met9 {α0 α1 α2 α3 α4 α5 α6 α7 α8 : Type} {φ : α0 → α1 → α2 → α3 → α4 → α5 → α6 → α7 → α8 → Prop} {L : α0 → α1 → α2 → α3 → α4 → α5 → α6 → α7 → α8 → Env} {D : List Nat} {E0 : Env} {Hs : α0 → α1 → α2 → α3 → α4 → α5 → α6 → α7 → α8 → Heap} (b0 : α0) (b1 : α1) (b2 : α2) (b3 : α3) (b4 : α4) (b5 : α5) (b6 : α6) (b7 : α7) (b8 : α8) (hφ : φ b0 b1 b2 b3 b4 b5 b6 b7 b8) (hL : AllF (L b0 b1 b2 b3 b4 b5 b6 b7 b8) E) (hK : AllF (wo D E0) E) (hH : Pick (Hs b0 b1 b2 b3 b4 b5 b6 b7 b8) H) :
    X C (Exit.then (fun ac w => ∃ (b0 : α0) (b1 : α1) (b2 : α2) (b3 : α3) (b4 : α4) (b5 : α5) (b6 : α6) (b7 : α7) (b8 : α8), φ b0 b1 b2 b3 b4 b5 b6 b7 b8 ∧ Fits C.n C.D (L b0 b1 b2 b3 b4 b5 b6 b7 b8 ++ wo D E0) ac ∧ Inv C.w0 C.M w (Hs b0 b1 b2 b3 b4 b5 b6 b7 b8)) Q) .normal E H :=
  fun _ _ hf hi => ⟨b0, b1, b2, b3, b4, b5, b6, b7, b8, hφ, fits_again hf hL hK, hi.pick hH⟩
theorem T.loop10 {α0 α1 α2 α3 α4 α5 α6 α7 α8 α9 : Type} (φ : α0 → α1 → α2 → α3 → α4 → α5 → α6 → α7 → α8 → α9 → Prop) (L : α0 → α1 → α2 → α3 → α4 → α5 → α6 → α7 → α8 → α9 → Env) (D : List Nat) (Hs : α0 → α1 → α2 → α3 → α4 → α5 → α6 → α7 → α8 → α9 → Heap) (μ : α0 → α1 → α2 → α3 → α4 → α5 → α6 → α7 → α8 → α9 → Nat) (a0 : α0) (a1 : α1) (a2 : α2) (a3 : α3) (a4 : α4) (a5 : α5) (a6 : α6) (a7 : α7) (a8 : α8) (a9 : α9) (h0 : φ a0 a1 a2 a3 a4 a5 a6 a7 a8 a9)
    (hE : AllF (L a0 a1 a2 a3 a4 a5 a6 a7 a8 a9) E) (hH : Pick (Hs a0 a1 a2 a3 a4 a5 a6 a7 a8 a9) H)
    (round : ∀ (a0 : α0) (a1 : α1) (a2 : α2) (a3 : α3) (a4 : α4) (a5 : α5) (a6 : α6) (a7 : α7) (a8 : α8) (a9 : α9), φ a0 a1 a2 a3 a4 a5 a6 a7 a8 a9 → T C c (Exit.then (fun ac w => ∃ (b0 : α0) (b1 : α1) (b2 : α2) (b3 : α3) (b4 : α4) (b5 : α5) (b6 : α6) (b7 : α7) (b8 : α8) (b9 : α9), φ b0 b1 b2 b3 b4 b5 b6 b7 b8 b9 ∧ μ b0 b1 b2 b3 b4 b5 b6 b7 b8 b9 < μ a0 a1 a2 a3 a4 a5 a6 a7 a8 a9 ∧ Fits C.n C.D (L b0 b1 b2 b3 b4 b5 b6 b7 b8 b9 ++ wo D E) ac ∧ Inv C.w0 C.M w (Hs b0 b1 b2 b3 b4 b5 b6 b7 b8 b9)) Q) (L a0 a1 a2 a3 a4 a5 a6 a7 a8 a9 ++ wo D E) (Hs a0 a1 a2 a3 a4 a5 a6 a7 a8 a9)) :
    T C (.loop c) Q E H :=
  T.loop (α := α0 × α1 × α2 × α3 × α4 × α5 × α6 × α7 × α8 × α9) (fun s => φ s.1 s.2.1 s.2.2.1 s.2.2.2.1 s.2.2.2.2.1 s.2.2.2.2.2.1 s.2.2.2.2.2.2.1 s.2.2.2.2.2.2.2.1 s.2.2.2.2.2.2.2.2.1 s.2.2.2.2.2.2.2.2.2) (fun s => L s.1 s.2.1 s.2.2.1 s.2.2.2.1 s.2.2.2.2.1 s.2.2.2.2.2.1 s.2.2.2.2.2.2.1 s.2.2.2.2.2.2.2.1 s.2.2.2.2.2.2.2.2.1 s.2.2.2.2.2.2.2.2.2) D (fun s => Hs s.1 s.2.1 s.2.2.1 s.2.2.2.1 s.2.2.2.2.1 s.2.2.2.2.2.1 s.2.2.2.2.2.2.1 s.2.2.2.2.2.2.2.1 s.2.2.2.2.2.2.2.2.1 s.2.2.2.2.2.2.2.2.2) (fun s => μ s.1 s.2.1 s.2.2.1 s.2.2.2.1 s.2.2.2.2.1 s.2.2.2.2.2.1 s.2.2.2.2.2.2.1 s.2.2.2.2.2.2.2.1 s.2.2.2.2.2.2.2.2.1 s.2.2.2.2.2.2.2.2.2) (a0, a1, a2, a3, a4, a5, a6, a7, a8, a9) h0 hE hH (fun s hs => T.mono (round s.1 s.2.1 s.2.2.1 s.2.2.2.1 s.2.2.2.2.1 s.2.2.2.2.2.1 s.2.2.2.2.2.2.1 s.2.2.2.2.2.2.2.1 s.2.2.2.2.2.2.2.2.1 s.2.2.2.2.2.2.2.2.2 hs) (fun e ac w h => by
    cases e with
    | normal => obtain ⟨b0, b1, b2, b3, b4, b5, b6, b7, b8, b9, h1, h2, h3, h4⟩ := h; exact ⟨(b0, b1, b2, b3, b4, b5, b6, b7, b8, b9), h1, h2, h3, h4⟩
    | _ => exact h))
theorem X.again10 {α0 α1 α2 α3 α4 α5 α6 α7 α8 α9 : Type} {φ : α0 → α1 → α2 → α3 → α4 → α5 → α6 → α7 → α8 → α9 → Prop} {L : α0 → α1 → α2 → α3 → α4 → α5 → α6 → α7 → α8 → α9 → Env} {D : List Nat} {E0 : Env} {Hs : α0 → α1 → α2 → α3 → α4 → α5 → α6 → α7 → α8 → α9 → Heap} {μ : α0 → α1 → α2 → α3 → α4 → α5 → α6 → α7 → α8 → α9 → Nat} {m : Nat} (b0 : α0) (b1 : α1) (b2 : α2) (b3 : α3) (b4 : α4) (b5 : α5) (b6 : α6) (b7 : α7) (b8 : α8) (b9 : α9) (hφ : φ b0 b1 b2 b3 b4 b5 b6 b7 b8 b9) (hμ : μ b0 b1 b2 b3 b4 b5 b6 b7 b8 b9 < m)
    (hL : AllF (L b0 b1 b2 b3 b4 b5 b6 b7 b8 b9) E) (hK : AllF (wo D E0) E) (hH : Pick (Hs b0 b1 b2 b3 b4 b5 b6 b7 b8 b9) H) :
    X C (Exit.then (fun ac w => ∃ (b0 : α0) (b1 : α1) (b2 : α2) (b3 : α3) (b4 : α4) (b5 : α5) (b6 : α6) (b7 : α7) (b8 : α8) (b9 : α9), φ b0 b1 b2 b3 b4 b5 b6 b7 b8 b9 ∧ μ b0 b1 b2 b3 b4 b5 b6 b7 b8 b9 < m ∧ Fits C.n C.D (L b0 b1 b2 b3 b4 b5 b6 b7 b8 b9 ++ wo D E0) ac ∧ Inv C.w0 C.M w (Hs b0 b1 b2 b3 b4 b5 b6 b7 b8 b9)) Q) .normal E H :=
  fun _ _ hf hi => ⟨b0, b1, b2, b3, b4, b5, b6, b7, b8, b9, hφ, hμ, fits_again hf hL hK, hi.pick hH⟩
theorem T.meet10 {α0 α1 α2 α3 α4 α5 α6 α7 α8 α9 : Type} (φ : α0 → α1 → α2 → α3 → α4 → α5 → α6 → α7 → α8 → α9 → Prop) (L : α0 → α1 → α2 → α3 → α4 → α5 → α6 → α7 → α8 → α9 → Env) (D : List Nat) (Hs : α0 → α1 → α2 → α3 → α4 → α5 → α6 → α7 → α8 → α9 → Heap)
    (hx : T C x (Exit.then (fun ac w => ∃ (b0 : α0) (b1 : α1) (b2 : α2) (b3 : α3) (b4 : α4) (b5 : α5) (b6 : α6) (b7 : α7) (b8 : α8) (b9 : α9), φ b0 b1 b2 b3 b4 b5 b6 b7 b8 b9 ∧ Fits C.n C.D (L b0 b1 b2 b3 b4 b5 b6 b7 b8 b9 ++ wo D E) ac ∧ Inv C.w0 C.M w (Hs b0 b1 b2 b3 b4 b5 b6 b7 b8 b9)) Q) E H)
    (hy : ∀ (b0 : α0) (b1 : α1) (b2 : α2) (b3 : α3) (b4 : α4) (b5 : α5) (b6 : α6) (b7 : α7) (b8 : α8) (b9 : α9), φ b0 b1 b2 b3 b4 b5 b6 b7 b8 b9 → T C y Q (L b0 b1 b2 b3 b4 b5 b6 b7 b8 b9 ++ wo D E) (Hs b0 b1 b2 b3 b4 b5 b6 b7 b8 b9)) : T C (.seq x y) Q E H := by
  intro ac w hf hi
  refine wpIn_seq (wpIn_mono (hx ac w hf hi) ?_)
  intro e ac w h
  cases e with
  | normal => obtain ⟨b0, b1, b2, b3, b4, b5, b6, b7, b8, b9, h1, h2, h3⟩ := h; exact hy b0 b1 b2 b3 b4 b5 b6 b7 b8 b9 h1 ac w h2 h3
  | _ => exact h
theorem X.met10 {α0 α1 α2 α3 α4 α5 α6 α7 α8 α9 : Type} {φ : α0 → α1 → α2 → α3 → α4 → α5 → α6 → α7 → α8 → α9 → Prop} {L : α0 → α1 → α2 → α3 → α4 → α5 → α6 → α7 → α8 → α9 → Env} {D : List Nat} {E0 : Env} {Hs : α0 → α1 → α2 → α3 → α4 → α5 → α6 → α7 → α8 → α9 → Heap} (b0 : α0) (b1 : α1) (b2 : α2) (b3 : α3) (b4 : α4) (b5 : α5) (b6 : α6) (b7 : α7) (b8 : α8) (b9 : α9) (hφ : φ b0 b1 b2 b3 b4 b5 b6 b7 b8 b9) (hL : AllF (L b0 b1 b2 b3 b4 b5 b6 b7 b8 b9) E) (hK : AllF (wo D E0) E) (hH : Pick (Hs b0 b1 b2 b3 b4 b5 b6 b7 b8 b9) H) :
    X C (Exit.then (fun ac w => ∃ (b0 : α0) (b1 : α1) (b2 : α2) (b3 : α3) (b4 : α4) (b5 : α5) (b6 : α6) (b7 : α7) (b8 : α8) (b9 : α9), φ b0 b1 b2 b3 b4 b5 b6 b7 b8 b9 ∧ Fits C.n C.D (L b0 b1 b2 b3 b4 b5 b6 b7 b8 b9 ++ wo D E0) ac ∧ Inv C.w0 C.M w (Hs b0 b1 b2 b3 b4 b5 b6 b7 b8 b9)) Q) .normal E H :=
  fun _ _ hf hi => ⟨b0, b1, b2, b3, b4, b5, b6, b7, b8, b9, hφ, fits_again hf hL hK, hi.pick hH⟩
theorem T.loop11 {α0 α1 α2 α3 α4 α5 α6 α7 α8 α9 α10 : Type} (φ : α0 → α1 → α2 → α3 → α4 → α5 → α6 → α7 → α8 → α9 → α10 → Prop) (L : α0 → α1 → α2 → α3 → α4 → α5 → α6 → α7 → α8 → α9 → α10 → Env) (D : List Nat) (Hs : α0 → α1 → α2 → α3 → α4 → α5 → α6 → α7 → α8 → α9 → α10 → Heap) (μ : α0 → α1 → α2 → α3 → α4 → α5 → α6 → α7 → α8 → α9 → α10 → Nat) (a0 : α0) (a1 : α1) (a2 : α2) (a3 : α3) (a4 : α4) (a5 : α5) (a6 : α6) (a7 : α7) (a8 : α8) (a9 : α9) (a10 : α10) (h0 : φ a0 a1 a2 a3 a4 a5 a6 a7 a8 a9 a10)
    (hE : AllF (L a0 a1 a2 a3 a4 a5 a6 a7 a8 a9 a10) E) (hH : Pick (Hs a0 a1 a2 a3 a4 a5 a6 a7 a8 a9 a10) H)
    (round : ∀ (a0 : α0) (a1 : α1) (a2 : α2) (a3 : α3) (a4 : α4) (a5 : α5) (a6 : α6) (a7 : α7) (a8 : α8) (a9 : α9) (a10 : α10), φ a0 a1 a2 a3 a4 a5 a6 a7 a8 a9 a10 → T C c (Exit.then (fun ac w => ∃ (b0 : α0) (b1 : α1) (b2 : α2) (b3 : α3) (b4 : α4) (b5 : α5) (b6 : α6) (b7 : α7) (b8 : α8) (b9 : α9) (b10 : α10), φ b0 b1 b2 b3 b4 b5 b6 b7 b8 b9 b10 ∧ μ b0 b1 b2 b3 b4 b5 b6 b7 b8 b9 b10 < μ a0 a1 a2 a3 a4 a5 a6 a7 a8 a9 a10 ∧ Fits C.n C.D (L b0 b1 b2 b3 b4 b5 b6 b7 b8 b9 b10 ++ wo D E) ac ∧ Inv C.w0 C.M w (Hs b0 b1 b2 b3 b4 b5 b6 b7 b8 b9 b10)) Q) (L a0 a1 a2 a3 a4 a5 a6 a7 a8 a9 a10 ++ wo D E) (Hs a0 a1 a2 a3 a4 a5 a6 a7 a8 a9 a10)) :
    T C (.loop c) Q E H :=
  T.loop (α := α0 × α1 × α2 × α3 × α4 × α5 × α6 × α7 × α8 × α9 × α10) (fun s => φ s.1 s.2.1 s.2.2.1 s.2.2.2.1 s.2.2.2.2.1 s.2.2.2.2.2.1 s.2.2.2.2.2.2.1 s.2.2.2.2.2.2.2.1 s.2.2.2.2.2.2.2.2.1 s.2.2.2.2.2.2.2.2.2.1 s.2.2.2.2.2.2.2.2.2.2) (fun s => L s.1 s.2.1 s.2.2.1 s.2.2.2.1 s.2.2.2.2.1 s.2.2.2.2.2.1 s.2.2.2.2.2.2.1 s.2.2.2.2.2.2.2.1 s.2.2.2.2.2.2.2.2.1 s.2.2.2.2.2.2.2.2.2.1 s.2.2.2.2.2.2.2.2.2.2) D (fun s => Hs s.1 s.2.1 s.2.2.1 s.2.2.2.1 s.2.2.2.2.1 s.2.2.2.2.2.1 s.2.2.2.2.2.2.1 s.2.2.2.2.2.2.2.1 s.2.2.2.2.2.2.2.2.1 s.2.2.2.2.2.2.2.2.2.1 s.2.2.2.2.2.2.2.2.2.2) (fun s => μ s.1 s.2.1 s.2.2.1 s.2.2.2.1 s.2.2.2.2.1 s.2.2.2.2.2.1 s.2.2.2.2.2.2.1 s.2.2.2.2.2.2.2.1 s.2.2.2.2.2.2.2.2.1 s.2.2.2.2.2.2.2.2.2.1 s.2.2.2.2.2.2.2.2.2.2) (a0, a1, a2, a3, a4, a5, a6, a7, a8, a9, a10) h0 hE hH (fun s hs => T.mono (round s.1 s.2.1 s.2.2.1 s.2.2.2.1 s.2.2.2.2.1 s.2.2.2.2.2.1 s.2.2.2.2.2.2.1 s.2.2.2.2.2.2.2.1 s.2.2.2.2.2.2.2.2.1 s.2.2.2.2.2.2.2.2.2.1 s.2.2.2.2.2.2.2.2.2.2 hs) (fun e ac w h => by
    cases e with
    | normal => obtain ⟨b0, b1, b2, b3, b4, b5, b6, b7, b8, b9, b10, h1, h2, h3, h4⟩ := h; exact ⟨(b0, b1, b2, b3, b4, b5, b6, b7, b8, b9, b10), h1, h2, h3, h4⟩
    | _ => exact h))
theorem X.again11 {α0 α1 α2 α3 α4 α5 α6 α7 α8 α9 α10 : Type} {φ : α0 → α1 → α2 → α3 → α4 → α5 → α6 → α7 → α8 → α9 → α10 → Prop} {L : α0 → α1 → α2 → α3 → α4 → α5 → α6 → α7 → α8 → α9 → α10 → Env} {D : List Nat} {E0 : Env} {Hs : α0 → α1 → α2 → α3 → α4 → α5 → α6 → α7 → α8 → α9 → α10 → Heap} {μ : α0 → α1 → α2 → α3 → α4 → α5 → α6 → α7 → α8 → α9 → α10 → Nat} {m : Nat} (b0 : α0) (b1 : α1) (b2 : α2) (b3 : α3) (b4 : α4) (b5 : α5) (b6 : α6) (b7 : α7) (b8 : α8) (b9 : α9) (b10 : α10) (hφ : φ b0 b1 b2 b3 b4 b5 b6 b7 b8 b9 b10) (hμ : μ b0 b1 b2 b3 b4 b5 b6 b7 b8 b9 b10 < m)
    (hL : AllF (L b0 b1 b2 b3 b4 b5 b6 b7 b8 b9 b10) E) (hK : AllF (wo D E0) E) (hH : Pick (Hs b0 b1 b2 b3 b4 b5 b6 b7 b8 b9 b10) H) :
    X C (Exit.then (fun ac w => ∃ (b0 : α0) (b1 : α1) (b2 : α2) (b3 : α3) (b4 : α4) (b5 : α5) (b6 : α6) (b7 : α7) (b8 : α8) (b9 : α9) (b10 : α10), φ b0 b1 b2 b3 b4 b5 b6 b7 b8 b9 b10 ∧ μ b0 b1 b2 b3 b4 b5 b6 b7 b8 b9 b10 < m ∧ Fits C.n C.D (L b0 b1 b2 b3 b4 b5 b6 b7 b8 b9 b10 ++ wo D E0) ac ∧ Inv C.w0 C.M w (Hs b0 b1 b2 b3 b4 b5 b6 b7 b8 b9 b10)) Q) .normal E H :=
  fun _ _ hf hi => ⟨b0, b1, b2, b3, b4, b5, b6, b7, b8, b9, b10, hφ, hμ, fits_again hf hL hK, hi.pick hH⟩
theorem T.meet11 {α0 α1 α2 α3 α4 α5 α6 α7 α8 α9 α10 : Type} (φ : α0 → α1 → α2 → α3 → α4 → α5 → α6 → α7 → α8 → α9 → α10 → Prop) (L : α0 → α1 → α2 → α3 → α4 → α5 → α6 → α7 → α8 → α9 → α10 → Env) (D : List Nat) (Hs : α0 → α1 → α2 → α3 → α4 → α5 → α6 → α7 → α8 → α9 → α10 → Heap)
    (hx : T C x (Exit.then (fun ac w => ∃ (b0 : α0) (b1 : α1) (b2 : α2) (b3 : α3) (b4 : α4) (b5 : α5) (b6 : α6) (b7 : α7) (b8 : α8) (b9 : α9) (b10 : α10), φ b0 b1 b2 b3 b4 b5 b6 b7 b8 b9 b10 ∧ Fits C.n C.D (L b0 b1 b2 b3 b4 b5 b6 b7 b8 b9 b10 ++ wo D E) ac ∧ Inv C.w0 C.M w (Hs b0 b1 b2 b3 b4 b5 b6 b7 b8 b9 b10)) Q) E H)
    (hy : ∀ (b0 : α0) (b1 : α1) (b2 : α2) (b3 : α3) (b4 : α4) (b5 : α5) (b6 : α6) (b7 : α7) (b8 : α8) (b9 : α9) (b10 : α10), φ b0 b1 b2 b3 b4 b5 b6 b7 b8 b9 b10 → T C y Q (L b0 b1 b2 b3 b4 b5 b6 b7 b8 b9 b10 ++ wo D E) (Hs b0 b1 b2 b3 b4 b5 b6 b7 b8 b9 b10)) : T C (.seq x y) Q E H := by
  intro ac w hf hi
  refine wpIn_seq (wpIn_mono (hx ac w hf hi) ?_)
  intro e ac w h
  cases e with
  | normal => obtain ⟨b0, b1, b2, b3, b4, b5, b6, b7, b8, b9, b10, h1, h2, h3⟩ := h; exact hy b0 b1 b2 b3 b4 b5 b6 b7 b8 b9 b10 h1 ac w h2 h3
  | _ => exact h
theorem X.met11 {α0 α1 α2 α3 α4 α5 α6 α7 α8 α9 α10 : Type} {φ : α0 → α1 → α2 → α3 → α4 → α5 → α6 → α7 → α8 → α9 → α10 → Prop} {L : α0 → α1 → α2 → α3 → α4 → α5 → α6 → α7 → α8 → α9 → α10 → Env} {D : List Nat} {E0 : Env} {Hs : α0 → α1 → α2 → α3 → α4 → α5 → α6 → α7 → α8 → α9 → α10 → Heap} (b0 : α0) (b1 : α1) (b2 : α2) (b3 : α3) (b4 : α4) (b5 : α5) (b6 : α6) (b7 : α7) (b8 : α8) (b9 : α9) (b10 : α10) (hφ : φ b0 b1 b2 b3 b4 b5 b6 b7 b8 b9 b10) (hL : AllF (L b0 b1 b2 b3 b4 b5 b6 b7 b8 b9 b10) E) (hK : AllF (wo D E0) E) (hH : Pick (Hs b0 b1 b2 b3 b4 b5 b6 b7 b8 b9 b10) H) :
    X C (Exit.then (fun ac w => ∃ (b0 : α0) (b1 : α1) (b2 : α2) (b3 : α3) (b4 : α4) (b5 : α5) (b6 : α6) (b7 : α7) (b8 : α8) (b9 : α9) (b10 : α10), φ b0 b1 b2 b3 b4 b5 b6 b7 b8 b9 b10 ∧ Fits C.n C.D (L b0 b1 b2 b3 b4 b5 b6 b7 b8 b9 b10 ++ wo D E0) ac ∧ Inv C.w0 C.M w (Hs b0 b1 b2 b3 b4 b5 b6 b7 b8 b9 b10)) Q) .normal E H :=
  fun _ _ hf hi => ⟨b0, b1, b2, b3, b4, b5, b6, b7, b8, b9, b10, hφ, fits_again hf hL hK, hi.pick hH⟩
theorem T.loop12 {α0 α1 α2 α3 α4 α5 α6 α7 α8 α9 α10 α11 : Type} (φ : α0 → α1 → α2 → α3 → α4 → α5 → α6 → α7 → α8 → α9 → α10 → α11 → Prop) (L : α0 → α1 → α2 → α3 → α4 → α5 → α6 → α7 → α8 → α9 → α10 → α11 → Env) (D : List Nat) (Hs : α0 → α1 → α2 → α3 → α4 → α5 → α6 → α7 → α8 → α9 → α10 → α11 → Heap) (μ : α0 → α1 → α2 → α3 → α4 → α5 → α6 → α7 → α8 → α9 → α10 → α11 → Nat) (a0 : α0) (a1 : α1) (a2 : α2) (a3 : α3) (a4 : α4) (a5 : α5) (a6 : α6) (a7 : α7) (a8 : α8) (a9 : α9) (a10 : α10) (a11 : α11) (h0 : φ a0 a1 a2 a3 a4 a5 a6 a7 a8 a9 a10 a11)
    (hE : AllF (L a0 a1 a2 a3 a4 a5 a6 a7 a8 a9 a10 a11) E) (hH : Pick (Hs a0 a1 a2 a3 a4 a5 a6 a7 a8 a9 a10 a11) H)
    (round : ∀ (a0 : α0) (a1 : α1) (a2 : α2) (a3 : α3) (a4 : α4) (a5 : α5) (a6 : α6) (a7 : α7) (a8 : α8) (a9 : α9) (a10 : α10) (a11 : α11), φ a0 a1 a2 a3 a4 a5 a6 a7 a8 a9 a10 a11 → T C c (Exit.then (fun ac w => ∃ (b0 : α0) (b1 : α1) (b2 : α2) (b3 : α3) (b4 : α4) (b5 : α5) (b6 : α6) (b7 : α7) (b8 : α8) (b9 : α9) (b10 : α10) (b11 : α11), φ b0 b1 b2 b3 b4 b5 b6 b7 b8 b9 b10 b11 ∧ μ b0 b1 b2 b3 b4 b5 b6 b7 b8 b9 b10 b11 < μ a0 a1 a2 a3 a4 a5 a6 a7 a8 a9 a10 a11 ∧ Fits C.n C.D (L b0 b1 b2 b3 b4 b5 b6 b7 b8 b9 b10 b11 ++ wo D E) ac ∧ Inv C.w0 C.M w (Hs b0 b1 b2 b3 b4 b5 b6 b7 b8 b9 b10 b11)) Q) (L a0 a1 a2 a3 a4 a5 a6 a7 a8 a9 a10 a11 ++ wo D E) (Hs a0 a1 a2 a3 a4 a5 a6 a7 a8 a9 a10 a11)) :
    T C (.loop c) Q E H :=
  T.loop (α := α0 × α1 × α2 × α3 × α4 × α5 × α6 × α7 × α8 × α9 × α10 × α11) (fun s => φ s.1 s.2.1 s.2.2.1 s.2.2.2.1 s.2.2.2.2.1 s.2.2.2.2.2.1 s.2.2.2.2.2.2.1 s.2.2.2.2.2.2.2.1 s.2.2.2.2.2.2.2.2.1 s.2.2.2.2.2.2.2.2.2.1 s.2.2.2.2.2.2.2.2.2.2.1 s.2.2.2.2.2.2.2.2.2.2.2) (fun s => L s.1 s.2.1 s.2.2.1 s.2.2.2.1 s.2.2.2.2.1 s.2.2.2.2.2.1 s.2.2.2.2.2.2.1 s.2.2.2.2.2.2.2.1 s.2.2.2.2.2.2.2.2.1 s.2.2.2.2.2.2.2.2.2.1 s.2.2.2.2.2.2.2.2.2.2.1 s.2.2.2.2.2.2.2.2.2.2.2) D (fun s => Hs s.1 s.2.1 s.2.2.1 s.2.2.2.1 s.2.2.2.2.1 s.2.2.2.2.2.1 s.2.2.2.2.2.2.1 s.2.2.2.2.2.2.2.1 s.2.2.2.2.2.2.2.2.1 s.2.2.2.2.2.2.2.2.2.1 s.2.2.2.2.2.2.2.2.2.2.1 s.2.2.2.2.2.2.2.2.2.2.2) (fun s => μ s.1 s.2.1 s.2.2.1 s.2.2.2.1 s.2.2.2.2.1 s.2.2.2.2.2.1 s.2.2.2.2.2.2.1 s.2.2.2.2.2.2.2.1 s.2.2.2.2.2.2.2.2.1 s.2.2.2.2.2.2.2.2.2.1 s.2.2.2.2.2.2.2.2.2.2.1 s.2.2.2.2.2.2.2.2.2.2.2) (a0, a1, a2, a3, a4, a5, a6, a7, a8, a9, a10, a11) h0 hE hH (fun s hs => T.mono (round s.1 s.2.1 s.2.2.1 s.2.2.2.1 s.2.2.2.2.1 s.2.2.2.2.2.1 s.2.2.2.2.2.2.1 s.2.2.2.2.2.2.2.1 s.2.2.2.2.2.2.2.2.1 s.2.2.2.2.2.2.2.2.2.1 s.2.2.2.2.2.2.2.2.2.2.1 s.2.2.2.2.2.2.2.2.2.2.2 hs) (fun e ac w h => by
    cases e with
    | normal => obtain ⟨b0, b1, b2, b3, b4, b5, b6, b7, b8, b9, b10, b11, h1, h2, h3, h4⟩ := h; exact ⟨(b0, b1, b2, b3, b4, b5, b6, b7, b8, b9, b10, b11), h1, h2, h3, h4⟩
    | _ => exact h))
theorem X.again12 {α0 α1 α2 α3 α4 α5 α6 α7 α8 α9 α10 α11 : Type} {φ : α0 → α1 → α2 → α3 → α4 → α5 → α6 → α7 → α8 → α9 → α10 → α11 → Prop} {L : α0 → α1 → α2 → α3 → α4 → α5 → α6 → α7 → α8 → α9 → α10 → α11 → Env} {D : List Nat} {E0 : Env} {Hs : α0 → α1 → α2 → α3 → α4 → α5 → α6 → α7 → α8 → α9 → α10 → α11 → Heap} {μ : α0 → α1 → α2 → α3 → α4 → α5 → α6 → α7 → α8 → α9 → α10 → α11 → Nat} {m : Nat} (b0 : α0) (b1 : α1) (b2 : α2) (b3 : α3) (b4 : α4) (b5 : α5) (b6 : α6) (b7 : α7) (b8 : α8) (b9 : α9) (b10 : α10) (b11 : α11) (hφ : φ b0 b1 b2 b3 b4 b5 b6 b7 b8 b9 b10 b11) (hμ : μ b0 b1 b2 b3 b4 b5 b6 b7 b8 b9 b10 b11 < m)
    (hL : AllF (L b0 b1 b2 b3 b4 b5 b6 b7 b8 b9 b10 b11) E) (hK : AllF (wo D E0) E) (hH : Pick (Hs b0 b1 b2 b3 b4 b5 b6 b7 b8 b9 b10 b11) H) :
    X C (Exit.then (fun ac w => ∃ (b0 : α0) (b1 : α1) (b2 : α2) (b3 : α3) (b4 : α4) (b5 : α5) (b6 : α6) (b7 : α7) (b8 : α8) (b9 : α9) (b10 : α10) (b11 : α11), φ b0 b1 b2 b3 b4 b5 b6 b7 b8 b9 b10 b11 ∧ μ b0 b1 b2 b3 b4 b5 b6 b7 b8 b9 b10 b11 < m ∧ Fits C.n C.D (L b0 b1 b2 b3 b4 b5 b6 b7 b8 b9 b10 b11 ++ wo D E0) ac ∧ Inv C.w0 C.M w (Hs b0 b1 b2 b3 b4 b5 b6 b7 b8 b9 b10 b11)) Q) .normal E H :=
  fun _ _ hf hi => ⟨b0, b1, b2, b3, b4, b5, b6, b7, b8, b9, b10, b11, hφ, hμ, fits_again hf hL hK, hi.pick hH⟩
theorem T.meet12 {α0 α1 α2 α3 α4 α5 α6 α7 α8 α9 α10 α11 : Type} (φ : α0 → α1 → α2 → α3 → α4 → α5 → α6 → α7 → α8 → α9 → α10 → α11 → Prop) (L : α0 → α1 → α2 → α3 → α4 → α5 → α6 → α7 → α8 → α9 → α10 → α11 → Env) (D : List Nat) (Hs : α0 → α1 → α2 → α3 → α4 → α5 → α6 → α7 → α8 → α9 → α10 → α11 → Heap)
    (hx : T C x (Exit.then (fun ac w => ∃ (b0 : α0) (b1 : α1) (b2 : α2) (b3 : α3) (b4 : α4) (b5 : α5) (b6 : α6) (b7 : α7) (b8 : α8) (b9 : α9) (b10 : α10) (b11 : α11), φ b0 b1 b2 b3 b4 b5 b6 b7 b8 b9 b10 b11 ∧ Fits C.n C.D (L b0 b1 b2 b3 b4 b5 b6 b7 b8 b9 b10 b11 ++ wo D E) ac ∧ Inv C.w0 C.M w (Hs b0 b1 b2 b3 b4 b5 b6 b7 b8 b9 b10 b11)) Q) E H)
    (hy : ∀ (b0 : α0) (b1 : α1) (b2 : α2) (b3 : α3) (b4 : α4) (b5 : α5) (b6 : α6) (b7 : α7) (b8 : α8) (b9 : α9) (b10 : α10) (b11 : α11), φ b0 b1 b2 b3 b4 b5 b6 b7 b8 b9 b10 b11 → T C y Q (L b0 b1 b2 b3 b4 b5 b6 b7 b8 b9 b10 b11 ++ wo D E) (Hs b0 b1 b2 b3 b4 b5 b6 b7 b8 b9 b10 b11)) : T C (.seq x y) Q E H := by
  intro ac w hf hi
  refine wpIn_seq (wpIn_mono (hx ac w hf hi) ?_)
  intro e ac w h
  cases e with
  | normal => obtain ⟨b0, b1, b2, b3, b4, b5, b6, b7, b8, b9, b10, b11, h1, h2, h3⟩ := h; exact hy b0 b1 b2 b3 b4 b5 b6 b7 b8 b9 b10 b11 h1 ac w h2 h3
  | _ => exact h
theorem X.met12 {α0 α1 α2 α3 α4 α5 α6 α7 α8 α9 α10 α11 : Type} {φ : α0 → α1 → α2 → α3 → α4 → α5 → α6 → α7 → α8 → α9 → α10 → α11 → Prop} {L : α0 → α1 → α2 → α3 → α4 → α5 → α6 → α7 → α8 → α9 → α10 → α11 → Env} {D : List Nat} {E0 : Env} {Hs : α0 → α1 → α2 → α3 → α4 → α5 → α6 → α7 → α8 → α9 → α10 → α11 → Heap} (b0 : α0) (b1 : α1) (b2 : α2) (b3 : α3) (b4 : α4) (b5 : α5) (b6 : α6) (b7 : α7) (b8 : α8) (b9 : α9) (b10 : α10) (b11 : α11) (hφ : φ b0 b1 b2 b3 b4 b5 b6 b7 b8 b9 b10 b11) (hL : AllF (L b0 b1 b2 b3 b4 b5 b6 b7 b8 b9 b10 b11) E) (hK : AllF (wo D E0) E) (hH : Pick (Hs b0 b1 b2 b3 b4 b5 b6 b7 b8 b9 b10 b11) H) :
    X C (Exit.then (fun ac w => ∃ (b0 : α0) (b1 : α1) (b2 : α2) (b3 : α3) (b4 : α4) (b5 : α5) (b6 : α6) (b7 : α7) (b8 : α8) (b9 : α9) (b10 : α10) (b11 : α11), φ b0 b1 b2 b3 b4 b5 b6 b7 b8 b9 b10 b11 ∧ Fits C.n C.D (L b0 b1 b2 b3 b4 b5 b6 b7 b8 b9 b10 b11 ++ wo D E0) ac ∧ Inv C.w0 C.M w (Hs b0 b1 b2 b3 b4 b5 b6 b7 b8 b9 b10 b11)) Q) .normal E H :=
  fun _ _ hf hi => ⟨b0, b1, b2, b3, b4, b5, b6, b7, b8, b9, b10, b11, hφ, fits_again hf hL hK, hi.pick hH⟩
end
end Go.Acq
