/- Texts of this claim, one behind the other. -/
import Derived.WalkKit
import Derived.RangeFuncIn
import Derived.CallsIn
import Derived.Deep.AppendSrc
import Derived.Deep.MidRow
import Derived.Great.BuildSlice
import Derived.KernelRfl
import Derived.OrdersIn
import Derived.Maps.RangeRun
import Derived.Laws.Bits64b
import Derived.Deep.Slices
import Derived.Deep.Fields
import Derived.ChangeSame
import Derived.Lib.SmallJoins
import Derived.ProofKit
import Derived.ChangeArms
import Derived.RangeFuncSeq
import Derived.Conc.LoneCalls
import Derived.Conc.LoneSelectN
import Derived.Conc.SmallLaws
import Derived.Laws.StructEq
import Derived.Scope
import Derived.ChangeKeysEq
set_option linter.unusedVariables false
set_option linter.unusedSimpArgs false
namespace Go.Acq
open Go Go.RowKit
theorem Ys {α β:Type}{a:α}{b:β}:a=a∧b=b:=⟨rfl,rfl⟩
theorem Zj {α β γ:Type}{a:α}{b:β}{c:γ}:a=a∧b=b∧c=c:=⟨rfl,rfl,rfl⟩
theorem Za {α β γ δ:Type}{a:α}{b:β}{c:γ}{d:δ}:a=a∧b=b∧c=c∧d=d:=⟨rfl,rfl,rfl,rfl⟩
theorem Zb {α β γ δ ε:Type}{a:α}{b:β}{c:γ}{d:δ}{e:ε}:a=a∧b=b∧c=c∧d=d∧e=e:=⟨rfl,rfl,rfl,rfl,rfl⟩
theorem Zl {α β γ δ ε ζ:Type}{a:α}{b:β}{c:γ}{d:δ}{e:ε}{f:ζ}:a=a∧b=b∧c=c∧d=d∧e=e∧f=f:=⟨rfl,rfl,rfl,rfl,rfl,rfl⟩
theorem rr7 {α β γ δ ε ζ η:Type}{a:α}{b:β}{c:γ}{d:δ}{e:ε}{f:ζ}{g:η}:a=a∧b=b∧c=c∧d=d∧e=e∧f=f∧g=g:=⟨rfl,rfl,rfl,rfl,rfl,rfl,rfl⟩
theorem rr8 {α β γ δ ε ζ η θ:Type}{a:α}{b:β}{c:γ}{d:δ}{e:ε}{f:ζ}{g:η}{h:θ}:a=a∧b=b∧c=c∧d=d∧e=e∧f=f∧g=g∧h=h:=⟨rfl,rfl,rfl,rfl,rfl,rfl,rfl,rfl⟩
abbrev Env:=List (Nat×Value)
abbrev Heap:=List (Option Nat×Obj)
def find:Env→Nat→Option Value
  | [],_=>none
  | (d,v)::E,t=>cond (Nat.beq d t) (some v) (find E t)
def ev (E:Env):Operand→Option Value
  | .tmp t=>find E t
  | .const v=>some v
  | .global g=>some (.pointer (some ⟨g,0,none⟩))
  | .func f=>some (.func (.func f) #[] #[])
structure Fits (n:Nat)(D:List Deferred)(E:Env)(a:Act):Prop where
  size:a.tmps.size=n
  defers:a.defers=D
  get:∀ t v,find E t=some v→a.tmps.getD t undef=v
section fits
variable {n : Nat} {D : List Deferred} {E E' : Env} {a : Act} {x : Operand} {v : Value} {d : Nat}
theorem Fits.ev (h:Fits n D E a)(hx:ev E x=some v):a.eval x=v:=by
 cases x with
 | tmp t=>exact h.get t v hx
 | const u=>simpa [Acq.ev,Act.eval] using hx
 | global g=>simpa [Acq.ev,Act.eval] using hx
 | func f=>simpa [Acq.ev,Act.eval] using hx
theorem Kb (d t:Nat)(v:Value)(E:Env):find ((d,v)::E) t=if d=t then some v else find E t:=by
 simp only [find]
 by_cases h:d=t
 ·subst h;simp
 ·
  rw [if_neg h]
  have:Nat.beq d t=false:=by
   cases hb:Nat.beq d t
   ·rfl
   ·exact absurd (Nat.eq_of_beq_eq_true hb) h
  simp [this]
theorem Fits.put (h:Fits n D E a)(hd:Nat.ble (d+1) n=true)(v:Value):Fits n D ((d,v)::E) (a.put (some d) v):=by
 have hdn:d<n:=Nat.le_of_ble_eq_true hd
 refine ⟨by simpa [Act.put] using h.size,h.defers,fun t u hu=>?_⟩
 rw [Kb] at hu
 by_cases e:d=t
 ·
  subst e
  rw [if_pos rfl] at hu
  simp only [Act.put,Array.getD_eq_getD_getElem?]
  have:d<a.tmps.size:=by rw [h.size];exact hdn
  simp [this]
  simpa using hu
 ·
  rw [if_neg e] at hu
  have:=h.get t u hu
  simp only [Act.put,Array.getD_eq_getD_getElem?] at *
  simp [e,this]
theorem Fits.putNone (h:Fits n D E a)(v:Value):Fits n D E (a.put none v):=h
theorem Fits.weak (h:Fits n D E a)(hs:∀ t v,find E' t=some v→find E t=some v):Fits n D E' a:=⟨h.size,h.defers,fun t v hv=>h.get t v (hs t v hv)⟩
end fits
def AllF:Env→Env→Prop
  | [],_=>True
  | (t,v)::L,E=>find E t=some v∧AllF L E
theorem AllF.sub:∀ {L E:Env},AllF L E→∀ t v,find L t=some v→find E t=some v
 | [],_,_,t,v,h=>by simp [find] at h
 | (d,u)::L,E,⟨h1,h2⟩,t,v,h=>by
  rw [Kb] at h
  by_cases e:d=t
  ·subst e;rw [if_pos rfl] at h;rw [h1];exact h
  ·rw [if_neg e] at h;exact AllF.sub h2 t v h
def wo:List Nat→Env→Env
  | _,[]=>[]
  | D,(t,v)::E=>cond (D.any (Nat.beq t)) (wo D E) ((t,v)::wo (t::D) E)
theorem any_beq {t:Nat}:∀ {D:List Nat},D.any (Nat.beq t)=true↔t∈D
 | []=>by simp
 | d::D=>by
  simp only [List.any_cons,Bool.or_eq_true,List.mem_cons,any_beq]
  constructor
  ·
   rintro (h | h)
   ·exact .inl (Nat.eq_of_beq_eq_true h)
   ·exact .inr h
  ·
   rintro (rfl | h)
   ·exact .inl (by simp)
   ·exact .inr h
theorem Z22:∀ (E:Env) (D:List Nat) (t:Nat) (v:Value),find (wo D E) t=some v→t∉D∧find E t=some v
 | [],D,t,v,h=>by simp [wo,find] at h
 | (d,u)::E,D,t,v,h=>by
  simp only [wo] at h
  cases hb:D.any (Nat.beq d) with
  | true =>
   rw [hb] at h
   obtain ⟨h1,h2⟩:=Z22 E D t v h
   refine ⟨h1,?_⟩
   rw [Kb,if_neg]
   ·exact h2
   ·rintro rfl;exact h1 (any_beq.1 hb)
  | false =>
   rw [hb] at h
   simp only [cond_false] at h
   rw [Kb] at h
   by_cases e:d=t
   ·
    subst e
    rw [if_pos rfl] at h
    refine ⟨fun hm=>?_,by rw [Kb,if_pos rfl];exact h⟩
    rw [any_beq.2 hm] at hb;cases hb
   ·
    rw [if_neg e] at h
    obtain ⟨h1,h2⟩:=Z22 E (d::D) t v h
    exact ⟨fun hm=>h1 (.tail _ hm),by rw [Kb,if_neg e];exact h2⟩
theorem Gx (L E:Env)(t:Nat):find (L++E) t=(find L t).or (find E t):=by
 induction L with
 | nil=>simp [find]
 | cons p L ih =>
  obtain ⟨d,v⟩:=p
  rw [List.cons_append,Kb,Kb]
  split
  ·simp
  ·exact ih
structure Inv (w0:World)(M:List Nat)(w:World)(H:Heap):Prop where
  os:w.os=w0.os
  tape:w.tape=w0.tape
  output:w.output=w0.output
  size:w0.heap.size≤w.heap.size
  keep:∀ b,b<w0.heap.size→b∉M→w.heap[b]?=w0.heap[b]?
  own:∀ b o,(some b,o)∈H→w.heap[b]?=some o
  low:∀ b o,(some b,o)∈H→w0.heap.size≤b∨b∈M
  apart:(H.filterMap (·.1)).Nodup
section inv
variable {w0 w w' w'' : World} {M : List Nat} {H H' N R : Heap} {b : Nat} {o o' : Obj}
theorem Inv.below (h:Inv w0 [] w H):Below w0.heap.size w0 w:=⟨h.os,h.tape,h.output,h.size,fun k hk=>h.keep k hk (by simp)⟩
theorem Inv.refl (w:World):Inv w [] w []:=⟨rfl,rfl,rfl,Nat.le_refl _,fun _ _ _=>rfl,by simp,by simp,by simp⟩
theorem Nq {b:Nat}{o:Obj}{H:Heap}(h:(some b,o)∈H):b∈H.filterMap (·.1):=List.mem_filterMap.2 ⟨_,h,rfl⟩
theorem Nj {b:Nat}{H:Heap}(h:b∈H.filterMap (·.1)):∃ o,(some b,o)∈H:=by
 obtain ⟨⟨x,o⟩,hm,hx⟩:=List.mem_filterMap.1 h
 simp only at hx
 subst hx
 exact ⟨o,hm⟩
theorem Inv.lt (h:Inv w0 M w H)(hp:(some b,o)∈H):b<w.heap.size:=(Array.getElem?_eq_some_iff.1 (h.own b o hp)).1
theorem Inv.ofHeap (h:Inv w0 M w H)(hh:w'.heap=w.heap)(h1:w'.os=w.os)(h2:w'.tape=w.tape)(h3:w'.output=w.output):Inv w0 M w' H :=
 ⟨h1.trans h.os,h2.trans h.tape,h3.trans h.output,by rw [hh];exact h.size,by rw [hh];exact h.keep,by rw [hh];exact h.own,h.low,h.apart⟩
theorem Inv.drew (h:Inv w0 M w H):Inv w0 M w.drew H:=h.ofHeap rfl rfl rfl rfl
theorem Inv.alloc (h:Inv w0 M w H)(o:Obj):Inv w0 M (w.alloc o) ((some w.heap.size,o)::H):=by
 have hsz:(w.alloc o).heap.size=w.heap.size+1:=World.size_alloc ..
 refine ⟨h.os,h.tape,h.output,by rw [hsz];have:=h.size;omega,fun b hb hm=>?_,fun b o' hp=>?_,fun b o' hp=>?_,?_⟩
 ·rw [Below.heap_alloc _ _ _ (by have:=h.size;omega)];exact h.keep b hb hm
 ·
  rcases List.mem_cons.1 hp with e | hp
  ·
   injection e with e1 e2
   injection e1 with e1
   subst e1;subst e2
   show (w.heap.push o')[w.heap.size]?=some o'
   simp
  ·rw [Below.heap_alloc _ _ _ (h.lt hp)];exact h.own b o' hp
 ·
  rcases List.mem_cons.1 hp with e | hp
  ·
   injection e with e1 e2
   injection e1 with e1
   subst e1
   exact .inl h.size
  ·exact h.low b o' hp
 ·
  simp only [List.filterMap_cons,List.nodup_cons]
  refine ⟨fun hm=>?_,h.apart⟩
  obtain ⟨o',hm⟩:=Nj hm
  have:=h.lt hm
  omega
theorem Inv.addNone (h:Inv w0 M w H)(o:Obj):Inv w0 M w ((none,o)::H) :=
 ⟨h.os,h.tape,h.output,h.size,h.keep,fun b o' hp=>h.own b o' (by simpa using hp),fun b o' hp=>h.low b o' (by simpa using hp),by simpa using h.apart⟩
def Take (p:Option Nat×Obj)(H R:Heap):Prop:=List.Perm H (p::R)
theorem Take.head (p:Option Nat×Obj)(H:Heap):Take p (p::H) H:=List.Perm.refl _
theorem Take.tail {p q:Option Nat×Obj}(h:Take p H R):Take p (q::H) (q::R) :=
 (List.Perm.cons q h).trans (List.Perm.swap p q R)
theorem Take.mem {p:Option Nat×Obj}(h:Take p H R):p∈H:=(List.Perm.mem_iff h).2 (.head _)
def Pick (H' H:Heap):Prop:=∃ R ns:Heap,(∀ x,x∈ns→x.1=none)∧List.Perm (H++ns) (H'++R)
theorem Zg:Pick [] H:=⟨H,[],by simp,by simp⟩
theorem Zv (H:Heap):Pick H H:=⟨[],[],by simp,by simp⟩
theorem Zd {p:Option Nat×Obj}(h:Take p H R)(hp:Pick H' R):Pick (p::H') H:=by
 obtain ⟨S,ns,hn,hS⟩:=hp
 exact ⟨S,ns,hn,(List.Perm.append_right ns h).trans (List.Perm.cons p hS)⟩
theorem Pick.none {o:Obj}(hp:Pick H' H):Pick ((none,o)::H') H:=by
 obtain ⟨S,ns,hn,hS⟩:=hp
 refine ⟨S,(Option.none,o)::ns,fun x hx=>?_,?_⟩
 ·
  rcases List.mem_cons.1 hx with rfl | hx
  ·rfl
  ·exact hn x hx
 ·exact List.perm_middle.trans (List.Perm.cons _ hS)
theorem Na {S:Heap}(h:List.Perm H (H'++S)):Pick H' H:=⟨S,[],by simp,by simpa using h⟩
theorem Inv.perm (h:Inv w0 M w H)(hp:List.Perm H H'):Inv w0 M w H' :=
 ⟨h.os,h.tape,h.output,h.size,h.keep,fun b o hm=>h.own b o ((List.Perm.mem_iff hp).2 hm),fun b o hm=>h.low b o ((List.Perm.mem_iff hp).2 hm),(List.Perm.nodup_iff (hp.filterMap _)).1 h.apart⟩
theorem Inv.left (h:Inv w0 M w (H++R)):Inv w0 M w H :=
 ⟨h.os,h.tape,h.output,h.size,h.keep,fun b o hm=>h.own b o (List.mem_append_left _ hm),fun b o hm=>h.low b o (List.mem_append_left _ hm),by
  have:=h.apart
  rw [List.filterMap_append] at this
  exact (List.nodup_append.1 this).1⟩
theorem Inv.nones (h:Inv w0 M w H):∀ {ns:Heap},(∀ x,x∈ns→x.1=none)→Inv w0 M w (H++ns)
 | [],_=>by simpa using h
 | (x,o)::ns,hn=>by
  have h1:=hn (x,o) (.head _)
  simp only at h1
  subst h1
  exact ((Inv.nones h (ns:=ns) (fun y hy=>hn y (.tail _ hy))).addNone o).perm List.perm_middle.symm
theorem Inv.pick (h:Inv w0 M w H)(hp:Pick H' H):Inv w0 M w H':=by
 obtain ⟨R,ns,hn,hR⟩:=hp
 exact ((h.nones hn).perm hR).left
theorem Inv.upd (h:Inv w0 M w H)(ht:Take (some b,o) H R)(h1:w'.os=w.os)(h2:w'.tape=w.tape)(h3:w'.output=w.output)(hs:w'.heap.size=w.heap.size)
    (hb:w'.heap[b]?=some o')(ho:∀ k,k≠b→w'.heap[k]?=w.heap[k]?):Inv w0 M w' ((some b,o')::R):=by
  have g:=h.perm ht
  have ga:=g.apart
  simp only [List.filterMap_cons,List.nodup_cons] at ga
  refine ⟨h1.trans h.os,h2.trans h.tape,h3.trans h.output,by rw [hs];exact h.size,fun k hk hm=>?_,fun k p hp=>?_,fun k p hp=>?_,?_⟩
  · rw [ho k ?_]
    ·exact h.keep k hk hm
    · rintro rfl
      rcases g.low k o (.head _) with hl | hl
      ·omega
      ·exact hm hl
  · rcases List.mem_cons.1 hp with e | hp
    · injection e with e1 e2
      injection e1 with e1
      subst e1;subst e2
      exact hb
    · rw [ho k ?_]
      ·exact g.own k p (.tail _ hp)
      · intro e
        exact ga.1 (e▸Nq hp)
  · rcases List.mem_cons.1 hp with e | hp
    · injection e with e1 e2
      injection e1 with e1
      subst e1
      exact g.low k o (.head _)
    ·exact g.low k p (.tail _ hp)
  ·simpa using ga
theorem Inv.join {M':List Nat}{Hm:Heap}(h:Inv w0 M w H)(hH:List.Perm H (Hm++R))(hM:∀ m,m∈M'→m∈Hm.filterMap (·.1))(g:Inv w M' w' N):Inv w0 M w' (N++R):=by
 have hp:=h.perm hH
 have ha:=hp.apart
 rw [List.filterMap_append] at ha
 obtain ⟨_,ha2,ha3⟩:=List.nodup_append.1 ha
 have hlowM:∀ m,m∈M'→w0.heap.size≤m∨m∈M:=fun m hm=>by
  obtain ⟨o,hpm⟩:=Nj (hM m hm)
  exact hp.low m o (List.mem_append_left _ hpm)
 refine ⟨g.os.trans h.os,g.tape.trans h.tape,g.output.trans h.output,Nat.le_trans h.size g.size,fun k hk hm=>?_,fun k p hpm=>?_,fun k p hpm=>?_,?_⟩
 ·
  rw [g.keep k (Nat.lt_of_lt_of_le hk h.size) ?_]
  ·exact h.keep k hk hm
  ·
   intro hm'
   rcases hlowM k hm' with hl | hl
   ·omega
   ·exact hm hl
 ·
  rcases List.mem_append.1 hpm with hpm | hpm
  ·exact g.own k p hpm
  ·
   rw [g.keep k (hp.lt (List.mem_append_right _ hpm)) ?_]
   ·exact hp.own k p (List.mem_append_right _ hpm)
   ·
    intro hm'
    exact ha3 _ (hM _ hm') _ (Nq hpm) rfl
 ·
  rcases List.mem_append.1 hpm with hpm | hpm
  ·
   rcases g.low k p hpm with hl | hl
   ·exact .inl (Nat.le_trans h.size hl)
   ·exact hlowM _ hl
  ·exact hp.low k p (List.mem_append_right _ hpm)
 ·
  rw [List.filterMap_append,List.nodup_append]
  refine ⟨g.apart,ha2,fun x hx y hy e=>?_⟩
  subst e
  obtain ⟨o1,hpN⟩:=Nj hx
  obtain ⟨o2,hqR⟩:=Nj hy
  have hlt:=hp.lt (List.mem_append_right Hm hqR)
  rcases g.low x o1 hpN with hl | hl
  ·omega
  ·exact ha3 _ (hM _ hl) _ hy rfl
theorem Inv.join0 (h:Inv w0 M w H)(g:Inv w [] w' N):Inv w0 M w' (N++H):=h.join (Hm:=[]) (List.Perm.refl _) (by simp) g
theorem Inv.cell_own (h:Inv w0 M w H){cs:Array Value}{T:TypeId}{fr:Nat×Nat}(hm:(some b,.cells cs T fr)∈H)(off:Nat):w.cell? ⟨b,off,none⟩=cs[off]?:=by
 have:=h.own _ _ hm
 simp [World.cell?,this]
theorem Inv.frozen_own (h:Inv w0 M w H){cs:Array Value}{T:TypeId}(hm:(some b,.cells cs T (0,0))∈H)(off:Nat):w.frozen? ⟨b,off,none⟩=false:=by
 have:=h.own _ _ hm
 simp [World.frozen?,this]
theorem Inv.cell_old (h:Inv w0 M w H){a:Addr}{v:Value}(hc:w0.cell? a=some v)(hm:a.block∉M):w.cell? a=some v:=by
 have hb:a.block<w0.heap.size:=by
  unfold World.cell? at hc
  split at hc
  ·
   rename_i he
   exact (Array.getElem?_eq_some_iff.1 he).1
  ·cases hc
 have:=h.keep a.block hb hm
 unfold World.cell? at *
 rw [this]
 exact hc
end inv
structure Cx where
  P:Program
  ρ:Option Nat
  n:Nat
  D:List Deferred
  w0:World
  M:List Nat
def FW (ρ:Option Nat):Fence:={ fn:=fun _=>True,depth:=none,alive:=false,round:=ρ }
def T (C:Cx)(c:Code)(Q:Exit→Act→World→Prop)(E:Env)(H:Heap):Prop :=
  ∀ a w,Fits C.n C.D E a→Inv C.w0 C.M w H→c.wpIn (FW C.ρ) 0 C.P Q a w
def TO (C:Cx)(ops:Array Oper)(Q:Exit→Act→World→Prop)(l:List Nat)(E:Env)(H:Heap):Prop :=
  ∀ a w,Fits C.n C.D E a→Inv C.w0 C.M w H→wpOpsIn (FW C.ρ) 0 C.P ops Q l a w
def X (C:Cx)(Q:Exit→Act→World→Prop)(e:Exit)(E:Env)(H:Heap):Prop :=
  ∀ a w,Fits C.n C.D E a→Inv C.w0 C.M w H→Q e a w
def Fnc (P:Program)(f:FuncId)(args:Array Value)(w:World)(M:List Nat)(Post:Value→Heap→Prop):Prop :=
  Calls P f args w (fun e w'=>∃ v N,Post v N∧e=.returned v∧Inv w M w' N)
def Wb (w:World)(M:List Nat)(Post:Value→Heap→Prop):Ending→World→Prop:=fun e w'=>∃ v N,Post v N∧e=.returned v∧Inv w M w' N
theorem Fnc.mono {P:Program}{f:FuncId}{args:Array Value}{w:World}{M:List Nat}{A B:Value→Heap→Prop}(h:Fnc P f args w M A)(hab:∀ v N,A v N→B v N):Fnc P f args w M B :=
 Calls.mono h fun _ _ ⟨v,N,hA,he,hi⟩=>⟨v,N,hab v N hA,he,hi⟩
theorem callsIn_FW {ρ:Option Nat}{n:Nat}{P:Program}{f:FuncId}{args:Array Value}{w:World}{R:Ending→World→Prop}:CallsIn (FW ρ) n P f args w R↔Calls P f args w R:=by
 have:CallsIn (FW ρ) n P f args w R↔CallsIn Fence.wide n P f args w R:=Iff.rfl
 rw [this];exact callsIn_wide
section control
variable {C : Cx} {Q : Exit → Act → World → Prop} {E E' : Env} {H H' : Heap} {c x y : Code}
theorem T.weak (h:T C c Q E' H')(hE:∀ t v,find E' t=some v→find E t=some v)(hH:Pick H' H):T C c Q E H :=
 fun a w hf hi=>h a w (hf.weak hE) (hi.pick hH)
theorem T.mono {Q':Exit→Act→World→Prop}(h:T C c Q' E H)(hq:∀ e a w,Q' e a w→Q e a w):T C c Q E H :=
 fun a w hf hi=>wpIn_mono (h a w hf hi) hq
theorem T.skip (h:X C Q .normal E H):T C .skip Q E H:=fun a w hf hi=>wpIn_skip (h a w hf hi)
theorem T.ret (h:X C Q .ret E H):T C .ret Q E H:=fun a w hf hi=>wpIn_ret (h a w hf hi)
theorem T.exit {id:Nat}(h:X C Q (.exit id) E H):T C (.exit id) Q E H:=fun a w hf hi=>wpIn_exit (h a w hf hi)
theorem Zh (h:T C x (Exit.then (y.wpIn (FW C.ρ) 0 C.P Q) Q) E H):T C (.seq x y) Q E H:=fun a w hf hi=>wpIn_seq (h a w hf hi)
theorem T.block {id:Nat}(h:T C c (Exit.inBlock id Q) E H):T C (.block id c) Q E H:=fun a w hf hi=>wpIn_block (h a w hf hi)
theorem T.region {id:Nat}{ops:Array Oper}(h:TO C ops Q (List.range ops.size) E H):T C (.region id ops false) Q E H :=
 fun a w hf hi=>wpIn_region (h a w hf hi)
theorem T.cond {o:Operand}{b:Bool}(ho:ev E o=some (.bool b))(ht:b=true→T C x Q E H)(hf:b=false→T C y Q E H):T C (.cond o x y) Q E H :=
 fun a w hfit hi=>wpIn_cond_split (hfit.ev ho) (fun h=>ht h a w hfit hi) (fun h=>hf h a w hfit hi)
theorem Yr {o:Operand}{b:Bool}(ho:ev E o=some (.bool b))(hb:b=true)(ht:T C x Q E H):T C (.cond o x y) Q E H:=T.cond ho (fun _=>ht) (fun h=>by rw [hb] at h;cases h)
theorem Xf {o:Operand}{b:Bool}(ho:ev E o=some (.bool b))(hb:b=false)(hf:T C y Q E H):T C (.cond o x y) Q E H:=T.cond ho (fun h=>by rw [hb] at h;cases h) (fun _=>hf)
theorem Yw {o:Operand}{p:Prop}{hp:Decidable p}(ho:ev E o=some (.bool (@decide p hp)))(hb:p)(ht:T C x Q E H):T C (.cond o x y) Q E H:=Yr ho (decide_eq_true hb) ht
theorem Yu {o:Operand}{p:Prop}{hp:Decidable p}(ho:ev E o=some (.bool (@decide p hp)))(hb:¬p)(hf:T C y Q E H):T C (.cond o x y) Q E H:=Xf ho (decide_eq_false hb) hf
theorem Zz (h:T C y Q E H):X C (Exit.then (y.wpIn (FW C.ρ) 0 C.P Q) Q) .normal E H:=h
theorem Zy {K:Act→World→Prop}(h:X C Q .ret E H):X C (Exit.then K Q) .ret E H:=h
theorem Xc {K:Act→World→Prop}{id:Nat}(h:X C Q (.exit id) E H):X C (Exit.then K Q) (.exit id) E H:=h
theorem Yv {id:Nat}(h:X C Q .normal E H):X C (Exit.inBlock id Q) .normal E H:=h
theorem Yy {id:Nat}(h:X C Q .ret E H):X C (Exit.inBlock id Q) .ret E H:=h
theorem Ve {id:Nat}(h:X C Q .normal E H):X C (Exit.inBlock id Q) (.exit id) E H:=fun a w hf hi=>by
 simp only [Exit.inBlock,if_true];exact h a w hf hi
theorem Zco {id j:Nat}(hj:Nat.beq j id=false)(h:X C Q (.exit j) E H):X C (Exit.inBlock id Q) (.exit j) E H:=fun a w hf hi=>by
 have:j≠id:=by rintro rfl;simp at hj
 simp only [Exit.inBlock,if_neg this];exact h a w hf hi
end control
end Go.Acq
namespace Go.Acq
open Go Go.RowKit
section
variable {C : Cx} {Q : Exit → Act → World → Prop} {E : Env} {H : Heap} {c x y : Code}
end
end Go.Acq
namespace Go.Acq
open Go Go.RowKit
def Xi (P:Program)(t:TypeId):Bool :=
  match P.underlying t with
  | some (.struct _) | some (.array _ _) | none=>false
  | _=>(P.info? t).map (·.size)==some 1
def Vs (P:Program)(t:TypeId)(k:Nat):Bool :=
  match P.underlying t with
  | some (.struct _) | some (.array _ _)=>(P.info? t).map (·.size)==some k
  | _=>false
def Yh (P:Program)(t:TypeId):Option Nat:=(P.info? t).map (·.size)
def Vb (P:Program)(t:TypeId):Option Nat:=(P.info? t).map (·.bytes)
def Yz (P:Program)(t:TypeId):Option Value:=(P.info? t).bind (·.zero)
def Yk (P:Program)(t:TypeId):Option TypeId :=
  match P.underlying t with
  | some (.slice e)=>some e
  | _=>none
def Wh (P:Program)(s:TypeId)(f:Nat):Option Nat :=
  match P.underlying s with
  | some (.struct fs)=>(fs[f]?).bind fun g=>(P.info? g.type).bind fun i=>if i.size=0 then none else some g.offset
  | _=>none
def Gy (P:Program)(t:TypeId):Option IntKind :=
  match P.underlying t with
  | some (.int k)=>some k
  | _=>none
section types
variable {P : Program} {t e s : TypeId} {k f o : Nat} {w : World}
theorem Va (h:Yk P t=some e):P.underlying t=some (.slice e):=by
 unfold Yk at h
 split at h
 ·injection h with h;subst h;assumption
 ·cases h
theorem Z7h {q:IntKind}(h:Gy P t=some q):P.underlying t=some (.int q):=by
 unfold Gy at h
 split at h
 ·injection h with h;subst h;assumption
 ·cases h
theorem Jy (h:Yh P t=some k):∃ i,P.info? t=some i∧i.size=k:=by
 unfold Yh at h
 cases hi:P.info? t with
 | none=>simp [hi] at h
 | some i=>exact ⟨i,rfl,by simpa [hi] using h⟩
theorem Um (h:Yh P t=some k):(sizeOf t).run P w=.ok k w:=by
 obtain ⟨i,hi,rfl⟩:=Jy h
 simp [sizeOf,typeInfo,hi]
theorem Nk {z:Value}(h:Yz P t=some z):(zeroValue t).run P w=.ok z w:=by
 unfold Yz at h
 cases hi:P.info? t with
 | none=>simp [hi] at h
 | some i=>simp [hi] at h;simp [zeroValue,typeInfo,hi,h]
theorem Zb8 (h:Xi P t=true):(isAgg t).run P w=.ok false w:=by
 unfold Xi at h
 cases hu:P.underlying t with
 | none=>simp [hu] at h
 | some d=>cases d <;> simp_all [isAgg,run_underlying hu]
theorem Z5s (h:Vs P t k=true):(isAgg t).run P w=.ok true w:=by
 unfold Vs at h
 cases hu:P.underlying t with
 | none=>simp [hu] at h
 | some d=>cases d <;> simp_all [isAgg,run_underlying hu]
theorem Z6c (h:Vs P t k=true):Yh P t=some k:=by
 unfold Vs at h
 unfold Yh
 split at h <;> simp_all
theorem Z4r (h:Xi P t=true){a:Addr}{v:Value}(hc:w.cell? a=some v):(loadVar t a).run P w=.ok v w:=by
 simp [loadVar,Zb8 h,hc]
theorem Z3l (h:Vs P t k=true){a:Addr}{cs:List Value}(hk:cs.length=k)(hc:∀ j v,cs[j]?=some v→w.cell? (a.add j)=some v) :
    (loadVar t a).run P w=.ok (.agg cs.toArray) w:=by
  have hl:=run_loadCells_list (P:=P) w a cs hc
  rw [hk] at hl
  simp [loadVar,Z5s h,Um (Z6c h),hl]
theorem Z6s (h:Wh P s f=some o)(b p:Nat):(Instr.fieldAt s (.pointer (some ⟨b,p,none⟩)) f).run P w=.ok (.pointer (some ⟨b,p+o,none⟩)) w:=by
 unfold Wh at h
 split at h
 ·
  rename_i fs hu
  cases hg:fs[f]? with
  | none=>simp [hg] at h
  | some g =>
   cases hi:P.info? g.type with
   | none=>simp [hg,hi] at h
   | some i =>
    simp only [hg,hi,Option.bind_some] at h
    by_cases hz:i.size=0
    ·simp [hz] at h
    ·
     simp [hz] at h
     subst h
     simp [Instr.fieldAt,run_underlying hu,hg,Instr.sureAddr,fieldPlace,sizeOf,typeInfo,hi,hz,Addr.add_mid]
 ·cases h
end types
theorem Inv.setRow {w0 w:World}{M:List Nat}{H R:Heap}{b:Nat}{cs cs':Array Value}{T:TypeId}{fr:Nat×Nat}(h:Inv w0 M w H)(ht:Take (some b,.cells cs T fr) H R) :
    Inv w0 M (w.setRow b cs') ((some b,.cells cs' T fr)::R):=by
  have hb:=h.own _ _ ht.mem
  refine h.upd ht rfl rfl rfl (by simp [World.setRow]) ?_ fun k hk=>?_
  ·simp only [World.setRow,Array.getElem?_modify,hb];simp
  · simp only [World.setRow, Array.getElem?_modify]
    rw [if_neg (by omega)]
section rules
variable {C : Cx} {ops : Array Oper} {Q : Exit → Act → World → Prop} {l : List Nat} {E : Env} {H R : Heap} {i d : Nat} {ty : TypeId} {pos : String} {af : Array Edge} {g : Option (Nat × Bool)}
def Zr (ops:Array Oper)(E:Env):Option (Nat×Bool)→Bool
  | none=>true
  | some (j,want) =>
    match ((ops[j]?).bind (·.dst)).bind (find E) with
    | some (.bool b)=>b==want
    | _=>false
def gdN (ops:Array Oper)(E:Env):Option (Nat×Bool)→Bool
  | none=>false
  | some (j,want) =>
    match ((ops[j]?).bind (·.dst)).bind (find E) with
    | some (.bool b)=>b != want
    | _=>false
theorem Fits.yields {n:Nat}{D:List Deferred}{a:Act}(hf:Fits n D E a){j t:Nat}{b:Bool}(hj:(ops[j]?).bind (·.dst)=some t)(ht:find E t=some (.bool b)):yielded ops a.tmps j=some b:=by
 have h:=hf.get t _ ht
 unfold yielded
 rw [hj,Option.bind_some]
 have h2:a.tmps[t]?=some (.bool b):=by
  rw [Array.getD_eq_getD_getElem?] at h
  cases hq:a.tmps[t]? with
  | none=>rw [hq] at h;simp [undef] at h
  | some u=>rw [hq] at h;simpa using h
 rw [h2]
theorem Z49 {n:Nat}{D:List Deferred}{a:Act}{o:Oper}(hf:Fits n D E a)(h:Zr ops E o.guard=true):Region.wanted o (yielded ops a.tmps)=true:=by
 unfold Region.wanted
 cases hg:o.guard with
 | none=>rfl
 | some jw =>
  obtain ⟨j,want⟩:=jw
  rw [hg] at h
  simp only [Zr] at h
  cases hj:(ops[j]?).bind (·.dst) with
  | none=>simp [hj] at h
  | some t =>
   rw [hj,Option.bind_some] at h
   cases ht:find E t with
   | none=>simp [ht] at h
   | some v =>
    rw [ht] at h
    cases v <;> simp at h
    subst h
    simp [hf.yields hj ht]
theorem Za5 {n:Nat}{D:List Deferred}{a:Act}{o:Oper}(hf:Fits n D E a)(h:gdN ops E o.guard=true):Region.wanted o (yielded ops a.tmps)=false:=by
 unfold Region.wanted
 cases hg:o.guard with
 | none=>rw [hg] at h;simp [gdN] at h
 | some jw =>
  obtain ⟨j,want⟩:=jw
  rw [hg] at h
  simp only [gdN] at h
  cases hj:(ops[j]?).bind (·.dst) with
  | none=>simp [hj] at h
  | some t =>
   rw [hj,Option.bind_some] at h
   cases ht:find E t with
   | none=>simp [ht] at h
   | some v =>
    rw [ht] at h
    cases v <;> simp at h
    simp [hf.yields hj ht,h]
theorem Kr {o:Oper}(ho:ops[i]?=some o)(hg:Zr ops E o.guard=true)(hnd:∀ c,o.op≠.defer c)
    (h:∀ a w,Fits C.n C.D E a→Inv C.w0 C.M w H→o.uponIn (FW C.ρ) 0 C.P a (wpOpsIn (FW C.ρ) 0 C.P ops Q l) Q ((execOp a.eval o).run C.P w)) :
    TO C ops Q (i::l) E H:=by
  intro a w hf hi
  have hw:Region.wanted o (yielded ops a.tmps)=true:=Z49 hf hg
  simp only [wpOpsIn,ho,hw,if_true,Oper.wpIn]
  refine ⟨fun _ _=>trivial,?_⟩
  rw [Oper.semAt_eq _ _ _ hnd]
  exact h a w hf hi
theorem Zf {o:Oper}(q0_:ops[i]?=some o∧gdN ops E o.guard=true∧o.dst=some d∧Nat.ble (d+1) C.n=true)(k:TO C ops Q l ((d,undef)::E) H):TO C ops Q (i::l) E H:=by
 obtain ⟨ho,hg,hdst,hd⟩:=q0_
 intro a w hf hi
 have hw:Region.wanted o (yielded ops a.tmps)=false:=Za5 hf hg
 simp only [wpOpsIn,ho,hw,Bool.false_eq_true,if_false]
 refine ⟨fun _ _=>trivial,?_⟩
 rw [hdst]
 exact k _ _ (hf.put hd _) hi
theorem Zu {t:Nat}{b b':Bool}(ht:find E t=some (.bool b))(hb:b=b')(k:TO C ops Q l ((t,.bool b')::E) H):TO C ops Q l E H:=by
 subst hb
 intro a w hf hi
 refine k a w ⟨hf.size,hf.defers,fun u v hu=>?_⟩ hi
 rw [Kb] at hu
 by_cases e:t=u
 ·subst e;rw [if_pos rfl] at hu;injection hu with hu;subst hu;exact hf.get t _ ht
 ·rw [if_neg e] at hu;exact hf.get u v hu
theorem Zk (h:X C Q .normal E H):TO C ops Q [] E H:=h
theorem TO.val {op:Op}{v:Value}(ho:ops[i]?=some ⟨some d,op,ty,pos,af,g⟩)(hg:Zr ops E g=true)(hd:Nat.ble (d+1) C.n=true)(hnd:∀ c,op≠.defer c)
    (hr:∀ a w,Fits C.n C.D E a→Inv C.w0 C.M w H→(execOp a.eval ⟨some d,op,ty,pos,af,g⟩).run C.P w=.ok (.value v) w)
    (k:TO C ops Q l ((d,v)::E) H):TO C ops Q (i::l) E H :=
  Kr ho hg hnd fun a w hf hi=>by
    rw [hr a w hf hi]
    exact k _ _ (hf.put hd v) hi
theorem Zc {x:Operand}{v:Value}(q0_:ops[i]?=some ⟨some d,.move x,ty,pos,af,g⟩∧Zr ops E g=true∧Nat.ble (d+1) C.n=true∧ev E x=some v)
    (k:TO C ops Q l ((d,v)::E) H):TO C ops Q (i::l) E H:=have ⟨ho,hg,hd,hx⟩:=q0_;
  TO.val ho hg hd (by simp) (fun a w hf _=>by simp [execOp,hf.ev hx]) k
theorem Yc {x:Operand}{v:Value}(q0_:ops[i]?=some ⟨some d,.assign x,ty,pos,af,g⟩∧Zr ops E g=true∧Nat.ble (d+1) C.n=true∧ev E x=some v)
    (k:TO C ops Q l ((d,v)::E) H):TO C ops Q (i::l) E H:=have ⟨ho,hg,hd,hx⟩:=q0_;
  TO.val ho hg hd (by simp) (fun a w hf _=>by simp [execOp,hf.ev hx]) k
theorem Ye {c x y:Operand}{v:Value}(q0_:ops[i]?=some ⟨some d,.pick c x y,ty,pos,af,g⟩∧Zr ops E g=true∧Nat.ble (d+1) C.n=true∧ev E c=some (.bool true)∧ev E x=some v)(k:TO C ops Q l ((d,v)::E) H):TO C ops Q (i::l) E H:=have ⟨ho,hg,hd,hc,hx⟩:=q0_;
  TO.val ho hg hd (by simp) (fun a w hf _=>by simp [execOp,hf.ev hc,hf.ev hx,asBool]) k
theorem Yg {c x y:Operand}{v:Value}(q0_:ops[i]?=some ⟨some d,.pick c x y,ty,pos,af,g⟩∧Zr ops E g=true∧Nat.ble (d+1) C.n=true∧ev E c=some (.bool false)∧ev E y=some v)(k:TO C ops Q l ((d,v)::E) H):TO C ops Q (i::l) E H:=have ⟨ho,hg,hd,hc,hx⟩:=q0_;
  TO.val ho hg hd (by simp) (fun a w hf _=>by simp [execOp,hf.ev hc,hf.ev hx,asBool]) k
def Lj:BinOp→IntKind→Int→Int→Option Value
  | .add,k,a,b=>some (.int k (k.wrap (a+b)))
  | .sub,k,a,b=>some (.int k (k.wrap (a-b)))
  | .mul,k,a,b=>some (.int k (k.wrap (a*b)))
  | .eql,_,a,b=>some (.bool (decide (a=b)))
  | .neq,_,a,b=>some (.bool (decide (a≠b)))
  | .lss,_,a,b=>some (.bool (decide (a<b)))
  | .leq,_,a,b=>some (.bool (decide (a≤b)))
  | .gtr,_,a,b=>some (.bool (decide (b<a)))
  | .geq,_,a,b=>some (.bool (decide (b≤a)))
  | _,_,_,_=>none
theorem Lq {op:BinOp}{k:IntKind}{a b:Int}{v:Value}{t:TypeId}{P:Program}{w:World}(h:Lj op k a b=some v):(binOp op t (.int k a) (.int k b)).run P w=.ok v w:=by
 unfold Lj at h
 split at h <;> try (cases h;done)
 all_goals (injection h with h;subst h)
 ·simp [binOp,Op.intArith]
 ·simp [binOp,Op.intArith]
 ·simp [binOp,Op.intArith]
 ·simp only [binOp_eql];rw [Sem.run_pure];congr 2
 ·simp only [binOp_neq];rw [Sem.run_pure];congr 2;by_cases e:a=b <;> simp [e]
 ·simp [binOp,Op.intCmp]
 ·simp [binOp,Op.intCmp]
 ·simp [binOp,Op.intCmp]
 ·simp [binOp,Op.intCmp]
theorem Zq {op:BinOp}{t t2:TypeId}{x y:Operand}{k:IntKind}{p q:Int}{v:Value}
    (q0_:ops[i]?=some ⟨some d,.binOp op t x y t2,ty,pos,af,g⟩∧Zr ops E g=true∧Nat.ble (d+1) C.n=true∧ev E x=some (.int k p)∧ev E y=some (.int k q)∧Lj op k p q=some v)(kk:TO C ops Q l ((d,v)::E) H):TO C ops Q (i::l) E H:=have ⟨ho,hg,hd,hx,hy,hv⟩:=q0_;
  TO.val ho hg hd (by simp) (fun a w hf _=>by simp [execOp,hf.ev hx,hf.ev hy,eqGuard_at_int,Lq hv]) kk
theorem Z2e {a:Int}(h1:-9223372036854775808≤a)(h2:a≤9223372036854775807):IntKind.i64.wrap a=a:=by
 rw [IntKind.wrap_i64];omega
theorem TO.add {t t2:TypeId}{x y:Operand}{p q:Int}
    (ho:ops[i]?=some ⟨some d,.binOp .add t x y t2,ty,pos,af,g⟩)(hg:Zr ops E g=true)(hd:Nat.ble (d+1) C.n=true)(hx:ev E x=some (.int .i64 p))(hy:ev E y=some (.int .i64 q))
    (h1:-9223372036854775808≤p+q)(h2:p+q≤9223372036854775807)(kk:TO C ops Q l ((d,.int .i64 (p+q))::E) H):TO C ops Q (i::l) E H :=
  Zq ⟨ho,hg,hd,hx,hy,(by simp only [Lj];rw [Z2e h1 h2])⟩ kk
theorem TO.sub {t t2:TypeId}{x y:Operand}{p q:Int}
    (ho:ops[i]?=some ⟨some d,.binOp .sub t x y t2,ty,pos,af,g⟩)(hg:Zr ops E g=true)(hd:Nat.ble (d+1) C.n=true)(hx:ev E x=some (.int .i64 p))(hy:ev E y=some (.int .i64 q))
    (h1:-9223372036854775808≤p-q)(h2:p-q≤9223372036854775807)(kk:TO C ops Q l ((d,.int .i64 (p-q))::E) H):TO C ops Q (i::l) E H :=
  Zq ⟨ho,hg,hd,hx,hy,(by simp only [Lj];rw [Z2e h1 h2])⟩ kk
theorem TO.rem {t t2:TypeId}{x y:Operand}{k:IntKind}{p q:Int}
    (q0_:ops[i]?=some ⟨some d,.binOp .rem t x y t2,ty,pos,af,g⟩∧Zr ops E g=true∧Nat.ble (d+1) C.n=true∧ev E x=some (.int k p)∧ev E y=some (.int k q))
    (h0:q≠0)(kk:TO C ops Q l ((d,.int k (p.tmod q))::E) H):TO C ops Q (i::l) E H:=have ⟨ho,hg,hd,hx,hy⟩:=q0_;
  TO.val ho hg hd (by simp) (fun a w hf _=>by simp [execOp,hf.ev hx,hf.ev hy,eqGuard_at_int,binOp,Op.intDiv,h0]) kk
theorem Z9v {P:Program}(w:World)(n:Nat){t:TypeId}(p q:Bool)(ht:P.underlying t=some .bool):(Op.equalIn (n+1) t (.bool p) (.bool q)).run P w=.ok (p==q) w:=by
 simp [Op.equalIn,run_underlying ht]
theorem Zcc {P:Program}(w:World)(n:Nat){t e:TypeId}(base:Option Addr)(a c m c2:Nat)(ht:P.underlying t=some (.slice e)):(Op.equalIn (n+1) t (.slice base a c) (.slice none m c2)).run P w=.ok base.isNone w:=by
 cases base <;> simp [Op.equalIn,run_underlying ht]
theorem Ng {P:Program}{w:World}{t:TypeId}{x y:Value}{r:Bool}(h:∀ n,(Op.equalIn (n+1) t x y).run P w=.ok r w):(Op.equal t x y).run P w=.ok r w:=h 9999
theorem Zbw {P:Program}{w:World}{t:TypeId}{x y:Value}{r:Bool}(h:(Op.equal t x y).run P w=.ok r w)(hb:binOp .eql t x y=(do pure (.bool (←Op.equal t x y)))) :
    (binOp .eql t x y).run P w=.ok (.bool r) w:=by rw [hb];simp [h]
theorem Z9g {P:Program}{w:World}{t:TypeId}{x y:Value}{r:Bool}(h:(Op.equal t x y).run P w=.ok r w)(hb:binOp .neq t x y=(do pure (.bool (!(←Op.equal t x y))))) :
    (binOp .neq t x y).run P w=.ok (.bool (!r)) w:=by rw [hb];simp [h]
theorem TO.neb {t t2:TypeId}{x y:Operand}{p q:Bool}(q0_:ops[i]?=some ⟨some d,.binOp .neq t x y t2,ty,pos,af,g⟩∧Zr ops E g=true∧Nat.ble (d+1) C.n=true∧ev E x=some (.bool p)∧ev E y=some (.bool q))(ht:C.P.underlying t=some .bool)(kk:TO C ops Q l ((d,.bool (!(p==q)))::E) H):TO C ops Q (i::l) E H:=have ⟨ho,hg,hd,hx,hy⟩:=q0_;
  TO.val ho hg hd (by simp) (fun a w hf _=>by
    have:=Z9g (Ng fun n=>Z9v (P:=C.P) w n p q ht) rfl
    simp only [execOp,hf.ev hx,hf.ev hy,eqGuard_at_bool]
    simp [this]) kk
theorem TO.not {t:TypeId}{x:Operand}{b:Bool}(q0_:ops[i]?=some ⟨some d,.unOp .not t x,ty,pos,af,g⟩∧Zr ops E g=true∧Nat.ble (d+1) C.n=true∧ev E x=some (.bool b))(kk:TO C ops Q l ((d,.bool (!b))::E) H):TO C ops Q (i::l) E H:=have ⟨ho,hg,hd,hx⟩:=q0_;
  TO.val ho hg hd (by simp) (fun a w hf _=>by simp [execOp,hf.ev hx,Op.unary]) kk
theorem TO.conv {s t:TypeId}{x:Operand}{k q:IntKind}{p:Int}(ho:ops[i]?=some ⟨some d,.convert s t x,ty,pos,af,g⟩)(hg:Zr ops E g=true)(hd:Nat.ble (d+1) C.n=true)
    (hx:ev E x=some (.int k p))(hs:(C.P.underlying s).isSome=true)(ht:Gy C.P t=some q)(kk:TO C ops Q l ((d,.int q (q.wrap p))::E) H):TO C ops Q (i::l) E H :=
  TO.val ho hg hd (by simp) (fun a w hf _=>by
    have hu:=Z7h ht
    cases hs':C.P.underlying s with
    | none=>simp [hs'] at hs
    | some ds=>simp [execOp,hf.ev hx,convert,run_underlying hs',run_underlying hu,Conv.intToInt]) kk
theorem Z8z {s t:TypeId}{x:Operand}{k q:IntKind}{p:Int}(q0_:ops[i]?=some ⟨some d,.convert s t x,ty,pos,af,g⟩∧Zr ops E g=true∧Nat.ble (d+1) C.n=true∧ev E x=some (.int k p))(hs:(C.P.underlying s).isSome=true)(ht:Gy C.P t=some q)(hw:q.wrap p=p)(kk:TO C ops Q l ((d,.int q p)::E) H):TO C ops Q (i::l) E H:=have ⟨ho,hg,hd,hx⟩:=q0_;
  TO.conv ho hg hd hx hs ht (by rw [hw];exact kk)
theorem TO.extract {x:Operand}{n:Nat}{vs:Array Value}{v:Value}(q0_:ops[i]?=some ⟨some d,.extract x n,ty,pos,af,g⟩∧Zr ops E g=true∧Nat.ble (d+1) C.n=true∧ev E x=some (.tuple vs)∧vs[n]?=some v)(kk:TO C ops Q l ((d,v)::E) H):TO C ops Q (i::l) E H:=have ⟨ho,hg,hd,hx,hv⟩:=q0_;
  TO.val ho hg hd (by simp) (fun a w hf _=>by simp [execOp,hf.ev hx,Instr.extract,hv]) kk
def evs (E:Env):List Operand→Option (List Value)
  | []=>some []
  | x::xs=>match ev E x,evs E xs with
    | some v,some vs=>some (v::vs)
    | _,_=>none
theorem Jk {n:Nat}{D:List Deferred}{a:Act}(hfit:Fits n D E a):∀ {xs:List Operand} {ys:List Value},evs E xs=some ys→xs.map a.eval=ys
 | [],ys,h=>by simp [evs] at h;subst h;rfl
 | x::xs,ys,h=>by
  simp only [evs] at h
  cases hx:ev E x with
  | none=>simp [hx] at h
  | some v =>
   cases hxs:evs E xs with
   | none=>simp [hx,hxs] at h
   | some vs=>simp [hx,hxs] at h;subst h;simp [hfit.ev hx,Jk hfit hxs]
def evp (E:Env):List (Nat×Operand)→Option (List (Nat×Value))
  | []=>some []
  | (j,x)::xs=>match ev E x,evp E xs with
    | some v,some vs=>some ((j,v)::vs)
    | _,_=>none
theorem Z5p {n:Nat}{D:List Deferred}{a:Act}(hfit:Fits n D E a):∀ {xs:List (Nat×Operand)} {ys:List (Nat×Value)},evp E xs=some ys→xs.map (fun p=>(p.1,a.eval p.2))=ys
 | [],ys,h=>by simp [evp] at h;subst h;rfl
 | (j,x)::xs,ys,h=>by
  simp only [evp] at h
  cases hx:ev E x with
  | none=>simp [hx] at h
  | some v =>
   cases hxs:evp E xs with
   | none=>simp [hx,hxs] at h
   | some vs=>simp [hx,hxs] at h;subst h;simp [hfit.ev hx,Z5p hfit hxs]
theorem TO.makeFunc {f:Fn}{fs cs:Array Operand}{vs us:List Value}(q0_:ops[i]?=some ⟨some d,.makeFunc f fs cs,ty,pos,af,g⟩∧Zr ops E g=true∧Nat.ble (d+1) C.n=true∧evs E fs.toList=some vs∧evs E cs.toList=some us)(kk:TO C ops Q l ((d,.func f vs.toArray us.toArray)::E) H):TO C ops Q (i::l) E H:=have ⟨ho,hg,hd,hf,hc⟩:=q0_;
  TO.val ho hg hd (by simp) (fun a w hfit _=>by
    have e1:fs.map a.eval=vs.toArray:=by apply Array.ext';simpa using Jk hfit hf
    have e2:cs.map a.eval=us.toArray:=by apply Array.ext';simpa using Jk hfit hc
    simp [execOp,Instr.makeFunc,e1,e2]) kk
theorem TO.fieldAddr {s:TypeId}{x:Operand}{f o b p:Nat}(ho:ops[i]?=some ⟨some d,.fieldAddr s x f,ty,pos,af,g⟩)(hg:Zr ops E g=true)(hd:Nat.ble (d+1) C.n=true)
    (hx:ev E x=some (.pointer (some ⟨b,p,none⟩)))(hT:Wh C.P s f=some o)(kk:TO C ops Q l ((d,.pointer (some ⟨b,p+o,none⟩))::E) H):TO C ops Q (i::l) E H :=
  TO.val ho hg hd (by simp) (fun a w hf _=>by simp [execOp,hf.ev hx,Z6s hT]) kk
theorem Zs {s:TypeId}{x:Operand}{f o b:Nat}(q0_:ops[i]?=some ⟨some d,.fieldAddr s x f,ty,pos,af,g⟩∧Zr ops E g=true∧Nat.ble (d+1) C.n=true∧ev E x=some (.pointer (some ⟨b,0,none⟩)))(hT:Wh C.P s f=some o)(kk:TO C ops Q l ((d,.pointer (some ⟨b,o,none⟩))::E) H):TO C ops Q (i::l) E H:=have ⟨ho,hg,hd,hx⟩:=q0_;
  TO.fieldAddr ho hg hd hx hT (by rw [Nat.zero_add];exact kk)
theorem TO.new {op:Op}{o:Obj}(v:Nat→Value)(ho:ops[i]?=some ⟨some d,op,ty,pos,af,g⟩)(hg:Zr ops E g=true)(hd:Nat.ble (d+1) C.n=true)(hnd:∀ c,op≠.defer c)
    (hr:∀ a w,Fits C.n C.D E a→Inv C.w0 C.M w H→(execOp a.eval ⟨some d,op,ty,pos,af,g⟩).run C.P w=.ok (.value (v w.heap.size)) (w.alloc o))
    (k:∀ b,TO C ops Q l ((d,v b)::E) ((some b,o)::H)):TO C ops Q (i::l) E H :=
  Kr ho hg hnd fun a w hf hi=>by
    rw [hr a w hf hi]
    exact k _ _ _ (hf.put hd _) (hi.alloc o)
theorem TO.box {t:TypeId}{x:Operand}{v:Value}(q0_:ops[i]?=some ⟨some d,.box t x,ty,pos,af,g⟩∧Zr ops E g=true∧Nat.ble (d+1) C.n=true∧ev E x=some v)
    (k:∀ b,TO C ops Q l ((d,.pointer (some ⟨b,0,none⟩))::E) ((some b,.cells v.cells t (0,0))::H)):TO C ops Q (i::l) E H:=have ⟨ho,hg,hd,hx⟩:=q0_;
  TO.new (fun b=>.pointer (some ⟨b,0,none⟩)) ho hg hd (by simp) (fun a w hf _=>by simp [execOp,hf.ev hx,Instr.box,newVar,newRow]) k
theorem Wa {t:TypeId}{x:Operand}{cs:Array Value}(q0_:ops[i]?=some ⟨some d,.box t x,ty,pos,af,g⟩∧Zr ops E g=true∧Nat.ble (d+1) C.n=true∧ev E x=some (.agg cs))
    (k:∀ b,TO C ops Q l ((d,.pointer (some ⟨b,0,none⟩))::E) ((some b,.cells cs t (0,0))::H)):TO C ops Q (i::l) E H:=have ⟨ho,hg,hd,hx⟩:=q0_;TO.box ⟨ho,hg,hd,hx⟩ k
theorem TO.alloc {t:TypeId}{z:Value}(q0_:ops[i]?=some ⟨some d,.alloc t,ty,pos,af,g⟩∧Zr ops E g=true∧Nat.ble (d+1) C.n=true)(hz:Yz C.P t=some z)
    (k:∀ b,TO C ops Q l ((d,.pointer (some ⟨b,0,none⟩))::E) ((some b,.cells z.cells t (0,0))::H)):TO C ops Q (i::l) E H:=have ⟨ho,hg,hd⟩:=q0_;
  TO.new (fun b=>.pointer (some ⟨b,0,none⟩)) ho hg hd (by simp) (fun a w hf _=>by simp [execOp,Instr.alloc,Nk hz,newVar,newRow]) k
theorem Xs {t:TypeId}{cs:Array Value}(q0_:ops[i]?=some ⟨some d,.alloc t,ty,pos,af,g⟩∧Zr ops E g=true∧Nat.ble (d+1) C.n=true)(hz:Yz C.P t=some (.agg cs))
    (k:∀ b,TO C ops Q l ((d,.pointer (some ⟨b,0,none⟩))::E) ((some b,.cells cs t (0,0))::H)):TO C ops Q (i::l) E H:=have ⟨ho,hg,hd⟩:=q0_;TO.alloc ⟨ho,hg,hd⟩ hz k
theorem TO.build {t:TypeId}{ps:Array (Nat×Operand)}{vs:List (Nat×Value)}{cs:Array Value}(ho:ops[i]?=some ⟨some d,.build t ps,ty,pos,af,g⟩)(hg:Zr ops E g=true)(hd:Nat.ble (d+1) C.n=true)
    (hx:evp E ps.toList=some vs)(hb:C.P.built t vs=some cs)
    (kk:TO C ops Q l ((d,.agg cs)::E) H):TO C ops Q (i::l) E H :=
  TO.val ho hg hd (by simp) (fun a w hf _=>by
    have e1:(ps.map (fun p=>(p.1,a.eval p.2))).toList=vs:=by simpa using Z5p hf hx
    have:=run_build (P:=C.P) w t (ps.map (fun p=>(p.1,a.eval p.2))) cs (by rw [e1];exact hb)
    simp [execOp,this]) kk
theorem Zdr {t e:TypeId}{x y:Operand}{cs:List Value}{k:IntKind}{p:Int}{n s:Nat}{vs:List Value}(ho:ops[i]?=some ⟨some d,.index t x y,ty,pos,af,g⟩)(hg:Zr ops E g=true)(hd:Nat.ble (d+1) C.n=true)
    (hx:ev E x=some (.agg cs.toArray))(hy:ev E y=some (.int k p))(hT:C.P.underlying t=some (.array n e))(hs:Vs C.P e s=true)(h0:0≤p)(h1:p<n)(hv:(cs.drop (p.toNat*s)).take s=vs)
    (kk:TO C ops Q l ((d,.agg vs.toArray)::E) H):TO C ops Q (i::l) E H :=
  TO.val ho hg hd (by simp) (fun a w hf _=>by
    simp [execOp,hf.ev hx,hf.ev hy,Instr.index,asIntOf,run_underlying hT,h0,h1,Um (Z6c hs),part,Z5s hs,hv]) kk
def setCells:List Value→Nat→List Value→List Value
  | z,_,[]=>z
  | z,o,v::vs=>setCells (z.set o v) (o+1) vs
def Xv (offs:List Nat):List Value→List (Nat×Value)→List Value
  | z,[]=>z
  | z,(j,v)::ps=>Xv offs (setCells z (offs.getD j 0) v.cells.toList) ps
theorem Vi {t:TypeId}{ps:Array (Nat×Operand)}{vs:List (Nat×Value)}{cs:List Value}(z:List Value)(offs:List Nat)(q0_:ops[i]?=some ⟨some d,.build t ps,ty,pos,af,g⟩∧Zr ops E g=true∧Nat.ble (d+1) C.n=true∧evp E ps.toList=some vs)(_hcs:Xv offs z vs=cs)(hb:C.P.built t vs=some cs.toArray)
    (kk:TO C ops Q l ((d,.agg cs.toArray)::E) H):TO C ops Q (i::l) E H:=have ⟨ho,hg,hd,hx⟩:=q0_;TO.build ho hg hd hx hb kk
end rules
end Go.Acq
namespace Go.Acq
open Go Go.RowKit
section rules
variable {C : Cx} {ops : Array Oper} {Q : Exit → Act → World → Prop} {l : List Nat} {E : Env} {H R : Heap} {i d : Nat} {ty : TypeId} {pos : String} {af : Array Edge} {g : Option (Nat × Bool)}
theorem Ra {id:Nat}{ll:List Nat}(hl:List.range ops.size=ll)(h:TO C ops Q ll E H):T C (.region id ops false) Q E H:=T.region (by rw [hl];exact h)
theorem TO.load {t:TypeId}{x:Operand}{ad:Addr}{v:Value}(ho:ops[i]?=some ⟨some d,.load t x,ty,pos,af,g⟩)(hg:Zr ops E g=true)(hd:Nat.ble (d+1) C.n=true)
    (hx:ev E x=some (.pointer (some ad)))(hT:Xi C.P t=true)(hc:∀ w,Inv C.w0 C.M w H→w.cell? ad=some v)
    (kk:TO C ops Q l ((d,v)::E) H):TO C ops Q (i::l) E H :=
  TO.val ho hg hd (by simp) (fun a w hf hi=>by simp [execOp,hf.ev hx,Instr.loadAt,Instr.sureAddr,Z4r hT (hc w hi)]) kk
theorem Zt {t T':TypeId}{x:Operand}{b o:Nat}{cs:Array Value}{fr:Nat×Nat}{v:Value}(q0_:ops[i]?=some ⟨some d,.load t x,ty,pos,af,g⟩∧Zr ops E g=true∧Nat.ble (d+1) C.n=true∧ev E x=some (.pointer (some ⟨b,o,none⟩)))(hT:Xi C.P t=true)(hm:(some b,Obj.cells cs T' fr)∈H)(hv:cs[o]?=some v)
    (kk:TO C ops Q l ((d,v)::E) H):TO C ops Q (i::l) E H:=have ⟨ho,hg,hd,hx⟩:=q0_;
  TO.load ho hg hd hx hT (fun w hi=>by rw [hi.cell_own hm];exact hv) kk
theorem Z45 {t:TypeId}{x:Operand}{ad:Addr}{k:Nat}{cs:List Value}(ho:ops[i]?=some ⟨some d,.load t x,ty,pos,af,g⟩)(hg:Zr ops E g=true)(hd:Nat.ble (d+1) C.n=true)
    (hx:ev E x=some (.pointer (some ad)))(hT:Vs C.P t k=true)(hk:cs.length=k)(hc:∀ w,Inv C.w0 C.M w H→∀ j v,cs[j]?=some v→w.cell? (ad.add j)=some v)
    (kk:TO C ops Q l ((d,.agg cs.toArray)::E) H):TO C ops Q (i::l) E H :=
  TO.val ho hg hd (by simp) (fun a w hf hi=>by simp [execOp,hf.ev hx,Instr.loadAt,Instr.sureAddr,Z3l hT hk (hc w hi)]) kk
theorem Xj {t T':TypeId}{x:Operand}{b k:Nat}{cs:List Value}{fr:Nat×Nat}(q0_:ops[i]?=some ⟨some d,.load t x,ty,pos,af,g⟩∧Zr ops E g=true∧Nat.ble (d+1) C.n=true∧ev E x=some (.pointer (some ⟨b,0,none⟩)))(hT:Vs C.P t k=true)(hm:(some b,Obj.cells cs.toArray T' fr)∈H)(hk:cs.length=k)
    (kk:TO C ops Q l ((d,.agg cs.toArray)::E) H):TO C ops Q (i::l) E H:=have ⟨ho,hg,hd,hx⟩:=q0_;
  Z45 ho hg hd hx hT hk (fun w hi j v hv=>by rw [Addr.add_mid,Nat.zero_add,hi.cell_own hm];simpa using hv) kk
theorem Z1u {t T':TypeId}{x y:Operand}{b o:Nat}{cs cs':Array Value}{v:Value}{vs:List Value}(ho:ops[i]?=some ⟨none,.store t x y,ty,pos,af,g⟩)(hg:Zr ops E g=true)
    (hx:ev E x=some (.pointer (some ⟨b,o,none⟩)))(hy:ev E y=some v)(ht:Take (some b,.cells cs T' (0,0)) H R)
    (hv:v.cells.toList=vs)(hs:Yh C.P t=some vs.length)(h1:∀ u,u∈vs→u.oneCell'=true)(hfit:o+vs.length≤cs.size)
    (hcs:(cs.toList.take o++vs++cs.toList.drop (o+vs.length)).toArray=cs')
    (kk:TO C ops Q l E ((some b,.cells cs' T' (0,0))::R)):TO C ops Q (i::l) E H :=
  Kr ho hg (by simp) fun a w hf hi=>by
    have hb:=hi.own _ _ ht.mem
    have hst:=run_storeCells_at C.P b o T' vs 0 cs w hb (by simpa using hfit) h1
    simp only [Nat.add_zero] at hst
    rw [hcs] at hst
    have hsz:v.cells.size=vs.length:=by rw [←hv,Array.length_toList]
    have:(execOp a.eval ⟨none,.store t x y,ty,pos,af,g⟩).run C.P w=.ok .skip (w.setRow b cs'):=by
      simp [execOp,hf.ev hx,hf.ev hy,Instr.storeAt,Instr.sureAddr,storeVar,Um hs,hsz,hv,hst]
    rw [this]
    exact kk _ _ (hf.putNone _) (hi.setRow ht)
theorem Zhn {α:Type}(xs:List α)(o:Nat)(v:α)(h:o<xs.length):xs.take o++[v]++xs.drop (o+1)=xs.set o v:=by
 rw [List.set_eq_take_append_cons_drop,if_pos h];simp
theorem Zfo {t T':TypeId}{x y:Operand}{b o:Nat}{cs:Array Value}{v:Value}(ho:ops[i]?=some ⟨none,.store t x y,ty,pos,af,g⟩)(hg:Zr ops E g=true)
    (hx:ev E x=some (.pointer (some ⟨b,o,none⟩)))(hy:ev E y=some v)(ht:Take (some b,.cells cs T' (0,0)) H R)
    (hs:Yh C.P t=some 1)(h1:v.oneCell'=true)(hfit:Nat.ble (o+1) cs.size=true)
    (kk:TO C ops Q l E ((some b,.cells (cs.setIfInBounds o v) T' (0,0))::R)):TO C ops Q (i::l) E H:=by
  have hfit':o<cs.size:=Nat.le_of_ble_eq_true hfit
  have hc:v.cells=#[v]:=by cases v <;> first | rfl | cases h1
  refine Z1u (vs:=[v]) ho hg hx hy ht (by rw [hc]) hs (fun u hu=>by simp at hu;subst hu;exact h1) (by simp;omega) ?_ kk
  apply Array.ext'
  simp only [List.length_singleton]
  rw [Zhn cs.toList o v (by simpa using hfit')]
  simp
theorem Zij {t T':TypeId}{x y:Operand}{b o:Nat}{cs:List Value}{v:Value}(ho:ops[i]?=some ⟨none,.store t x y,ty,pos,af,g⟩)(hg:Zr ops E g=true)
    (hx:ev E x=some (.pointer (some ⟨b,o,none⟩)))(hy:ev E y=some v)(ht:Take (some b,.cells cs.toArray T' (0,0)) H R)
    (hs:Yh C.P t=some 1)(h1:v.oneCell'=true)(hfit:Nat.ble (o+1) cs.length=true)
    (kk:TO C ops Q l E ((some b,.cells (cs.set o v).toArray T' (0,0))::R)):TO C ops Q (i::l) E H :=
  Zfo ho hg hx hy ht hs h1 (by simpa using hfit) (by simpa using kk)
theorem Xu {t T':TypeId}{x y:Operand}{b o:Nat}{cs cs':List Value}{v:Value}(q0_:ops[i]?=some ⟨none,.store t x y,ty,pos,af,g⟩∧Zr ops E g=true∧ev E x=some (.pointer (some ⟨b,o,none⟩))∧ev E y=some v)(ht:Take (some b,.cells cs.toArray T' (0,0)) H R)
    (hs:Yh C.P t=some 1)(q1_:v.oneCell'=true∧Nat.ble (o+1) cs.length=true∧cs.set o v=cs')
    (kk:TO C ops Q l E ((some b,.cells cs'.toArray T' (0,0))::R)):TO C ops Q (i::l) E H:=have ⟨ho,hg,hx,hy⟩:=q0_;have ⟨h1,hfit,hcs⟩:=q1_;
  Zij ho hg hx hy ht hs h1 hfit (by rw [hcs];exact kk)
theorem Xo {t T':TypeId}{x y:Operand}{b k:Nat}{cs vs:List Value}(q0_:ops[i]?=some ⟨none,.store t x y,ty,pos,af,g⟩∧Zr ops E g=true∧ev E x=some (.pointer (some ⟨b,0,none⟩))∧ev E y=some (.agg vs.toArray))(ht:Take (some b,.cells cs.toArray T' (0,0)) H R)
    (hs:Yh C.P t=some k)(q1_:vs.length=k∧cs.length=k∧vs.all (·.oneCell')=true)
    (kk:TO C ops Q l E ((some b,.cells vs.toArray T' (0,0))::R)):TO C ops Q (i::l) E H:=have ⟨ho,hg,hx,hy⟩:=q0_;have ⟨hk,hl,h1⟩:=q1_;
  Z1u (vs:=vs) ho hg hx hy ht (by simp [Value.cells]) (by rw [hk];exact hs) (fun u hu=>List.all_eq_true.1 h1 u hu) (by simp;omega) (by
    simp [List.drop_eq_nil_of_le (show cs.length≤vs.length by omega)]) kk
abbrev arr {α:Type}(f:α→List Value)(xs:List α)(j:List Value):List Value:=xs.flatMap f++j
abbrev intC (k:IntKind)(x:Int):List Value:=[.int k x]
abbrev boolC (b:Bool):List Value:=[.bool b]
theorem Kc {α:Type}{f:α→List Value}{s:Nat}(hf:∀ x,(f x).length=s):∀ xs:List α,(xs.flatMap f).length=xs.length*s
 | []=>by simp
 | x::xs=>by rw [List.flatMap_cons,List.length_append,hf,Kc hf xs,List.length_cons,Nat.add_mul];omega
theorem Z7k {α:Type}{f:α→List Value}{s:Nat}(hf:∀ x,(f x).length=s)(dflt:α):∀ (xs:List α) (o c:Nat),o<xs.length→c<s→(xs.flatMap f)[o*s+c]?=(f (xs.getD o dflt))[c]?
 | [],o,c,h,_=>by simp at h
 | x::xs,0,c,_,hc=>by
  rw [List.flatMap_cons,Nat.zero_mul,Nat.zero_add,List.getElem?_append_left (by rw [hf];exact hc)]
  rfl
 | x::xs,o+1,c,h,hc=>by
  rw [List.flatMap_cons,List.getElem?_append_right (by rw [hf,Nat.add_mul];omega),hf]
  have:(o+1)*s+c-s=o*s+c:=by rw [Nat.add_mul];omega
  rw [this,Z7k hf dflt xs o c (by simpa using h) hc]
  rfl
theorem Z4i {α:Type}{f:α→List Value}{s:Nat}(hf:∀ x,(f x).length=s)(dflt:α)(xs:List α)(j:List Value)(o c:Nat)(h:o<xs.length)(hc:c<s) :
    (arr f xs j)[o*s+c]?=(f (xs.getD o dflt))[c]?:=by
  unfold arr
  rw [List.getElem?_append_left,Z7k hf dflt xs o c h hc]
  rw [Kc hf]
  have:(o+1)*s≤xs.length*s:=Nat.mul_le_mul_right s h
  rw [Nat.add_mul] at this
  omega
theorem Z3g {α:Type}{f:α→List Value}{s:Nat}(hf:∀ x,(f x).length=s)(v:α)(j:List Value):∀ (xs:List α) (o:Nat),o<xs.length →
    (arr f xs j).take (o*s)++f v++(arr f xs j).drop (o*s+(f v).length)=arr f (xs.set o v) j
  | [],o,h=>by simp at h
  | x::xs,0,_=>by
    simp only [arr,List.flatMap_cons,Nat.zero_mul,List.take_zero,List.nil_append,Nat.zero_add,List.set_cons_zero,List.append_assoc]
    rw [hf,←hf x,List.drop_left]
  | x::xs,o+1,h=>by
    have ih:=Z3g hf v j xs o (by simpa using h)
    simp only [arr,List.flatMap_cons,List.append_assoc,List.set_cons_succ] at ih ⊢
    rw [←ih]
    have e:(o+1)*s=(f x).length+o*s:=by rw [hf,Nat.add_mul];omega
    rw [e,List.take_length_add_append,Nat.add_assoc,List.drop_length_add_append]
    simp [List.append_assoc]
theorem TO.ldI {t T':TypeId}{x:Operand}{b o:Nat}{k:IntKind}{xs:List Int}{j:List Value}{fr:Nat×Nat}(ho:ops[i]?=some ⟨some d,.load t x,ty,pos,af,g⟩)(hg:Zr ops E g=true)(hd:Nat.ble (d+1) C.n=true)
    (hx:ev E x=some (.pointer (some ⟨b,o,none⟩)))(hT:Xi C.P t=true)(hm:(some b,Obj.cells (arr (intC k) xs j).toArray T' fr)∈H)(hv:o<xs.length)
    (kk:TO C ops Q l ((d,.int k (xs.getD o 0))::E) H):TO C ops Q (i::l) E H :=
  Zt ⟨ho,hg,hd,hx⟩ hT hm (by
    have:=Z4i (f:=intC k) (s:=1) (fun _=>rfl) 0 xs j o 0 hv (by omega)
    simpa using this) kk
theorem TO.stI {t T':TypeId}{x y:Operand}{b o:Nat}{k:IntKind}{v:Int}{xs:List Int}{j:List Value}(ho:ops[i]?=some ⟨none,.store t x y,ty,pos,af,g⟩)(hg:Zr ops E g=true)
    (hx:ev E x=some (.pointer (some ⟨b,o,none⟩)))(hy:ev E y=some (.int k v))(ht:Take (some b,.cells (arr (intC k) xs j).toArray T' (0,0)) H R)
    (hs:Yh C.P t=some 1)(hv:o<xs.length)
    (kk:TO C ops Q l E ((some b,.cells (arr (intC k) (xs.set o v) j).toArray T' (0,0))::R)):TO C ops Q (i::l) E H:=by
  refine Z1u (vs:=[.int k v]) ho hg hx hy ht rfl hs (fun u hu=>by simp at hu;subst hu;rfl) (by simp [Kc (f:=intC k) (s:=1) (fun _=>rfl)];omega) ?_ kk
  have:=Z3g (f:=intC k) (s:=1) (fun _=>rfl) v j xs o hv
  simpa using this
theorem TO.stB {t T':TypeId}{x y:Operand}{b o:Nat}{v:Bool}{xs:List Bool}{j:List Value}(ho:ops[i]?=some ⟨none,.store t x y,ty,pos,af,g⟩)(hg:Zr ops E g=true)
    (hx:ev E x=some (.pointer (some ⟨b,o,none⟩)))(hy:ev E y=some (.bool v))(ht:Take (some b,.cells (arr boolC xs j).toArray T' (0,0)) H R)
    (hs:Yh C.P t=some 1)(hv:o<xs.length)
    (kk:TO C ops Q l E ((some b,.cells (arr boolC (xs.set o v) j).toArray T' (0,0))::R)):TO C ops Q (i::l) E H:=by
  refine Z1u (vs:=[.bool v]) ho hg hx hy ht rfl hs (fun u hu=>by simp at hu;subst hu;rfl) (by simp [Kc (f:=boolC) (s:=1) (fun _=>rfl)];omega) ?_ kk
  have:=Z3g (f:=boolC) (s:=1) (fun _=>rfl) v j xs o hv
  simpa using this
def ea (base:Option Addr)(n:Nat):Addr:=(base.getD ⟨0,0,none⟩).add n
theorem Z8l {t e:TypeId}{x y:Operand}{base:Option Addr}{n c s:Nat}{k:IntKind}{p:Int}(ho:ops[i]?=some ⟨some d,.indexAddr t x y,ty,pos,af,g⟩)(hg:Zr ops E g=true)(hd:Nat.ble (d+1) C.n=true)
    (hx:ev E x=some (.slice base n c))(hy:ev E y=some (.int k p))(ht:Yk C.P t=some e)(hs:Yh C.P e=some s)(hb:base=none→n=0)(h0:0≤p)(h1:p<n)
    (kk:TO C ops Q l ((d,.pointer (some (ea base (p.toNat*s))))::E) H):TO C ops Q (i::l) E H :=
  TO.val ho hg hd (by simp) (fun a w hf hi=>by
    cases base with
    | none=>exact absurd h1 (by simp [hb rfl];omega)
    | some b =>
      have hu:=Va ht
      simp [execOp,hf.ev hx,hf.ev hy,Instr.indexAt,asIntOf,run_underlying hu,h0,h1,Um hs,ea]) kk
theorem TO.index {t e:TypeId}{x y:Operand}{b o n c s:Nat}{k:IntKind}{p:Int}(ho:ops[i]?=some ⟨some d,.indexAddr t x y,ty,pos,af,g⟩)(hg:Zr ops E g=true)(hd:Nat.ble (d+1) C.n=true)
    (hx:ev E x=some (.slice (some ⟨b,o,none⟩) n c))(hy:ev E y=some (.int k p))(ht:Yk C.P t=some e)(hs:Yh C.P e=some s)(h0:0≤p)(h1:p<n)
    (kk:TO C ops Q l ((d,.pointer (some ⟨b,o+p.toNat*s,none⟩))::E) H):TO C ops Q (i::l) E H :=
  Z8l ho hg hd hx hy ht hs (by simp) h0 h1 (by simpa [ea,Addr.add_mid] using kk)
theorem Zc4 {t e:TypeId}{x y:Operand}{b n c s:Nat}{k:IntKind}{p:Int}(ho:ops[i]?=some ⟨some d,.indexAddr t x y,ty,pos,af,g⟩)(hg:Zr ops E g=true)(hd:Nat.ble (d+1) C.n=true)
    (hx:ev E x=some (.slice (some ⟨b,0,none⟩) n c))(hy:ev E y=some (.int k p))(ht:Yk C.P t=some e)(hs:Yh C.P e=some s)(h0:0≤p)(h1:p<n)
    (kk:TO C ops Q l ((d,.pointer (some ⟨b,p.toNat*s,none⟩))::E) H):TO C ops Q (i::l) E H :=
  TO.index ho hg hd hx hy ht hs h0 h1 (by rw [Nat.zero_add];exact kk)
theorem Zi2 {t e:TypeId}{x y:Operand}{b n c:Nat}{k:IntKind}{p:Int}(ho:ops[i]?=some ⟨some d,.indexAddr t x y,ty,pos,af,g⟩)(hg:Zr ops E g=true)(hd:Nat.ble (d+1) C.n=true)
    (hx:ev E x=some (.slice (some ⟨b,0,none⟩) n c))(hy:ev E y=some (.int k p))(ht:Yk C.P t=some e)(hs:Yh C.P e=some 1)(h0:0≤p)(h1:p<n)
    (kk:TO C ops Q l ((d,.pointer (some ⟨b,p.toNat,none⟩))::E) H):TO C ops Q (i::l) E H :=
  Zc4 ho hg hd hx hy ht hs h0 h1 (by rw [Nat.mul_one];exact kk)
theorem Zje {t e:TypeId}{x y:Operand}{base:Option Addr}{n c s:Nat}{k:IntKind}{p:Int}(ho:ops[i]?=some ⟨some d,.slice t x none (some y) none,ty,pos,af,g⟩)(hg:Zr ops E g=true)(hd:Nat.ble (d+1) C.n=true)
    (hx:ev E x=some (.slice base n c))(hy:ev E y=some (.int k p))(ht:Yk C.P t=some e)(hs:Yh C.P e=some s)(h0:0≤p)(h1:p≤c)
    (kk:TO C ops Q l ((d,.slice base p.toNat c)::E) H):TO C ops Q (i::l) E H :=
  TO.val ho hg hd (by simp) (fun a w hf hi=>by
    have hu:=Va ht
    have hb:∀ b:Option Addr,Option.map (fun x=>x.add 0) b=b:=fun b=>by cases b <;> simp [Addr.add]
    simp [execOp,hf.ev hx,hf.ev hy,Instr.sliceAt,Instr.slice,Instr.sliceBounds,Instr.sliceBound,asIntOf,run_underlying hu,h0,h1,Um hs,hb]) kk
structure RO {α:Type}(w:World)(f:α→List Value)(s:Nat)(base:Option Addr)(n:Nat)(xs:List α):Prop where
  len:xs.length=n
  nil:base=none→n=0
  wide:∀ x,(f x).length=s
  cell:∀ o c,o<xs.length→c<s→∀ x,xs[o]?=some x→w.cell? (ea base (o*s+c))=(f x)[c]?
section ro
variable {α : Type} {w w0 : World} {f : α → List Value} {s n : Nat} {base : Option Addr} {xs : List α} {M : List Nat}
theorem RO.at (h:RO w f s base n xs)(dflt:α){o c:Nat}(ho:o<xs.length)(hc:c<s):w.cell? (ea base (o*s+c))=(f (xs.getD o dflt))[c]? :=
 h.cell o c ho hc _ (by rw [List.getElem?_eq_getElem ho,List.getD_eq_getElem?_getD,List.getElem?_eq_getElem ho];rfl)
theorem RO.nil' (w:World)(hf:∀ x,(f x).length=s):RO w f s none 0 ([]:List α):=⟨rfl,fun _=>rfl,hf,fun o c h=>by simp at h⟩
theorem Inv.ro (hi:Inv w0 M w H)(hf:∀ x,(f x).length=s){b:Nat}{T':TypeId}{fr:Nat×Nat}{j:List Value}(hm:(some b,Obj.cells (arr f xs j).toArray T' fr)∈H):RO w f s (some ⟨b,0,none⟩) xs.length xs :=
 ⟨rfl,by simp,hf,fun o c ho hc x hx=>by
  rw [show ea (some ⟨b,0,none⟩) (o*s+c)=⟨b,o*s+c,none⟩ by simp [ea,Addr.add_mid],hi.cell_own hm,List.getElem?_toArray,Z4i hf x xs j o c ho hc]
  rw [List.getD_eq_getElem?_getD,hx];rfl⟩
theorem RO.take (h:RO w f s base n xs){m:Nat}(hm:m≤n):RO w f s base m (xs.take m) :=
 ⟨by rw [List.length_take,h.len];omega,fun hb=>by have:=h.nil hb;omega,h.wide,fun o c ho hc x hx=>by
  have:o<m:=by rw [List.length_take] at ho;omega
  rw [List.getElem?_take_of_lt this] at hx
  exact h.cell o c (by rw [List.length_take] at ho;omega) hc x hx⟩
end ro
theorem Z5x (base:Option Addr)(n m:Nat):(ea base n).add m=ea base (n+m):=by
 unfold ea Addr.add
 by_cases h1:n=0
 ·subst h1;simp
 ·
  by_cases h2:m=0
  ·subst h2;simp
  ·
   rw [if_neg h2,if_neg h1,if_neg (show n+m≠0 by omega)]
   simp [Nat.add_assoc]
theorem Zjj (z:Value)(n:Nat):madeCells #[z] n=(List.replicate n z).toArray:=by
 unfold madeCells
 apply Array.ext'
 simp only [Array.toList_map]
 rw [List.eq_replicate_iff]
 refine ⟨by simp,fun u hu=>?_⟩
 simp only [List.mem_map] at hu
 obtain ⟨q,_,rfl⟩:=hu
 simp [Nat.mod_one]
theorem TO.makeSlice {t e:TypeId}{x y:Operand}{k k':IntKind}{p:Int}{z:Value}{by':Nat}(ho:ops[i]?=some ⟨some d,.makeSlice t x y,ty,pos,af,g⟩)(hg:Zr ops E g=true)(hd:Nat.ble (d+1) C.n=true)
    (hx:ev E x=some (.int k p))(hy:ev E y=some (.int k' p))(ht:Yk C.P t=some e)(hs:Yh C.P e=some 1)(hz:Yz C.P e=some z)(hz1:z.cells=#[z])(hb:Vb C.P e=some by')
    (h0:0≤p)(hroom:by'*p.toNat≤281474976710656)(h63:p≤9223372036854775807)
    (kk:∀ b,TO C ops Q l ((d,.slice (some ⟨b,0,none⟩) p.toNat p.toNat)::E) ((some b,.cells (List.replicate p.toNat z).toArray e (0,0))::H)):TO C ops Q (i::l) E H:=by
  obtain ⟨ti,hti,hsz⟩:=Jy hs
  have hz':ti.zero=some z:=by simpa [Yz,hti] using hz
  have hb':ti.bytes=by':=by simpa [Vb,hti] using hb
  refine TO.new (fun b=>.slice (some ⟨b,0,none⟩) p.toNat p.toNat) ho hg hd (by simp) (fun a w hf hi=>?_) kk
  have hr:=run_make (P:=C.P) w t e ti z (Va ht) hti hz' k k' p p h0 (Int.le_refl _) (by
    rw [hb']
    have:(p.toNat:Int)=p:=Int.toNat_of_nonneg h0
    have h2:((by'*p.toNat:Nat):Int)≤281474976710656:=by omega
    rw [Int.natCast_mul,this] at h2
    exact h2) h63
  rw [hsz,Nat.mul_one,hz1,Zjj] at hr
  simp [execOp,hf.ev hx,hf.ev hy,hr]
theorem Zfe (n:Nat)(k:IntKind):(List.replicate n (Value.int k 0))=arr (intC k) (List.replicate n 0) []:=by
 induction n with
 | zero=>rfl
 | succ n ih=>simp only [List.replicate_succ,arr,List.flatMap_cons,List.append_nil,intC,List.singleton_append] at *;rw [←ih]
theorem Zgh (n:Nat):(List.replicate n (Value.bool false))=arr boolC (List.replicate n false) []:=by
 induction n with
 | zero=>rfl
 | succ n ih=>simp only [List.replicate_succ,arr,List.flatMap_cons,List.append_nil,boolC,List.singleton_append] at *;rw [←ih]
theorem TO.makeI {t e:TypeId}{x y:Operand}{k k' q:IntKind}{p:Int}{by':Nat}(ho:ops[i]?=some ⟨some d,.makeSlice t x y,ty,pos,af,g⟩)(hg:Zr ops E g=true)(hd:Nat.ble (d+1) C.n=true)
    (hx:ev E x=some (.int k p))(hy:ev E y=some (.int k' p))(ht:Yk C.P t=some e)(hs:Yh C.P e=some 1)(hz:Yz C.P e=some (.int q 0))(hb:Vb C.P e=some by')
    (h0:0≤p)(hroom:by'*p.toNat≤281474976710656)(h63:p≤9223372036854775807)
    (kk:∀ b,TO C ops Q l ((d,.slice (some ⟨b,0,none⟩) p.toNat p.toNat)::E) ((some b,.cells (arr (intC q) (List.replicate p.toNat 0) []).toArray e (0,0))::H)):TO C ops Q (i::l) E H :=
  TO.makeSlice ho hg hd hx hy ht hs hz rfl hb h0 hroom h63 (fun b=>by rw [Zfe];exact kk b)
theorem TO.makeB {t e:TypeId}{x y:Operand}{k k':IntKind}{p:Int}{by':Nat}(ho:ops[i]?=some ⟨some d,.makeSlice t x y,ty,pos,af,g⟩)(hg:Zr ops E g=true)(hd:Nat.ble (d+1) C.n=true)
    (hx:ev E x=some (.int k p))(hy:ev E y=some (.int k' p))(ht:Yk C.P t=some e)(hs:Yh C.P e=some 1)(hz:Yz C.P e=some (.bool false))(hb:Vb C.P e=some by')
    (h0:0≤p)(hroom:by'*p.toNat≤281474976710656)(h63:p≤9223372036854775807)
    (kk:∀ b,TO C ops Q l ((d,.slice (some ⟨b,0,none⟩) p.toNat p.toNat)::E) ((some b,.cells (arr boolC (List.replicate p.toNat false) []).toArray e (0,0))::H)):TO C ops Q (i::l) E H :=
  TO.makeSlice ho hg hd hx hy ht hs hz rfl hb h0 hroom h63 (fun b=>by rw [Zgh];exact kk b)
theorem TO.buildSlice {t e:TypeId}{n:Nat}{ps:Array (Nat×Operand)}{vs:List (Nat×Value)}{cs:Array Value}{z:Value}{s:Nat}(ho:ops[i]?=some ⟨some d,.buildSlice t n ps,ty,pos,af,g⟩)(hg:Zr ops E g=true)(hd:Nat.ble (d+1) C.n=true)
    (hx:evp E ps.toList=some vs)(ht:Yk C.P t=some e)(hs:Yh C.P e=some s)(hz:Yz C.P e=some z)(h24:Nat.ble (n*s) (2^24)=true)(hp:Nat.ble 1 (n*s)=true)
    (hfill:Instr.fill (fun i=>some (i*s,s)) ((Array.range (n*s)).map (z.cells[·%z.cells.size]!)) vs=some cs)
    (kk:∀ b,TO C ops Q l ((d,.slice (some ⟨b,0,none⟩) n n)::E) ((some b,.cells cs e (0,0))::H)):TO C ops Q (i::l) E H:=by
  obtain ⟨ti,hti,hsz⟩:=Jy hs
  have hz':ti.zero=some z:=by simpa [Yz,hti] using hz
  refine TO.new (fun b=>.slice (some ⟨b,0,none⟩) n n) ho hg hd (by simp) (fun a w hf hi=>?_) kk
  have e1:(ps.map (fun p=>(p.1,a.eval p.2))).toList=vs:=by simpa using Z5p hf hx
  have h24':=Nat.le_of_ble_eq_true h24
  have hp':=Nat.le_of_ble_eq_true hp
  have hr:=run_buildSlice (P:=C.P) w t e n (ps.map (fun p=>(p.1,a.eval p.2))) cs ti z (Va ht) hti hz' (by rw [hsz];omega) (by rw [hsz];omega) (by rw [e1,hsz];exact hfill)
  simp [execOp,hr]
theorem Jc {t e:TypeId}{n:Nat}{ps:Array (Nat×Operand)}{vs:List (Nat×Value)}{cs:List Value}{z:Value}{s:Nat}(zs:List Value)(offs:List Nat)(q0_:ops[i]?=some ⟨some d,.buildSlice t n ps,ty,pos,af,g⟩∧Zr ops E g=true∧Nat.ble (d+1) C.n=true∧evp E ps.toList=some vs)(ht:Yk C.P t=some e)(hs:Yh C.P e=some s)(hz:Yz C.P e=some z)(q1_:Nat.ble (n*s) (2^24)=true∧Nat.ble 1 (n*s)=true)
    (_hcs:Xv offs zs vs=cs)
    (hfill:Instr.fill (fun i=>some (i*s,s)) ((Array.range (n*s)).map (z.cells[·%z.cells.size]!)) vs=some cs.toArray)
    (kk:∀ b,TO C ops Q l ((d,.slice (some ⟨b,0,none⟩) n n)::E) ((some b,.cells cs.toArray e (0,0))::H)):TO C ops Q (i::l) E H:=have ⟨ho,hg,hd,hx⟩:=q0_;have ⟨h24,hp⟩:=q1_;
  TO.buildSlice ho hg hd hx ht hs hz h24 hp hfill kk
theorem Zg0 {t e:TypeId}{s:Nat}(q0_:ops[i]?=some ⟨some d,.buildSlice t 0 #[],ty,pos,af,g⟩∧Zr ops E g=true∧Nat.ble (d+1) C.n=true)
    (ht:Yk C.P t=some e)(hs:Yh C.P e=some s)
    (kk:∀ b,TO C ops Q l ((d,.slice (some ⟨b,0,none⟩) 0 0)::E) ((some b,.cells #[] e (0,0))::H)):TO C ops Q (i::l) E H:=by
  obtain ⟨ho,hg,hd⟩:=q0_
  refine TO.new (fun b=>.slice (some ⟨b,0,none⟩) 0 0) ho hg hd (by simp) (fun a w hf hi=>?_) kk
  simp [execOp,Instr.buildSlice,run_underlying (Va ht),Um hs,Instr.fill,newRow,Array.range_zero']
theorem TO.len {t:TypeId}{at':Array TypeId}{x:Operand}{e:TypeId}{base:Option Addr}{n c:Nat}
    (ho:ops[i]?=some ⟨some d,.call ⟨.builtin .len,#[x],at'⟩,ty,pos,af,g⟩)(hg:Zr ops E g=true)(hd:Nat.ble (d+1) C.n=true)(hat:at'[0]?=some t)
    (hx:ev E x=some (.slice base n c))(ht:Yk C.P t=some e)(kk:TO C ops Q l ((d,.int .i64 n)::E) H):TO C ops Q (i::l) E H :=
  TO.val ho hg hd (by simp) (fun a w hf _=>by
    simp [execOp,resolve,invoke,builtin,hf.ev hx,Builtin.len_,hat,run_underlying (Va ht),goInt]) kk
theorem Z2o {o:Oper}{f:FuncId}{args:Array Value}{M:List Nat}{Hm:Heap}{Post:Value→Heap→Prop}
    (ho:ops[i]?=some o)(hg:Zr ops E o.guard=true)(hdst:o.dst=some d)(hnd:∀ c,o.op≠.defer c)(hd:Nat.ble (d+1) C.n=true)
    (hrun:∀ a w,Fits C.n C.D E a→Inv C.w0 C.M w H→(execOp a.eval o).run C.P w=.ok (.enter f args) w)
    (hH:List.Perm H (Hm++R))(hM:∀ m,m∈M→m∈Hm.filterMap (·.1))
    (hc:∀ w,Inv C.w0 C.M w H→Fnc C.P f args w M Post)
    (kk:∀ v N,Post v N→TO C ops Q l ((d,v)::E) (N++R)):TO C ops Q (i::l) E H :=
  Kr ho hg hnd fun a w hf hi=>by
    rw [hrun a w hf hi]
    refine ⟨by simp [FW],?_⟩
    refine callsIn_FW.2 (Calls.mono (hc w hi) ?_)
    rintro e w' ⟨v,N,hP,rfl,hN⟩
    show wpOpsIn _ _ _ _ _ _ _ _
    rw [hdst]
    exact kk v N hP _ _ (hf.put hd v) (hi.join hH hM hN)
def Yb (P:Program)(f:FuncId):Bool :=
  match P.funcs[f]? with
  | some fn=>fn.body.isSome&&!(fn.name== "runtime.NumGoroutine")
  | none=>false
theorem Ux {P:Program}{f:FuncId}(h:Yb P f=true)(args:Array Value)(w:World):(callFunc f args).run P w=.ok (.enter f args) w:=by
 unfold Yb at h
 cases hf:P.funcs[f]? with
 | none=>simp [hf] at h
 | some fn =>
  simp only [hf,Bool.and_eq_true,Bool.not_eq_true'] at h
  have h2:¬fn.body=none:=by cases hb:fn.body <;> simp_all
  have h3:¬fn.name= "runtime.NumGoroutine":=by simpa using h.2
  simp [callFunc,hf,h3,h2]
theorem TO.call {f:FuncId}{xs:Array Operand}{at':Array TypeId}{vs:List Value}{Post:Value→Heap→Prop}
    (ho:ops[i]?=some ⟨some d,.call ⟨.value (.func f),xs,at'⟩,ty,pos,af,g⟩)(hg:Zr ops E g=true)(hd:Nat.ble (d+1) C.n=true)(hF:Yb C.P f=true)
    (hx:evs E xs.toList=some vs)
    (hc:∀ w,Inv C.w0 C.M w H→Fnc C.P f vs.toArray w [] Post)
    (kk:∀ v N,Post v N→TO C ops Q l ((d,v)::E) (N++H)):TO C ops Q (i::l) E H :=
  Z2o (Hm:=[]) (R:=H) ho hg rfl (by simp) hd (fun a w hf hi=>by
    have e1:xs.map a.eval=vs.toArray:=by apply Array.ext';simpa using Jk hf hx
    simp [execOp,resolve,Deferred.ofValue,invoke,Act.eval,e1,Ux hF]) (List.Perm.refl _) (by simp) hc kk
theorem TO.callV {f:FuncId}{x:Operand}{xs:Array Operand}{at':Array TypeId}{vs:List Value}{fs cs:Array Value}{Post:Value→Heap→Prop}
    (ho:ops[i]?=some ⟨some d,.call ⟨.value x,xs,at'⟩,ty,pos,af,g⟩)(hg:Zr ops E g=true)(hd:Nat.ble (d+1) C.n=true)(hF:Yb C.P f=true)
    (hfv:ev E x=some (.func (.func f) fs cs))(hx:evs E xs.toList=some vs)
    (hc:∀ w,Inv C.w0 C.M w H→Fnc C.P f (fs++vs.toArray++cs) w [] Post)
    (kk:∀ v N,Post v N→TO C ops Q l ((d,v)::E) (N++H)):TO C ops Q (i::l) E H :=
  Z2o (Hm:=[]) (R:=H) ho hg rfl (by simp) hd (fun a w hf hi=>by
    have e1:xs.map a.eval=vs.toArray:=by apply Array.ext';simpa using Jk hf hx
    simp [execOp,resolve,Deferred.ofValue,invoke,hf.ev hfv,e1,Ux hF]) (List.Perm.refl _) (by simp) hc kk
theorem Ze5 {f:FuncId}{x:Operand}{xs:Array Operand}{at':Array TypeId}{vs:List Value}{fs cs:Array Value}{M:List Nat}{Hm:Heap}{Post:Value→Heap→Prop}
    (ho:ops[i]?=some ⟨some d,.call ⟨.value x,xs,at'⟩,ty,pos,af,g⟩)(hg:Zr ops E g=true)(hd:Nat.ble (d+1) C.n=true)(hF:Yb C.P f=true)
    (hfv:ev E x=some (.func (.func f) fs cs))(hx:evs E xs.toList=some vs)
    (hH:List.Perm H (Hm++R))(hM:∀ m,m∈M→m∈Hm.filterMap (·.1))
    (hc:∀ w,Inv C.w0 C.M w H→Fnc C.P f (fs++vs.toArray++cs) w M Post)
    (kk:∀ v N,Post v N→TO C ops Q l ((d,v)::E) (N++R)):TO C ops Q (i::l) E H :=
  Z2o ho hg rfl (by simp) hd (fun a w hf hi=>by
    have e1:xs.map a.eval=vs.toArray:=by apply Array.ext';simpa using Jk hf hx
    simp [execOp,resolve,Deferred.ofValue,invoke,hf.ev hfv,e1,Ux hF]) hH hM hc kk
end rules
section ends
variable {C : Cx} {E : Env} {H N : Heap}
def Gp (tmps:Array Value):ResultVar→Sem Value
  | .tmp t=>pure (tmps.getD t undef)
  | .cell x t=>do loadVar t (←asAddr (tmps.getD x undef))
theorem Z9w (fn:Func)(tmps:Array Value):results fn tmps=(do
    let vs ←fn.results.mapM (Gp tmps)
    pure (if h:vs.size=1 then vs[0] else .tuple vs)):=by
  unfold results
  congr 2
def Res (C:Cx)(E:Env)(H:Heap)(r:ResultVar)(v:Value):Prop:=∀ a w,Fits C.n C.D E a→Inv C.w0 C.M w H→(Gp a.tmps r).run C.P w=.ok v w
theorem Res.tmp {t:Nat}{v:Value}(h:find E t=some v):Res C E H (.tmp t) v:=fun a w hf _=>by simp only [Gp,hf.get t v h];rfl
theorem Ky {x k:Nat}{t T':TypeId}{b:Nat}{cs:List Value}{fr:Nat×Nat}(h:find E x=some (.pointer (some ⟨b,0,none⟩)))(hT:Vs C.P t k=true)(hm:(some b,Obj.cells cs.toArray T' fr)∈H)(hk:cs.length=k) :
    Res C E H (.cell x t) (.agg cs.toArray):=fun a w hf hi=>by
  have:=Z3l (P:=C.P) (w:=w) hT hk (a:=⟨b,0,none⟩) (fun j v hv=>by rw [Addr.add_mid,Nat.zero_add,hi.cell_own hm];simpa using hv)
  simp only [Gp,hf.get x _ h,asAddr,Sem.run_bind,Sem.run_pure,Result.andThen_ok,this]
theorem Ui {x o:Nat}{t T':TypeId}{b:Nat}{cs:Array Value}{fr:Nat×Nat}{v:Value}(h:find E x=some (.pointer (some ⟨b,o,none⟩)))(hT:Xi C.P t=true)(hm:(some b,Obj.cells cs T' fr)∈H)(hv:cs[o]?=some v) :
    Res C E H (.cell x t) v:=fun a w hf hi=>by
  have:=Z4r hT (show w.cell? ⟨b,o,none⟩=some v by rw [hi.cell_own hm];exact hv)
  simp only [Gp,hf.get x _ h,asAddr,Sem.run_bind,Sem.run_pure,Result.andThen_ok,this]
def Rk:List Value→Value
  | [u]=>u
  | vs=>.tuple vs.toArray
theorem X.ret {fn:Func}{rs:List ResultVar}{vs:List Value}{v:Value}{w0:World}{M:List Nat}{Post:Value→Heap→Prop}(hw:C.w0=w0)(hMM:C.M=M)(hD:C.D=[])(hfn:fn.results.toList=rs)
    (hr:∀ (j:Nat) r u,rs[j]?=some r→vs[j]?=some u→Res C E H r u)(hl:rs.length=vs.length)(hv:v=Rk vs)
    (hN:Pick N H)(hP:Post v N):X C (bodyPost C.P fn (Wb w0 M Post)) .ret E H:=by
  intro a w hf hi
  refine ⟨hf.defers.trans hD,v,?_,v,N,hP,rfl,by rw [←hw,←hMM];exact hi.pick hN⟩
  have key:∀ (rs:List ResultVar) (vs:List Value),rs.length=vs.length→(∀ (j:Nat) r u,rs[j]?=some r→vs[j]?=some u→Res C E H r u) →
      (rs.mapM (Gp a.tmps)).run C.P w=.ok vs w:=by
    intro rs
    induction rs with
    | nil=>intro vs hl _;cases vs <;> simp_all
    | cons r rs ih =>
      intro vs hl h
      cases vs with
      | nil=>simp at hl
      | cons u vs =>
        have h0:=h 0 r u rfl rfl a w hf hi
        have h1:=ih vs (by simpa using hl) (fun j r' u' hj hu=>h (j+1) r' u' (by simpa using hj) (by simpa using hu))
        simp only [List.mapM_cons,Sem.run_bind,h0,Result.andThen_ok,h1,Sem.run_pure]
  have:=key rs vs hl hr
  rw [Z9w,←Array.toArray_toList (xs:=fn.results),hfn,List.mapM_toArray]
  simp only [Sem.run_bind,Sem.run_map,this,Result.andThen_ok,Sem.run_pure]
  rw [hv]
  cases vs with
  | nil=>simp [Rk]
  | cons u vs =>
    cases vs with
    | nil=>simp [Rk]
    | cons u' vs=>simp [Rk]
theorem Yd {fn:Func}{r:ResultVar}{v:Value}{w0:World}{M:List Nat}{Post:Value→Heap→Prop}(q0_:C.w0=w0∧C.M=M∧C.D=[]∧fn.results.toList=[r])(hr:Res C E H r v)(hN:Pick N H)(hP:Post v N) :
    X C (bodyPost C.P fn (Wb w0 M Post)) .ret E H:=have ⟨hw,hMM,hD,hfn⟩:=q0_;
  X.ret (vs:=[v]) hw hMM hD hfn (fun j r' u h1 h2=>by
    cases j with
    | zero=>simp at h1 h2;subst h1;subst h2;exact hr
    | succ j=>simp at h1) rfl rfl hN hP
theorem Xg {fn:Func}{r r':ResultVar}{v v':Value}{w0:World}{M:List Nat}{Post:Value→Heap→Prop}(q0_:C.w0=w0∧C.M=M∧C.D=[]∧fn.results.toList=[r,r'])(hr:Res C E H r v)(hr':Res C E H r' v')(hN:Pick N H)(hP:Post (.tuple #[v,v']) N) :
    X C (bodyPost C.P fn (Wb w0 M Post)) .ret E H:=have ⟨hw,hMM,hD,hfn⟩:=q0_;
  X.ret (vs:=[v,v']) hw hMM hD hfn (fun j r'' u h1 h2=>by
    match j with
    | 0=>simp at h1 h2;subst h1;subst h2;exact hr
    | 1=>simp at h1 h2;subst h1;subst h2;exact hr'
    | j+2=>simp at h1) rfl rfl hN hP
def Gl:Nat→List Value→Env
  | _,[]=>[]
  | k,v::vs=>(k,v)::Gl (k+1) vs
theorem Z0s:∀ (vs:List Value) (k t:Nat) (v:Value),find (Gl k vs) t=some v→k≤t∧vs[t-k]?=some v
 | [],k,t,v,h=>by simp [Gl,find] at h
 | u::vs,k,t,v,h=>by
  simp only [Gl] at h
  rw [Kb] at h
  by_cases e:k=t
  ·subst e;rw [if_pos rfl] at h;simpa using h
  ·
   rw [if_neg e] at h
   obtain ⟨h1,h2⟩:=Z0s vs (k+1) t v h
   refine ⟨by omega,?_⟩
   have:t-k=(t-(k+1))+1:=by omega
   rw [this];simpa using h2
theorem Fnc.enter {P:Program}{f:FuncId}{fn:Func}{c:Code}{vs:List Value}{w:World}{M:List Nat}{H:Heap}{Post:Value→Heap→Prop}
    (hf:P.funcs[f]?=some fn)(hb:fn.body=some c)(hn:Nat.ble vs.length fn.ntmps=true)(hi:Inv w M w H)
    (h:T ⟨P,none,fn.ntmps,[],w,M⟩ c (bodyPost P fn (Wb w M Post)) (Gl 0 vs) H):Fnc P f vs.toArray w M Post:=by
  have hn':=Nat.le_of_ble_eq_true hn
  refine callsIn_FW (ρ:=none) (n:=0) |>.1 (callsIn_of_wp hf hb trivial ?_ rfl)
  refine h _ w ⟨by simp;omega,rfl,fun t v hv=>?_⟩ hi
  obtain ⟨_,h2⟩:=Z0s vs 0 t v hv
  rw [Nat.sub_zero] at h2
  have hlt:=(List.getElem?_eq_some_iff.1 h2).1
  simp only [Array.getD_eq_getD_getElem?]
  rw [Array.getElem?_append_left (by simpa using hlt)]
  simp [h2]
end ends
end Go.Acq
namespace Go.Acq
open Go Go.RowKit
def Kf (ops:Array Oper):Bool:=(List.range ops.size).all fun i=>match ops[i]? with
  | some o=>o.after.all fun e=>!Region.binds .any e||Nat.blt e.on i
  | none=>false
section any
variable {F : Fence} {P : Program} {ops : Array Oper} {Q : Exit → Act → World → Prop}
theorem Zdx {listed:Array Bool}(hb:Kf ops=true)(h:Region.ready .any ops listed=[]):∀ i,i<ops.size→listed.getD i true=true:=by
 intro i
 induction i using Nat.strongRecOn with
 | _ i ih =>
  intro hi
  cases hl:listed.getD i true with
  | true=>rfl
  | false =>
   exfalso
   have hb':=List.all_eq_true.1 hb i (List.mem_range.2 hi)
   have ho:ops[i]?=some ops[i]:=Array.getElem?_eq_getElem hi
   rw [ho] at hb'
   have:i∈Region.ready .any ops listed:=by
    rw [mem_ready]
    refine ⟨hl,ops[i],ho,?_⟩
    intro e he hbe
    have h2:=Array.all_eq_true_iff_forall_mem.1 hb' e he
    rw [hbe] at h2
    have hlt:e.on<i:=by simpa using h2
    have:=ih e.on hlt (by omega)
    have hsz:listed.getD e.on false=true:=by
     rw [Array.getD_eq_getD_getElem?] at this hl ⊢
     cases hq:listed[e.on]? with
     | some b=>rw [hq] at this;simpa using this
     | none =>
      have h3:listed[i]?=none:=by
       rw [Array.getElem?_eq_none_iff] at hq ⊢
       omega
      rw [h3] at hl;simp at hl
    exact hsz
   rw [h] at this
   cases this
theorem Z8s (J:(Nat→Bool)→Act→World→Prop)(hb:Kf ops=true)
    (hstep:∀ (done:Nat→Bool) i o a w,ops[i]?=some o→done i=false→(∀ e,e∈o.after→Region.binds .any e=true→done e.on=true)→J done a w →
      wpOpIn F 0 P ops Q i (fun a' w'=>J (fun m=>if m=i then true else done m) a' w') a w)
    (hend:∀ (done:Nat→Bool) a w,(∀ i,i<ops.size→done i=true)→J done a w→Q .normal a w) :
    ∀ (fuel:Nat) (listed:Array Bool) a w,listed.size=ops.size→((List.range ops.size).filter (fun i=>!listed.getD i true)).length≤fuel→J (fun m=>listed.getD m false) a w →
      wpAnyIn F 0 P .any ops Q fuel listed a w:=by
  have hfin:∀ (listed:Array Bool) a w,listed.size=ops.size→Region.ready .any ops listed=[]→J (fun m=>listed.getD m false) a w→Q .normal a w:=by
    intro listed a w hs hr hJ
    refine hend _ a w (fun i hi=>?_) hJ
    have:=Zdx hb hr i hi
    rw [Array.getD_eq_getD_getElem?] at this ⊢
    rw [Array.getElem?_eq_getElem (by omega)] at this ⊢
    simpa using this
  intro fuel
  induction fuel with
  | zero =>
    intro listed a w hs hf hJ
    have hr:Region.ready .any ops listed=[]:=by
      cases hq:Region.ready .any ops listed with
      | nil=>rfl
      | cons i l =>
        exfalso
        have hm:i∈Region.ready .any ops listed:=by rw [hq];exact .head _
        obtain ⟨hl,o,ho,_⟩:=mem_ready.1 hm
        have hi:i<ops.size:=(Array.getElem?_eq_some_iff.1 ho).1
        have:i∈(List.range ops.size).filter (fun i=>!listed.getD i true):=List.mem_filter.2 ⟨List.mem_range.2 hi,by simp [hl]⟩
        have:=List.length_pos_of_mem this
        omega
    exact ⟨hr,hfin listed a w hs hr hJ⟩
  | succ fuel ih =>
    intro listed a w hs hf hJ
    refine ⟨fun hr=>hfin listed a w hs hr hJ,fun i hm=>?_⟩
    obtain ⟨hl,o,ho,hafter⟩:=mem_ready.1 hm
    have hi:i<ops.size:=(Array.getElem?_eq_some_iff.1 ho).1
    have hli:listed[i]?=some false:=by
      rw [Array.getD_eq_getD_getElem?] at hl
      cases hq:listed[i]? with
      | none=>rw [hq] at hl;simp at hl
      | some b=>rw [hq] at hl;simp at hl;rw [hl]
    have hd:(fun m=>listed.getD m false) i=false:=by
      show listed.getD i false=false
      rw [Array.getD_eq_getD_getElem?,hli];rfl
    refine wpOpIn_mono (fun a' w' hJ'=>ih _ a' w' (by simp [hs]) ?_ ?_) (hstep _ i o a w ho hd hafter hJ)
    · have hsub : (List.range ops.size).filter (fun j => !(listed.setIfInBounds i true).getD j true) = ((List.range ops.size).filter (fun j => !listed.getD j true)).filter (fun j => decide (j ≠ i)) := by
        rw [List.filter_filter]
        apply List.filter_congr
        intro j hj
        have hjs:j<ops.size:=List.mem_range.1 hj
        simp only [Array.getD_eq_getD_getElem?,Array.getElem?_setIfInBounds]
        by_cases e:i=j
        ·subst e;simp [hs,hjs]
        · rw [if_neg e]
          have:decide (j≠i)=true:=by simpa using fun h=>e h.symm
          rw [this];simp
      rw [hsub]
      have hmem:i∈(List.range ops.size).filter (fun j=>!listed.getD j true):=List.mem_filter.2 ⟨List.mem_range.2 hi,by simp [hl]⟩
      have:(((List.range ops.size).filter (fun j=>!listed.getD j true)).filter (fun j=>decide (j≠i))).length<((List.range ops.size).filter (fun j=>!listed.getD j true)).length:=by
        rw [List.length_filter_lt_length_iff_exists]
        exact ⟨i,hmem,by simp⟩
      omega
    · have : (fun m => (listed.setIfInBounds i true).getD m false) = (fun m => if m = i then true else listed.getD m false) := by
        funext m
        simp only [Array.getD_eq_getD_getElem?,Array.getElem?_setIfInBounds]
        by_cases e:i=m
        · subst e
          have:i<listed.size:=by omega
          simp [this]
        ·rw [if_neg e,if_neg (fun h=>e h.symm)]
      rw [this];exact hJ'
end any
def Uk (ops:Array Oper):Nat→Nat→Nat→Bool
  | 0,_,_=>false
  | f+1,i,j=>match ops[i]? with
    | some o=>(o.after.toList.any fun e=>Region.binds .any e&&Nat.beq e.on j)||(o.after.toList.any fun e=>Region.binds .any e&&Uk ops f e.on j)
    | none=>false
def Np (ops:Array Oper)(m:Nat):Bool:=(List.range ops.size).all fun i=>Nat.blt i m||(List.range i).all fun j=>Uk ops ops.size i j
section phase
variable {F : Fence} {P : Program} {ops : Array Oper} {Q : Exit → Act → World → Prop}
def Up (ops:Array Oper)(done:Nat→Bool):Prop:=∀ (i:Nat) (o:Oper),ops[i]?=some o→done i=true→∀ e,e∈o.after→Region.binds .any e=true→done e.on=true
theorem Lu {done:Nat→Bool}(hc:Up ops done):∀ (f i j:Nat),Uk ops f i j=true→(∀ (o:Oper),ops[i]?=some o→∀ e,e∈o.after→Region.binds .any e=true→done e.on=true)→done j=true
 | 0,i,j,h,_=>by simp [Uk] at h
 | f+1,i,j,h,hd=>by
  unfold Uk at h
  cases ho:ops[i]? with
  | none=>rw [ho] at h;simp at h
  | some o =>
   rw [ho] at h
   simp only [Bool.or_eq_true,List.any_eq_true] at h
   rcases h with h | h
   ·
    obtain ⟨e,he,h2⟩:=h
    simp only [Bool.and_eq_true] at h2
    rw [←Nat.eq_of_beq_eq_true h2.2]
    exact hd o ho e (by simpa using he) h2.1
   ·
    obtain ⟨e,he,h2⟩:=h
    simp only [Bool.and_eq_true] at h2
    have hde:=hd o ho e (by simpa using he) h2.1
    exact Lu hc f e.on j h2.2 (fun o' ho' e' he' hb'=>hc e.on o' ho' hde e' he' hb')
theorem Z66 {id:Nat}{m:Nat}(Jp:(Nat→Bool)→Act→World→Prop)(hm:P.follows .mixedOrders=true)(hb:Kf ops=true)(ht:Np ops m=true)(hms:m≤ops.size)
    (hstep:∀ (done:Nat→Bool) i o a w,i<m→ops[i]?=some o→done i=false→Up ops done→(∀ e,e∈o.after→Region.binds .any e=true→done e.on=true)→(∀ j,m≤j→done j=false)→Jp done a w →
      wpOpIn F 0 P ops Q i (fun a' w'=>Jp (fun q=>if q=i then true else done q) a' w') a w)
    (hend:∀ (done:Nat→Bool) a w,(∀ i,i<m→done i=true)→Jp done a w→wpOpsIn F 0 P ops Q (List.range' m (ops.size-m)) a w)
    {a:Act}{w:World}(h0:Jp (fun _=>false) a { w with drawn:=w.drawn+1 }):(Code.region id ops true).wpIn F 0 P Q a w:=by
  have hafter:∀ (done:Nat→Bool) (i:Nat) (o:Oper),Up ops done→ops[i]?=some o→m≤i→(∀ e,e∈o.after→Region.binds .any e=true→done e.on=true)→∀ j,j<i→done j=true:=by
    intro done i o hc ho hmi hd j hj
    have hi:i<ops.size:=(Array.getElem?_eq_some_iff.1 ho).1
    have h1:=List.all_eq_true.1 ht i (List.mem_range.2 hi)
    simp only [Bool.or_eq_true] at h1
    rcases h1 with h1 | h1
    · have : i < m := by simpa using h1
      omega
    ·exact Lu hc _ i j (List.all_eq_true.1 h1 j (List.mem_range.2 hj)) (fun o' ho'=>by rw [ho] at ho';injection ho' with ho';subst ho';exact hd)
  have hclosed:∀ (done:Nat→Bool) (i:Nat) (o:Oper),Up ops done→ops[i]?=some o→(∀ e,e∈o.after→Region.binds .any e=true→done e.on=true)→Up ops (fun q=>if q=i then true else done q):=by
    intro done i o hc ho hd j o' ho' hj e he hbe
    show (if e.on=i then true else done e.on)=true
    by_cases hei:e.on=i
    ·rw [if_pos hei]
    · rw [if_neg hei]
      by_cases hji:j=i
      ·subst hji;rw [ho] at ho';injection ho' with ho';subst ho';exact hd e he hbe
      · have hj' : done j = true := by simpa [hji] using hj
        exact hc j o' ho' hj' e he hbe
  refine wpIn_region_any hm (Z8s (J:=fun done a w=>Up ops done∧(((∃ i,i<m∧done i=false)∧(∀ j,m≤j→done j=false)∧Jp done a w)∨(∃ q,m≤q∧q≤ops.size∧(∀ j,j<q→done j=true)∧(∀ j,q≤j→done j=false)∧wpOpsIn F 0 P ops Q (List.range' q (ops.size-q)) a w)))
    hb ?_ ?_ ops.size (Array.replicate ops.size false) a _ (by simp) ?_ ?_)
  · rintro done i o a w ho hdi hd ⟨hc, hJ⟩
    have hi:i<ops.size:=(Array.getElem?_eq_some_iff.1 ho).1
    rcases hJ with ⟨⟨i0,hi0,hdi0⟩,htail,hJp⟩ | ⟨q,hmq,hqs,hlow,hhigh,hw⟩
    · have him : i < m := by
        rcases Nat.lt_or_ge i m with h | h
        ·exact h
        · have := hafter done i o hc ho h hd i0 (by omega)
          rw [hdi0] at this;cases this
      refine wpOpIn_mono (fun a' w' hJ'=>⟨hclosed done i o hc ho hd,?_⟩) (hstep done i o a w him ho hdi hc hd htail hJp)
      rcases Classical.em (∃ j,j<m∧(if j=i then true else done j)=false) with hex | hno
      ·exact .inl ⟨hex,fun j hj=>by show (if j=i then true else done j)=false;rw [if_neg (by omega)];exact htail j hj,hJ'⟩
      · have hall : ∀ j, j < m → (if j = i then true else done j) = true := fun j hj => by
          cases hq:(if j=i then true else done j) with
          | true=>rfl
          | false=>exact absurd ⟨j,hj,hq⟩ hno
        exact .inr ⟨m,Nat.le_refl _,hms,hall,fun j hj=>by show (if j=i then true else done j)=false;rw [if_neg (by omega)];exact htail j hj,hend _ a' w' hall hJ'⟩
    · have hiq : i = q := by
        rcases Nat.lt_trichotomy i q with h | h | h
        ·rw [hlow i h] at hdi;cases hdi
        ·exact h
        · have := hafter done i o hc ho (by omega) hd q h
          rw [hhigh q (Nat.le_refl _)] at this;cases this
      subst hiq
      have hsz:ops.size-i=(ops.size-(i+1))+1:=by omega
      rw [hsz,List.range'_succ,wpOpsIn_cons] at hw
      refine wpOpIn_mono (fun a' w' hw'=>⟨hclosed done i o hc ho hd,.inr ⟨i+1,by omega,by omega,fun j hj=>?_,fun j hj=>?_,hw'⟩⟩) hw
      · show (if j = i then true else done j) = true
        by_cases e:j=i
        ·rw [if_pos e]
        ·rw [if_neg e];exact hlow j (by omega)
      · show (if j = i then true else done j) = false
        rw [if_neg (by omega)];exact hhigh j (by omega)
  · rintro done a w hall ⟨hc, hJ⟩
    rcases hJ with ⟨⟨i0,hi0,hdi0⟩,_,_⟩ | ⟨q,hmq,hqs,hlow,hhigh,hw⟩
    ·rw [hall i0 (by omega)] at hdi0;cases hdi0
    · have hq : q = ops.size := by
        rcases Nat.lt_or_ge q ops.size with h | h
        ·have:=hall q h;rw [hhigh q (Nat.le_refl _)] at this;cases this
        ·omega
      subst hq
      simpa [wpOpsIn] using hw
  · have : ((List.range ops.size).filter (fun i => !(Array.replicate ops.size false).getD i true)).length ≤ (List.range ops.size).length := List.length_filter_le _ _
    simpa using this
  · have hf : (fun q => (Array.replicate ops.size false).getD q false) = fun _ => false := by
      funext q
      simp only [Array.getD_eq_getD_getElem?,Array.getElem?_replicate]
      split <;> rfl
    show Up ops (fun q=>(Array.replicate ops.size false).getD q false)∧_
    rw [hf]
    refine ⟨fun i o _ h=>by simp at h,?_⟩
    rcases Nat.eq_zero_or_pos m with h | h
    · subst h
      exact .inr ⟨0,Nat.le_refl _,Nat.zero_le _,fun j hj=>by omega,fun _ _=>rfl,hend _ _ _ (fun i hi=>by omega) h0⟩
    ·exact .inl ⟨⟨0,h,rfl⟩,fun _ _=>rfl,h0⟩
end phase
section quiet
variable {C : Cx} {ops : Array Oper} {Q : Exit → Act → World → Prop} {E : Env} {H : Heap}
def Nf (ops:Array Oper)(L:Env)(i:Nat):Env :=
  match ops[i]? with
  | some o=>o.after.toList.filterMap fun e=>cond (Region.binds .any e) (L[e.on]?) none
  | none=>[]
def Ob (C:Cx)(ops:Array Oper)(Q:Exit→Act→World→Prop)(L W:Env)(H:Heap)(i:Nat):Prop :=
  ∀ Es:Env,TO C ops (fun e a w=>match e with
    | .normal=>∃ p,L[i]?=some p∧Fits C.n C.D (p::(Nf ops L i++(W++Es))) a∧Inv C.w0 C.M w H
    | e=>Q e a w) [i] (Nf ops L i++(W++Es)) H
def Obs (C:Cx)(ops:Array Oper)(Q:Exit→Act→World→Prop)(L W:Env)(H:Heap):List Nat→Prop
  | []=>True
  | i::l=>Ob C ops Q L W H i∧Obs C ops Q L W H l
theorem Obs.get {L W:Env}:∀ {l:List Nat},Obs C ops Q L W H l→∀ i,i∈l→Ob C ops Q L W H i
 | [],_,i,h=>by cases h
 | j::l,⟨h1,h2⟩,i,h=>by
  rcases List.mem_cons.1 h with rfl | h
  ·exact h1
  ·exact Obs.get h2 i h
def Gq:List Nat→Bool
  | []=>true
  | x::xs=>!(xs.any (Nat.beq x))&&Gq xs
theorem Z3c:∀ {l:List Nat},Gq l=true→l.Nodup
 | [],_=>by simp
 | x::xs,h=>by
  simp only [Gq,Bool.and_eq_true,Bool.not_eq_true'] at h
  refine List.nodup_cons.2 ⟨fun hm=>?_,Z3c h.2⟩
  rw [any_beq.2 hm] at h;cases h.1
theorem Z21:∀ {L:Env} {t:Nat} {v:Value},find L t=some v→(t,v)∈L
 | [],_,_,h=>by simp [find] at h
 | (d,u)::L,t,v,h=>by
  rw [Kb] at h
  by_cases e:d=t
  ·subst e;rw [if_pos rfl] at h;injection h with h;subst h;exact .head _
  ·rw [if_neg e] at h;exact .tail _ (Z21 h)
theorem T.drawQT {id:Nat}(L:Env)(hm:C.P.follows .mixedOrders=true)(hb:Kf ops=true)(ht:Np ops L.length=true)(hL:L.map (fun p=>some p.1)=(ops.toList.take L.length).map (·.dst))(hn:Gq (L.map (·.1))=true)
    (obs:Obs C ops Q L (wo (L.map (·.1)) E) H (List.range L.length))(k:TO C ops Q (List.range' L.length (ops.size-L.length)) (L++wo (L.map (·.1)) E) H):T C (.region id ops true) Q E H:=by
  intro a w hf hi
  have hlen:L.length≤ops.size:=by
    have:=congrArg List.length hL
    simp only [List.length_map,List.length_take,Array.length_toList] at this
    omega
  have hnd:=Z3c hn
  have hdst:∀ (i:Nat) (o:Oper),i<L.length→ops[i]?=some o→∃ p:Nat×Value,L[i]?=some p∧o.dst=some p.1:=by
    intro i o hil ho
    refine ⟨L[i]'hil,List.getElem?_eq_getElem hil,?_⟩
    have h1:=congrArg (fun l:List (Option Nat)=>l[i]?) hL
    simp only [List.getElem?_map,List.getElem?_take_of_lt hil] at h1
    rw [List.getElem?_eq_getElem hil,show ops.toList[i]?=some o by simpa using ho] at h1
    simpa using h1.symm
  refine Z66 (m:=L.length) (Jp:=fun done a w=>(∃ Es,Fits C.n C.D Es a∧(∀ j p,done j=true→L[j]?=some p→find Es p.1=some p.2)∧(∀ t v,find (wo (L.map (·.1)) E) t=some v→find Es t=some v))∧Inv C.w0 C.M w H)
    hm hb ht hlen ?_ ?_ ⟨⟨E,hf,fun j p h _=>absurd h (by simp),fun t v h=>(Z22 E _ t v h).2⟩,hi.ofHeap rfl rfl rfl rfl⟩
  · rintro done i o a w hil ho hdi _ hafter _ ⟨⟨Es, hfit, hd, hw⟩, hinv⟩
    obtain ⟨p,hp,hod⟩:=hdst i o hil ho
    have hob:=obs.get i (List.mem_range.2 hil) Es
    have hsub:∀ t v,find (Nf ops L i++(wo (L.map (·.1)) E++Es)) t=some v→find Es t=some v:=by
      intro t v h
      rw [Gx,Gx] at h
      cases h1:find (Nf ops L i) t with
      | some u =>
        rw [h1] at h
        simp at h;subst h
        have hmem:=Z21 h1
        unfold Nf at hmem
        rw [ho] at hmem
        simp only [List.mem_filterMap] at hmem
        obtain ⟨e,he,hx⟩:=hmem
        cases hbe:Region.binds .any e with
        | false=>rw [hbe] at hx;simp at hx
        | true =>
          rw [hbe] at hx
          simp only [cond_true] at hx
          exact hd e.on (t,u) (hafter e (by simpa using he) hbe) hx
      | none =>
        rw [h1] at h
        simp only [Option.none_or] at h
        cases h2:find (wo (L.map (·.1)) E) t with
        | some u=>rw [h2] at h;simp at h;subst h;exact hw t u h2
        | none=>rw [h2] at h;simpa using h
    have hsub2:∀ t v,find Es t=some v→find (Nf ops L i++(wo (L.map (·.1)) E++Es)) t=some v:=by
      intro t v h
      cases h1:find (Nf ops L i++(wo (L.map (·.1)) E++Es)) t with
      | some u=>rw [←hsub t u h1,h]
      | none =>
        rw [Gx,Gx,h] at h1
        cases h2:find (Nf ops L i) t <;> cases h3:find (wo (L.map (·.1)) E) t <;> simp [h2,h3] at h1
    have hh:=hob a w (hfit.weak hsub) hinv
    have hh':wpOpIn (FW C.ρ) 0 C.P ops Q i (fun a' w'=>∃ p,L[i]?=some p∧Fits C.n C.D (p::(Nf ops L i++(wo (L.map (·.1)) E++Es))) a'∧Inv C.w0 C.M w' H) a w:=by
      rw [wpOpsIn_cons] at hh
      unfold wpOpIn at hh ⊢
      rw [ho] at hh ⊢
      simp only at hh ⊢
      split
      · rename_i hwt
        simp only [hwt,if_true] at hh
        refine ⟨hh.1,?_⟩
        have h2:=hh.2
        generalize (o.semAt (FW C.ρ).round a.eval).run C.P w=r at h2 ⊢
        cases r with
        | ok x w'=>cases x <;> exact h2
        | halt x w'=>cases x <;> exact h2
      · rename_i hwt
        simp only [hwt,if_false,Bool.false_eq_true] at hh
        exact hh
    refine wpOpIn_mono ?_ hh'
    rintro a' w' ⟨p',hp',hfit',hinv'⟩
    rw [hp] at hp';injection hp' with hp';subst hp'
    refine ⟨⟨p::(Nf ops L i++(wo (L.map (·.1)) E++Es)),hfit',fun j q hj hq=>?_,fun t v h=>?_⟩,hinv'⟩
    · obtain ⟨pd, pv⟩ := p
      rw [Kb]
      by_cases e:j=i
      ·subst e;rw [hp] at hq;injection hq with hq;subst hq;rw [if_pos rfl]
      · have hne : pd ≠ q.1 := by
          intro e2
          have hii:=List.getElem?_eq_some_iff.1 hp
          have hjj:=List.getElem?_eq_some_iff.1 hq
          have h1:(L.map (·.1))[i]?=some pd:=by rw [List.getElem?_map,hp];rfl
          have h2:(L.map (·.1))[j]?=some pd:=by rw [List.getElem?_map,hq,e2];rfl
          have:=(List.getElem?_inj (by simpa using hjj.1) hnd).1 (h2.trans h1.symm)
          exact e this
        rw [if_neg hne]
        have hj':done j=true:=by simpa [e] using hj
        exact hsub2 _ _ (hd j q hj' hq)
    · obtain ⟨pd, pv⟩ := p
      rw [Kb,if_neg]
      ·exact hsub2 t v (hw t v h)
      · rintro rfl
        exact (Z22 E _ _ _ h).1 (by
          have:(pd,pv)∈L:=List.mem_of_getElem? hp
          exact List.mem_map_of_mem (f:=(·.1)) this)
  · rintro done a w hall ⟨⟨Es, hfit, hd, hw⟩, hinv⟩
    refine k a w (hfit.weak fun t v h=>?_) hinv
    rw [Gx] at h
    cases h1:find L t with
    | some u =>
      rw [h1] at h;simp at h;subst h
      obtain ⟨j,hj⟩:=List.getElem?_of_mem (Z21 h1)
      have hjl:=(List.getElem?_eq_some_iff.1 hj).1
      exact hd j (t,u) (hall j (by omega)) hj
    | none=>rw [h1] at h;exact hw t v (by simpa using h)
theorem X.ob {L W:Env}{i d:Nat}{v:Value}{Es:Env}{B:Env}{H':Heap}(hL:L[i]?=some (d,v))(hH:Pick H H') :
    X C (fun e a w=>match e with
      | .normal=>∃ p,L[i]?=some p∧Fits C.n C.D (p::(B++(W++Es))) a∧Inv C.w0 C.M w H
      | e=>Q e a w) .normal ((d,v)::(B++(W++Es))) H':=fun _ _ hf hi=>⟨_,hL,hf,hi.pick hH⟩
end quiet
end Go.Acq
namespace Go.Acq
open Go Go.RowKit
abbrev sb (ob:Option Nat):Option Addr:=ob.map fun b=>⟨b,0,none⟩
section
variable {α : Type} {w w0 : World} {f : α → List Value} {s n : Nat} {base : Option Addr} {xs : List α} {M : List Nat} {H : Heap}
theorem Inv.roO (hi:Inv w0 M w H)(hf:∀ x,(f x).length=s){ob:Option Nat}{T':TypeId}{fr:Nat×Nat}{j:List Value}(hm:(ob,Obj.cells (arr f xs j).toArray T' fr)∈H)(hn:xs.length=n)(h0:ob=none→n=0):RO w f s (sb ob) n xs:=by
 cases ob with
 | none =>
  have:=h0 rfl
  have hx:xs=[]:=List.eq_nil_of_length_eq_zero (by omega)
  subst hx
  exact ⟨hn,fun _=>this,hf,fun o c h=>by simp at h⟩
 | some b=>rw [←hn];exact hi.ro hf hm
theorem RO.cells (h:RO w f s base n xs):∀ (j:Nat) u,(xs.flatMap f)[j]?=some u→w.cell? (ea base j)=some u:=by
 intro j u hj
 have hlt:j<(xs.flatMap f).length:=(List.getElem?_eq_some_iff.1 hj).1
 rw [Kc h.wide] at hlt
 have hs:0<s:=by
  rcases Nat.eq_zero_or_pos s with e | e
  ·subst e;simp at hlt
  ·exact e
 have ho:j / s<xs.length:=Nat.div_lt_of_lt_mul (by rw [Nat.mul_comm];exact hlt)
 have hc:j%s<s:=Nat.mod_lt _ hs
 have hjd:j / s*s+j%s=j:=by rw [Nat.mul_comm];exact Nat.div_add_mod j s
 have hx:xs[j / s]?=some xs[j / s]:=List.getElem?_eq_getElem ho
 have h1:=h.cell (j / s) (j%s) ho hc _ hx
 rw [hjd] at h1
 rw [h1]
 have h2:=Z7k h.wide xs[j / s] xs (j / s) (j%s) ho hc
 rw [hjd,hj,List.getD_eq_getElem?_getD,hx] at h2
 exact h2.symm
theorem RO.src {P:Program}{t e':TypeId}(h:RO w f s base n xs)(hk:P.underlying t=some (.slice e'))(h1:∀ x,(f x).all (·.oneCell')=true)(c:Nat):Src P s t (.slice base n c) n (xs.flatMap f) w:=by
 have hall:∀ u,u∈xs.flatMap f→u.oneCell'=true:=by
  intro u hu
  obtain ⟨x,_,hx⟩:=List.mem_flatMap.1 hu
  exact List.all_eq_true.1 (h1 x) u hx
 cases base with
 | none =>
  have hn:=h.nil rfl
  have hx:xs=[]:=List.eq_nil_of_length_eq_zero (by rw [h.len];exact hn)
  subst hx;subst hn
  exact Src.ofNil w hk c
 | some a =>
  refine Src.ofSlice w hk a n c _ (by rw [Kc h.wide,h.len]) (fun j u hj=>?_) hall
  have:=h.cells j u hj
  simpa [ea] using this
theorem RO.drew (h:RO w f s base n xs):RO w.drew f s base n xs:=⟨h.len,h.nil,h.wide,fun o c ho hc x hx=>h.cell o c ho hc x hx⟩
theorem RO.first {P:Program}(h:RO w f s base n xs)(c:Nat):(Builtin.firstCells s n (.slice base n c)).run P w=.ok (xs.flatMap f).toArray w:=by
 cases base with
 | none =>
  have hn:=h.nil rfl
  have hx:xs=[]:=List.eq_nil_of_length_eq_zero (by rw [h.len];exact hn)
  subst hx;subst hn
  exact run_firstCells_none w s 0 0 c
 | some a=>exact run_firstCells_some w s n a n c _ (by rw [Kc h.wide,h.len]) (fun j u hj=>by have:=h.cells j u hj;simpa [ea] using this)
end
section rules
variable {C : Cx} {ops : Array Oper} {Q : Exit → Act → World → Prop} {l : List Nat} {E : Env} {H R : Heap} {i d : Nat} {ty : TypeId} {pos : String} {af : Array Edge} {g : Option (Nat × Bool)}
theorem Z4p {P:Program}{w:World}{b o:Nat}{T':TypeId}{cs:Array Value}{vs:List Value}(hb:w.heap[b]?=some (.cells cs T' (0,0)))(hfit:o+vs.length≤cs.size)(h1:∀ u,u∈vs→u.oneCell'=true) :
    w.setCells b o vs=w.setRow b (cs.toList.take o++vs++cs.toList.drop (o+vs.length)).toArray:=by
  have h2:=run_storeCells_at P b o T' vs 0 cs w hb (by simpa using hfit) h1
  have h3:=run_storeCells_cells (P:=P) b o vs 0 w (fun j hj=>by
    simp only [Nat.add_zero,World.cell?,hb]
    simp;omega) (fun j hj=>by simp [World.frozen?,hb]) h1
  simp only [Nat.add_zero] at h2 h3
  rw [h2] at h3
  injection h3 with _ h3
  exact h3.symm
structure ElemT (P:Program)(t e:TypeId)(s by':Nat)(z:Value):Prop where
  slice:Yk P t=some e
  size:Yh P e=some s
  bytes:Vb P e=some by'
  zero:Yz P e=some z
  zsize:z.cells.size=s
theorem TO.append {α:Type}{f:α→List Value}{s by':Nat}{z:Value}{t e:TypeId}{x y:Operand}{ob:Option Nat}{base:Option Addr}{n c m cy:Nat}{xs ys:List α}{j:List Value}
    (hf:∀ x,(f x).length=s)(h1:∀ x,(f x).all (·.oneCell')=true)(hT:ElemT C.P t e s by' z)
    (ho:ops[i]?=some ⟨some d,.call ⟨.builtin .append,#[x,y],#[t,t]⟩,ty,pos,af,g⟩)(hg:Zr ops E g=true)(hd:Nat.ble (d+1) C.n=true)
    (hx:ev E x=some (.slice (sb ob) n c))(hy:ev E y=some (.slice base m cy))
    (ht:Take (ob,.cells (arr f xs j).toArray e (0,0)) H R)(hn:xs.length=n)(hnc:n≤c)(hj:j.length=(c-n)*s)(h0:ob=none→c=0)
    (hsrc:∀ w,Inv C.w0 C.M w H→RO w f s base m ys)(hroom:(n+m)*by'≤140737488355328)(hmax:n+m≤4611686018427387904)
    (kk:∀ (ob':Option Nat) (c':Nat) (j':List Value),n+m≤c'→j'.length=(c'-(n+m))*s→(ob'=none→c'=0)→TO C ops Q l ((d,.slice (sb ob') (n+m) c')::E) ((ob',.cells (arr f (xs++ys) j').toArray e (0,0))::R)) :
    TO C ops Q (i::l) E H:=by
  refine Kr ho hg (by simp) fun a w hfit hi=>?_
  obtain ⟨ti,hti,hsz⟩:=Jy hT.size
  have hu:=Va hT.slice
  have hz':ti.zero=some z:=by have:=hT.zero;simpa [Yz,hti] using this
  have hb':ti.bytes=by':=by have:=hT.bytes;simpa [Vb,hti] using this
  have hs:=hsrc w hi
  have hro:=hi.roO hf ht.mem hn (fun e=>by have:=h0 e;omega)
  have hexec:(execOp a.eval ⟨some d,.call ⟨.builtin .append,#[x,y],#[t,t]⟩,ty,pos,af,g⟩).run C.P w=((Builtin.append_ #[t,t] ty #[.slice (sb ob) n c,.slice base m cy]).run C.P w).andThen fun v w'=>.ok (.value v) w':=by
    simp [execOp,resolve,invoke,builtin,hfit.ev hx,hfit.ev hy]
  rw [hexec]
  by_cases hr:n+m≤c
  · cases ob with
    | none =>
      have:=h0 rfl
      subst this
      have hm0:m=0:=by omega
      subst hm0
      have hys:ys=[]:=List.eq_nil_of_length_eq_zero hs.len
      subst hys
      have:(Builtin.append_ #[t,t] ty #[.slice none n 0,.slice base 0 cy]).run C.P w=.ok (.slice none n 0) w:=by
        have hl:=(hs.src hu h1 cy).len w
        have hc:=(hs.src hu h1 cy).cells
        have hn0:n=0:=by omega
        subst hn0
        simp only [List.flatMap_nil] at hc
        simp [Builtin.append_,run_underlying hu,sizeOf,typeInfo,hti,hl,hsz,hc]
      simp only [sb,Option.map_none,this,Result.andThen_ok]
      refine kk none 0 j (by omega) (by omega) (fun _=>rfl) _ _ (hfit.put hd _) ?_
      rw [List.append_nil]
      exact hi.perm ht
    | some b =>
      have hb:=hi.own b _ ht.mem
      have hlen:(arr f xs j).length=c*s:=by
        simp only [arr,List.length_append,Kc hf,hj,hn]
        rw [←Nat.add_mul];congr 1;omega
      have hnews:(ys.flatMap f).length=m*s:=by rw [Kc hf,hs.len]
      have hfit2:n*s+(ys.flatMap f).length≤(arr f xs j).toArray.size:=by
        rw [hnews,List.size_toArray,hlen,←Nat.add_mul];exact Nat.mul_le_mul_right s hr
      have hall:=(hs.src hu h1 cy).one
      have hcell:∀ q,q<(ys.flatMap f).length→(w.cell? ⟨b,0+n*ti.size+q,none⟩).isSome=true:=fun q hq=>by
        rw [hsz,Nat.zero_add,hi.cell_own ht.mem,Array.getElem?_eq_getElem (by omega)];rfl
      have hr2:=run_append_room_src (P:=C.P) w t t ty e ti hu hti b 0 n c (.slice base m cy) m (ys.flatMap f) (by rw [hsz];exact hs.src hu h1 cy) hr hcell (fun q _=>hi.frozen_own ht.mem _)
      rw [hsz,Nat.zero_add,Z4p (P:=C.P) hb hfit2 hall] at hr2
      simp only [sb,Option.map_some,hr2,Result.andThen_ok]
      refine kk (some b) c (j.drop (m*s)) hr ?_ (by simp) _ _ (hfit.put hd _) ?_
      ·rw [List.length_drop,hj,←Nat.sub_mul];congr 1;omega
      · have : ((arr f xs j).toArray.toList.take (n * s) ++ ys.flatMap f ++ (arr f xs j).toArray.toList.drop (n * s + (ys.flatMap f).length)).toArray = (arr f (xs ++ ys) (j.drop (m * s))).toArray := by
          have e1:(xs.flatMap f).length=n*s:=by rw [Kc hf,hn]
          simp only [arr,List.flatMap_append]
          rw [hnews]
          congr 1
          rw [←e1,List.take_left',List.drop_append]
          ·simp [e1,List.append_assoc,List.drop_eq_nil_of_le (show (xs.flatMap f).length≤n*s+m*s by omega)]
          ·rfl
        rw [←this]
        exact hi.setRow ht
  · have hold : (Builtin.firstCells ti.size n (.slice (sb ob) n c)).run C.P w.drew = .ok (xs.flatMap f).toArray w.drew := by rw [hsz]; exact hro.drew.first c
    have hg2:=run_append_grow_src (P:=C.P) w t t ty e ti z hu hti hz' (sb ob) n c (xs.flatMap f) hold (.slice base m cy) m (ys.flatMap f) (by rw [hsz];exact hs.src hu h1 cy) (by omega) (by omega) (by
      rw [hb'];exact growslice_fits (by omega) hroom)
    simp only [hg2,Result.andThen_ok]
    have hcap:n+m≤grownCap w (n+m) c e:=by unfold grownCap Question.cut;simp only;omega
    refine kk (some w.heap.size) (grownCap w (n+m) c e) (Builtin.zeroCells z.cells (grownCap w (n+m) c e-(n+m))).toList hcap (by rw [Array.length_toList,size_zeroCells,hT.zsize]) (by simp) _ _ (hfit.put hd _) ?_
    have e2:((xs.flatMap f++ys.flatMap f).toArray++Builtin.zeroCells z.cells (grownCap w (n+m) c e-(n+m)))=(arr f (xs++ys) (Builtin.zeroCells z.cells (grownCap w (n+m) c e-(n+m))).toList).toArray:=by
      simp only [arr,List.flatMap_append]
      apply Array.ext'
      simp [List.append_assoc]
    rw [e2]
    have h3:=(hi.perm ht).drew.alloc (Obj.cells (arr f (xs++ys) (Builtin.zeroCells z.cells (grownCap w (n+m) c e-(n+m))).toList).toArray e (0,0))
    exact h3.pick (Na (S:=[(ob,.cells (arr f xs j).toArray e (0,0))]) (by
      refine List.Perm.cons _ ?_
      exact (List.perm_append_comm (l₁:=[(ob,Obj.cells (arr f xs j).toArray e (0,0))]) (l₂:=R))))
end rules
end Go.Acq
namespace Go.Acq
open Go Go.RowKit
structure Arc where
  fr:Int
  to:Int
  cap:Int
  deriving DecidableEq
instance:Inhabited Arc:=⟨⟨0,0,0⟩⟩
def Zx (a:Arc):List Value:=[.int .i64 a.fr,.int .i64 a.to,.int .i64 a.cap]
def Has (w:World)(b:Nat)(cs:List Value):Prop:=∀ (j:Nat) v,cs[j]?=some v→w.cell? ⟨b,j,none⟩=some v
section
variable {w w0 : World} {M : List Nat} {H : Heap} {b : Nat} {cs : List Value}
theorem Inv.has (hi:Inv w0 M w H){T':TypeId}{fr:Nat×Nat}(hm:(some b,Obj.cells cs.toArray T' fr)∈H):Has w b cs:=fun j v hj=>by rw [hi.cell_own hm];simpa using hj
end
section rules
variable {C : Cx} {ops : Array Oper} {Q : Exit → Act → World → Prop} {l : List Nat} {E : Env} {H R : Heap} {i d : Nat} {ty : TypeId} {pos : String} {af : Array Edge} {g : Option (Nat × Bool)}
end rules
theorem Zgk {α:Type}{xs ys:List α}(d:α)(hl:xs.length=ys.length)(h:∀ i,i<xs.length→xs.getD i d=ys.getD i d):xs=ys:=by
 apply List.ext_getElem hl
 intro i h1 h2
 have:=h i h1
 rw [List.getD_eq_getElem?_getD,List.getD_eq_getElem?_getD,List.getElem?_eq_getElem h1,List.getElem?_eq_getElem h2] at this
 exact this
def among (x n:Int):Int:=if n<1 then 0 else (x.tmod n+n).tmod n
def sumL:Int→List Arc→Option Int
  | left,[]=>some left
  | left,a::as=>if a.cap<0∨left<a.cap then none else sumL (left-a.cap) as
def Z3r (N v:Int):Bool:=decide (0≤v∧v<N)
def endsB (N:Int)(a:Arc):Bool:=Z3r N a.fr&&Z3r N a.to
def capB (a:Arc):Bool:=decide (0≤a.cap)
def checkE (N S T:Int)(as:List Arc):Int :=
  if ¬(2≤N∧N≤4096) then 10 else if ¬((as.length:Int)≤16384) then 11 else if ¬(Z3r N S=true∧Z3r N T=true∧S≠T) then 12
  else if as.all (endsB N)=false then 13 else if as.all capB=false then 14 else if (sumL 4611686018427387904 as).isNone then 15 else 0
section
variable {N S T : Int} {n : Nat} {al : List Arc}
end
end Go.Acq
namespace Go.Acq
open Go
abbrev i64ok (x:Int):Prop:=-9223372036854775808≤x∧x≤9223372036854775807
abbrev inb (i:Int)(n:Nat):Prop:=0≤i∧i<(n:Int)
abbrev mkok (p:Int):Prop:=0≤p∧p≤4294967296
abbrev apok (n by':Nat):Prop:=n*by'≤140737488355328∧n≤4611686018427387904
def gd {α:Type}(c:Prop)[Decidable c](m:Option α):Option α:=if c then m else none
theorem Ya {α:Type}{c:Prop}[Decidable c]{m:Option α}{o:α}(h:gd c m=some o):c∧m=some o:=by
 unfold gd at h;split at h
 ·exact ⟨by assumption,h⟩
 ·cases h
theorem Rg {α:Type}{c:Prop}[Decidable c]{m:Option α}(h:c):gd c m=m:=if_pos h
theorem Zn {α β:Type}{m:Option α}{k:α→Option β}{o:β}(h:Option.bind m k=some o):∃ a,m=some a∧k a=some o:=by
 cases m with
 | none=>cases h
 | some a=>exact ⟨a,rfl,h⟩
theorem Zp {α:Type}{c:Prop}[Decidable c]{a b:Option α}{o:α}(h:(if c then a else b)=some o):(c∧a=some o)∨(¬c∧b=some o):=by
 split at h
 ·exact .inl ⟨by assumption,h⟩
 ·exact .inr ⟨by assumption,h⟩
def Xa {S O:Type}(step:S→Option (S⊕O)):Nat→S→Option O
  | 0,_=>none
  | n+1,s=>match step s with
    | none=>none
    | some (.inl s')=>Xa step n s'
    | some (.inr o)=>some o
def Xd:Nat:=18446744073709551616
def Z4c {S O:Type}(step:S→Option (S⊕O))(n:Nat)(o:O):S⊕O→Prop
  | .inl s=>Xa step n s=some o
  | .inr p=>p=o
theorem Vo {S O:Type}{step:S→Option (S⊕O)}{n:Nat}{s:S}{o:O}(h:Xa step n s=some o):∃ n' r,n=n'+1∧step s=some r∧Z4c step n' o r:=by
 cases n with
 | zero=>cases h
 | succ n =>
  simp only [Xa] at h
  cases hs:step s with
  | none=>rw [hs] at h;cases h
  | some r =>
   rw [hs] at h
   cases r with
   | inl s'=>exact ⟨n,_,rfl,rfl,h⟩
   | inr p=>exact ⟨n,_,rfl,rfl,by simpa [Z4c] using h⟩
theorem Wr {S O:Type}{step:S→Option (S⊕O)}{n:Nat}{o:O}{s:S}{r:S⊕O}(h:some (.inl s)=some r)(c:Z4c step n o r):Xa step n s=some o:=by
 injection h with h;subst h;exact c
theorem ret1 {α:Type}{a b:α}(h:some a=some b):b=a:=by injection h with h;exact h.symm
theorem ret2 {α β:Type}{a a':α}{b b':β}(h:some (a,b)=some (a',b')):a'=a∧b'=b:=by injection h with h;injection h with h1 h2;exact ⟨h1.symm,h2.symm⟩
theorem ret3 {α β γ:Type}{a a':α}{b b':β}{c c':γ}(h:some (a,b,c)=some (a',b',c')):a'=a∧b'=b∧c'=c:=by
 injection h with h;injection h with h1 h;injection h with h2 h3;exact ⟨h1.symm,h2.symm,h3.symm⟩
def Ok {α:Type}(m:Option α)(Q:α→Prop):Prop:=∃ a,m=some a∧Q a
theorem Ok.some {α:Type}{a:α}{Q:α→Prop}:Ok (Option.some a) Q↔Q a:=⟨fun ⟨b,h,hq⟩=>by injection h with h;subst h;exact hq,fun h=>⟨a,rfl,h⟩⟩
theorem Ok.gd {α:Type}{c:Prop}[Decidable c]{m:Option α}{Q:α→Prop}:Ok (Acq.gd c m) Q↔c∧Ok m Q:=by
 constructor
 ·rintro ⟨a,h,hq⟩;obtain ⟨h1,h2⟩:=Ya h;exact ⟨h1,a,h2,hq⟩
 ·rintro ⟨h1,a,h2,hq⟩;exact ⟨a,by rw [Rg h1];exact h2,hq⟩
theorem Ok.bind {α β:Type}{m:Option α}{k:α→Option β}{Q:β→Prop}:Ok (Option.bind m k) Q↔Ok m fun a=>Ok (k a) Q:=by
 constructor
 ·rintro ⟨b,h,hq⟩;obtain ⟨a,h1,h2⟩:=Zn h;exact ⟨a,h1,b,h2,hq⟩
 ·rintro ⟨a,h1,b,h2,hq⟩;exact ⟨b,by rw [h1];exact h2,hq⟩
theorem Ok.ite {α:Type}{c:Prop}[Decidable c]{a b:Option α}{Q:α→Prop}:Ok (if c then a else b) Q↔(c→Ok a Q)∧(¬c→Ok b Q):=by
 by_cases h:c <;> simp [h]
theorem Ok.mono {α:Type}{m:Option α}{Q R:α→Prop}(h:Ok m Q)(hq:∀ a,Q a→R a):Ok m R:=by
 obtain ⟨a,h1,h2⟩:=h;exact ⟨a,h1,hq a h2⟩
theorem Ok.of {α:Type}{m:Option α}{a:α}{Q:α→Prop}(h:m=Option.some a)(hq:Q a):Ok m Q:=⟨a,h,hq⟩
theorem Ok.loop {S O:Type}{step:S→Option (S⊕O)}{n:Nat}{s0:S}{Q:O→Prop}(I:S→Prop)(μ:S→Nat)(h0:I s0)(hn:μ s0<n)
    (hstep:∀ s,I s→Ok (step s) fun r=>match r with | .inl s'=>I s'∧μ s'<μ s | .inr o=>Q o):Ok (Xa step n s0) Q:=by
  induction n generalizing s0 with
  | zero=>omega
  | succ n ih =>
    obtain ⟨r,h1,h2⟩:=hstep s0 h0
    simp only [Xa]
    rw [h1]
    cases r with
    | inl s'=>exact ih h2.1 (by have:=h2.2;omega)
    | inr o=>exact ⟨o,rfl,h2⟩
end Go.Acq
namespace Go.Acq
theorem Wd {S O:Type}{step:S→Option (S⊕O)}{n:Nat}{o p:O}{r:S⊕O}(h:some (.inr p)=some r)(c:Z4c step n o r):o=p:=by
 injection h with h;subst h;exact Eq.symm c
end Go.Acq
namespace Go.Acq
end Go.Acq
namespace Go.Acq
end Go.Acq
namespace Go.Acq
end Go.Acq
namespace Go.Acq
abbrev u64ok (x:Int):Prop:=0≤x∧x≤18446744073709551615
abbrev u32ok (x:Int):Prop:=0≤x∧x≤4294967295
end Go.Acq
namespace Go.Acq
end Go.Acq
namespace Go.Acq
def Z14 {S X V:Type}(y:S→V→Option (S⊕X))(t:S⊕X)(v:V):Option (S⊕X):=match t with | .inl s=>y s v | .inr _=>none
theorem Zd2 {S X V:Type}{y:S→V→Option (S⊕X)}{t r:S⊕X}{v:V}(h:Z14 y t v=some r):∃ s,t=.inl s∧y s v=some r:=by
 cases t with
 | inl s=>exact ⟨s,rfl,h⟩
 | inr x=>cases h
end Go.Acq
namespace Go.Acq
open Go Go.RowKit
structure Sp where
  deps:List Nat
  eff:Bool
  eats:List Nat
  rel:List Value→Value→Heap→Prop
def relV (u:Value):List Value→Value→Heap→Prop:=fun _ v e=>v=u∧e=[]
def relN:List Value→Value→Heap→Prop:=fun _ _ e=>e=[]
def Xl (S:List Sp)(i:Nat):List Nat:=match S[i]? with | some s=>s.deps | none=>[]
def Xq (S:List Sp)(i:Nat):Bool:=match S[i]? with | some s=>s.eff | none=>false
def Gd (S:List Sp)(i:Nat):List Nat:=match S[i]? with | some s=>s.eats | none=>[]
def Z0v (S:List Sp)(done:Nat→Bool)(j:Nat):Bool:=(List.range S.length).any fun q=>done q&&(Gd S q).any (Nat.beq j)
def Ur (S:List Sp)(done:Nat→Bool)(j:Nat):Bool:=done j&&!Z0v S done j
def Gg (S:List Sp)(j:Nat):Bool:=(List.range S.length).any fun q=>(Gd S q).any (Nat.beq j)
def Rs (S:List Sp)(i:Nat):List Nat:=(Xl S i).filter fun j=>!(Gd S i).any (Nat.beq j)
def Un (S:List Sp)(i:Nat):List Value→Value→Heap→Prop:=match S[i]? with | some s=>s.rel | none=>fun _ _ _=>False
def Yq (ops:Array Oper)(i:Nat):Option Nat:=(ops[i]?).bind (·.dst)
def Vj (ops:Array Oper)(vs:Nat→Value):List Nat→Env
  | []=>[]
  | j::l=>match Yq ops j with
    | some d=>(d,vs j)::Vj ops vs l
    | none=>Vj ops vs l
def Wq (es:Nat→Heap):List Nat→Heap
  | []=>[]
  | j::l=>es j++Wq es l
def Ju (S:List Sp)(vs:Nat→Value)(es:Nat→Heap):List Nat→Prop
  | []=>True
  | j::l=>Un S j ((Xl S j).map vs) (vs j) (es j)∧Ju S vs es l
def Ja (d:Option Nat)(v:Value)(E:Env):Env:=match d with | some d=>(d,v)::E | none=>E
def Uq (ops:Array Oper):List Nat→List Nat
  | []=>[]
  | j::l=>match Yq ops j with
    | some d=>d::Uq ops l
    | none=>Uq ops l
def Jq (S:List Sp)(i:Nat):Nat:=((List.range i).filter (Xq S)).length
def Rh (ops:Array Oper)(S:List Sp)(hd:List (List Nat)):Bool :=
  ((List.range S.length).all fun i =>
    ((Xl S i).all fun j=>Nat.blt j S.length&&Uk ops ops.size i j)&&Gq (Xl S i) &&
    ((Gd S i).all fun j=>Nat.blt j i&&(Xl S i).any (Nat.beq j)&&((List.range S.length).all fun q=>Nat.beq q i||(!(Gd S q).any (Nat.beq j)&&(!(Xl S q).any (Nat.beq j)||Uk ops ops.size i q))))&&(!Xq S i||(Gd S i).isEmpty) &&
    (!Xq S i||(((List.range i).all fun j=>!Xq S j||Uk ops ops.size i j) &&
      ((hd.getD (Jq S i+1) []).all fun j=>Nat.beq j i||(Nat.blt j S.length&&Uk ops ops.size i j))))) &&
  (hd.getD 0 []).isEmpty
section
variable {C : Cx} {ops : Array Oper} {Q : Exit → Act → World → Prop} {E : Env} {H : Heap}
def ObQ (C:Cx)(ops:Array Oper)(Q:Exit→Act→World→Prop)(S:List Sp)(W:Env)(Hc:Heap)(i:Nat):Prop :=
  ∀ (vs:Nat→Value) (es:Nat→Heap) (Es:Env) (Hx:Heap),Ju S vs es (Xl S i) →
    TO C ops (fun e a w=>match e with
      | .normal=>∃ v e',Un S i ((Xl S i).map vs) v e'∧Fits C.n C.D (Ja (Yq ops i) v (Vj ops vs (Xl S i)++(W++Es))) a∧Inv C.w0 C.M w (e'++(Hc++(Wq es (Rs S i)++Hx)))
      | e=>Q e a w) [i] (Vj ops vs (Xl S i)++(W++Es)) (Hc++(Wq es (Xl S i)++Hx))
def ObE (C:Cx)(ops:Array Oper)(Q:Exit→Act→World→Prop)(S:List Sp)(HR:Nat→List Value→Heap→Prop)(hd:List (List Nat))(W:Env)(Hc:Heap)(i:Nat):Prop :=
  ∀ (vs:Nat→Value) (es:Nat→Heap) (Es:Env) (Hx hb:Heap),Ju S vs es (Xl S i)→HR (Jq S i) ((hd.getD (Jq S i) []).map vs) hb →
    TO C ops (fun e a w=>match e with
      | .normal=>∃ v hb',Un S i ((Xl S i).map vs) v []∧HR (Jq S i+1) ((hd.getD (Jq S i+1) []).map (fun j=>cond (Nat.beq j i) v (vs j))) hb' ∧
          Fits C.n C.D (Ja (Yq ops i) v (Vj ops vs (Xl S i)++(W++Es))) a∧Inv C.w0 C.M w (hb'++(Hc++(Wq es (Xl S i)++Hx)))
      | e=>Q e a w) [i] (Vj ops vs (Xl S i)++(W++Es)) (hb++(Hc++(Wq es (Xl S i)++Hx)))
def ObsG (C:Cx)(ops:Array Oper)(Q:Exit→Act→World→Prop)(S:List Sp)(HR:Nat→List Value→Heap→Prop)(hd:List (List Nat))(W:Env)(Hc:Heap):List Nat→Prop
  | []=>True
  | i::l=>(cond (Xq S i) (ObE C ops Q S HR hd W Hc i) (ObQ C ops Q S W Hc i))∧ObsG C ops Q S HR hd W Hc l
theorem Z2n {vs:Nat→Value}{t:Nat}{v:Value}:∀ {l:List Nat},(t,v)∈Vj ops vs l→∃ j,j∈l∧Yq ops j=some t∧v=vs j
 | [],h=>by simp [Vj] at h
 | j::l,h=>by
  simp only [Vj] at h
  cases hs:Yq ops j with
  | none=>rw [hs] at h;obtain ⟨q,h1,h2⟩:=Z2n h;exact ⟨q,.tail _ h1,h2⟩
  | some d =>
   rw [hs] at h
   rcases List.mem_cons.1 h with h | h
   ·injection h with h1 h2;subst h1;subst h2;exact ⟨j,.head _,hs,rfl⟩
   ·obtain ⟨q,h1,h2⟩:=Z2n h;exact ⟨q,.tail _ h1,h2⟩
theorem mem_slotsG {d:Nat}:∀ {l:List Nat},d∈Uq ops l↔∃ j,j∈l∧Yq ops j=some d
 | []=>by simp [Uq]
 | j::l=>by
  simp only [Uq]
  cases hs:Yq ops j with
  | none =>
   rw [mem_slotsG (l:=l)]
   constructor
   ·rintro ⟨q,h1,h2⟩;exact ⟨q,.tail _ h1,h2⟩
   ·
    rintro ⟨q,h1,h2⟩
    rcases List.mem_cons.1 h1 with e | e
    ·subst e;rw [hs] at h2;cases h2
    ·exact ⟨q,e,h2⟩
  | some u =>
   simp only [List.mem_cons,mem_slotsG (l:=l)]
   constructor
   ·
    rintro (h | ⟨q,h1,h2⟩)
    ·subst h;exact ⟨j,.inl rfl,hs⟩
    ·exact ⟨q,.inr h1,h2⟩
   ·
    rintro ⟨q,h1 | h1,h2⟩
    ·subst h1;rw [hs] at h2;injection h2 with h2;exact .inl h2.symm
    ·exact .inr ⟨q,h1,h2⟩
theorem Z7o:∀ {l:List Nat},(Uq ops l).Nodup→∀ i j d,i∈l→j∈l→Yq ops i=some d→Yq ops j=some d→i=j
 | [],_,i,j,d,hi,_,_,_=>by cases hi
 | q::l,hn,i,j,d,hi,hj,h1,h2=>by
  simp only [Uq] at hn
  cases hs:Yq ops q with
  | none =>
   rw [hs] at hn
   have hi':i∈l:=by rcases List.mem_cons.1 hi with e | e;(subst e;rw [hs] at h1;cases h1);exact e
   have hj':j∈l:=by rcases List.mem_cons.1 hj with e | e;(subst e;rw [hs] at h2;cases h2);exact e
   exact Z7o hn i j d hi' hj' h1 h2
  | some u =>
   rw [hs] at hn
   simp only [List.nodup_cons] at hn
   rcases List.mem_cons.1 hi with e | hi' <;> rcases List.mem_cons.1 hj with e' | hj'
   ·rw [e,e']
   ·subst e;rw [hs] at h1;injection h1 with h1;subst h1;exact absurd (mem_slotsG.2 ⟨j,hj',h2⟩) hn.1
   ·subst e';rw [hs] at h2;injection h2 with h2;subst h2;exact absurd (mem_slotsG.2 ⟨i,hi',h1⟩) hn.1
   ·exact Z7o hn.2 i j d hi' hj' h1 h2
theorem Z63 {S:List Sp}{vs:Nat→Value}{es:Nat→Heap}:∀ {l:List Nat},(∀ j,j∈l→Un S j ((Xl S j).map vs) (vs j) (es j))→Ju S vs es l
 | [],_=>trivial
 | j::l,h=>⟨h j (.head _),Z63 fun q hq=>h q (.tail _ hq)⟩
def Xh (es:Nat→Heap)(done:Nat→Bool)(l:List Nat):Heap:=l.flatMap fun j=>if done j then es j else []
theorem Zdl:∀ (D l:List Nat),D.Nodup→(∀ j,j∈D→j∈l)→∃ r,List.Perm l (D++r)
 | [],l,_,_=>⟨l,List.Perm.refl _⟩
 | j::D,l,hn,hs=>by
  simp only [List.nodup_cons] at hn
  have hp:=List.perm_cons_erase (hs j (.head _))
  obtain ⟨r,hr⟩:=Zdl D (l.erase j) hn.2 (fun q hq=>by
   have hql:=hs q (.tail _ hq)
   have hne:q≠j:=by rintro rfl;exact hn.1 hq
   exact (List.mem_erase_of_ne hne).2 hql)
  exact ⟨r,hp.trans (List.Perm.cons j hr)⟩
theorem Zam {es:Nat→Heap}{done:Nat→Bool}:∀ {D:List Nat},(∀ j,j∈D→done j=true)→Xh es done D=Wq es D
 | [],_=>rfl
 | j::D,h=>by
  have ih:=Zam (es:=es) (D:=D) (fun q hq=>h q (.tail _ hq))
  unfold Xh at ih ⊢
  rw [List.flatMap_cons,Wq,if_pos (h j (.head _)),ih]
theorem Zcb {es:Nat→Heap}{done:Nat→Bool}{i:Nat}(e':Heap)(hdi:done i=false):∀ {l:List Nat},l.Nodup→i∈l →
    List.Perm (Xh (fun j=>if j=i then e' else es j) (fun q=>if q=i then true else done q) l) (e'++Xh es done l)
  | [],_,h=>by cases h
  | j::l,hn,hm=>by
    simp only [List.nodup_cons] at hn
    have hcongr:∀ l:List Nat,i∉l→Xh (fun j=>if j=i then e' else es j) (fun q=>if q=i then true else done q) l=Xh es done l:=by
      intro l hl
      unfold Xh
      induction l with
      | nil=>rfl
      | cons q l ih =>
        have hq:q≠i:=by rintro rfl;exact hl (.head _)
        rw [List.flatMap_cons,List.flatMap_cons,ih (fun h=>hl (.tail _ h))]
        simp [hq]
    by_cases hji:j=i
    · subst hji
      have h1:Xh (fun q=>if q=j then e' else es q) (fun q=>if q=j then true else done q) (j::l)=e'++Xh es done l:=by
        have:=hcongr l hn.1
        unfold Xh at this ⊢
        rw [List.flatMap_cons,this];simp
      have h2:Xh es done (j::l)=Xh es done l:=by
        unfold Xh;rw [List.flatMap_cons,hdi];simp
      rw [h1,h2]
    · have hm' : i ∈ l := by rcases List.mem_cons.1 hm with e | e; (exact absurd e.symm hji); exact e
      have ih:=Zcb (es:=es) e' hdi hn.2 hm'
      have h1:Xh (fun q=>if q=i then e' else es q) (fun q=>if q=i then true else done q) (j::l)=(if done j then es j else [])++Xh (fun q=>if q=i then e' else es q) (fun q=>if q=i then true else done q) l:=by
        unfold Xh;rw [List.flatMap_cons];simp [hji]
      have h2:Xh es done (j::l)=(if done j then es j else [])++Xh es done l:=by
        unfold Xh;rw [List.flatMap_cons]
      rw [h1,h2]
      refine (List.Perm.append_left _ ih).trans ?_
      rw [←List.append_assoc,←List.append_assoc]
      exact List.Perm.append_right _ List.perm_append_comm
theorem done_eat {es:Nat→Heap}{live live':Nat→Bool}{i:Nat}(e':Heap){D ea:List Nat}{l:List Nat}(hl:l.Nodup)(hil:i∈l)(hiD:i∉D)(hD:D.Nodup)(hDl:∀ j,j∈D→j∈l∧live j=true)
    (hli:live i=false)(hli':live' i=true)(h1:∀ j,j≠i→live' j=(live j&&!ea.any (Nat.beq j)))(hea:∀ j,j∈ea→j∈D) :
    ∃ Hx,List.Perm (Xh es live l) (Wq es D++Hx)∧List.Perm (Xh (fun j=>if j=i then e' else es j) live' l) (e'++(Wq es (D.filter fun j=>!ea.any (Nat.beq j))++Hx)):=by
  obtain ⟨r,hr⟩:=Zdl D l hD (fun j hj=>(hDl j hj).1)
  have hnd:(D++r).Nodup:=(List.Perm.nodup_iff hr).1 hl
  have hdis:=(List.nodup_append.1 hnd).2.2
  have hrn:=(List.nodup_append.1 hnd).2.1
  have hir:i∈r:=by
    rcases List.mem_append.1 ((List.Perm.mem_iff hr).1 hil) with h | h
    ·exact absurd h hiD
    ·exact h
  refine ⟨Xh es live r,?_,?_⟩
  · have h2 : List.Perm (Xh es live l) (Xh es live (D ++ r)) := hr.flatMap_right _
    rw [show Xh es live (D++r)=Xh es live D++Xh es live r by simp [Xh],Zam (fun j hj=>(hDl j hj).2)] at h2
    exact h2
  · have h2 : List.Perm (Xh (fun j => if j = i then e' else es j) live' l) (Xh (fun j => if j = i then e' else es j) live' (D ++ r)) := hr.flatMap_right _
    rw [show Xh (fun j=>if j=i then e' else es j) live' (D++r)=Xh (fun j=>if j=i then e' else es j) live' D++Xh (fun j=>if j=i then e' else es j) live' r by simp [Xh]] at h2
    have hDe:∀ D:List Nat,i∉D→(∀ j,j∈D→live j=true)→Xh (fun j=>if j=i then e' else es j) live' D=Wq es (D.filter fun j=>!ea.any (Nat.beq j)):=by
      intro D
      induction D with
      | nil=>intro _ _;rfl
      | cons j D ih =>
        intro hi hj
        have hji:j≠i:=by rintro rfl;exact hi (.head _)
        have ih:=ih (fun h=>hi (.tail _ h)) (fun q hq=>hj q (.tail _ hq))
        unfold Xh at ih ⊢
        rw [List.flatMap_cons,ih,h1 j hji,hj j (.head _),Bool.true_and,List.filter_cons]
        simp only [if_neg hji]
        cases (!ea.any (Nat.beq j)) <;> simp [Wq]
    rw [hDe D hiD (fun j hj=>(hDl j hj).2)] at h2
    have hre:Xh (fun j=>if j=i then e' else es j) live' r=Xh (fun j=>if j=i then e' else es j) (fun q=>if q=i then true else live q) r:=by
      have key:∀ r:List Nat,(∀ j,j∈r→j∉ea)→Xh (fun j=>if j=i then e' else es j) live' r=Xh (fun j=>if j=i then e' else es j) (fun q=>if q=i then true else live q) r:=by
        intro r
        induction r with
        | nil=>intro _;rfl
        | cons j r ih =>
          intro hj
          have ih:=ih fun q hq=>hj q (.tail _ hq)
          unfold Xh at ih ⊢
          rw [List.flatMap_cons,List.flatMap_cons,ih]
          congr 1
          by_cases e:j=i
          ·subst e;simp [hli']
          · have : ea.any (Nat.beq j) = false := by
              rw [Bool.eq_false_iff]
              intro h
              exact hj j (.head _) (any_beq.1 h)
            simp [e,h1 j e,this]
      exact key r fun j hj h=>hdis j (hea j h) j hj rfl
    rw [hre] at h2
    have h3:=Zcb (es:=es) (done:=live) e' hli hrn hir
    refine h2.trans ((List.Perm.append_left _ h3).trans ?_)
    rw [←List.append_assoc,←List.append_assoc]
    exact List.Perm.append_right _ List.perm_append_comm
theorem wpOp_Q {ρ:Option Nat}{P:Program}{i:Nat}{K:Act→World→Prop}{a:Act}{w:World}
    (h:wpOpsIn (FW ρ) 0 P ops (fun e a w=>match e with | .normal=>K a w | e=>Q e a w) [i] a w):wpOpIn (FW ρ) 0 P ops Q i K a w:=by
  rw [wpOpsIn_cons] at h
  unfold wpOpIn at h ⊢
  cases ho:ops[i]? with
  | none=>rw [ho] at h;exact h
  | some o =>
    rw [ho] at h
    simp only at h ⊢
    split
    · rename_i hwt
      simp only [hwt,if_true] at h
      refine ⟨h.1,?_⟩
      have h2:=h.2
      generalize (o.semAt (FW ρ).round a.eval).run P w=r at h2 ⊢
      cases r with
      | ok x w'=>cases x <;> exact h2
      | halt x w'=>cases x <;> exact h2
    · rename_i hwt
      simp only [hwt,if_false,Bool.false_eq_true] at h
      exact h
def rdH:List (Nat×Nat×Heap)→Nat→Heap
  | [],_=>[]
  | (j,_,R)::l,i=>cond (Nat.beq j i) R (rdH l i)
def rdK:List (Nat×Nat×Heap)→Nat→Option Nat
  | [],_=>none
  | (j,k,_)::l,i=>cond (Nat.beq j i) (some k) (rdK l i)
def RdOk (HR:Nat→List Value→Heap→Prop):List (Nat×Nat×Heap)→Prop
  | []=>True
  | (_,k,R)::l=>(∀ r,Nat.ble r k=true→∀ vl hb,HR r vl hb→∃ rest,List.Perm hb (R++rest))∧RdOk HR l
def goodR (ops:Array Oper)(S:List Sp)(rd:List (Nat×Nat×Heap)):Bool :=
  rd.all fun p=>(List.range S.length).any fun q=>Xq S q&&Nat.beq (Jq S q) p.2.1&&Uk ops ops.size q p.1
theorem RdOk.get {HR:Nat→List Value→Heap→Prop}:∀ {rd:List (Nat×Nat×Heap)},RdOk HR rd→∀ i r vl hb,(∀ k,rdK rd i=some k→r≤k)→HR r vl hb→∃ rest,List.Perm hb (rdH rd i++rest)
 | [],_,i,r,vl,hb,_,_=>⟨hb,List.Perm.refl _⟩
 | (j,k,R)::l,⟨h1,h2⟩,i,r,vl,hb,hk,hh=>by
  simp only [rdH]
  cases hb':Nat.beq j i with
  | true =>
   exact h1 r (Nat.ble_eq_true_of_le (hk k (by simp only [rdK,hb',cond_true]))) vl hb hh
  | false=>exact RdOk.get h2 i r vl hb (fun k' h=>hk k' (by simp only [rdK,hb',cond_false];exact h)) hh
theorem goodR.get {ops:Array Oper}{S:List Sp}:∀ {rd:List (Nat×Nat×Heap)},goodR ops S rd=true→∀ i k,rdK rd i=some k→∃ q,q<S.length∧Xq S q=true∧Jq S q=k∧Uk ops ops.size q i=true
 | [],_,i,k,h=>by cases h
 | (j,k',R)::l,hg,i,k,h=>by
  simp only [goodR,List.all_cons,Bool.and_eq_true] at hg
  simp only [rdK] at h
  cases hb':Nat.beq j i with
  | true =>
   rw [hb'] at h
   injection h with h
   subst h
   have:=Nat.eq_of_beq_eq_true hb'
   subst this
   obtain ⟨q,hq,h2⟩:=List.any_eq_true.1 hg.1
   simp only [Bool.and_eq_true] at h2
   exact ⟨q,List.mem_range.1 hq,h2.1.1,Nat.eq_of_beq_eq_true h2.1.2,h2.2⟩
  | false=>rw [hb'] at h;exact goodR.get hg.2 i k h
def ObE2 (C:Cx)(ops:Array Oper)(Q:Exit→Act→World→Prop)(S:List Sp)(HR:Nat→List Value→Heap→Prop)(hd:List (List Nat))(W:Env)(Hc:Heap)(i:Nat):Prop :=
  ∀ (vs:Nat→Value) (es:Nat→Heap) (Es:Env) (Hx hb:Heap),Ju S vs es (Xl S i)→HR (Jq S i) ((hd.getD (Jq S i) []).map vs) hb →
    TO C ops (fun e a w=>match e with
      | .normal=>∃ v hb' e',Un S i ((Xl S i).map vs) v e'∧HR (Jq S i+1) ((hd.getD (Jq S i+1) []).map (fun j=>cond (Nat.beq j i) v (vs j))) hb' ∧
          Fits C.n C.D (Ja (Yq ops i) v (Vj ops vs (Xl S i)++(W++Es))) a∧Inv C.w0 C.M w (hb'++(Hc++(e'++(Wq es (Xl S i)++Hx))))
      | e=>Q e a w) [i] (Vj ops vs (Xl S i)++(W++Es)) (hb++(Hc++(Wq es (Xl S i)++Hx)))
def ObsG3 (C:Cx)(ops:Array Oper)(Q:Exit→Act→World→Prop)(S:List Sp)(HR:Nat→List Value→Heap→Prop)(hd:List (List Nat))(rd:List (Nat×Nat×Heap))(W:Env)(Hc:Heap):List Nat→Prop
  | []=>True
  | i::l=>(cond (Xq S i) (ObE2 C ops Q S HR hd W Hc i) (ObQ C ops Q S W (rdH rd i++Hc) i))∧ObsG3 C ops Q S HR hd rd W Hc l
theorem ObsG3.get {S:List Sp}{HR:Nat→List Value→Heap→Prop}{hd:List (List Nat)}{rd:List (Nat×Nat×Heap)}{W:Env}{Hc:Heap}:∀ {l:List Nat},ObsG3 C ops Q S HR hd rd W Hc l→∀ i,i∈l→(cond (Xq S i) (ObE2 C ops Q S HR hd W Hc i) (ObQ C ops Q S W (rdH rd i++Hc) i))
 | [],_,i,h=>by cases h
 | j::l,⟨h1,h2⟩,i,h=>by
  rcases List.mem_cons.1 h with rfl | h
  ·exact h1
  ·exact ObsG3.get h2 i h
theorem Z9u {id:Nat}(S:List Sp)(HR:Nat→List Value→Heap→Prop)(hd:List (List Nat))(rd:List (Nat×Nat×Heap))(hb0 Hc:Heap)
    (hm:C.P.follows .mixedOrders=true)(hb:Kf ops=true)(ht:Np ops S.length=true)(hgood:Rh ops S hd=true)(hms:Nat.ble S.length ops.size=true)
    (hn:Gq (Uq ops (List.range S.length))=true)(hgr:goodR ops S rd=true)(hro:RdOk HR rd)(h0:HR 0 [] hb0)(hH:Pick (hb0++Hc) H)
    (obs:ObsG3 C ops Q S HR hd rd (wo (Uq ops (List.range S.length)) E) Hc (List.range S.length))
    (k:∀ (vs:Nat→Value) (es:Nat→Heap) (hb:Heap),Ju S vs es (List.range S.length)→HR ((List.range S.length).filter (Xq S)).length ((hd.getD ((List.range S.length).filter (Xq S)).length []).map vs) hb →
      TO C ops Q (List.range' S.length (ops.size-S.length)) (Vj ops vs (List.range S.length)++wo (Uq ops (List.range S.length)) E) (hb++(Hc++Wq es ((List.range S.length).filter fun j=>!Gg S j)))) :
    T C (.region id ops true) Q E H:=by
  intro a w hf hi
  have hms':=Nat.le_of_ble_eq_true hms
  have hnd:=Z3c hn
  simp only [Rh,Bool.and_eq_true] at hgood
  obtain ⟨hg,hd0⟩:=hgood
  have hg':∀ i,i<S.length→_:=fun i hi=>List.all_eq_true.1 hg i (List.mem_range.2 hi)
  have hd0':hd.getD 0 []=[]:=by simpa using hd0
  let W:=wo (Uq ops (List.range S.length)) E
  have hW:∀ t v,find W t=some v→find E t=some v∧∀ j,j<S.length→Yq ops j≠some t:=fun t v h=>by
    obtain ⟨h1,h2⟩:=Z22 E _ t v h
    exact ⟨h2,fun j hj hs=>h1 (mem_slotsG.2 ⟨j,List.mem_range.2 hj,hs⟩)⟩
  let rk:(Nat→Bool)→Nat:=fun done=>((List.range S.length).filter (fun i=>Xq S i&&done i)).length
  refine Z66 (m:=S.length) (Jp:=fun done a w=>∃ (vs:Nat→Value) (es:Nat→Heap) (hb:Heap) (Es:Env),
      Fits C.n C.D Es a∧(∀ j d,j<S.length→done j=true→Yq ops j=some d→find Es d=some (vs j))∧(∀ t v,find W t=some v→find Es t=some v) ∧
      (∀ j,j<S.length→done j=true→Un S j ((Xl S j).map vs) (vs j) (es j))∧(∀ j,j∈hd.getD (rk done) []→j<S.length∧done j=true) ∧
      HR (rk done) ((hd.getD (rk done) []).map vs) hb∧Inv C.w0 C.M w (hb++(Hc++Xh es (Ur S done) (List.range S.length))))
    hm hb ht hms' ?_ ?_ ?_
  · rintro done i o a w hil ho hdi hcl hafter _ ⟨vs, es, hb, Es, hfit, hfacts, hbase, hrels, hhd, hHR, hinv⟩
    have hgi:=hg' i hil
    simp only [Bool.and_eq_true] at hgi
    obtain ⟨⟨⟨⟨hdeps,hdnd⟩,heat⟩,heate⟩,heffs⟩:=hgi
    have hdone:∀ j,Uk ops ops.size i j=true→done j=true:=fun j hj=>Lu hcl _ i j hj (fun o' ho'=>by rw [ho] at ho';injection ho' with ho';subst ho';exact hafter)
    have hdd:∀ j,j∈Xl S i→j<S.length∧done j=true:=fun j hj=>by
      have:=List.all_eq_true.1 hdeps j hj
      simp only [Bool.and_eq_true] at this
      exact ⟨by simpa using this.1,hdone j this.2⟩
    have hreld:Ju S vs es (Xl S i):=Z63 fun j hj=>hrels j (hdd j hj).1 (hdd j hj).2
    have heat':∀ q,q<S.length→∀ j,j∈Gd S q→j<q∧j∈Xl S q∧∀ p,p<S.length→p≠q→j∉Gd S p∧(j∈Xl S p→Uk ops ops.size q p=true):=by
      intro q hq j hj
      have h1:=hg' q hq
      simp only [Bool.and_eq_true] at h1
      have h2:=List.all_eq_true.1 h1.1.1.2 j hj
      simp only [Bool.and_eq_true] at h2
      refine ⟨by simpa using h2.1.1,any_beq.1 h2.1.2,fun p hp hpq=>?_⟩
      have h3:=List.all_eq_true.1 h2.2 p (List.mem_range.2 hp)
      simp only [Bool.or_eq_true,Bool.and_eq_true,Bool.not_eq_true'] at h3
      rcases h3 with h3 | ⟨h3,h4⟩
      ·exact absurd (Nat.eq_of_beq_eq_true h3) hpq
      · refine ⟨fun hm => (by rw [any_beq.2 hm] at h3; cases h3), fun hm => ?_⟩
        rcases h4 with h4 | h4
        ·rw [any_beq.2 hm] at h4;cases h4
        ·exact h4
    have hcl':∀ q,q<S.length→done q=true→∀ p,Uk ops ops.size q p=true→done p=true:=fun q hq hdq p hqp =>
      Lu hcl _ q p hqp (fun o' ho'=>hcl q o' ho' hdq)
    have hlive:∀ j,j∈Xl S i→Ur S done j=true:=by
      intro j hj
      unfold Ur
      rw [(hdd j hj).2,Bool.true_and,Bool.not_eq_true',Bool.eq_false_iff]
      intro he
      obtain ⟨q,hq,h2⟩:=List.any_eq_true.1 he
      simp only [Bool.and_eq_true] at h2
      have hqS:=List.mem_range.1 hq
      have hqi:q≠i:=by rintro rfl;rw [hdi] at h2;cases h2.1
      have h3:=((heat' q hqS j (any_beq.1 h2.2)).2.2 i hil (fun e=>hqi e.symm)).2 hj
      have:=hcl' q hqS h2.1 i h3
      rw [hdi] at this;cases this
    have hiD:i∉Xl S i:=fun hm=>by
      have:=(hdd i hm).2
      rw [hdi] at this;cases this
    have hstepL:∀ j,j≠i→Ur S (fun q=>if q=i then true else done q) j=(Ur S done j&&!(Gd S i).any (Nat.beq j)):=by
      intro j hji
      unfold Ur
      simp only [if_neg hji]
      have:Z0v S (fun q=>if q=i then true else done q) j=(Z0v S done j||(Gd S i).any (Nat.beq j)):=by
        rw [Bool.eq_iff_iff]
        simp only [Z0v,List.any_eq_true,Bool.or_eq_true,Bool.and_eq_true]
        constructor
        · rintro ⟨q, hq, h1, h2⟩
          by_cases e:q=i
          ·subst e;exact .inr h2
          ·rw [if_neg e] at h1;exact .inl ⟨q,hq,h1,h2⟩
        · rintro (⟨q, hq, h1, h2⟩ | h2)
          ·exact ⟨q,hq,by rw [h1];simp,h2⟩
          ·exact ⟨i,List.mem_range.2 hil,by simp,h2⟩
      rw [this]
      cases done j <;> cases Z0v S done j <;> cases (Gd S i).any (Nat.beq j) <;> rfl
    have hlivei:Ur S (fun q=>if q=i then true else done q) i=true:=by
      unfold Ur
      simp only [if_true]
      rw [Bool.true_and,Bool.not_eq_true',Bool.eq_false_iff]
      intro he
      obtain ⟨q,hq,h2⟩:=List.any_eq_true.1 he
      simp only [Bool.and_eq_true] at h2
      have hqS:=List.mem_range.1 hq
      obtain ⟨h3,h4,h5⟩:=heat' q hqS i (any_beq.1 h2.2)
      by_cases e:q=i
      ·subst e;omega
      · have hdq : done q = true := by have := h2.1; rwa [if_neg e] at this
        have h6:=hg' q hqS
        simp only [Bool.and_eq_true] at h6
        have h7:=List.all_eq_true.1 h6.1.1.1.1 i h4
        simp only [Bool.and_eq_true] at h7
        have:=hcl' q hqS hdq i h7.2
        rw [hdi] at this;cases this
    have hpermE:∀ e':Heap,∃ Hx,List.Perm (Xh es (Ur S done) (List.range S.length)) (Wq es (Xl S i)++Hx) ∧
        List.Perm (Xh (fun j=>if j=i then e' else es j) (Ur S (fun q=>if q=i then true else done q)) (List.range S.length)) (e'++(Wq es (Rs S i)++Hx)):=fun e' =>
      done_eat e' List.nodup_range (List.mem_range.2 hil) hiD (Z3c hdnd) (fun j hj=>⟨List.mem_range.2 (hdd j hj).1,hlive j hj⟩) (by unfold Ur;rw [hdi];rfl) hlivei hstepL (fun j hj=>(heat' i hil j hj).2.1)
    obtain ⟨Hx,hHx,hHx'⟩:∃ Hx,List.Perm (Xh es (Ur S done) (List.range S.length)) (Wq es (Xl S i)++Hx) ∧
        ∀ e':Heap,List.Perm (Xh (fun j=>if j=i then e' else es j) (Ur S (fun q=>if q=i then true else done q)) (List.range S.length)) (e'++(Wq es (Rs S i)++Hx)):=by
      obtain ⟨Hx,h1,_⟩:=hpermE []
      refine ⟨Hx,h1,fun e'=>?_⟩
      obtain ⟨Hy,h2,h3⟩:=hpermE e'
      exact h3.trans (List.Perm.append_left _ (List.Perm.append_left _ ((List.perm_append_left_iff _).1 (h2.symm.trans h1))))
    have hsub:∀ t v,find (Vj ops vs (Xl S i)++(W++Es)) t=some v→find Es t=some v:=by
      intro t v h
      rw [Gx,Gx] at h
      cases h1:find (Vj ops vs (Xl S i)) t with
      | some u =>
        rw [h1] at h;simp at h;subst h
        obtain ⟨j,hj,hs,rfl⟩:=Z2n (Z21 h1)
        exact hfacts j t (hdd j hj).1 (hdd j hj).2 hs
      | none =>
        rw [h1] at h
        simp only [Option.none_or] at h
        cases h2:find W t with
        | some u=>rw [h2] at h;simp at h;subst h;exact hbase t u h2
        | none=>rw [h2] at h;simpa using h
    have hsub2:∀ t v,find Es t=some v→find (Vj ops vs (Xl S i)++(W++Es)) t=some v:=by
      intro t v h
      cases h1:find (Vj ops vs (Xl S i)++(W++Es)) t with
      | some u=>rw [←hsub t u h1,h]
      | none =>
        rw [Gx,Gx,h] at h1
        cases h2:find (Vj ops vs (Xl S i)) t <;> cases h3:find W t <;> simp [h2,h3] at h1
    have hslot:Yq ops i=o.dst:=by simp [Yq,ho]
    have hfin:∀ (v:Value) (e' hb':Heap) (a':Act) (w':World),Un S i ((Xl S i).map vs) v e'→(∀ j,j∈hd.getD (rk (fun q=>if q=i then true else done q)) []→j<S.length∧(if j=i then true else done j)=true) →
        HR (rk (fun q=>if q=i then true else done q)) ((hd.getD (rk (fun q=>if q=i then true else done q)) []).map (fun j=>if j=i then v else vs j)) hb' →
        Fits C.n C.D (Ja (Yq ops i) v (Vj ops vs (Xl S i)++(W++Es))) a'→Inv C.w0 C.M w' (hb'++(Hc++(e'++(Wq es (Rs S i)++Hx)))) →
        ∃ (vs:Nat→Value) (es:Nat→Heap) (hb:Heap) (Es:Env),Fits C.n C.D Es a'∧(∀ j d,j<S.length→(if j=i then true else done j)=true→Yq ops j=some d→find Es d=some (vs j))∧(∀ t v,find W t=some v→find Es t=some v) ∧
          (∀ j,j<S.length→(if j=i then true else done j)=true→Un S j ((Xl S j).map vs) (vs j) (es j))∧(∀ j,j∈hd.getD (rk (fun q=>if q=i then true else done q)) []→j<S.length∧(if j=i then true else done j)=true) ∧
          HR (rk (fun q=>if q=i then true else done q)) ((hd.getD (rk (fun q=>if q=i then true else done q)) []).map vs) hb∧Inv C.w0 C.M w' (hb++(Hc++Xh es (Ur S (fun q=>if q=i then true else done q)) (List.range S.length))):=by
      intro v e' hb' a' w' hrel hhd' hHR' hfit' hinv'
      refine ⟨fun j=>if j=i then v else vs j,fun j=>if j=i then e' else es j,hb',Ja (Yq ops i) v (Vj ops vs (Xl S i)++(W++Es)),hfit',fun j d hj hdj hs=>?_,fun t u h=>?_,fun j hj hdj=>?_,hhd',hHR',?_⟩
      · show find _ d = some (if j = i then v else vs j)
        by_cases e:j=i
        ·subst e;rw [hs,if_pos rfl];simp [Ja,Kb]
        · rw [if_neg e]
          have hdj':done j=true:=by simpa [e] using hdj
          have h1:=hsub2 _ _ (hfacts j d hj hdj' hs)
          cases hsi:Yq ops i with
          | none=>exact h1
          | some di =>
            simp only [Ja,Kb]
            rw [if_neg]
            ·exact h1
            · rintro rfl
              exact e (Z7o hnd j i di (List.mem_range.2 hj) (List.mem_range.2 hil) hs hsi)
      · have h1 := hsub2 _ _ (hbase t u h)
        cases hsi:Yq ops i with
        | none=>exact h1
        | some di =>
          simp only [Ja,Kb]
          rw [if_neg]
          ·exact h1
          · rintro rfl
            exact (hW _ _ h).2 i hil hsi
      · have hmapdeps : ∀ q, q < S.length → (if q = i then true else done q) = true → (Xl S q).map (fun j => if j = i then v else vs j) = (Xl S q).map vs := by
          intro q hq hdq
          apply List.map_congr_left
          intro r hr
          have hrq:=hg' q hq
          simp only [Bool.and_eq_true] at hrq
          have hrr:=List.all_eq_true.1 hrq.1.1.1.1 r hr
          simp only [Bool.and_eq_true] at hrr
          have hne:r≠i:=by
            rintro rfl
            by_cases e:q=r
            · subst e
              have:=hdone q hrr.2
              rw [hdi] at this;cases this
            · have hdq' : done q = true := by simpa [e] using hdq
              have:done r=true:=by
                obtain ⟨oq,hoq⟩:∃ oq,ops[q]?=some oq:=⟨ops[q]'(by omega),Array.getElem?_eq_getElem (by omega)⟩
                exact Lu hcl _ q r hrr.2 (fun o' ho'=>hcl q o' ho' hdq')
              rw [hdi] at this;cases this
          rw [if_neg hne]
        rw [hmapdeps j hj hdj]
        by_cases e:j=i
        ·subst e;simpa using hrel
        · simp only [if_neg e]
          exact hrels j hj (by simpa [e] using hdj)
      ·exact hinv'.perm (List.Perm.append_left _ (List.Perm.append_left _ (hHx' e').symm))
    have hrk:Xq S i=false→rk (fun q=>if q=i then true else done q)=rk done:=by
      intro he
      show ((List.range S.length).filter _).length=_
      congr 1
      apply List.filter_congr
      intro j _
      by_cases e:j=i
      ·subst e;simp [he]
      ·simp [e]
    cases he:Xq S i with
    | false =>
      have hob:=obs.get i (List.mem_range.2 hil)
      rw [he] at hob
      simp only [cond_false] at hob
      have hrkle:∀ k,rdK rd i=some k→rk done≤k:=by
        intro k hk
        obtain ⟨q,hq,heq,hrq,hreach⟩:=goodR.get hgr i k hk
        subst hrq
        have hdq:done q=false:=by
          cases hdq:done q with
          | false=>rfl
          | true=>have:=hcl' q hq hdq i hreach;rw [hdi] at this;cases this
        show ((List.range S.length).filter (fun i=>Xq S i&&done i)).length≤((List.range q).filter (Xq S)).length
        have hsplit:List.range S.length=List.range q++List.range' q (S.length-q):=by
          rw [List.range_eq_range',List.range_eq_range']
          have:=List.range'_append_1 (s:=0) (m:=q) (n:=S.length-q)
          rw [Nat.zero_add] at this
          rw [this]
          congr 1;omega
        have h2:(List.range' q (S.length-q)).filter (fun j=>Xq S j&&done j)=[]:=by
          rw [List.filter_eq_nil_iff]
          intro j hj
          have hjr:=List.mem_range'_1.1 hj
          cases hej:Xq S j with
          | false=>simp
          | true =>
            cases hdj:done j with
            | false=>simp
            | true =>
              exfalso
              by_cases e:j=q
              ·subst e;rw [hdq] at hdj;cases hdj
              · have hgj := hg' j (by omega)
                simp only [Bool.and_eq_true] at hgj
                have h3:=hgj.2
                rw [hej] at h3
                simp only [Bool.not_true,Bool.false_or,Bool.and_eq_true] at h3
                have h4:=List.all_eq_true.1 h3.1 q (List.mem_range.2 (by omega))
                rw [heq] at h4
                simp only [Bool.not_true,Bool.false_or] at h4
                have:=hcl' j (by omega) hdj q h4
                rw [hdq] at this;cases this
        rw [hsplit,List.filter_append,h2,List.append_nil]
        have:∀ l:List Nat,(l.filter (fun i=>Xq S i&&done i)).length≤(l.filter (Xq S)).length:=by
          intro l
          induction l with
          | nil=>simp
          | cons x l ih =>
            rw [List.filter_cons,List.filter_cons]
            cases h1:Xq S x <;> cases h2:done x <;> simp <;> omega
        exact this _
      obtain ⟨rest,hrest⟩:=hro.get i (rk done) _ hb hrkle hHR
      have hh:=hob vs es Es (Hx++rest) hreld a w (hfit.weak hsub) (hinv.perm (by
        refine (List.Perm.append hrest (List.Perm.append_left Hc hHx)).trans ?_
        rw [List.append_assoc,List.append_assoc]
        refine List.Perm.append_left _ ?_
        refine List.perm_append_comm.trans ?_
        rw [List.append_assoc,List.append_assoc]))
      refine wpOpIn_mono ?_ (wpOp_Q hh)
      rintro a' w' ⟨v,e',hrel,hfit',hinv'⟩
      refine hfin v e' hb a' w' hrel ?_ ?_ hfit' (hinv'.perm ?_)
      · rw [hrk he]
        intro j hj
        obtain ⟨h1,h2⟩:=hhd j hj
        exact ⟨h1,by rw [h2];simp⟩
      · rw [hrk he]
        have:(hd.getD (rk done) []).map (fun j=>if j=i then v else vs j)=(hd.getD (rk done) []).map vs:=by
          apply List.map_congr_left
          intro j hj
          rw [if_neg]
          rintro rfl
          have:=(hhd j hj).2
          rw [hdi] at this;cases this
        rw [this]
        exact hHR
      · -- e' ++ ((R ++ Hc) ++ (ents ++ (Hx ++ rest)))  ~  hb ++ (Hc ++ (e' ++ (ents ++ Hx)))
        generalize Wq es (Rs S i)=A
        refine List.Perm.trans ?_ (List.Perm.append_right _ hrest.symm)
        generalize rdH rd i=R
        have e1:e'++((R++Hc)++(A++(Hx++rest)))=((e'++(R++Hc))++(A++Hx))++rest:=by simp only [List.append_assoc]
        have e2:(R++rest)++(Hc++(e'++(A++Hx)))=R++(rest++(Hc++(e'++(A++Hx)))):=by simp only [List.append_assoc]
        rw [e1,e2]
        have p1:List.Perm (e'++(R++Hc)) (R++(Hc++e')):=by
          refine List.perm_append_comm.trans ?_
          rw [List.append_assoc]
        refine (List.Perm.append_right rest (List.Perm.append_right (A++Hx) p1)).trans ?_
        have e3:((R++(Hc++e'))++(A++Hx))++rest=R++((Hc++(e'++(A++Hx)))++rest):=by simp only [List.append_assoc]
        rw [e3]
        exact List.Perm.append_left R List.perm_append_comm
    | true =>
      have hob:=obs.get i (List.mem_range.2 hil)
      rw [he] at hob
      simp only [cond_true] at hob
      rw [he] at heffs
      simp only [Bool.not_true,Bool.false_or,Bool.and_eq_true] at heffs
      obtain ⟨hchain,hnext⟩:=heffs
      have hrki:rk done=Jq S i:=by
        show ((List.range S.length).filter _).length=((List.range i).filter (Xq S)).length
        have hsplit:List.range S.length=List.range i++List.range' i (S.length-i):=by
          rw [List.range_eq_range',List.range_eq_range']
          have:=List.range'_append_1 (s:=0) (m:=i) (n:=S.length-i)
          rw [Nat.zero_add] at this
          rw [this]
          congr 1;omega
        rw [hsplit,List.filter_append]
        have h1:(List.range i).filter (fun j=>Xq S j&&done j)=(List.range i).filter (Xq S):=by
          apply List.filter_congr
          intro j hj
          have:=List.all_eq_true.1 hchain j hj
          simp only [Bool.or_eq_true,Bool.not_eq_true'] at this
          rcases this with h | h
          ·simp [h]
          ·simp [hdone j h]
        have h2:(List.range' i (S.length-i)).filter (fun j=>Xq S j&&done j)=[]:=by
          rw [List.filter_eq_nil_iff]
          intro j hj
          have hjr:=List.mem_range'_1.1 hj
          cases hej:Xq S j with
          | false=>simp
          | true =>
            cases hdj:done j with
            | false=>simp
            | true =>
              exfalso
              by_cases e:j=i
              ·subst e;rw [hdi] at hdj;cases hdj
              · have hgj := hg' j (by omega)
                simp only [Bool.and_eq_true] at hgj
                have h3:=hgj.2
                rw [hej] at h3
                simp only [Bool.not_true,Bool.false_or,Bool.and_eq_true] at h3
                have h4:=List.all_eq_true.1 h3.1 i (List.mem_range.2 (by omega))
                rw [he] at h4
                simp only [Bool.not_true,Bool.false_or] at h4
                have:done i=true:=Lu hcl _ j i h4 (fun o' ho'=>hcl j o' ho' hdj)
                rw [hdi] at this;cases this
        rw [h1,h2,List.append_nil]
      have hrki':rk (fun q=>if q=i then true else done q)=Jq S i+1:=by
        rw [←hrki]
        show ((List.range S.length).filter _).length=((List.range S.length).filter _).length+1
        have:∀ l:List Nat,l.Nodup→i∈l→(l.filter (fun j=>Xq S j&&(if j=i then true else done j))).length=(l.filter (fun j=>Xq S j&&done j)).length+1:=by
          intro l
          induction l with
          | nil=>intro _ h;cases h
          | cons j l ih =>
            intro hn hm
            simp only [List.nodup_cons] at hn
            by_cases e:j=i
            · subst e
              have hc:l.filter (fun q=>Xq S q&&(if q=j then true else done q))=l.filter (fun q=>Xq S q&&done q):=by
                apply List.filter_congr
                intro q hq
                have:q≠j:=by rintro rfl;exact hn.1 hq
                simp [this]
              rw [List.filter_cons_of_pos (by simp [he]),List.filter_cons_of_neg (by simp [hdi]),hc,List.length_cons]
            · have hm' : i ∈ l := by rcases List.mem_cons.1 hm with h | h; (exact absurd h.symm e); exact h
              have:=ih hn.2 hm'
              simp only [List.filter_cons,e,if_false]
              split
              ·simp only [List.length_cons];omega
              ·exact this
        exact this _ List.nodup_range (List.mem_range.2 hil)
      rw [hrki] at hHR
      have hh:=hob vs es Es Hx hb hreld hHR a w (hfit.weak hsub) (hinv.perm (List.Perm.append_left _ (List.Perm.append_left _ hHx)))
      refine wpOpIn_mono ?_ (wpOp_Q hh)
      rintro a' w' ⟨v,hb',e',hrel,hHR',hfit',hinv'⟩
      have hrest:Rs S i=Xl S i:=by
        have h0:Gd S i=[]:=by
          rw [he] at heate;simpa using heate
        unfold Rs;rw [h0];simp
      refine hfin v e' hb' a' w' hrel ?_ ?_ hfit' (by rw [hrest];exact hinv')
      · rw [hrki']
        intro j hj
        have:=List.all_eq_true.1 hnext j hj
        simp only [Bool.or_eq_true,Bool.and_eq_true] at this
        rcases this with h | ⟨h1,h2⟩
        ·have:=Nat.eq_of_beq_eq_true h;subst this;exact ⟨hil,by simp⟩
        ·exact ⟨by simpa using h1,by rw [hdone j h2];simp⟩
      · rw [hrki']
        have:(fun j=>_root_.cond (Nat.beq j i) v (vs j))=(fun j=>if j=i then v else vs j):=by
          funext j
          by_cases e:j=i
          · subst e
            have:Nat.beq j j=true:=by simp
            rw [this,if_pos rfl];rfl
          · rw [if_neg e]
            have:Nat.beq j i=false:=by
              cases hb:Nat.beq j i
              ·rfl
              ·exact absurd (Nat.eq_of_beq_eq_true hb) e
            rw [this];rfl
        rw [←this]
        exact hHR'
  · rintro done a w hall ⟨vs, es, hb, Es, hfit, hfacts, hbase, hrels, hhd, hHR, hinv⟩
    have hrk:rk done=((List.range S.length).filter (Xq S)).length:=by
      show ((List.range S.length).filter _).length=_
      congr 1
      apply List.filter_congr
      intro j hj
      simp [hall j (List.mem_range.1 hj)]
    rw [hrk] at hHR
    refine k vs es hb (Z63 fun j hj=>hrels j (List.mem_range.1 hj) (hall j (List.mem_range.1 hj))) hHR a w (hfit.weak fun t v h=>?_) ?_
    · rw [Gx] at h
      cases h1:find (Vj ops vs (List.range S.length)) t with
      | some u =>
        rw [h1] at h;simp at h;subst h
        obtain ⟨j,hj,hs,rfl⟩:=Z2n (Z21 h1)
        have hj':=List.mem_range.1 hj
        exact hfacts j t hj' (hall j hj') hs
      | none=>rw [h1] at h;exact hbase t v (by simpa using h)
    · have h1 : Xh es (Ur S done) (List.range S.length) = Wq es ((List.range S.length).filter fun j => !Gg S j) := by
        have key:∀ l:List Nat,(∀ j,j∈l→j<S.length)→Xh es (Ur S done) l=Wq es (l.filter fun j=>!Gg S j):=by
          intro l
          induction l with
          | nil=>intro _;rfl
          | cons j l ih =>
            intro h
            have ih:=ih fun q hq=>h q (.tail _ hq)
            have hj:Ur S done j=!Gg S j:=by
              unfold Ur Z0v Gg
              rw [hall j (h j (.head _)),Bool.true_and]
              congr 1
              rw [Bool.eq_iff_iff]
              simp only [List.any_eq_true,Bool.and_eq_true]
              constructor
              ·rintro ⟨q,hq,_,h2⟩;exact ⟨q,hq,h2⟩
              ·rintro ⟨q,hq,h2⟩;exact ⟨q,hq,hall q (List.mem_range.1 hq),h2⟩
            unfold Xh at ih ⊢
            rw [List.flatMap_cons,ih,hj,List.filter_cons]
            cases (!Gg S j) <;> simp [Wq]
        exact key _ fun j hj=>List.mem_range.1 hj
      rw [←h1]
      exact hinv
  · have hrk0 : rk (fun _ => false) = 0 := by
      show ((List.range S.length).filter _).length=0
      simp
    refine ⟨fun _=>undef,fun _=>[],hb0,E,hf,fun j d _ h=>by simp at h,fun t v h=>(hW t v h).1,fun j _ h=>by simp at h,?_,?_,?_⟩
    ·rw [hrk0,hd0'];intro j hj;cases hj
    ·rw [hrk0,hd0'];exact h0
    · have : Xh (fun _ => []) (Ur S fun _ => false) (List.range S.length) = [] := by simp [Xh]
      rw [this,List.append_nil]
      exact (hi.pick hH).ofHeap rfl rfl rfl rfl
theorem Zhz {ρ:Option Nat}{P:Program}{Q':Exit→Act→World→Prop}{i:Nat}{K K':Act→World→Prop}{a:Act}{w:World}(hq:∀ e a w,e≠.normal→Q' e a w→Q e a w)(hk:∀ a w,K' a w→K a w)
    (h:wpOpIn (FW ρ) 0 P ops Q' i K' a w):wpOpIn (FW ρ) 0 P ops Q i K a w:=by
  refine wpOpIn_mono hk ?_
  unfold wpOpIn at h ⊢
  cases ho:ops[i]? with
  | none=>rw [ho] at h;exact h
  | some o =>
    rw [ho] at h
    simp only at h ⊢
    split
    · rename_i hwt
      simp only [hwt,if_true] at h
      refine ⟨h.1,?_⟩
      have h2:=h.2
      generalize (o.semAt (FW ρ).round a.eval).run P w=r at h2 ⊢
      cases r with
      | ok x w' =>
        cases x with
        | enter f args=>exact ⟨h2.1,CallsIn.mono h2.2 (fun e w' hh=>by cases e with
          | returned v=>exact hh
          | panicked c=>exact hq _ _ _ (by simp) hh
          | outgrown=>obtain ⟨a0,w0,h0⟩:=hh;exact ⟨a0,w0,hq _ _ _ (by simp) h0⟩)⟩
        | row _=>exact h2
        | round l f tmps assign body=>exact ⟨h2.1,RoundIn.mono h2.2 (fun e w' hh=>by cases e with
          | returned v=>exact hh
          | panicked c=>exact hq _ _ _ (by simp) hh
          | outgrown=>obtain ⟨a0,w0,h0⟩:=hh;exact ⟨a0,w0,hq _ _ _ (by simp) h0⟩)⟩
        | _=>exact h2
      | halt x w'=>cases x <;> first | exact h2 | exact hq _ _ _ (by simp) h2
    · rename_i hwt
      simp only [hwt,if_false,Bool.false_eq_true] at h
      exact h
theorem Z1q {ρ:Option Nat}{P:Program}{Q':Exit→Act→World→Prop}{l2:List Nat}(hq:∀ e a w,e≠.normal→Q' e a w→Q e a w)(hn:∀ a w,Q' .normal a w→wpOpsIn (FW ρ) 0 P ops Q l2 a w):∀ (l1:List Nat) (a:Act) (w:World),wpOpsIn (FW ρ) 0 P ops Q' l1 a w→wpOpsIn (FW ρ) 0 P ops Q (l1++l2) a w
 | [],a,w,h=>hn a w h
 | i::l1,a,w,h=>by
  rw [List.cons_append,wpOpsIn_cons]
  rw [wpOpsIn_cons] at h
  exact Zhz hq (fun a w=>Z1q hq hn l1 a w) h
theorem ObE.to2 {S:List Sp}{HR:Nat→List Value→Heap→Prop}{hd:List (List Nat)}{W:Env}{Hc:Heap}{i:Nat}(h:ObE C ops Q S HR hd W Hc i):ObE2 C ops Q S HR hd W Hc i:=by
 intro vs es Es Hx hb hr hh a w hf hi
 refine Z1q (l2:=[]) (fun e a w hne hq=>?_) (fun a w hq=>?_) [i] a w (h vs es Es Hx hb hr hh a w hf hi)
 ·cases e <;> first | exact absurd rfl hne | exact hq
 ·
  obtain ⟨v,hb',h1,h2,h3,h4⟩:=hq
  exact ⟨v,hb',[],h1,h2,h3,h4⟩
theorem Zbx {S:List Sp}{HR:Nat→List Value→Heap→Prop}{hd:List (List Nat)}{W:Env}{Hc:Heap}:∀ {l:List Nat},ObsG C ops Q S HR hd W Hc l→ObsG3 C ops Q S HR hd [] W Hc l
 | [],_=>trivial
 | i::_,⟨h1,h2⟩=>⟨by
  cases he:Xq S i with
  | true=>rw [he] at h1;exact ObE.to2 h1
  | false=>rw [he] at h1;exact h1,Zbx h2⟩
theorem T.drawG {id:Nat}(S:List Sp)(HR:Nat→List Value→Heap→Prop)(hd:List (List Nat))(hb0 Hc:Heap)
    (hm:C.P.follows .mixedOrders=true)(hb:Kf ops=true)(ht:Np ops S.length=true)(hgood:Rh ops S hd=true)(hms:Nat.ble S.length ops.size=true)
    (hn:Gq (Uq ops (List.range S.length))=true)(h0:HR 0 [] hb0)(hH:Pick (hb0++Hc) H)
    (obs:ObsG C ops Q S HR hd (wo (Uq ops (List.range S.length)) E) Hc (List.range S.length))
    (k:∀ (vs:Nat→Value) (es:Nat→Heap) (hb:Heap),Ju S vs es (List.range S.length)→HR ((List.range S.length).filter (Xq S)).length ((hd.getD ((List.range S.length).filter (Xq S)).length []).map vs) hb →
      TO C ops Q (List.range' S.length (ops.size-S.length)) (Vj ops vs (List.range S.length)++wo (Uq ops (List.range S.length)) E) (hb++(Hc++Wq es ((List.range S.length).filter fun j=>!Gg S j)))) :
    T C (.region id ops true) Q E H:=Z9u S HR hd [] hb0 Hc hm hb ht hgood hms hn rfl trivial h0 hH (Zbx obs) k
theorem Z47 {id:Nat}(S:List Sp)(sl:List Nat)(m:Nat)(HR:Nat→List Value→Heap→Prop)(hd:List (List Nat))(hb0 Hc:Heap)
    (hm:C.P.follows .mixedOrders=true)(hsm:S.length=m)(hsl:Uq ops (List.range m)=sl)(hb:Kf ops=true)(ht:Np ops m=true)(hgood:Rh ops S hd=true)(hms:Nat.ble m ops.size=true)
    (hn:Gq sl=true)(h0:HR 0 [] hb0)(hH:Pick (hb0++Hc) H)
    (obs:ObsG C ops Q S HR hd (wo sl E) Hc (List.range m))
    (k:∀ (vs:Nat→Value) (es:Nat→Heap) (hb:Heap),Ju S vs es (List.range m)→HR ((List.range m).filter (Xq S)).length ((hd.getD ((List.range m).filter (Xq S)).length []).map vs) hb →
      TO C ops Q (List.range' m (ops.size-m)) (Vj ops vs (List.range m)++wo sl E) (hb++(Hc++Wq es ((List.range m).filter fun j=>!Gg S j)))) :
    T C (.region id ops true) Q E H:=by
  subst hsm;subst hsl
  exact T.drawG S HR hd hb0 Hc hm hb ht hgood hms hn h0 hH obs k
def HRk (l:List Heap):Nat→List Value→Heap→Prop:=fun k _ hb=>hb=l.getD k []
theorem Yj {l:List Nat}{D D':Env}{W:Env}(h:D'=D)(k:TO C ops Q l (D++W) H):TO C ops Q l (D'++W) H:=by rw [h];exact k
theorem Ug {l:List Nat}{H':Heap}(h:H'=H)(k:TO C ops Q l E H):TO C ops Q l E H':=by rw [h];exact k
theorem Yp {S:List Sp}{W Es B B':Env}{Hc Hx:Heap}{i d:Nat}{v:Value}{e' De:Heap}{vl:List Value}{H':Heap}(hs:Yq ops i=some d)(hr:Un S i vl v e')(hH:Pick (e'++(Hc++(De++Hx))) H')(hB:B=B') :
    X C (fun e a w=>match e with
      | .normal=>∃ v e',Un S i vl v e'∧Fits C.n C.D (Ja (Yq ops i) v (B++(W++Es))) a∧Inv C.w0 C.M w (e'++(Hc++(De++Hx)))
      | e=>Q e a w) .normal ((d,v)::(B'++(W++Es))) H':=by
  subst hB
  exact fun _ _ hf hi=>⟨v,e',hr,by rw [hs];exact hf,hi.pick hH⟩
theorem X.obE {S:List Sp}{HR:Nat→List Value→Heap→Prop}{W Es B B':Env}{Hc Hx:Heap}{i k:Nat}{vl:List Value}{F:Value→List Value}{De hb' H':Heap}(hs:Yq ops i=none)(hr:Un S i vl undef [])(hh:HR k (F undef) hb')
    (hH:Pick (hb'++(Hc++(De++Hx))) H')(hB:B=B') :
    X C (fun e a w=>match e with
      | .normal=>∃ v hb',Un S i vl v []∧HR k (F v) hb'∧Fits C.n C.D (Ja (Yq ops i) v (B++(W++Es))) a∧Inv C.w0 C.M w (hb'++(Hc++(De++Hx)))
      | e=>Q e a w) .normal (B'++(W++Es)) H':=by
  subst hB
  exact fun _ _ hf hi=>⟨undef,hb',hr,hh,by rw [hs];exact hf,hi.pick hH⟩
end
end Go.Acq
namespace Go.Acq
open Go Go.RowKit
theorem Inv.self {w0 w:World}{M M':List Nat}{H Hm:Heap}(h:Inv w0 M w H)(hp:Pick Hm H)(hM:Hm.filterMap (·.1)=M'):Inv w M' w Hm:=by
 have g:=h.pick hp
 refine ⟨rfl,rfl,rfl,Nat.le_refl _,fun _ _ _=>rfl,g.own,fun b o hm=>?_,g.apart⟩
 subst hM
 first | exact Or.inr (Nq hm) | exact fun _=>Nq hm | exact Or.inl (Nq hm)
theorem Take.gone {p:Option Nat×Obj}{H R S Hm:Heap}(h:Take p H R)(g:List.Perm R (Hm++S)):List.Perm H ((p::Hm)++S) :=
 h.trans (List.Perm.cons p g)
end Go.Acq
namespace Go.Acq
open Go Go.RowKit
section control
variable {C : Cx} {Q : Exit → Act → World → Prop} {E E' : Env} {H H' : Heap} {c x y : Code}
theorem Zez {t:Nat}{v:Value}{L E:Env}(h:find E t=some v)(h2:AllF L E):AllF ((t,v)::L) E:=⟨h,h2⟩
theorem Js {E:Env}:AllF [] E:=trivial
theorem Fits.all {n:Nat}{D:List Deferred}{L E:Env}{a:Act}(h:Fits n D E a)(hL:AllF L E):Fits n D L a:=h.weak hL.sub
theorem T.weakE (h:T C c Q E' H')(hE:AllF E' E)(hH:Pick H' H):T C c Q E H:=h.weak hE.sub hH
theorem Rt {α:Type}(φ:α→Prop)(L:α→Env)(Hs:α→Heap)(μ:α→Nat)(s0:α)(h0:φ s0)(hE:AllF (L s0) E)(hH:Pick (Hs s0) H)
    (round:∀ s,φ s→T C c (Exit.then (fun a w=>∃ s',φ s'∧μ s'<μ s∧Fits C.n C.D (L s') a∧Inv C.w0 C.M w (Hs s')) Q) (L s) (Hs s)):T C (.loop c) Q E H:=by
  refine T.weakE (E':=L s0) (H':=Hs s0) ?_ hE hH
  intro a w hf hi b k cs hro hb hr
  have key:∀ j s a w,μ s=j→φ s→Fits C.n C.D (L s) a→Inv C.w0 C.M w (Hs s) →
      ∃ e a' w',Q e a' w'∧ArrivesIn (Machine.fenced C.P (FW C.ρ)) C.P (lone (b.atR a (.code c::.inLoop c::k)) cs w) b k cs e a' w':=by
    intro j
    induction j using Nat.strongRecOn with
    | _ j ih =>
      intro s a w hj hφ hfit hinv
      obtain ⟨e,a₁,w₁,hq,harr⟩:=round s hφ a w hfit hinv b (.inLoop c::k) cs hro hb hr
      cases e with
      | normal =>
        obtain ⟨s',hφ',hlt,hfit',hinv'⟩:=hq
        obtain ⟨e₂,a₂,w₂,hq₂,harr₂⟩:=ih (μ s') (hj▸hlt) s' a₁ w₁ rfl hφ' hfit' hinv'
        exact ⟨e₂,a₂,w₂,hq₂,.of_steps (StepsIn.trans harr (.one (fenced_calm hb hr rfl) stepR_inLoop)) harr₂⟩
      | exit id=>exact ⟨_,a₁,w₁,hq,.pass (x:=.inLoop c) rfl (fun _ _=>.inl (by simp)) harr⟩
      | goto l=>exact ⟨_,a₁,w₁,hq,.pass (x:=.inLoop c) rfl (fun _ _=>.inl (by simp)) harr⟩
      | ret=>exact ⟨_,a₁,w₁,hq,.pass (x:=.inLoop c) rfl (fun _ _=>.inl (by simp)) harr⟩
      | panic ch=>exact ⟨_,a₁,w₁,hq,.pass (x:=.inLoop c) rfl (fun _ _=>.inl (by simp)) harr⟩
      | outgrown=>exact ⟨_,a₁,w₁,hq,.pass (x:=.inLoop c) rfl (fun _ _=>.inl (by simp)) harr⟩
  obtain ⟨e,a',w',hq,harr⟩:=key _ s0 a w rfl h0 hf hi
  exact ⟨e,a',w',hq,.of_steps (.one (fenced_calm hb hr rfl) stepR_loop) harr⟩
end control
structure RS {α:Type}(w:World)(M:List Nat)(f:α→List Value)(s:Nat)(base:Option Addr)(n c:Nat)(xs:List α):Prop where
  ro:RO w f s base n xs
  far:∀ a,base=some a→0<n→a.block∉M
  cap:n≤c
structure HB (w:World)(M:List Nat)(b:Nat)(cs:List Value):Prop where
  has:Has w b cs
  far:b∉M
section
variable {α : Type} {w w0 : World} {M M' : List Nat} {f : α → List Value} {s n c : Nat} {base : Option Addr} {xs : List α} {H Hm R : Heap}
theorem RS.len (h:RS w M f s base n c xs):xs.length=n:=h.ro.len
theorem RO.monoM (h:RO w0 f s base n xs)(hfar:∀ a,base=some a→0<n→a.block∉M)(hi:Inv w0 M w H):RO w f s base n xs :=
 ⟨h.len,h.nil,h.wide,fun o q ho hq x hx=>by
  have h1:=h.cell o q ho hq x hx
  have hcl:q<(f x).length:=by rw [h.wide];exact hq
  have hn:0<n:=by have:=h.len;omega
  cases base with
  | none=>have:=h.nil rfl;omega
  | some a =>
   have hb:(ea (some a) (o*s+q)).block=a.block:=by
    simp only [ea,Option.getD_some,Addr.add];split <;> rfl
   rw [List.getElem?_eq_getElem hcl] at h1 ⊢
   exact hi.cell_old h1 (by rw [hb];exact hfar a rfl hn)⟩
theorem RS.mono (h:RS w0 M f s base n c xs)(hi:Inv w0 M w H):RS w [] f s base n c xs:=⟨h.ro.monoM h.far hi,fun _ _ _=>by simp,h.cap⟩
theorem RO.block_lt (h:RO w f s base n xs)(hs:0<s)(hn:0<n){a:Addr}(ha:base=some a):a.block<w.heap.size:=by
 subst ha
 have h0:0<xs.length:=by rw [h.len];exact hn
 have h1:=h.cell 0 0 h0 hs xs[0] (List.getElem?_eq_getElem h0)
 have hcl:0<(f xs[0]).length:=by rw [h.wide];exact hs
 rw [List.getElem?_eq_getElem hcl] at h1
 simp only [Nat.zero_mul,Nat.add_zero,ea,Option.getD_some,Addr.add,if_true] at h1
 unfold World.cell? at h1
 split at h1
 ·rename_i he;exact (Array.getElem?_eq_some_iff.1 he).1
 ·cases h1
theorem RS.monoM (h:RS w0 M f s base n c xs)(hs:0<s)(hi:Inv w0 M w H)(hp:List.Perm H (Hm++R))(hM:Hm.filterMap (·.1)=M'):RS w M' f s base n c xs :=
 ⟨h.ro.monoM h.far hi,fun a ha hn hm=>by
  have hlt:=h.ro.block_lt hs hn ha
  subst hM
  obtain ⟨o,ho⟩:=Nj hm
  rcases hi.low a.block o ((List.Perm.mem_iff hp).2 (List.mem_append_left _ ho)) with hl | hl
  ·omega
  ·exact h.far a ha hn hl,h.cap⟩
theorem Inv.rs (hi:Inv w0 M w H)(hf:∀ x,(f x).length=s){ob:Option Nat}{T':TypeId}{fr:Nat×Nat}{j:List Value}(hm:(ob,Obj.cells (arr f xs j).toArray T' fr)∈H)(hn:xs.length=n)(hc:n≤c)(h0:ob=none→c=0) :
    RS w [] f s (sb ob) n c xs:=⟨hi.roO hf hm hn (fun e=>by have:=h0 e;omega),fun _ _ _=>by simp,hc⟩
theorem Inv.rsM (hi:Inv w0 M w H)(hf:∀ x,(f x).length=s){ob:Option Nat}{T':TypeId}{fr:Nat×Nat}{j:List Value}(hp:List.Perm H (Hm++R))(hM:Hm.filterMap (·.1)=M')
    (hm:(ob,Obj.cells (arr f xs j).toArray T' fr)∈R)(hn:xs.length=n)(hc:n≤c)(h0:ob=none→c=0):RS w M' f s (sb ob) n c xs :=
  ⟨hi.roO hf ((List.Perm.mem_iff hp).2 (List.mem_append_right _ hm)) hn (fun e=>by have:=h0 e;omega),fun a ha _ hmM=>by
    cases ob with
    | none=>cases ha
    | some b =>
      simp only [sb,Option.map_some,Option.some.injEq] at ha
      subst ha
      subst hM
      have ha:=(hi.perm hp).apart
      rw [List.filterMap_append] at ha
      exact (List.nodup_append.1 ha).2.2 _ hmM _ (Nq hm) rfl,hc⟩
theorem HB.mono {b:Nat}{cs:List Value}(h:HB w0 M b cs)(hi:Inv w0 M w H):HB w [] b cs:=⟨fun j v hj=>hi.cell_old (h.has j v hj) h.far,by simp⟩
theorem Inv.hb (hi:Inv w0 M w H){b:Nat}{cs:List Value}{T':TypeId}{fr:Nat×Nat}(hm:(some b,Obj.cells cs.toArray T' fr)∈H):HB w [] b cs:=⟨hi.has hm,by simp⟩
theorem Inv.hbM (hi:Inv w0 M w H){b:Nat}{cs:List Value}{T':TypeId}{fr:Nat×Nat}(hp:List.Perm H (Hm++R))(hM:Hm.filterMap (·.1)=M')(hm:(some b,Obj.cells cs.toArray T' fr)∈R):HB w M' b cs :=
 ⟨hi.has ((List.Perm.mem_iff hp).2 (List.mem_append_right _ hm)),fun hmM=>by
  subst hM
  have ha:=(hi.perm hp).apart
  rw [List.filterMap_append] at ha
  exact (List.nodup_append.1 ha).2.2 _ hmM _ (Nq hm) rfl⟩
end
theorem Za4 {ob:Option Nat}{n c:Nat}{i:Int}{α:Type}{xs:List α}(h0:ob=none→c=0)(hc:n≤c)(hn:xs.length=n)(g:inb i xs.length):∃ b,ob=some b:=by
 cases ob with
 | none=>have:=h0 rfl;obtain ⟨g1,g2⟩:=g;omega
 | some b=>exact ⟨b,rfl⟩
theorem Wl {b c:Nat}:(some b:Option Nat)=none→c=0:=fun e=>by cases e
theorem Xk (c s:Nat):([]:List Value).length=(c-c)*s:=by simp
theorem Ny {α:Type}{xs ys:List α}{n m:Nat}(h:xs.length=n)(g:ys.length=m):(xs++ys).length=n+m:=by rw [List.length_append,h,g]
theorem Ub {i:Int}{n:Nat}(g:inb i n):i.toNat<n:=by obtain ⟨g1,g2⟩:=g;omega
section rules
variable {C : Cx} {ops : Array Oper} {Q : Exit → Act → World → Prop} {l : List Nat} {E : Env} {H R : Heap} {i d : Nat} {ty : TypeId} {pos : String} {af : Array Edge} {g : Option (Nat × Bool)}
theorem Ym {α:Type}{t:TypeId}{at':Array TypeId}{x:Operand}{e:TypeId}{base:Option Addr}{n c:Nat}{xs:List α}(hn:xs.length=n)
    (q0_:ops[i]?=some ⟨some d,.call ⟨.builtin .len,#[x],at'⟩,ty,pos,af,g⟩∧Zr ops E g=true∧Nat.ble (d+1) C.n=true∧at'[0]?=some t∧ev E x=some (.slice base n c))(ht:Yk C.P t=some e)(kk:TO C ops Q l ((d,.int .i64 (xs.length:Int))::E) H):TO C ops Q (i::l) E H:=have ⟨ho,hg,hd,hat,hx⟩:=q0_;
  TO.len ho hg hd hat hx ht (by rw [←hn];exact kk)
theorem Xr {α:Type}{f:α→List Value}{M:List Nat}{w:World}{xs:List α}{t e:TypeId}{x y:Operand}{base:Option Addr}{n c s:Nat}{k:IntKind}{p:Int}(hr:RS w M f s base n c xs)(hp:inb p xs.length)
    (q0_:ops[i]?=some ⟨some d,.indexAddr t x y,ty,pos,af,g⟩∧Zr ops E g=true∧Nat.ble (d+1) C.n=true∧ev E x=some (.slice base n c)∧ev E y=some (.int k p))(ht:Yk C.P t=some e)(hs:Yh C.P e=some s)
    (kk:TO C ops Q l ((d,.pointer (some (ea base (p.toNat*s))))::E) H):TO C ops Q (i::l) E H:=have ⟨ho,hg,hd,hx,hy⟩:=q0_;
  Z8l ho hg hd hx hy ht hs hr.ro.nil hp.1 (by have:=hp.2;rw [hr.len] at this;exact this) kk
theorem Z0z {α:Type}{xs:List α}{t e:TypeId}{x y:Operand}{b n c s:Nat}{k:IntKind}{p:Int}(hn:xs.length=n)(hp:inb p xs.length)
    (q0_:ops[i]?=some ⟨some d,.indexAddr t x y,ty,pos,af,g⟩∧Zr ops E g=true∧Nat.ble (d+1) C.n=true∧ev E x=some (.slice (some ⟨b,0,none⟩) n c)∧ev E y=some (.int k p))(ht:Yk C.P t=some e)(hs:Yh C.P e=some s)
    (kk:TO C ops Q l ((d,.pointer (some ⟨b,p.toNat*s,none⟩))::E) H):TO C ops Q (i::l) E H:=have ⟨ho,hg,hd,hx,hy⟩:=q0_;
  Zc4 ho hg hd hx hy ht hs hp.1 (by have:=hp.2;rw [hn] at this;exact this) kk
theorem Kv {α:Type}{xs:List α}{t e:TypeId}{x y:Operand}{b n c:Nat}{k:IntKind}{p:Int}(hn:xs.length=n)(hp:inb p xs.length)
    (q0_:ops[i]?=some ⟨some d,.indexAddr t x y,ty,pos,af,g⟩∧Zr ops E g=true∧Nat.ble (d+1) C.n=true∧ev E x=some (.slice (some ⟨b,0,none⟩) n c)∧ev E y=some (.int k p))(ht:Yk C.P t=some e)(hs:Yh C.P e=some 1)
    (kk:TO C ops Q l ((d,.pointer (some ⟨b,p.toNat,none⟩))::E) H):TO C ops Q (i::l) E H:=have ⟨ho,hg,hd,hx,hy⟩:=q0_;
  Zi2 ho hg hd hx hy ht hs hp.1 (by have:=hp.2;rw [hn] at this;exact this) kk
theorem Zh3 {P:Program}{s:TypeId}{f o:Nat}{w:World}(h:Wh P s f=some o)(a:Addr):(Instr.fieldAt s (.pointer (some a)) f).run P w=.ok (.pointer (some (a.add o))) w:=by
 unfold Wh at h
 split at h
 ·
  rename_i fs hu
  cases hg:fs[f]? with
  | none=>simp [hg] at h
  | some g =>
   cases hi:P.info? g.type with
   | none=>simp [hg,hi] at h
   | some i =>
    simp only [hg,hi,Option.bind_some] at h
    by_cases hz:i.size=0
    ·simp [hz] at h
    ·
     simp [hz] at h
     subst h
     simp [Instr.fieldAt,run_underlying hu,hg,Instr.sureAddr,fieldPlace,sizeOf,typeInfo,hi,hz]
 ·cases h
theorem TO.faR {s:TypeId}{x:Operand}{f o n:Nat}{base:Option Addr}(q0_:ops[i]?=some ⟨some d,.fieldAddr s x f,ty,pos,af,g⟩∧Zr ops E g=true∧Nat.ble (d+1) C.n=true∧ev E x=some (.pointer (some (ea base n))))(hT:Wh C.P s f=some o)(kk:TO C ops Q l ((d,.pointer (some (ea base (n+o))))::E) H):TO C ops Q (i::l) E H:=have ⟨ho,hg,hd,hx⟩:=q0_;
  TO.val ho hg hd (by simp) (fun a w hf _=>by simp [execOp,hf.ev hx,Zh3 hT,Z5x]) kk
theorem Kw {t:TypeId}{x:Operand}{base:Option Addr}{n c:Nat}{k:IntKind}{p:Int}{xs:List Int}(hr:RS C.w0 C.M (intC k) 1 base n c xs)(hp:inb p xs.length)(q0_:ops[i]?=some ⟨some d,.load t x,ty,pos,af,g⟩∧Zr ops E g=true∧Nat.ble (d+1) C.n=true∧ev E x=some (.pointer (some (ea base (p.toNat*1)))))(hT:Xi C.P t=true)
    (kk:TO C ops Q l ((d,.int k (xs.getD p.toNat 0))::E) H):TO C ops Q (i::l) E H:=have ⟨ho,hg,hd,hx⟩:=q0_;
  TO.load ho hg hd hx hT (fun w hi=>by
    have:=(hr.ro.monoM hr.far hi).at 0 (o:=p.toNat) (c:=0) (Ub hp) (by omega)
    simpa using this) kk
theorem Z9d {t:TypeId}{x:Operand}{base:Option Addr}{n c:Nat}{p:Int}{xs:List Bool}(hr:RS C.w0 C.M boolC 1 base n c xs)(hp:inb p xs.length)(q0_:ops[i]?=some ⟨some d,.load t x,ty,pos,af,g⟩∧Zr ops E g=true∧Nat.ble (d+1) C.n=true∧ev E x=some (.pointer (some (ea base (p.toNat*1)))))(hT:Xi C.P t=true)
    (kk:TO C ops Q l ((d,.bool (xs.getD p.toNat false))::E) H):TO C ops Q (i::l) E H:=have ⟨ho,hg,hd,hx⟩:=q0_;
  TO.load ho hg hd hx hT (fun w hi=>by
    have:=(hr.ro.monoM hr.far hi).at false (o:=p.toNat) (c:=0) (Ub hp) (by omega)
    simpa using this) kk
theorem Gu {α:Type}{f:α→List Value}{s:Nat}{t:TypeId}{x:Operand}{base:Option Addr}{n c:Nat}{p:Int}{xs:List α}{cs:List Value}(dflt:α)(hr:RS C.w0 C.M f s base n c xs)(hp:inb p xs.length)(q0_:ops[i]?=some ⟨some d,.load t x,ty,pos,af,g⟩∧Zr ops E g=true∧Nat.ble (d+1) C.n=true∧ev E x=some (.pointer (some (ea base (p.toNat*s))))∧f (xs.getD p.toNat dflt)=cs)(hT:Vs C.P t s=true)
    (kk:TO C ops Q l ((d,.agg cs.toArray)::E) H):TO C ops Q (i::l) E H:=have ⟨ho,hg,hd,hx,hcs⟩:=q0_;
  Z45 ho hg hd hx hT (by rw [←hcs];exact hr.ro.wide _) (fun w hi q v hq=>by
    subst hcs
    have hqs:q<s:=by rw [←hr.ro.wide (xs.getD p.toNat dflt)];exact (List.getElem?_eq_some_iff.1 hq).1
    have:=(hr.ro.monoM hr.far hi).at dflt (o:=p.toNat) (c:=q) (Ub hp) hqs
    rw [Z5x]
    exact this.trans hq) kk
theorem Z7q {α:Type}{f:α→List Value}{s:Nat}{t:TypeId}{x:Operand}{base:Option Addr}{n c q:Nat}{p:Int}{xs:List α}{v:Value}(dflt:α)(hr:RS C.w0 C.M f s base n c xs)(hp:inb p xs.length)(q0_:ops[i]?=some ⟨some d,.load t x,ty,pos,af,g⟩∧Zr ops E g=true∧Nat.ble (d+1) C.n=true∧ev E x=some (.pointer (some (ea base (p.toNat*s+q))))∧(f (xs.getD p.toNat dflt))[q]?=some v)(hT:Xi C.P t=true)
    (kk:TO C ops Q l ((d,v)::E) H):TO C ops Q (i::l) E H:=have ⟨ho,hg,hd,hx,hv⟩:=q0_;
  TO.load ho hg hd hx hT (fun w hi=>by
    have hqs:q<s:=by rw [←hr.ro.wide (xs.getD p.toNat dflt)];exact (List.getElem?_eq_some_iff.1 hv).1
    have:=(hr.ro.monoM hr.far hi).at dflt (o:=p.toNat) (c:=q) (Ub hp) hqs
    exact this.trans hv) kk
theorem Z19 {t T':TypeId}{x:Operand}{b:Nat}{k:IntKind}{p:Int}{xs:List Int}{j:List Value}{fr:Nat×Nat}(hp:inb p xs.length)(q0_:ops[i]?=some ⟨some d,.load t x,ty,pos,af,g⟩∧Zr ops E g=true∧Nat.ble (d+1) C.n=true∧ev E x=some (.pointer (some ⟨b,p.toNat,none⟩)))(hT:Xi C.P t=true)(hm:(some b,Obj.cells (arr (intC k) xs j).toArray T' fr)∈H)
    (kk:TO C ops Q l ((d,.int k (xs.getD p.toNat 0))::E) H):TO C ops Q (i::l) E H:=have ⟨ho,hg,hd,hx⟩:=q0_;TO.ldI ho hg hd hx hT hm (Ub hp) kk
theorem Rq {t T':TypeId}{x y:Operand}{b:Nat}{k:IntKind}{p v:Int}{xs:List Int}{j:List Value}(hp:inb p xs.length)(q0_:ops[i]?=some ⟨none,.store t x y,ty,pos,af,g⟩∧Zr ops E g=true∧ev E x=some (.pointer (some ⟨b,p.toNat,none⟩))∧ev E y=some (.int k v))(ht:Take (some b,.cells (arr (intC k) xs j).toArray T' (0,0)) H R)(hs:Yh C.P t=some 1)
    (kk:TO C ops Q l E ((some b,.cells (arr (intC k) (xs.set p.toNat v) j).toArray T' (0,0))::R)):TO C ops Q (i::l) E H:=have ⟨ho,hg,hx,hy⟩:=q0_;TO.stI ho hg hx hy ht hs (Ub hp) kk
theorem TO.stBO {t T':TypeId}{x y:Operand}{b:Nat}{p:Int}{v:Bool}{xs:List Bool}{j:List Value}(hp:inb p xs.length)(q0_:ops[i]?=some ⟨none,.store t x y,ty,pos,af,g⟩∧Zr ops E g=true∧ev E x=some (.pointer (some ⟨b,p.toNat,none⟩))∧ev E y=some (.bool v))(ht:Take (some b,.cells (arr boolC xs j).toArray T' (0,0)) H R)(hs:Yh C.P t=some 1)
    (kk:TO C ops Q l E ((some b,.cells (arr boolC (xs.set p.toNat v) j).toArray T' (0,0))::R)):TO C ops Q (i::l) E H:=have ⟨ho,hg,hx,hy⟩:=q0_;TO.stB ho hg hx hy ht hs (Ub hp) kk
where hf_set_len {α : Type} {f : α → List Value} {s : Nat} {x : α} {q : Nat} {v : Value} (hf : ∀ x, (f x).length = s) : ((f x).set q v).length = s := by rw [List.length_set, hf]
theorem Xy {t t2:TypeId}{x y:Operand}{p q:Int}(h:i64ok (p+q))(q0_:ops[i]?=some ⟨some d,.binOp .add t x y t2,ty,pos,af,g⟩∧Zr ops E g=true∧Nat.ble (d+1) C.n=true∧ev E x=some (.int .i64 p)∧ev E y=some (.int .i64 q))
    (kk:TO C ops Q l ((d,.int .i64 (p+q))::E) H):TO C ops Q (i::l) E H:=have ⟨ho,hg,hd,hx,hy⟩:=q0_;TO.add ho hg hd hx hy h.1 h.2 kk
theorem Nd {t t2:TypeId}{x y:Operand}{p q:Int}(h:i64ok (p-q))(q0_:ops[i]?=some ⟨some d,.binOp .sub t x y t2,ty,pos,af,g⟩∧Zr ops E g=true∧Nat.ble (d+1) C.n=true∧ev E x=some (.int .i64 p)∧ev E y=some (.int .i64 q))
    (kk:TO C ops Q l ((d,.int .i64 (p-q))::E) H):TO C ops Q (i::l) E H:=have ⟨ho,hg,hd,hx,hy⟩:=q0_;TO.sub ho hg hd hx hy h.1 h.2 kk
theorem Z1g {t e:TypeId}{x y:Operand}{k k' q:IntKind}{p:Int}{by':Nat}(h:mkok p)(q0_:ops[i]?=some ⟨some d,.makeSlice t x y,ty,pos,af,g⟩∧Zr ops E g=true∧Nat.ble (d+1) C.n=true∧ev E x=some (.int k p)∧ev E y=some (.int k' p))(ht:Yk C.P t=some e)(hs:Yh C.P e=some 1)(hz:Yz C.P e=some (.int q 0))(hb:Vb C.P e=some by')(hby:Nat.ble by' 8=true)
    (kk:∀ b,TO C ops Q l ((d,.slice (some ⟨b,0,none⟩) p.toNat p.toNat)::E) ((some b,.cells (arr (intC q) (List.replicate p.toNat 0) []).toArray e (0,0))::H)):TO C ops Q (i::l) E H:=have ⟨ho,hg,hd,hx,hy⟩:=q0_;
  TO.makeI ho hg hd hx hy ht hs hz hb h.1 (by
    have:=Nat.le_of_ble_eq_true hby
    have h2:p.toNat≤4294967296:=by have:=h.2;omega
    have:=Nat.mul_le_mul this h2;omega) (by have:=h.2;omega) kk
theorem Z8f {t e:TypeId}{x y:Operand}{k k':IntKind}{p:Int}{by':Nat}(h:mkok p)(q0_:ops[i]?=some ⟨some d,.makeSlice t x y,ty,pos,af,g⟩∧Zr ops E g=true∧Nat.ble (d+1) C.n=true∧ev E x=some (.int k p)∧ev E y=some (.int k' p))(ht:Yk C.P t=some e)(hs:Yh C.P e=some 1)(hz:Yz C.P e=some (.bool false))(hb:Vb C.P e=some by')(hby:Nat.ble by' 8=true)
    (kk:∀ b,TO C ops Q l ((d,.slice (some ⟨b,0,none⟩) p.toNat p.toNat)::E) ((some b,.cells (arr boolC (List.replicate p.toNat false) []).toArray e (0,0))::H)):TO C ops Q (i::l) E H:=have ⟨ho,hg,hd,hx,hy⟩:=q0_;
  TO.makeB ho hg hd hx hy ht hs hz hb h.1 (by
    have:=Nat.le_of_ble_eq_true hby
    have h2:p.toNat≤4294967296:=by have:=h.2;omega
    have:=Nat.mul_le_mul this h2;omega) (by have:=h.2;omega) kk
theorem Z1y {α:Type}{f:α→List Value}{s by':Nat}{z:Value}{t e:TypeId}{x y:Operand}{ob:Option Nat}{base:Option Addr}{n c m cy:Nat}{xs ys:List α}{j:List Value}
    (hf:∀ x,(f x).length=s)(h1:∀ x,(f x).all (·.oneCell')=true)(hT:ElemT C.P t e s by' z)(hk:apok (xs++ys).length by')
    (q0_:ops[i]?=some ⟨some d,.call ⟨.builtin .append,#[x,y],#[t,t]⟩,ty,pos,af,g⟩∧Zr ops E g=true∧Nat.ble (d+1) C.n=true∧ev E x=some (.slice (sb ob) n c)∧ev E y=some (.slice base m cy))
    (ht:Take (ob,.cells (arr f xs j).toArray e (0,0)) H R)(hn:xs.length=n)(hnc:n≤c)(hj:j.length=(c-n)*s)(h0:ob=none→c=0)
    (hsrc:∀ w,Inv C.w0 C.M w H→RS w [] f s base m cy ys)
    (kk:∀ (ob':Option Nat) (c':Nat) (j':List Value),n+m≤c'→j'.length=(c'-(n+m))*s→(ob'=none→c'=0)→TO C ops Q l ((d,.slice (sb ob') (n+m) c')::E) ((ob',.cells (arr f (xs++ys) j').toArray e (0,0))::R)) :
    TO C ops Q (i::l) E H:=by
  obtain ⟨ho,hg,hd,hx,hy⟩:=q0_
  by_cases hm:ys.length=m
  · have hl : (xs ++ ys).length = n + m := Ny hn hm
    rw [hl] at hk
    exact TO.append hf h1 hT ho hg hd hx hy ht hn hnc hj h0 (fun w hi=>(hsrc w hi).ro) hk.1 hk.2 kk
  · intro a w _ hi
    exact absurd (hsrc w hi).len hm
theorem Zw {f:FuncId}{xs:Array Operand}{at':Array TypeId}{vs:List Value}{Post:Value→Heap→Prop}(hF:Yb C.P f=true)
    (q0_:ops[i]?=some ⟨some d,.call ⟨.value (.func f),xs,at'⟩,ty,pos,af,g⟩∧Zr ops E g=true∧Nat.ble (d+1) C.n=true∧evs E xs.toList=some vs)
    (hc:∀ w,Inv C.w0 C.M w H→Fnc C.P f vs.toArray w [] Post)
    (kk:∀ v N,Post v N→TO C ops Q l ((d,v)::E) (N++H)):TO C ops Q (i::l) E H:=have ⟨ho,hg,hd,hx⟩:=q0_;TO.call ho hg hd hF hx hc kk
end rules
end Go.Acq
namespace Go.Acq
open Go Go.RowKit
section rules
variable {C : Cx} {ops : Array Oper} {Q : Exit → Act → World → Prop} {l : List Nat} {E : Env} {H R : Heap} {i d : Nat} {ty : TypeId} {pos : String} {af : Array Edge} {g : Option (Nat × Bool)}
theorem Vn {t:TypeId}{x:Operand}{b o:Nat}{cs:List Value}{v:Value}(hc:HB C.w0 C.M b cs)(q0_:ops[i]?=some ⟨some d,.load t x,ty,pos,af,g⟩∧Zr ops E g=true∧Nat.ble (d+1) C.n=true∧ev E x=some (.pointer (some ⟨b,o,none⟩))∧cs[o]?=some v)(hT:Xi C.P t=true)
    (kk:TO C ops Q l ((d,v)::E) H):TO C ops Q (i::l) E H:=have ⟨ho,hg,hd,hx,hv⟩:=q0_;TO.load ho hg hd hx hT (fun w hi=>hi.cell_old (hc.has o v hv) hc.far) kk
theorem Zal {t:TypeId}{x:Operand}{b k:Nat}{cs:List Value}(hc:HB C.w0 C.M b cs)(q0_:ops[i]?=some ⟨some d,.load t x,ty,pos,af,g⟩∧Zr ops E g=true∧Nat.ble (d+1) C.n=true∧ev E x=some (.pointer (some ⟨b,0,none⟩))∧cs.length=k)(hT:Vs C.P t k=true)
    (kk:TO C ops Q l ((d,.agg cs.toArray)::E) H):TO C ops Q (i::l) E H:=have ⟨ho,hg,hd,hx,hk⟩:=q0_;
  Z45 ho hg hd hx hT hk (fun w hi j v hv=>by rw [Addr.add_mid,Nat.zero_add];exact hi.cell_old (hc.has j v hv) hc.far) kk
theorem Z01 {f:FuncId}{xs:Array Operand}{at':Array TypeId}{vs:List Value}{M:List Nat}{Hm:Heap}{Post:Value→Heap→Prop}(hF:Yb C.P f=true)
    (q0_:ops[i]?=some ⟨some d,.call ⟨.value (.func f),xs,at'⟩,ty,pos,af,g⟩∧Zr ops E g=true∧Nat.ble (d+1) C.n=true∧evs E xs.toList=some vs)(hH:List.Perm H (Hm++R))(hM:Hm.filterMap (·.1)=M)
    (hc:∀ w,Inv C.w0 C.M w H→Fnc C.P f vs.toArray w M Post)
    (kk:∀ v N,Post v N→TO C ops Q l ((d,v)::E) (N++R)):TO C ops Q (i::l) E H:=have ⟨ho,hg,hd,hx⟩:=q0_;
  Z2o (Hm:=Hm) (R:=R) ho hg rfl (by simp) hd (fun a w hf hi=>by
    have e1:xs.map a.eval=vs.toArray:=by apply Array.ext';simpa using Jk hf hx
    simp [execOp,resolve,Deferred.ofValue,invoke,Act.eval,e1,Ux hF]) hH (fun m h=>by rw [hM];exact h) hc kk
theorem Jb {f:FuncId}{x:Operand}{xs:Array Operand}{at':Array TypeId}{vs:List Value}{fs cs:Array Value}{Post:Value→Heap→Prop}(hF:Yb C.P f=true)
    (q0_:ops[i]?=some ⟨some d,.call ⟨.value x,xs,at'⟩,ty,pos,af,g⟩∧Zr ops E g=true∧Nat.ble (d+1) C.n=true∧ev E x=some (.func (.func f) fs cs)∧evs E xs.toList=some vs)
    (hc:∀ w,Inv C.w0 C.M w H→Fnc C.P f (fs++vs.toArray++cs) w [] Post)
    (kk:∀ v N,Post v N→TO C ops Q l ((d,v)::E) (N++H)):TO C ops Q (i::l) E H:=have ⟨ho,hg,hd,hfv,hx⟩:=q0_;TO.callV ho hg hd hF hfv hx hc kk
theorem Z4k {f:FuncId}{x:Operand}{xs:Array Operand}{at':Array TypeId}{vs:List Value}{fs cs:Array Value}{M:List Nat}{Hm:Heap}{Post:Value→Heap→Prop}(hF:Yb C.P f=true)
    (q0_:ops[i]?=some ⟨some d,.call ⟨.value x,xs,at'⟩,ty,pos,af,g⟩∧Zr ops E g=true∧Nat.ble (d+1) C.n=true∧ev E x=some (.func (.func f) fs cs)∧evs E xs.toList=some vs)(hH:List.Perm H (Hm++R))(hM:Hm.filterMap (·.1)=M)
    (hc:∀ w,Inv C.w0 C.M w H→Fnc C.P f (fs++vs.toArray++cs) w M Post)
    (kk:∀ v N,Post v N→TO C ops Q l ((d,v)::E) (N++R)):TO C ops Q (i::l) E H:=have ⟨ho,hg,hd,hfv,hx⟩:=q0_;Ze5 ho hg hd hF hfv hx hH (fun m h=>by rw [hM];exact h) hc kk
end rules
section ends
variable {C : Cx} {E : Env} {H N : Heap}
theorem Kn {fn:Func}{w0:World}{M:List Nat}{Post:Value→Heap→Prop}(q0_:C.w0=w0∧C.M=M∧C.D=[]∧fn.results.toList=[])(hN:Pick N H)(hP:Post (.tuple #[]) N) :
    X C (bodyPost C.P fn (Wb w0 M Post)) .ret E H:=have ⟨hw,hMM,hD,hfn⟩:=q0_;
  X.ret (vs:=[]) hw hMM hD hfn (fun j r' u h1 h2=>by simp at h1) rfl rfl hN hP
end ends
end Go.Acq
namespace Go.Acq
open Go Go.RowKit
section
variable {C : Cx} {ops : Array Oper} {Q : Exit → Act → World → Prop} {l : List Nat} {E : Env} {H : Heap} {c : Code}
theorem TO.addNone (o:Obj)(k:TO C ops Q l E ((Option.none,o)::H)):TO C ops Q l E H:=fun a w hf hi=>k a w hf (hi.addNone o)
end
end Go.Acq
namespace Go.Acq
open Go Go.RowKit
section control
variable {C : Cx} {Q : Exit → Act → World → Prop} {E : Env} {H : Heap} {c : Code}
def RAt (C:Cx)(c:Code)(Q:Exit→Act→World→Prop)(a:Act)(w:World):Prop :=
  ∀ (b:Frame) (k:List Item) (cs:List Frame),b.roundOf=(FW C.ρ).round→(FW C.ρ).fn b.fn→(FW C.ρ).room (cs.length+1+0) →
    ∃ e a' w',Q e a' w'∧ArrivesIn (Machine.fenced C.P (FW C.ρ)) C.P (lone (b.atR a (.code c::.inLoop c::k)) cs w) b k cs e a' w'
def RT (C:Cx)(c:Code)(Q:Exit→Act→World→Prop)(E:Env)(H:Heap):Prop:=∀ a w,Fits C.n C.D E a→Inv C.w0 C.M w H→RAt C c Q a w
theorem Zat (h:RT C c Q E H):T C (.loop c) Q E H:=by
 intro a w hf hi b k cs hro hb hr
 obtain ⟨e,a',w',hq,harr⟩:=h a w hf hi b k cs hro hb hr
 exact ⟨e,a',w',hq,.of_steps (.one (fenced_calm hb hr rfl) stepR_loop) harr⟩
theorem RT.round (h:T C c (Exit.then (RAt C c Q) Q) E H):RT C c Q E H:=by
 intro a w hf hi b k cs hro hb hr
 obtain ⟨e,a₁,w₁,hq,harr⟩:=h a w hf hi b (.inLoop c::k) cs hro hb hr
 cases e with
 | normal =>
  obtain ⟨e₂,a₂,w₂,hq₂,harr₂⟩:=hq b k cs hro hb hr
  exact ⟨e₂,a₂,w₂,hq₂,.of_steps (StepsIn.trans harr (.one (fenced_calm hb hr rfl) stepR_inLoop)) harr₂⟩
 | exit id=>exact ⟨_,a₁,w₁,hq,.pass (x:=.inLoop c) rfl (fun _ _=>.inl (by simp)) harr⟩
 | goto l=>exact ⟨_,a₁,w₁,hq,.pass (x:=.inLoop c) rfl (fun _ _=>.inl (by simp)) harr⟩
 | ret=>exact ⟨_,a₁,w₁,hq,.pass (x:=.inLoop c) rfl (fun _ _=>.inl (by simp)) harr⟩
 | panic ch=>exact ⟨_,a₁,w₁,hq,.pass (x:=.inLoop c) rfl (fun _ _=>.inl (by simp)) harr⟩
 | outgrown=>exact ⟨_,a₁,w₁,hq,.pass (x:=.inLoop c) rfl (fun _ _=>.inl (by simp)) harr⟩
theorem X.round (h:RT C c Q E H):X C (Exit.then (RAt C c Q) Q) .normal E H:=h
end control
section
variable {α : Type} {w : World} {M : List Nat} {f : α → List Value} {s n c : Nat} {base : Option Addr} {xs : List α}
def Us (base:Option Addr)(l c s:Nat):Option Addr:=if c=l then base else base.map (·.add (l*s))
theorem RS.take (h:RS w M f s base n c xs){p:Int}(hp:0≤p∧p≤(xs.length:Int)):RS w M f s base p.toNat c (xs.take p.toNat):=by
 have hl:=h.len
 have hm:p.toNat≤n:=by omega
 exact ⟨h.ro.take hm,fun a ha h0=>h.far a ha (by omega),Nat.le_trans hm h.cap⟩
theorem ea_low (base:Option Addr)(l c s o:Nat)(hb:base≠none)(hc:c≠l):ea (Us base l c s) o=ea base (l*s+o):=by
 cases base with
 | none=>exact absurd rfl hb
 | some a =>
  unfold Us
  rw [if_neg hc]
  show (a.add (l*s)).add o=_
  exact Z5x (some a) (l*s) o
theorem RS.drop (h:RS w M f s base n c xs){p:Int}(hp:0≤p∧p≤(xs.length:Int)):RS w M f s (Us base p.toNat c s) (n-p.toNat) (c-p.toNat) (xs.drop p.toNat):=by
 have hl:=h.len
 have hc:=h.cap
 refine ⟨⟨by rw [List.length_drop,hl],fun hb=>?_,h.ro.wide,fun o q ho hq x hx=>?_⟩,fun a ha h0=>?_,by omega⟩
 ·
  unfold Us at hb
  split at hb
  ·omega
  ·
   have:base=none:=by cases base <;> simp_all
   have:=h.ro.nil this;omega
 ·
  rw [List.length_drop] at ho
  have hcl:c≠p.toNat:=by omega
  have hbn:base≠none:=fun e=>by have:=h.ro.nil e;omega
  rw [ea_low base _ _ _ _ hbn hcl,show p.toNat*s+(o*s+q)=(p.toNat+o)*s+q by rw [Nat.add_mul];omega]
  exact h.ro.cell (p.toNat+o) q (by omega) hq x (by rw [List.getElem?_drop] at hx;exact hx)
 ·
  cases base with
  | none=>unfold Us at ha;split at ha <;> cases ha
  | some a0 =>
   have:=h.far a0 rfl (by omega)
   unfold Us at ha
   split at ha
   ·injection ha with ha;subst ha;exact this
   ·
    simp only [Option.map_some,Option.some.injEq] at ha
    subst ha
    have:(a0.add (p.toNat*s)).block=a0.block:=by simp only [Addr.add];split <;> rfl
    rw [this];assumption
end
section rules
variable {C : Cx} {ops : Array Oper} {Q : Exit → Act → World → Prop} {l : List Nat} {E : Env} {H R : Heap} {i d : Nat} {ty : TypeId} {pos : String} {af : Array Edge} {g : Option (Nat × Bool)}
theorem TO.slH {α:Type}{xs:List α}{t e:TypeId}{x y:Operand}{base:Option Addr}{n c s:Nat}{k:IntKind}{p:Int}(hn:xs.length=n)(hc:n≤c)(hp:0≤p∧p≤(xs.length:Int))
    (q0_:ops[i]?=some ⟨some d,.slice t x none (some y) none,ty,pos,af,g⟩∧Zr ops E g=true∧Nat.ble (d+1) C.n=true∧ev E x=some (.slice base n c)∧ev E y=some (.int k p))(ht:Yk C.P t=some e)(hs:Yh C.P e=some s)
    (kk:TO C ops Q l ((d,.slice base p.toNat c)::E) H):TO C ops Q (i::l) E H:=have ⟨ho,hg,hd,hx,hy⟩:=q0_;
  Zje ho hg hd hx hy ht hs hp.1 (by have:=hp.2;omega) kk
theorem TO.slL {α:Type}{xs:List α}{t e:TypeId}{x y:Operand}{base:Option Addr}{n c s:Nat}{k:IntKind}{p:Int}(hn:xs.length=n)(hp:0≤p∧p≤(xs.length:Int))
    (q0_:ops[i]?=some ⟨some d,.slice t x (some y) none none,ty,pos,af,g⟩∧Zr ops E g=true∧Nat.ble (d+1) C.n=true∧ev E x=some (.slice base n c)∧ev E y=some (.int k p))(ht:Yk C.P t=some e)(hs:Yh C.P e=some s)
    (kk:TO C ops Q l ((d,.slice (Us base p.toNat c s) (n-p.toNat) (c-p.toNat))::E) H):TO C ops Q (i::l) E H:=have ⟨ho,hg,hd,hx,hy⟩:=q0_;
  TO.val ho hg hd (by simp) (fun a w hf hi=>by
    have hu:=Va ht
    have h1:0≤p∧p≤(n:Int):=by rw [hn] at hp;exact hp
    simp [execOp,hf.ev hx,hf.ev hy,Instr.sliceAt,Instr.slice,Instr.sliceBounds,Instr.sliceBound,asIntOf,run_underlying hu,h1.1,h1.2,Um hs,Us]) kk
theorem Z0r {t e:TypeId}{x y:Operand}{cs vs:List Value}{k:IntKind}{p:Int}{n s:Nat}(q0_:ops[i]?=some ⟨some d,.index t x y,ty,pos,af,g⟩∧Zr ops E g=true∧Nat.ble (d+1) C.n=true∧ev E x=some (.agg cs.toArray)∧ev E y=some (.int k p))(hT:C.P.underlying t=some (.array n e))(hs:Vs C.P e s=true)(h0:0≤p∧p<(n:Int))(hv:(cs.drop (p.toNat*s)).take s=vs)
    (kk:TO C ops Q l ((d,.agg vs.toArray)::E) H):TO C ops Q (i::l) E H:=have ⟨ho,hg,hd,hx,hy⟩:=q0_;Zdr ho hg hd hx hy hT hs h0.1 h0.2 hv kk
theorem Zix {α:Type}{f:α→List Value}{s:Nat}(z:α)(hf:(f z).length=s)(hs:0<s)(n:Nat):madeCells (f z).toArray (n*s)=(arr f (List.replicate n z) []).toArray:=by
 unfold madeCells
 apply Array.ext'
 simp only [Array.toList_map,Array.toList_range,List.size_toArray,hf,arr,List.append_nil]
 apply List.ext_getElem?
 intro i
 rw [List.getElem?_map]
 by_cases hi:i<n*s
 ·
  rw [List.getElem?_range hi]
  have h1:i / s<(List.replicate n z).length:=by rw [List.length_replicate];exact Nat.div_lt_of_lt_mul (by rw [Nat.mul_comm];exact hi)
  have h2:i%s<s:=Nat.mod_lt _ hs
  have hq:∀ (xs:List α) (o c:Nat),(∀ x,x∈xs→(f x).length=s)→o<xs.length→c<s→(xs.flatMap f)[o*s+c]?=(f (xs.getD o z))[c]?:=by
   intro xs
   induction xs with
   | nil=>intro o c _ h;simp at h
   | cons x xs ih =>
    intro o c hl h hc
    have hx:=hl x (.head _)
    cases o with
    | zero=>rw [List.flatMap_cons,Nat.zero_mul,Nat.zero_add,List.getElem?_append_left (by rw [hx];exact hc)];rfl
    | succ o =>
     rw [List.flatMap_cons,List.getElem?_append_right (by rw [hx,Nat.add_mul];omega),hx]
     have:(o+1)*s+c-s=o*s+c:=by rw [Nat.add_mul];omega
     rw [this,ih o c (fun y hy=>hl y (.tail _ hy)) (by simpa using h) hc];rfl
  have h3:=hq (List.replicate n z) (i / s) (i%s) (fun x hx=>by rw [List.eq_of_mem_replicate hx];exact hf) h1 h2
  have h4:i / s*s+i%s=i:=by rw [Nat.mul_comm];exact Nat.div_add_mod i s
  rw [h4] at h3
  rw [h3]
  have h5:(List.replicate n z).getD (i / s) z=z:=by rw [List.getD_eq_getElem?_getD,List.getElem?_replicate];split <;> simp
  rw [h5]
  have h6:i%s<(f z).length:=by rw [hf];exact h2
  simp [h6]
 ·
  rw [List.getElem?_eq_none (by simp;omega),List.getElem?_eq_none]
  ·rfl
  ·
   have:((List.replicate n z).flatMap f).length=n*s:=by
    clear hi
    induction n with
    | zero=>simp
    | succ n ih=>rw [List.replicate_succ,List.flatMap_cons,List.length_append,ih,hf,Nat.add_mul];omega
   omega
theorem TO.mkS {α:Type}{f:α→List Value}{t e:TypeId}{x y:Operand}{k k':IntKind}{p:Int}{z:Value}{zc:α}{by' s:Nat}(h:mkok p)(q0_:ops[i]?=some ⟨some d,.makeSlice t x y,ty,pos,af,g⟩∧Zr ops E g=true∧Nat.ble (d+1) C.n=true∧ev E x=some (.int k p)∧ev E y=some (.int k' p)∧(f zc).length=s∧Nat.ble 1 s=true∧z.cells=(f zc).toArray)(ht:Yk C.P t=some e)(hs:Yh C.P e=some s)(hz:Yz C.P e=some z)(hb:Vb C.P e=some by')(hby:Nat.ble by' 1024=true)
    (kk:∀ b,TO C ops Q l ((d,.slice (some ⟨b,0,none⟩) p.toNat p.toNat)::E) ((some b,.cells (arr f (List.replicate p.toNat zc) []).toArray e (0,0))::H)):TO C ops Q (i::l) E H:=by
  obtain ⟨ho,hg,hd,hx,hy,hf,hs0,hzc⟩:=q0_
  obtain ⟨ti,hti,hsz⟩:=Jy hs
  have hz':ti.zero=some z:=by simpa [Yz,hti] using hz
  have hb':ti.bytes=by':=by simpa [Vb,hti] using hb
  have hby':=Nat.le_of_ble_eq_true hby
  have h0:=h.1
  have h1:=h.2
  refine TO.new (fun b=>.slice (some ⟨b,0,none⟩) p.toNat p.toNat) ho hg hd (by simp) (fun a w hfit hi=>?_) kk
  have hr:=run_make (P:=C.P) w t e ti z (Va ht) hti hz' k k' p p h0 (Int.le_refl _) (by
    rw [hb']
    have h2:(by':Int)*p≤1024*4294967296:=Int.mul_le_mul (by omega) h1 h0 (by omega)
    omega) (by omega)
  rw [hsz,hzc,Zix zc hf (Nat.le_of_ble_eq_true hs0)] at hr
  simp [execOp,hfit.ev hx,hfit.ev hy,hr]
theorem Jn {op:BinOp}{t t2:TypeId}{x y:Operand}{k:IntKind}{p q:Int}{c:Prop}{hc:Decidable c}{b:Bool}
    (q0_:ops[i]?=some ⟨some d,.binOp op t x y t2,ty,pos,af,g⟩∧Zr ops E g=true∧Nat.ble (d+1) C.n=true∧ev E x=some (.int k p)∧ev E y=some (.int k q)∧Lj op k p q=some (.bool (@decide c hc)))(h:@decide c hc=b)(kk:TO C ops Q l ((d,.bool b)::E) H):TO C ops Q (i::l) E H:=have ⟨ho,hg,hd,hx,hy,hv⟩:=q0_;
  Zq ⟨ho,hg,hd,hx,hy,hv⟩ (by rw [h];exact kk)
theorem Gr {t t2:TypeId}{x y:Operand}{p q r:Int}(h:p+q=r∧i64ok r)
    (q0_:ops[i]?=some ⟨some d,.binOp .add t x y t2,ty,pos,af,g⟩∧Zr ops E g=true∧Nat.ble (d+1) C.n=true∧ev E x=some (.int .i64 p)∧ev E y=some (.int .i64 q))
    (kk:TO C ops Q l ((d,.int .i64 r)::E) H):TO C ops Q (i::l) E H:=have ⟨ho,hg,hd,hx,hy⟩:=q0_;Xy (by rw [h.1];exact h.2) ⟨ho,hg,hd,hx,hy⟩ (by rw [h.1];exact kk)
end rules
end Go.Acq
namespace Go.Acq
open Go Go.RowKit
end Go.Acq
namespace Go.Acq
open Go Go.RowKit
theorem Zeu {a:Int}(h:u64ok a):IntKind.u64.wrap a=a:=by rw [IntKind.wrap_u64];omega
section rules
variable {C : Cx} {ops : Array Oper} {Q : Exit → Act → World → Prop} {l : List Nat} {E : Env} {H R : Heap} {i d : Nat} {ty : TypeId} {pos : String} {af : Array Edge} {g : Option (Nat × Bool)}
theorem TO.shrL {t t2:TypeId}{x y:Operand}{k k2:IntKind}{p q:Int}{m:Nat}(q0_:ops[i]?=some ⟨some d,.binOp .shr t x y t2,ty,pos,af,g⟩∧Zr ops E g=true∧Nat.ble (d+1) C.n=true∧ev E x=some (.int k p)∧ev E y=some (.int k2 q)∧q=(m:Int)∧min m k.bits=m)
    (kk:TO C ops Q l ((d,.int k (p.fdiv (2^m)))::E) H):TO C ops Q (i::l) E H:=have ⟨ho,hg,hd,hx,hy,hq,hm⟩:=q0_;
  TO.val ho hg hd (by simp) (fun a w hf _=>by
    subst hq
    have:(binOp .shr t (.int k p) (.int k2 (m:Int)))=pure (.int k (p.fdiv (2^m))):=by
      simp only [binOp,Op.shift]
      rw [if_neg (by omega)]
      simp only [Int.toNat_natCast,hm]
    simp [execOp,hf.ev hx,hf.ev hy,eqGuard_at_int,this]) kk
end rules
end Go.Acq
namespace Go.Acq
open Go Go.RowKit
theorem Zcv (b k:Nat):ea (some ⟨b,0,none⟩) k=⟨b,k,none⟩:=by simp [ea,Addr.add_mid]
section rules
variable {C : Cx} {ops : Array Oper} {Q : Exit → Act → World → Prop} {l : List Nat} {E : Env} {H R : Heap} {i d : Nat} {ty : TypeId} {pos : String} {af : Array Edge} {g : Option (Nat × Bool)}
theorem Lx {α:Type}{xs:List α}{t e:TypeId}{x y:Operand}{ob:Option Nat}{n c s:Nat}{k:IntKind}{p:Int}(hz:ob=none→c=0)(hc:n≤c)(hn:xs.length=n)(hp:inb p xs.length)
    (q0_:ops[i]?=some ⟨some d,.indexAddr t x y,ty,pos,af,g⟩∧Zr ops E g=true∧Nat.ble (d+1) C.n=true∧ev E x=some (.slice (sb ob) n c)∧ev E y=some (.int k p))(ht:Yk C.P t=some e)(hs:Yh C.P e=some s)
    (kk:TO C ops Q l ((d,.pointer (some (ea (sb ob) (p.toNat*s))))::E) H):TO C ops Q (i::l) E H:=by
  obtain ⟨ho,hg,hd,hx,hy⟩:=q0_
  obtain ⟨b,rfl⟩:=Za4 hz hc hn hp
  exact Z0z hn hp ⟨ho,hg,hd,hx,hy⟩ ht hs (by rw [←Zcv];exact kk)
theorem Zbh {t T':TypeId}{x:Operand}{ob:Option Nat}{n c:Nat}{k:IntKind}{p:Int}{xs:List Int}{j:List Value}{fr:Nat×Nat}(hz:ob=none→c=0)(hc:n≤c)(hn:xs.length=n)(hp:inb p xs.length)(q0_:ops[i]?=some ⟨some d,.load t x,ty,pos,af,g⟩∧Zr ops E g=true∧Nat.ble (d+1) C.n=true∧ev E x=some (.pointer (some (ea (sb ob) (p.toNat*1)))))(hT:Xi C.P t=true)(hm:(ob,Obj.cells (arr (intC k) xs j).toArray T' fr)∈H)
    (kk:TO C ops Q l ((d,.int k (xs.getD p.toNat 0))::E) H):TO C ops Q (i::l) E H:=by
  obtain ⟨ho,hg,hd,hx⟩:=q0_
  obtain ⟨b,rfl⟩:=Za4 hz hc hn hp
  exact Z19 hp ⟨ho,hg,hd,(by rw [←Zcv,←Nat.mul_one p.toNat];exact hx)⟩ hT hm kk
end rules
end Go.Acq
namespace Go.Acq
open Go Go.RowKit
section
variable {C : Cx} {Q : Exit → Act → World → Prop} {E : Env} {H : Heap} {c x y : Code}
theorem Wi {α0:Type}(φ:α0→Prop)(L:α0→Env)(Hs:α0→Heap)(hx:T C x (Exit.then (fun ac w=>∃ (b0:α0),φ b0∧Fits C.n C.D (L b0) ac∧Inv C.w0 C.M w (Hs b0)) Q) E H)
    (hy:∀ (b0:α0),φ b0→T C y Q (L b0) (Hs b0)):T C x (Exit.then (y.wpIn (FW C.ρ) 0 C.P Q) Q) E H:=T.mono hx (fun e ac w h=>by
  cases e with
  | normal=>obtain ⟨b0,h1,h2,h3⟩:=h;exact hy b0 h1 ac w h2 h3
  | _=>exact h)
theorem Xe {α0:Type}{φ:α0→Prop}{L:α0→Env}{Hs:α0→Heap}(b0:α0)(hφ:φ b0)(hL:AllF (L b0) E)(hH:Pick (Hs b0) H) :
    X C (Exit.then (fun ac w=>∃ (b0:α0),φ b0∧Fits C.n C.D (L b0) ac∧Inv C.w0 C.M w (Hs b0)) Q) .normal E H:=fun _ _ hf hi=>⟨b0,hφ,hf.all hL,hi.pick hH⟩
theorem Z0w {α0 α1:Type}(φ:α0→α1→Prop)(L:α0→α1→Env)(Hs:α0→α1→Heap)(μ:α0→α1→Nat)(a0:α0)(a1:α1)(h0:φ a0 a1)(hE:AllF (L a0 a1) E)(hH:Pick (Hs a0 a1) H)
    (round:∀ (a0:α0) (a1:α1),φ a0 a1→T C c (Exit.then (fun ac w=>∃ (b0:α0) (b1:α1),φ b0 b1∧μ b0 b1<μ a0 a1∧Fits C.n C.D (L b0 b1) ac∧Inv C.w0 C.M w (Hs b0 b1)) Q) (L a0 a1) (Hs a0 a1)):T C (.loop c) Q E H :=
  Rt (α:=α0×α1) (fun s=>φ s.1 s.2) (fun s=>L s.1 s.2) (fun s=>Hs s.1 s.2) (fun s=>μ s.1 s.2) (a0,a1) h0 hE hH (fun s hs=>T.mono (round s.1 s.2 hs) (fun e ac w h=>by
    cases e with
    | normal=>obtain ⟨b0,b1,h1,h2,h3,h4⟩:=h;exact ⟨⟨b0,b1⟩,h1,h2,h3,h4⟩
    | _=>exact h))
theorem Lw {α0 α1:Type}{φ:α0→α1→Prop}{L:α0→α1→Env}{Hs:α0→α1→Heap}{μ:α0→α1→Nat}{m:Nat}(b0:α0)(b1:α1)(hφ:φ b0 b1)(hμ:μ b0 b1<m)(hL:AllF (L b0 b1) E)(hH:Pick (Hs b0 b1) H) :
    X C (Exit.then (fun ac w=>∃ (b0:α0) (b1:α1),φ b0 b1∧μ b0 b1<m∧Fits C.n C.D (L b0 b1) ac∧Inv C.w0 C.M w (Hs b0 b1)) Q) .normal E H:=fun _ _ hf hi=>⟨b0,b1,hφ,hμ,hf.all hL,hi.pick hH⟩
theorem Zhq {α0 α1:Type}(φ:α0→α1→Prop)(L:α0→α1→Env)(Hs:α0→α1→Heap)(hx:T C x (Exit.then (fun ac w=>∃ (b0:α0) (b1:α1),φ b0 b1∧Fits C.n C.D (L b0 b1) ac∧Inv C.w0 C.M w (Hs b0 b1)) Q) E H)
    (hy:∀ (b0:α0) (b1:α1),φ b0 b1→T C y Q (L b0 b1) (Hs b0 b1)):T C x (Exit.then (y.wpIn (FW C.ρ) 0 C.P Q) Q) E H:=T.mono hx (fun e ac w h=>by
  cases e with
  | normal=>obtain ⟨b0,b1,h1,h2,h3⟩:=h;exact hy b0 b1 h1 ac w h2 h3
  | _=>exact h)
theorem X.metE2 {α0 α1:Type}{φ:α0→α1→Prop}{L:α0→α1→Env}{Hs:α0→α1→Heap}(b0:α0)(b1:α1)(hφ:φ b0 b1)(hL:AllF (L b0 b1) E)(hH:Pick (Hs b0 b1) H) :
    X C (Exit.then (fun ac w=>∃ (b0:α0) (b1:α1),φ b0 b1∧Fits C.n C.D (L b0 b1) ac∧Inv C.w0 C.M w (Hs b0 b1)) Q) .normal E H:=fun _ _ hf hi=>⟨b0,b1,hφ,hf.all hL,hi.pick hH⟩
theorem Ld {α0 α1 α2:Type}(φ:α0→α1→α2→Prop)(L:α0→α1→α2→Env)(Hs:α0→α1→α2→Heap)(μ:α0→α1→α2→Nat)(a0:α0)(a1:α1)(a2:α2)(h0:φ a0 a1 a2)(hE:AllF (L a0 a1 a2) E)(hH:Pick (Hs a0 a1 a2) H)
    (round:∀ (a0:α0) (a1:α1) (a2:α2),φ a0 a1 a2→T C c (Exit.then (fun ac w=>∃ (b0:α0) (b1:α1) (b2:α2),φ b0 b1 b2∧μ b0 b1 b2<μ a0 a1 a2∧Fits C.n C.D (L b0 b1 b2) ac∧Inv C.w0 C.M w (Hs b0 b1 b2)) Q) (L a0 a1 a2) (Hs a0 a1 a2)):T C (.loop c) Q E H :=
  Rt (α:=α0×α1×α2) (fun s=>φ s.1 s.2.1 s.2.2) (fun s=>L s.1 s.2.1 s.2.2) (fun s=>Hs s.1 s.2.1 s.2.2) (fun s=>μ s.1 s.2.1 s.2.2) (a0,a1,a2) h0 hE hH (fun s hs=>T.mono (round s.1 s.2.1 s.2.2 hs) (fun e ac w h=>by
    cases e with
    | normal=>obtain ⟨b0,b1,b2,h1,h2,h3,h4⟩:=h;exact ⟨⟨b0,b1,b2⟩,h1,h2,h3,h4⟩
    | _=>exact h))
theorem Gj {α0 α1 α2:Type}{φ:α0→α1→α2→Prop}{L:α0→α1→α2→Env}{Hs:α0→α1→α2→Heap}{μ:α0→α1→α2→Nat}{m:Nat}(b0:α0)(b1:α1)(b2:α2)(hφ:φ b0 b1 b2)(hμ:μ b0 b1 b2<m)(hL:AllF (L b0 b1 b2) E)(hH:Pick (Hs b0 b1 b2) H) :
    X C (Exit.then (fun ac w=>∃ (b0:α0) (b1:α1) (b2:α2),φ b0 b1 b2∧μ b0 b1 b2<m∧Fits C.n C.D (L b0 b1 b2) ac∧Inv C.w0 C.M w (Hs b0 b1 b2)) Q) .normal E H:=fun _ _ hf hi=>⟨b0,b1,b2,hφ,hμ,hf.all hL,hi.pick hH⟩
theorem T.loopE4 {α0 α1 α2 α3:Type}(φ:α0→α1→α2→α3→Prop)(L:α0→α1→α2→α3→Env)(Hs:α0→α1→α2→α3→Heap)(μ:α0→α1→α2→α3→Nat)(a0:α0)(a1:α1)(a2:α2)(a3:α3)(h0:φ a0 a1 a2 a3)(hE:AllF (L a0 a1 a2 a3) E)(hH:Pick (Hs a0 a1 a2 a3) H)
    (round:∀ (a0:α0) (a1:α1) (a2:α2) (a3:α3),φ a0 a1 a2 a3→T C c (Exit.then (fun ac w=>∃ (b0:α0) (b1:α1) (b2:α2) (b3:α3),φ b0 b1 b2 b3∧μ b0 b1 b2 b3<μ a0 a1 a2 a3∧Fits C.n C.D (L b0 b1 b2 b3) ac∧Inv C.w0 C.M w (Hs b0 b1 b2 b3)) Q) (L a0 a1 a2 a3) (Hs a0 a1 a2 a3)):T C (.loop c) Q E H :=
  Rt (α:=α0×α1×α2×α3) (fun s=>φ s.1 s.2.1 s.2.2.1 s.2.2.2) (fun s=>L s.1 s.2.1 s.2.2.1 s.2.2.2) (fun s=>Hs s.1 s.2.1 s.2.2.1 s.2.2.2) (fun s=>μ s.1 s.2.1 s.2.2.1 s.2.2.2) (a0,a1,a2,a3) h0 hE hH (fun s hs=>T.mono (round s.1 s.2.1 s.2.2.1 s.2.2.2 hs) (fun e ac w h=>by
    cases e with
    | normal=>obtain ⟨b0,b1,b2,b3,h1,h2,h3,h4⟩:=h;exact ⟨⟨b0,b1,b2,b3⟩,h1,h2,h3,h4⟩
    | _=>exact h))
theorem Za7 {α0 α1 α2 α3:Type}{φ:α0→α1→α2→α3→Prop}{L:α0→α1→α2→α3→Env}{Hs:α0→α1→α2→α3→Heap}{μ:α0→α1→α2→α3→Nat}{m:Nat}(b0:α0)(b1:α1)(b2:α2)(b3:α3)(hφ:φ b0 b1 b2 b3)(hμ:μ b0 b1 b2 b3<m)(hL:AllF (L b0 b1 b2 b3) E)(hH:Pick (Hs b0 b1 b2 b3) H) :
    X C (Exit.then (fun ac w=>∃ (b0:α0) (b1:α1) (b2:α2) (b3:α3),φ b0 b1 b2 b3∧μ b0 b1 b2 b3<m∧Fits C.n C.D (L b0 b1 b2 b3) ac∧Inv C.w0 C.M w (Hs b0 b1 b2 b3)) Q) .normal E H:=fun _ _ hf hi=>⟨b0,b1,b2,b3,hφ,hμ,hf.all hL,hi.pick hH⟩
theorem Z59 {α0 α1 α2 α3 α4:Type}(φ:α0→α1→α2→α3→α4→Prop)(L:α0→α1→α2→α3→α4→Env)(Hs:α0→α1→α2→α3→α4→Heap)(hx:T C x (Exit.then (fun ac w=>∃ (b0:α0) (b1:α1) (b2:α2) (b3:α3) (b4:α4),φ b0 b1 b2 b3 b4∧Fits C.n C.D (L b0 b1 b2 b3 b4) ac∧Inv C.w0 C.M w (Hs b0 b1 b2 b3 b4)) Q) E H)
    (hy:∀ (b0:α0) (b1:α1) (b2:α2) (b3:α3) (b4:α4),φ b0 b1 b2 b3 b4→T C y Q (L b0 b1 b2 b3 b4) (Hs b0 b1 b2 b3 b4)):T C x (Exit.then (y.wpIn (FW C.ρ) 0 C.P Q) Q) E H:=T.mono hx (fun e ac w h=>by
  cases e with
  | normal=>obtain ⟨b0,b1,b2,b3,b4,h1,h2,h3⟩:=h;exact hy b0 b1 b2 b3 b4 h1 ac w h2 h3
  | _=>exact h)
theorem Z5k {α0 α1 α2 α3 α4:Type}{φ:α0→α1→α2→α3→α4→Prop}{L:α0→α1→α2→α3→α4→Env}{Hs:α0→α1→α2→α3→α4→Heap}(b0:α0)(b1:α1)(b2:α2)(b3:α3)(b4:α4)(hφ:φ b0 b1 b2 b3 b4)(hL:AllF (L b0 b1 b2 b3 b4) E)(hH:Pick (Hs b0 b1 b2 b3 b4) H) :
    X C (Exit.then (fun ac w=>∃ (b0:α0) (b1:α1) (b2:α2) (b3:α3) (b4:α4),φ b0 b1 b2 b3 b4∧Fits C.n C.D (L b0 b1 b2 b3 b4) ac∧Inv C.w0 C.M w (Hs b0 b1 b2 b3 b4)) Q) .normal E H:=fun _ _ hf hi=>⟨b0,b1,b2,b3,b4,hφ,hf.all hL,hi.pick hH⟩
theorem Z39 {α0 α1 α2 α3 α4 α5:Type}(φ:α0→α1→α2→α3→α4→α5→Prop)(L:α0→α1→α2→α3→α4→α5→Env)(Hs:α0→α1→α2→α3→α4→α5→Heap)(hx:T C x (Exit.then (fun ac w=>∃ (b0:α0) (b1:α1) (b2:α2) (b3:α3) (b4:α4) (b5:α5),φ b0 b1 b2 b3 b4 b5∧Fits C.n C.D (L b0 b1 b2 b3 b4 b5) ac∧Inv C.w0 C.M w (Hs b0 b1 b2 b3 b4 b5)) Q) E H)
    (hy:∀ (b0:α0) (b1:α1) (b2:α2) (b3:α3) (b4:α4) (b5:α5),φ b0 b1 b2 b3 b4 b5→T C y Q (L b0 b1 b2 b3 b4 b5) (Hs b0 b1 b2 b3 b4 b5)):T C x (Exit.then (y.wpIn (FW C.ρ) 0 C.P Q) Q) E H:=T.mono hx (fun e ac w h=>by
  cases e with
  | normal=>obtain ⟨b0,b1,b2,b3,b4,b5,h1,h2,h3⟩:=h;exact hy b0 b1 b2 b3 b4 b5 h1 ac w h2 h3
  | _=>exact h)
theorem Z50 {α0 α1 α2 α3 α4 α5:Type}{φ:α0→α1→α2→α3→α4→α5→Prop}{L:α0→α1→α2→α3→α4→α5→Env}{Hs:α0→α1→α2→α3→α4→α5→Heap}(b0:α0)(b1:α1)(b2:α2)(b3:α3)(b4:α4)(b5:α5)(hφ:φ b0 b1 b2 b3 b4 b5)(hL:AllF (L b0 b1 b2 b3 b4 b5) E)(hH:Pick (Hs b0 b1 b2 b3 b4 b5) H) :
    X C (Exit.then (fun ac w=>∃ (b0:α0) (b1:α1) (b2:α2) (b3:α3) (b4:α4) (b5:α5),φ b0 b1 b2 b3 b4 b5∧Fits C.n C.D (L b0 b1 b2 b3 b4 b5) ac∧Inv C.w0 C.M w (Hs b0 b1 b2 b3 b4 b5)) Q) .normal E H:=fun _ _ hf hi=>⟨b0,b1,b2,b3,b4,b5,hφ,hf.all hL,hi.pick hH⟩
theorem Z4d {α0 α1 α2 α3 α4 α5 α6:Type}(φ:α0→α1→α2→α3→α4→α5→α6→Prop)(L:α0→α1→α2→α3→α4→α5→α6→Env)(Hs:α0→α1→α2→α3→α4→α5→α6→Heap)(μ:α0→α1→α2→α3→α4→α5→α6→Nat)(a0:α0)(a1:α1)(a2:α2)(a3:α3)(a4:α4)(a5:α5)(a6:α6)(h0:φ a0 a1 a2 a3 a4 a5 a6)(hE:AllF (L a0 a1 a2 a3 a4 a5 a6) E)(hH:Pick (Hs a0 a1 a2 a3 a4 a5 a6) H)
    (round:∀ (a0:α0) (a1:α1) (a2:α2) (a3:α3) (a4:α4) (a5:α5) (a6:α6),φ a0 a1 a2 a3 a4 a5 a6→T C c (Exit.then (fun ac w=>∃ (b0:α0) (b1:α1) (b2:α2) (b3:α3) (b4:α4) (b5:α5) (b6:α6),φ b0 b1 b2 b3 b4 b5 b6∧μ b0 b1 b2 b3 b4 b5 b6<μ a0 a1 a2 a3 a4 a5 a6∧Fits C.n C.D (L b0 b1 b2 b3 b4 b5 b6) ac∧Inv C.w0 C.M w (Hs b0 b1 b2 b3 b4 b5 b6)) Q) (L a0 a1 a2 a3 a4 a5 a6) (Hs a0 a1 a2 a3 a4 a5 a6)):T C (.loop c) Q E H :=
  Rt (α:=α0×α1×α2×α3×α4×α5×α6) (fun s=>φ s.1 s.2.1 s.2.2.1 s.2.2.2.1 s.2.2.2.2.1 s.2.2.2.2.2.1 s.2.2.2.2.2.2) (fun s=>L s.1 s.2.1 s.2.2.1 s.2.2.2.1 s.2.2.2.2.1 s.2.2.2.2.2.1 s.2.2.2.2.2.2) (fun s=>Hs s.1 s.2.1 s.2.2.1 s.2.2.2.1 s.2.2.2.2.1 s.2.2.2.2.2.1 s.2.2.2.2.2.2) (fun s=>μ s.1 s.2.1 s.2.2.1 s.2.2.2.1 s.2.2.2.2.1 s.2.2.2.2.2.1 s.2.2.2.2.2.2) (a0,a1,a2,a3,a4,a5,a6) h0 hE hH (fun s hs=>T.mono (round s.1 s.2.1 s.2.2.1 s.2.2.2.1 s.2.2.2.2.1 s.2.2.2.2.2.1 s.2.2.2.2.2.2 hs) (fun e ac w h=>by
    cases e with
    | normal=>obtain ⟨b0,b1,b2,b3,b4,b5,b6,h1,h2,h3,h4⟩:=h;exact ⟨⟨b0,b1,b2,b3,b4,b5,b6⟩,h1,h2,h3,h4⟩
    | _=>exact h))
theorem Z25 {α0 α1 α2 α3 α4 α5 α6:Type}{φ:α0→α1→α2→α3→α4→α5→α6→Prop}{L:α0→α1→α2→α3→α4→α5→α6→Env}{Hs:α0→α1→α2→α3→α4→α5→α6→Heap}{μ:α0→α1→α2→α3→α4→α5→α6→Nat}{m:Nat}(b0:α0)(b1:α1)(b2:α2)(b3:α3)(b4:α4)(b5:α5)(b6:α6)(hφ:φ b0 b1 b2 b3 b4 b5 b6)(hμ:μ b0 b1 b2 b3 b4 b5 b6<m)(hL:AllF (L b0 b1 b2 b3 b4 b5 b6) E)(hH:Pick (Hs b0 b1 b2 b3 b4 b5 b6) H) :
    X C (Exit.then (fun ac w=>∃ (b0:α0) (b1:α1) (b2:α2) (b3:α3) (b4:α4) (b5:α5) (b6:α6),φ b0 b1 b2 b3 b4 b5 b6∧μ b0 b1 b2 b3 b4 b5 b6<m∧Fits C.n C.D (L b0 b1 b2 b3 b4 b5 b6) ac∧Inv C.w0 C.M w (Hs b0 b1 b2 b3 b4 b5 b6)) Q) .normal E H:=fun _ _ hf hi=>⟨b0,b1,b2,b3,b4,b5,b6,hφ,hμ,hf.all hL,hi.pick hH⟩
theorem Zbl {α0 α1 α2 α3 α4 α5 α6 α7:Type}(φ:α0→α1→α2→α3→α4→α5→α6→α7→Prop)(L:α0→α1→α2→α3→α4→α5→α6→α7→Env)(Hs:α0→α1→α2→α3→α4→α5→α6→α7→Heap)(μ:α0→α1→α2→α3→α4→α5→α6→α7→Nat)(a0:α0)(a1:α1)(a2:α2)(a3:α3)(a4:α4)(a5:α5)(a6:α6)(a7:α7)(h0:φ a0 a1 a2 a3 a4 a5 a6 a7)(hE:AllF (L a0 a1 a2 a3 a4 a5 a6 a7) E)(hH:Pick (Hs a0 a1 a2 a3 a4 a5 a6 a7) H)
    (round:∀ (a0:α0) (a1:α1) (a2:α2) (a3:α3) (a4:α4) (a5:α5) (a6:α6) (a7:α7),φ a0 a1 a2 a3 a4 a5 a6 a7→T C c (Exit.then (fun ac w=>∃ (b0:α0) (b1:α1) (b2:α2) (b3:α3) (b4:α4) (b5:α5) (b6:α6) (b7:α7),φ b0 b1 b2 b3 b4 b5 b6 b7∧μ b0 b1 b2 b3 b4 b5 b6 b7<μ a0 a1 a2 a3 a4 a5 a6 a7∧Fits C.n C.D (L b0 b1 b2 b3 b4 b5 b6 b7) ac∧Inv C.w0 C.M w (Hs b0 b1 b2 b3 b4 b5 b6 b7)) Q) (L a0 a1 a2 a3 a4 a5 a6 a7) (Hs a0 a1 a2 a3 a4 a5 a6 a7)):T C (.loop c) Q E H :=
  Rt (α:=α0×α1×α2×α3×α4×α5×α6×α7) (fun s=>φ s.1 s.2.1 s.2.2.1 s.2.2.2.1 s.2.2.2.2.1 s.2.2.2.2.2.1 s.2.2.2.2.2.2.1 s.2.2.2.2.2.2.2) (fun s=>L s.1 s.2.1 s.2.2.1 s.2.2.2.1 s.2.2.2.2.1 s.2.2.2.2.2.1 s.2.2.2.2.2.2.1 s.2.2.2.2.2.2.2) (fun s=>Hs s.1 s.2.1 s.2.2.1 s.2.2.2.1 s.2.2.2.2.1 s.2.2.2.2.2.1 s.2.2.2.2.2.2.1 s.2.2.2.2.2.2.2) (fun s=>μ s.1 s.2.1 s.2.2.1 s.2.2.2.1 s.2.2.2.2.1 s.2.2.2.2.2.1 s.2.2.2.2.2.2.1 s.2.2.2.2.2.2.2) (a0,a1,a2,a3,a4,a5,a6,a7) h0 hE hH (fun s hs=>T.mono (round s.1 s.2.1 s.2.2.1 s.2.2.2.1 s.2.2.2.2.1 s.2.2.2.2.2.1 s.2.2.2.2.2.2.1 s.2.2.2.2.2.2.2 hs) (fun e ac w h=>by
    cases e with
    | normal=>obtain ⟨b0,b1,b2,b3,b4,b5,b6,b7,h1,h2,h3,h4⟩:=h;exact ⟨⟨b0,b1,b2,b3,b4,b5,b6,b7⟩,h1,h2,h3,h4⟩
    | _=>exact h))
theorem Z7u {α0 α1 α2 α3 α4 α5 α6 α7:Type}{φ:α0→α1→α2→α3→α4→α5→α6→α7→Prop}{L:α0→α1→α2→α3→α4→α5→α6→α7→Env}{Hs:α0→α1→α2→α3→α4→α5→α6→α7→Heap}{μ:α0→α1→α2→α3→α4→α5→α6→α7→Nat}{m:Nat}(b0:α0)(b1:α1)(b2:α2)(b3:α3)(b4:α4)(b5:α5)(b6:α6)(b7:α7)(hφ:φ b0 b1 b2 b3 b4 b5 b6 b7)(hμ:μ b0 b1 b2 b3 b4 b5 b6 b7<m)(hL:AllF (L b0 b1 b2 b3 b4 b5 b6 b7) E)(hH:Pick (Hs b0 b1 b2 b3 b4 b5 b6 b7) H) :
    X C (Exit.then (fun ac w=>∃ (b0:α0) (b1:α1) (b2:α2) (b3:α3) (b4:α4) (b5:α5) (b6:α6) (b7:α7),φ b0 b1 b2 b3 b4 b5 b6 b7∧μ b0 b1 b2 b3 b4 b5 b6 b7<m∧Fits C.n C.D (L b0 b1 b2 b3 b4 b5 b6 b7) ac∧Inv C.w0 C.M w (Hs b0 b1 b2 b3 b4 b5 b6 b7)) Q) .normal E H:=fun _ _ hf hi=>⟨b0,b1,b2,b3,b4,b5,b6,b7,hφ,hμ,hf.all hL,hi.pick hH⟩
theorem Zjq {α0 α1 α2 α3 α4 α5 α6 α7 α8 α9 α10 α11:Type}(φ:α0→α1→α2→α3→α4→α5→α6→α7→α8→α9→α10→α11→Prop)(L:α0→α1→α2→α3→α4→α5→α6→α7→α8→α9→α10→α11→Env)(Hs:α0→α1→α2→α3→α4→α5→α6→α7→α8→α9→α10→α11→Heap)(μ:α0→α1→α2→α3→α4→α5→α6→α7→α8→α9→α10→α11→Nat)(a0:α0)(a1:α1)(a2:α2)(a3:α3)(a4:α4)(a5:α5)(a6:α6)(a7:α7)(a8:α8)(a9:α9)(a10:α10)(a11:α11)(h0:φ a0 a1 a2 a3 a4 a5 a6 a7 a8 a9 a10 a11)(hE:AllF (L a0 a1 a2 a3 a4 a5 a6 a7 a8 a9 a10 a11) E)(hH:Pick (Hs a0 a1 a2 a3 a4 a5 a6 a7 a8 a9 a10 a11) H)
    (round:∀ (a0:α0) (a1:α1) (a2:α2) (a3:α3) (a4:α4) (a5:α5) (a6:α6) (a7:α7) (a8:α8) (a9:α9) (a10:α10) (a11:α11),φ a0 a1 a2 a3 a4 a5 a6 a7 a8 a9 a10 a11→T C c (Exit.then (fun ac w=>∃ (b0:α0) (b1:α1) (b2:α2) (b3:α3) (b4:α4) (b5:α5) (b6:α6) (b7:α7) (b8:α8) (b9:α9) (b10:α10) (b11:α11),φ b0 b1 b2 b3 b4 b5 b6 b7 b8 b9 b10 b11∧μ b0 b1 b2 b3 b4 b5 b6 b7 b8 b9 b10 b11<μ a0 a1 a2 a3 a4 a5 a6 a7 a8 a9 a10 a11∧Fits C.n C.D (L b0 b1 b2 b3 b4 b5 b6 b7 b8 b9 b10 b11) ac∧Inv C.w0 C.M w (Hs b0 b1 b2 b3 b4 b5 b6 b7 b8 b9 b10 b11)) Q) (L a0 a1 a2 a3 a4 a5 a6 a7 a8 a9 a10 a11) (Hs a0 a1 a2 a3 a4 a5 a6 a7 a8 a9 a10 a11)):T C (.loop c) Q E H :=
  Rt (α:=α0×α1×α2×α3×α4×α5×α6×α7×α8×α9×α10×α11) (fun s=>φ s.1 s.2.1 s.2.2.1 s.2.2.2.1 s.2.2.2.2.1 s.2.2.2.2.2.1 s.2.2.2.2.2.2.1 s.2.2.2.2.2.2.2.1 s.2.2.2.2.2.2.2.2.1 s.2.2.2.2.2.2.2.2.2.1 s.2.2.2.2.2.2.2.2.2.2.1 s.2.2.2.2.2.2.2.2.2.2.2) (fun s=>L s.1 s.2.1 s.2.2.1 s.2.2.2.1 s.2.2.2.2.1 s.2.2.2.2.2.1 s.2.2.2.2.2.2.1 s.2.2.2.2.2.2.2.1 s.2.2.2.2.2.2.2.2.1 s.2.2.2.2.2.2.2.2.2.1 s.2.2.2.2.2.2.2.2.2.2.1 s.2.2.2.2.2.2.2.2.2.2.2) (fun s=>Hs s.1 s.2.1 s.2.2.1 s.2.2.2.1 s.2.2.2.2.1 s.2.2.2.2.2.1 s.2.2.2.2.2.2.1 s.2.2.2.2.2.2.2.1 s.2.2.2.2.2.2.2.2.1 s.2.2.2.2.2.2.2.2.2.1 s.2.2.2.2.2.2.2.2.2.2.1 s.2.2.2.2.2.2.2.2.2.2.2) (fun s=>μ s.1 s.2.1 s.2.2.1 s.2.2.2.1 s.2.2.2.2.1 s.2.2.2.2.2.1 s.2.2.2.2.2.2.1 s.2.2.2.2.2.2.2.1 s.2.2.2.2.2.2.2.2.1 s.2.2.2.2.2.2.2.2.2.1 s.2.2.2.2.2.2.2.2.2.2.1 s.2.2.2.2.2.2.2.2.2.2.2) (a0,a1,a2,a3,a4,a5,a6,a7,a8,a9,a10,a11) h0 hE hH (fun s hs=>T.mono (round s.1 s.2.1 s.2.2.1 s.2.2.2.1 s.2.2.2.2.1 s.2.2.2.2.2.1 s.2.2.2.2.2.2.1 s.2.2.2.2.2.2.2.1 s.2.2.2.2.2.2.2.2.1 s.2.2.2.2.2.2.2.2.2.1 s.2.2.2.2.2.2.2.2.2.2.1 s.2.2.2.2.2.2.2.2.2.2.2 hs) (fun e ac w h=>by
    cases e with
    | normal=>obtain ⟨b0,b1,b2,b3,b4,b5,b6,b7,b8,b9,b10,b11,h1,h2,h3,h4⟩:=h;exact ⟨⟨b0,b1,b2,b3,b4,b5,b6,b7,b8,b9,b10,b11⟩,h1,h2,h3,h4⟩
    | _=>exact h))
theorem Zbn {α0 α1 α2 α3 α4 α5 α6 α7 α8 α9 α10 α11:Type}{φ:α0→α1→α2→α3→α4→α5→α6→α7→α8→α9→α10→α11→Prop}{L:α0→α1→α2→α3→α4→α5→α6→α7→α8→α9→α10→α11→Env}{Hs:α0→α1→α2→α3→α4→α5→α6→α7→α8→α9→α10→α11→Heap}{μ:α0→α1→α2→α3→α4→α5→α6→α7→α8→α9→α10→α11→Nat}{m:Nat}(b0:α0)(b1:α1)(b2:α2)(b3:α3)(b4:α4)(b5:α5)(b6:α6)(b7:α7)(b8:α8)(b9:α9)(b10:α10)(b11:α11)(hφ:φ b0 b1 b2 b3 b4 b5 b6 b7 b8 b9 b10 b11)(hμ:μ b0 b1 b2 b3 b4 b5 b6 b7 b8 b9 b10 b11<m)(hL:AllF (L b0 b1 b2 b3 b4 b5 b6 b7 b8 b9 b10 b11) E)(hH:Pick (Hs b0 b1 b2 b3 b4 b5 b6 b7 b8 b9 b10 b11) H) :
    X C (Exit.then (fun ac w=>∃ (b0:α0) (b1:α1) (b2:α2) (b3:α3) (b4:α4) (b5:α5) (b6:α6) (b7:α7) (b8:α8) (b9:α9) (b10:α10) (b11:α11),φ b0 b1 b2 b3 b4 b5 b6 b7 b8 b9 b10 b11∧μ b0 b1 b2 b3 b4 b5 b6 b7 b8 b9 b10 b11<m∧Fits C.n C.D (L b0 b1 b2 b3 b4 b5 b6 b7 b8 b9 b10 b11) ac∧Inv C.w0 C.M w (Hs b0 b1 b2 b3 b4 b5 b6 b7 b8 b9 b10 b11)) Q) .normal E H:=fun _ _ hf hi=>⟨b0,b1,b2,b3,b4,b5,b6,b7,b8,b9,b10,b11,hφ,hμ,hf.all hL,hi.pick hH⟩
theorem Zg3 {α0 α1 α2 α3 α4 α5 α6 α7 α8 α9 α10 α11 α12 α13 α14 α15:Type}(φ:α0→α1→α2→α3→α4→α5→α6→α7→α8→α9→α10→α11→α12→α13→α14→α15→Prop)(L:α0→α1→α2→α3→α4→α5→α6→α7→α8→α9→α10→α11→α12→α13→α14→α15→Env)(Hs:α0→α1→α2→α3→α4→α5→α6→α7→α8→α9→α10→α11→α12→α13→α14→α15→Heap)(μ:α0→α1→α2→α3→α4→α5→α6→α7→α8→α9→α10→α11→α12→α13→α14→α15→Nat)(a0:α0)(a1:α1)(a2:α2)(a3:α3)(a4:α4)(a5:α5)(a6:α6)(a7:α7)(a8:α8)(a9:α9)(a10:α10)(a11:α11)(a12:α12)(a13:α13)(a14:α14)(a15:α15)(h0:φ a0 a1 a2 a3 a4 a5 a6 a7 a8 a9 a10 a11 a12 a13 a14 a15)(hE:AllF (L a0 a1 a2 a3 a4 a5 a6 a7 a8 a9 a10 a11 a12 a13 a14 a15) E)(hH:Pick (Hs a0 a1 a2 a3 a4 a5 a6 a7 a8 a9 a10 a11 a12 a13 a14 a15) H)
    (round:∀ (a0:α0) (a1:α1) (a2:α2) (a3:α3) (a4:α4) (a5:α5) (a6:α6) (a7:α7) (a8:α8) (a9:α9) (a10:α10) (a11:α11) (a12:α12) (a13:α13) (a14:α14) (a15:α15),φ a0 a1 a2 a3 a4 a5 a6 a7 a8 a9 a10 a11 a12 a13 a14 a15→T C c (Exit.then (fun ac w=>∃ (b0:α0) (b1:α1) (b2:α2) (b3:α3) (b4:α4) (b5:α5) (b6:α6) (b7:α7) (b8:α8) (b9:α9) (b10:α10) (b11:α11) (b12:α12) (b13:α13) (b14:α14) (b15:α15),φ b0 b1 b2 b3 b4 b5 b6 b7 b8 b9 b10 b11 b12 b13 b14 b15∧μ b0 b1 b2 b3 b4 b5 b6 b7 b8 b9 b10 b11 b12 b13 b14 b15<μ a0 a1 a2 a3 a4 a5 a6 a7 a8 a9 a10 a11 a12 a13 a14 a15∧Fits C.n C.D (L b0 b1 b2 b3 b4 b5 b6 b7 b8 b9 b10 b11 b12 b13 b14 b15) ac∧Inv C.w0 C.M w (Hs b0 b1 b2 b3 b4 b5 b6 b7 b8 b9 b10 b11 b12 b13 b14 b15)) Q) (L a0 a1 a2 a3 a4 a5 a6 a7 a8 a9 a10 a11 a12 a13 a14 a15) (Hs a0 a1 a2 a3 a4 a5 a6 a7 a8 a9 a10 a11 a12 a13 a14 a15)):T C (.loop c) Q E H :=
  Rt (α:=α0×α1×α2×α3×α4×α5×α6×α7×α8×α9×α10×α11×α12×α13×α14×α15) (fun s=>φ s.1 s.2.1 s.2.2.1 s.2.2.2.1 s.2.2.2.2.1 s.2.2.2.2.2.1 s.2.2.2.2.2.2.1 s.2.2.2.2.2.2.2.1 s.2.2.2.2.2.2.2.2.1 s.2.2.2.2.2.2.2.2.2.1 s.2.2.2.2.2.2.2.2.2.2.1 s.2.2.2.2.2.2.2.2.2.2.2.1 s.2.2.2.2.2.2.2.2.2.2.2.2.1 s.2.2.2.2.2.2.2.2.2.2.2.2.2.1 s.2.2.2.2.2.2.2.2.2.2.2.2.2.2.1 s.2.2.2.2.2.2.2.2.2.2.2.2.2.2.2) (fun s=>L s.1 s.2.1 s.2.2.1 s.2.2.2.1 s.2.2.2.2.1 s.2.2.2.2.2.1 s.2.2.2.2.2.2.1 s.2.2.2.2.2.2.2.1 s.2.2.2.2.2.2.2.2.1 s.2.2.2.2.2.2.2.2.2.1 s.2.2.2.2.2.2.2.2.2.2.1 s.2.2.2.2.2.2.2.2.2.2.2.1 s.2.2.2.2.2.2.2.2.2.2.2.2.1 s.2.2.2.2.2.2.2.2.2.2.2.2.2.1 s.2.2.2.2.2.2.2.2.2.2.2.2.2.2.1 s.2.2.2.2.2.2.2.2.2.2.2.2.2.2.2) (fun s=>Hs s.1 s.2.1 s.2.2.1 s.2.2.2.1 s.2.2.2.2.1 s.2.2.2.2.2.1 s.2.2.2.2.2.2.1 s.2.2.2.2.2.2.2.1 s.2.2.2.2.2.2.2.2.1 s.2.2.2.2.2.2.2.2.2.1 s.2.2.2.2.2.2.2.2.2.2.1 s.2.2.2.2.2.2.2.2.2.2.2.1 s.2.2.2.2.2.2.2.2.2.2.2.2.1 s.2.2.2.2.2.2.2.2.2.2.2.2.2.1 s.2.2.2.2.2.2.2.2.2.2.2.2.2.2.1 s.2.2.2.2.2.2.2.2.2.2.2.2.2.2.2) (fun s=>μ s.1 s.2.1 s.2.2.1 s.2.2.2.1 s.2.2.2.2.1 s.2.2.2.2.2.1 s.2.2.2.2.2.2.1 s.2.2.2.2.2.2.2.1 s.2.2.2.2.2.2.2.2.1 s.2.2.2.2.2.2.2.2.2.1 s.2.2.2.2.2.2.2.2.2.2.1 s.2.2.2.2.2.2.2.2.2.2.2.1 s.2.2.2.2.2.2.2.2.2.2.2.2.1 s.2.2.2.2.2.2.2.2.2.2.2.2.2.1 s.2.2.2.2.2.2.2.2.2.2.2.2.2.2.1 s.2.2.2.2.2.2.2.2.2.2.2.2.2.2.2) (a0,a1,a2,a3,a4,a5,a6,a7,a8,a9,a10,a11,a12,a13,a14,a15) h0 hE hH (fun s hs=>T.mono (round s.1 s.2.1 s.2.2.1 s.2.2.2.1 s.2.2.2.2.1 s.2.2.2.2.2.1 s.2.2.2.2.2.2.1 s.2.2.2.2.2.2.2.1 s.2.2.2.2.2.2.2.2.1 s.2.2.2.2.2.2.2.2.2.1 s.2.2.2.2.2.2.2.2.2.2.1 s.2.2.2.2.2.2.2.2.2.2.2.1 s.2.2.2.2.2.2.2.2.2.2.2.2.1 s.2.2.2.2.2.2.2.2.2.2.2.2.2.1 s.2.2.2.2.2.2.2.2.2.2.2.2.2.2.1 s.2.2.2.2.2.2.2.2.2.2.2.2.2.2.2 hs) (fun e ac w h=>by
    cases e with
    | normal=>obtain ⟨b0,b1,b2,b3,b4,b5,b6,b7,b8,b9,b10,b11,b12,b13,b14,b15,h1,h2,h3,h4⟩:=h;exact ⟨⟨b0,b1,b2,b3,b4,b5,b6,b7,b8,b9,b10,b11,b12,b13,b14,b15⟩,h1,h2,h3,h4⟩
    | _=>exact h))
theorem Zfc {α0 α1 α2 α3 α4 α5 α6 α7 α8 α9 α10 α11 α12 α13 α14 α15:Type}{φ:α0→α1→α2→α3→α4→α5→α6→α7→α8→α9→α10→α11→α12→α13→α14→α15→Prop}{L:α0→α1→α2→α3→α4→α5→α6→α7→α8→α9→α10→α11→α12→α13→α14→α15→Env}{Hs:α0→α1→α2→α3→α4→α5→α6→α7→α8→α9→α10→α11→α12→α13→α14→α15→Heap}{μ:α0→α1→α2→α3→α4→α5→α6→α7→α8→α9→α10→α11→α12→α13→α14→α15→Nat}{m:Nat}(b0:α0)(b1:α1)(b2:α2)(b3:α3)(b4:α4)(b5:α5)(b6:α6)(b7:α7)(b8:α8)(b9:α9)(b10:α10)(b11:α11)(b12:α12)(b13:α13)(b14:α14)(b15:α15)(hφ:φ b0 b1 b2 b3 b4 b5 b6 b7 b8 b9 b10 b11 b12 b13 b14 b15)(hμ:μ b0 b1 b2 b3 b4 b5 b6 b7 b8 b9 b10 b11 b12 b13 b14 b15<m)(hL:AllF (L b0 b1 b2 b3 b4 b5 b6 b7 b8 b9 b10 b11 b12 b13 b14 b15) E)(hH:Pick (Hs b0 b1 b2 b3 b4 b5 b6 b7 b8 b9 b10 b11 b12 b13 b14 b15) H) :
    X C (Exit.then (fun ac w=>∃ (b0:α0) (b1:α1) (b2:α2) (b3:α3) (b4:α4) (b5:α5) (b6:α6) (b7:α7) (b8:α8) (b9:α9) (b10:α10) (b11:α11) (b12:α12) (b13:α13) (b14:α14) (b15:α15),φ b0 b1 b2 b3 b4 b5 b6 b7 b8 b9 b10 b11 b12 b13 b14 b15∧μ b0 b1 b2 b3 b4 b5 b6 b7 b8 b9 b10 b11 b12 b13 b14 b15<m∧Fits C.n C.D (L b0 b1 b2 b3 b4 b5 b6 b7 b8 b9 b10 b11 b12 b13 b14 b15) ac∧Inv C.w0 C.M w (Hs b0 b1 b2 b3 b4 b5 b6 b7 b8 b9 b10 b11 b12 b13 b14 b15)) Q) .normal E H:=fun _ _ hf hi=>⟨b0,b1,b2,b3,b4,b5,b6,b7,b8,b9,b10,b11,b12,b13,b14,b15,hφ,hμ,hf.all hL,hi.pick hH⟩
end
end Go.Acq
namespace Go.Acq
open Go Go.RowKit
section rules
variable {C : Cx} {ops : Array Oper} {Q : Exit → Act → World → Prop} {l : List Nat} {E : Env} {H R : Heap} {i d : Nat}
def gdU (ops:Array Oper)(E:Env):Option (Nat×Bool)→Bool
  | none=>false
  | some (j,_) =>
    match ((ops[j]?).bind (·.dst)).bind (find E) with
    | some (.tuple _)=>true
    | _=>false
theorem Zg1 {n:Nat}{D:List Deferred}{a:Act}{o:Oper}(hf:Fits n D E a)(h:gdU ops E o.guard=true):Region.wanted o (yielded ops a.tmps)=false:=by
 unfold Region.wanted
 cases hg:o.guard with
 | none=>rw [hg] at h;simp [gdU] at h
 | some jw =>
  obtain ⟨j,want⟩:=jw
  rw [hg] at h
  simp only [gdU] at h
  cases hj:(ops[j]?).bind (·.dst) with
  | none=>simp [hj] at h
  | some t =>
   rw [hj,Option.bind_some] at h
   cases ht:find E t with
   | none=>simp [ht] at h
   | some v =>
    rw [ht] at h
    cases v with
    | tuple xs =>
     have h3:=hf.get t _ ht
     have:yielded ops a.tmps j=none:=by
      unfold yielded
      rw [hj,Option.bind_some]
      rw [Array.getD_eq_getD_getElem?] at h3
      cases hq:a.tmps[t]? with
      | none=>rfl
      | some u =>
       rw [hq] at h3
       have h4:u=.tuple xs:=by simpa using h3
       rw [h4]
     simp [this]
    | _=>simp at h
theorem Vw {o:Oper}(q0_:ops[i]?=some o∧gdU ops E o.guard=true∧o.dst=some d∧Nat.ble (d+1) C.n=true)(k:TO C ops Q l ((d,undef)::E) H):TO C ops Q (i::l) E H:=by
 obtain ⟨ho,hg,hdst,hd⟩:=q0_
 intro a w hf hi
 have hw:Region.wanted o (yielded ops a.tmps)=false:=Zg1 hf hg
 simp only [wpOpsIn,ho,hw,Bool.false_eq_true,if_false]
 refine ⟨fun _ _=>trivial,?_⟩
 rw [hdst]
 exact k _ _ (hf.put hd _) hi
end rules
end Go.Acq
namespace Go.Acq
open Go Go.RowKit
def Ke {α:Type}(q:IntKind)(f:α→Value):Nat→List (Int×α)→List MapEntry
  | _,[]=>[]
  | i,x::xs=>{ key:=.int q x.1,val:=f x.2,born:=i }::Ke q f (i+1) xs
abbrev mapO {α:Type}(q:IntKind)(f:α→Value)(xs:List (Int×α)):Obj:=.map (Ke q f 0 xs).toArray xs.length
def getM {α:Type}(z:α)(k:Int):List (Int×α)→α
  | []=>z
  | x::xs=>if k=x.1 then x.2 else getM z k xs
def Kg {α:Type}(k:Int)(v:α):List (Int×α)→List (Int×α)
  | []=>[(k,v)]
  | x::xs=>if k=x.1 then (k,v)::xs else x::Kg k v xs
def Jd {α:Type}(f:α→Value)(k:Int):Nat→List (Int×α)→Option (Nat×Value)
  | _,[]=>none
  | i,x::xs=>if k=x.1 then some (i,f x.2) else Jd f k (i+1) xs
section
variable {α : Type} {q : IntKind} {f : α → Value} {k : Int} {z v : α}
theorem Zak:∀ (xs:List (Int×α)) (i j:Nat),Instr.findNow (.int q) (.int q k) (Ke q f i xs) j=some (Jd f k j xs)
 | [],_,_=>rfl
 | x::xs,i,j=>by
  simp only [Ke,Instr.findNow,Instr.sameNow,if_true,Jd]
  by_cases h:k=x.1
  ·rw [if_pos h,show (k==x.1)=true by simpa using h]
  ·
   rw [if_neg h,show (k==x.1)=false by simpa using h]
   exact Zak xs (i+1) (j+1)
theorem Zi1:∀ (xs:List (Int×α)) (j:Nat),(match Jd f k j xs with | some (_,u)=>u | none=>f z)=f (getM z k xs)
 | [],_=>rfl
 | x::xs,j=>by
  unfold Jd getM
  by_cases h:k=x.1
  ·rw [if_pos h,if_pos h]
  ·rw [if_neg h,if_neg h];exact Zi1 xs (j+1)
theorem Z9n:∀ (xs:List (Int×α)) (i j:Nat),(match Jd f k j xs with
    | some (p,_)=>(∃ o,(j≤p∧(Ke q f i xs)[p-j]?=some o∧o.key=.int q k))∧(Kg k v xs).length=xs.length∧Ke q f i (Kg k v xs)=(Ke q f i xs).modify (p-j) (fun e=>{ e with key:=.int q k,val:=f v })
    | none=>(Kg k v xs).length=xs.length+1∧Ke q f i (Kg k v xs)=Ke q f i xs++[{ key:=.int q k,val:=f v,born:=i+xs.length }])
  | [],i,j=>by simp [Jd,Kg,Ke]
  | x::xs,i,j=>by
    unfold Jd Kg
    by_cases h:k=x.1
    · subst h
      simp [Ke]
    · simp only [if_neg h]
      have ih:=Z9n xs (i+1) (j+1)
      cases hf:Jd f k (j+1) xs with
      | none =>
        rw [hf] at ih
        simp only [Ke,List.length_cons,List.cons_append] at ih ⊢
        refine ⟨by omega,?_⟩
        rw [ih.2]
        simp;omega
      | some y =>
        rw [hf] at ih
        obtain ⟨p,u⟩:=y
        simp only at ih ⊢
        obtain ⟨⟨o,h1,h2,h3⟩,h4,h5⟩:=ih
        have e:p-j=(p-(j+1))+1:=by omega
        refine ⟨⟨o,by omega,?_,h3⟩,by simp [h4],?_⟩
        ·rw [e];simpa [Ke] using h2
        ·rw [e];simp only [Ke,List.modify_succ_cons,h5]
end
def Rf (P:Program)(t:TypeId):Option (IntKind×TypeId) :=
  match P.underlying t with
  | some (.map k e)=>match P.underlying k with
    | some (.int q)=>some (q,e)
    | _=>none
  | _=>none
theorem Zcs {P:Program}{t e:TypeId}{q:IntKind}(h:Rf P t=some (q,e)):∃ k,P.underlying t=some (.map k e)∧P.underlying k=some (.int q):=by
 unfold Rf at h
 split at h
 ·
  rename_i k e' h1
  split at h
  ·
   rename_i q' h2
   injection h with h;injection h with h3 h4
   subst h3;subst h4
   exact ⟨k,h1,h2⟩
  ·cases h
 ·cases h
section rules
variable {C : Cx} {ops : Array Oper} {Q : Exit → Act → World → Prop} {l : List Nat} {E : Env} {H R : Heap} {i d : Nat} {ty : TypeId} {pos : String} {af : Array Edge} {g : Option (Nat × Bool)}
variable {α : Type} {q : IntKind} {f : α → Value}
theorem Z4f {P:Program}{w:World}{em:Bool}{kt:TypeId}{q:IntKind}{k:Int}(h:P.underlying kt=some (.int q)):(Instr.checkKey em 10000 kt (.int q k)).run P w=.ok () w:=by
 show (Instr.checkKey em (9999+1) kt (.int q k)).run P w=.ok () w
 rw [Instr.checkKey]
 simp [underlying,h]
theorem Zbo {P:Program}{w:World}{kt:TypeId}{q:IntKind}{f:α→Value}{k:Int}{xs:List (Int×α)}(h:P.underlying kt=some (.int q)):(Instr.findKey kt (.int q k) (Ke q f 0 xs)).run P w=.ok (Jd f k 0 xs) w:=by
 unfold Instr.findKey
 simp [underlying,h,Zak]
theorem Kz {P:Program}{w:World}{b:Nat}{m:Array MapEntry}{c:Nat}(h:w.heap[b]?=some (.map m c)):(getObj b).run P w=.ok (.map m c) w:=by
 simp [getObj,Sem.run,h]
theorem Z12 {P:Program}{w:World}{b:Nat}{m:Array MapEntry}{c:Nat}(h:w.heap[b]?=some (.map m c))(o':Obj):(setObj b o').run P w=.ok () (Go.ChangeMaps.setBlock w b o'):=by
 simp [setObj,Sem.run,h,Go.ChangeMaps.setBlock]
theorem Ze7 (q:IntKind)(k:Int):Instr.sameBits 10000 (.int q k) (.int q k)=true:=by
 show Instr.sameBits (9999+1) (.int q k) (.int q k)=true
 simp [Instr.sameBits]
end rules
end Go.Acq
namespace Go.Acq
open Go Go.RowKit
section rules
variable {C : Cx} {ops : Array Oper} {Q : Exit → Act → World → Prop} {l : List Nat} {E : Env} {H R : Heap} {i d : Nat} {ty : TypeId} {pos : String} {af : Array Edge} {g : Option (Nat × Bool)}
theorem Zm {c:Code}{E':Env}(hE:AllF E' E)(h:T C c Q E' H):T C c Q E H:=T.weak h hE.sub (Zv _)
end rules
end Go.Acq
namespace Go.Acq
open Go Go.RowKit
section rules
variable {C : Cx} {ops : Array Oper} {Q : Exit → Act → World → Prop} {l : List Nat} {E : Env} {H R : Heap} {i d : Nat} {ty : TypeId} {pos : String} {af : Array Edge} {g : Option (Nat × Bool)}
end rules
end Go.Acq
namespace Go.Acq
open Go Go.RowKit Go.ChangeShapes Go.WideShapes Go.Deep Go.Joins
section
variable {H : Type} {enc : TypeId × Value → H} {P : Program} {w : World} {base : Nat} {spare : Nat → Bool} {held : Bool}
end
section
variable {H : Type} {enc : TypeId × Value → H} {P : Program} {w : World} {base : Nat} {spare : Nat → Bool} {held : Bool}
end
end Go.Acq
namespace Go.Acq
open Go Go.RowKit Go.ChangeShapes Go.WideShapes Go.Deep Go.Joins
theorem u32ok_wf {x:Int}(h:(Lit.int .u32 x).wf=true):u32ok x:=by simp [Lit.wf,IntKind.min,IntKind.max,IntKind.signed,IntKind.bits] at h;omega
section
variable {H : Type} {enc : TypeId × Value → H} {P : Program} {w : World} {base : Nat} {spare : Nat → Bool} {held : Bool}
theorem open_row {t e:TypeId}{k:IntKind}{fuel:Nat}{v:Value}{x:DataW H×List MemPlace}(ht:P.underlying t=some (.slice e))(he:P.underlying e=some (.int k))(hc:P.cellsOf e=1)
    (h:DataW.trod enc P w base spare held fuel t [v]=some x) :
    ∃ (b:Option Addr) (n c:Nat) (xs:List Int),v=.slice b n c∧RO w (intC k) 1 b n xs∧n≤c∧n≤9223372036854775807∧∀ y,y∈xs→(Lit.int k y).wf=true:=by
  rcases open_ints ht he hc h with ⟨hcs,_⟩ | ⟨a,l,c,zs,hcs,_,hl,hm,hz,_,hcell,hwz⟩
  · injection hcs with h1 _
    exact ⟨none,0,0,[],h1,RO.nil' w (fun _=>rfl),Nat.le_refl _,by omega,fun y hy=>by cases hy⟩
  · injection hcs with h1 _
    have hlz:l≤zs.length:=by rw [hz];split <;> omega
    refine ⟨some a,l,c,zs.take l,h1,⟨by rw [List.length_take];omega,(fun e=>by cases e),fun _=>rfl,fun o q ho hq x hx=>?_⟩,hl,by unfold maxLen at hm;omega,fun y hy=>hwz y (List.mem_of_mem_take hy)⟩
    rw [List.length_take] at ho
    have hq0:q=0:=by omega
    subst hq0
    rw [List.getElem?_take,if_pos (by omega)] at hx
    have:=hcell o (by omega)
    rw [List.getD_eq_getElem?_getD,hx] at this
    simpa [ea,intC] using this
end
end Go.Acq
namespace Go.Acq
open Go Go.RowKit
abbrev SM:=Option Addr×Nat×Nat
def Wg (m:SM):List Value:=[.slice m.1 m.2.1 m.2.2]
structure RW {α:Type}(w:World)(M:List Nat)(f:α→List Value)(s:Nat)(base:Option Addr)(n c:Nat)(ms:List SM)(xss:List (List α)):Prop where
  rs:RS w M Wg 1 base n c ms
  eqlen:ms.length=xss.length
  row:∀ i,i<ms.length→RS w M f s (ms.getD i default).1 (ms.getD i default).2.1 (ms.getD i default).2.2 (xss.getD i [])
section
variable {α : Type} {w w0 : World} {M M' : List Nat} {f : α → List Value} {s n c : Nat} {base : Option Addr} {ms : List SM} {xss : List (List α)} {H Hm R : Heap}
theorem RW.len (h:RW w M f s base n c ms xss):xss.length=n:=by rw [←h.eqlen];exact h.rs.len
theorem RW.at (h:RW w M f s base n c ms xss){p:Int}(hp:inb p xss.length):RS w M f s (ms.getD p.toNat default).1 (ms.getD p.toNat default).2.1 (ms.getD p.toNat default).2.2 (xss.getD p.toNat []) :=
 h.row _ (by rw [h.eqlen];exact Ub hp)
theorem RW.inb (h:RW w M f s base n c ms xss){p:Int}(hp:inb p xss.length):inb p ms.length:=by rw [h.eqlen];exact hp
end
section rules
variable {C : Cx} {ops : Array Oper} {Q : Exit → Act → World → Prop} {l : List Nat} {E : Env} {H R : Heap} {i d : Nat} {ty : TypeId} {pos : String} {af : Array Edge} {g : Option (Nat × Bool)}
theorem Z9r {α:Type}{f:α→List Value}{s:Nat}{t:TypeId}{x:Operand}{base:Option Addr}{n c:Nat}{p:Int}{ms:List SM}{xss:List (List α)}(hr:RW C.w0 C.M f s base n c ms xss)(hp:inb p xss.length)(q0_:ops[i]?=some ⟨some d,.load t x,ty,pos,af,g⟩∧Zr ops E g=true∧Nat.ble (d+1) C.n=true∧ev E x=some (.pointer (some (ea base (p.toNat*1)))))(hT:Xi C.P t=true)
    (kk:TO C ops Q l ((d,.slice (ms.getD p.toNat default).1 (ms.getD p.toNat default).2.1 (ms.getD p.toNat default).2.2)::E) H):TO C ops Q (i::l) E H:=have ⟨ho,hg,hd,hx⟩:=q0_;
  TO.load ho hg hd hx hT (fun w hi=>by
    have:=(hr.rs.ro.monoM hr.rs.far hi).at default (o:=p.toNat) (c:=0) (Ub (hr.inb hp)) (by omega)
    simpa [Wg] using this) kk
end rules
open Go.ChangeShapes Go.WideShapes Go.Deep Go.Joins
section
variable {H : Type} {enc : TypeId × Value → H} {P : Program} {w : World} {base : Nat} {spare : Nat → Bool} {held : Bool}
end
end Go.Acq
namespace Go.Acq
open Go Go.RowKit
end Go.Acq
namespace Go.Acq
open Go Go.RowKit
end Go.Acq
namespace Go.Acq
open Go Go.RowKit Go.ChangeShapes Go.WideShapes Go.Deep Go.Joins
section
variable {H : Type} {enc : TypeId × Value → H} {P : Program} {w : World} {base : Nat} {spare : Nat → Bool} {held : Bool}
end
end Go.Acq
namespace Go.Acq
open Go Go.RowKit
abbrev ids (H:Heap):List Nat:=H.filterMap (·.1)
abbrev mkD (r:Nat):Deferred:={ target:=.collected r,args:=#[] }
abbrev mkO:Obj:=.deferred (some [])
def Li:List Nat→Heap
  | []=>[]
  | r::ms=>(some r,mkO)::Li ms
section
variable {w0 w w' w'' : World} {M M' : List Nat} {H H' Hm R : Heap} {b : Nat} {o o' : Obj}
theorem Wj {p:Option Nat×Obj}(h:Pick H' H):Pick H' (p::H):=by
 obtain ⟨S,ns,hn,hS⟩:=h
 refine ⟨p::S,ns,hn,?_⟩
 rw [List.cons_append]
 exact (List.Perm.cons p hS).trans List.perm_middle.symm
theorem Inv.put (h:Inv w0 M w ((some b,o)::R))(o':Obj):Inv w0 M (w.putObj b o') ((some b,o')::R) :=
 h.upd (Take.head _ _) rfl rfl rfl World.putObj_size (World.putObj_heap_same (h.lt (.head _))) (fun _ hk=>World.putObj_heap_other hk)
theorem HB.monoM {cs:List Value}(h:HB w0 M b cs)(hne:cs≠[])(hi:Inv w0 M w H)(hp:List.Perm H (Hm++R))(hM:Hm.filterMap (·.1)=M'):HB w M' b cs :=
 ⟨fun j v hj=>hi.cell_old (h.has j v hj) h.far,fun hm=>by
  subst hM
  obtain ⟨o,ho⟩:=Nj hm
  obtain ⟨v,cs',rfl⟩:=List.exists_cons_of_ne_nil hne
  have h0:=h.has 0 v rfl
  have hb:b<w0.heap.size:=by
   unfold World.cell? at h0
   split at h0
   ·rename_i he;exact (Array.getElem?_eq_some_iff.1 he).1
   ·cases h0
  rcases hi.low b o ((List.Perm.mem_iff hp).2 (List.mem_append_left _ ho)) with hl | hl
  ·omega
  ·exact h.far hl⟩
end
section rules
variable {C : Cx} {ops : Array Oper} {Q : Exit → Act → World → Prop} {l : List Nat} {E : Env} {H R : Heap} {i d : Nat} {ty : TypeId} {pos : String} {af : Array Edge} {g : Option (Nat × Bool)}
end rules
abbrev recO (fn:FuncId)(tmps:Array Value)(ps:Array Tmp)(assign body:Code)(df:Nat)(st:LoopState)(pd:Option Code):Obj :=
  .loop { state:=st,pending:=pd,fn,tmps,params:=ps,assign,body,defers:=df }
def RQ {S X:Type}(J:S⊕X→Heap→Prop)(jmp:X→Code)(r:S⊕X)(w0:World)(M:List Nat):Exit→Act→World→Prop
  | .normal,_,w=>∃ s Hs,r=.inl s∧J (.inl s) Hs∧Inv w0 M w Hs
  | .ret,_,w=>∃ x Hs,r=.inr x∧jmp x=.ret∧J (.inr x) Hs∧Inv w0 M w Hs
  | .exit id,_,w=>∃ x Hs,r=.inr x∧jmp x=.exit id∧J (.inr x) Hs∧Inv w0 M w Hs
  | _,_,_=>False
def Z10:List Tmp→List Value→Env→Env
  | [],_,E=>E
  | _::_,[],E=>E
  | p::ps,v::vs,E=>Z10 ps vs ((p,v)::E)
theorem Z85 {n:Nat}:∀ {ps:List Tmp} {vs:List Value} {E:Env} {tmps:Array Value} (_:ps.all (fun p=>Nat.ble (p+1) n)=true),Fits n [] E { tmps,defers:=[] } →
    Fits n [] (Z10 ps vs E) { tmps:=(ps.zip vs).foldl (fun tmps (t,a)=>tmps.setIfInBounds t a) tmps,defers:=[] }
  | [],_,_,_,_,h=>h
  | _::_,[],_,_,_,h=>h
  | p::ps,v::vs,E,tmps,hb,h=>by
    have hb':Nat.ble (p+1) n=true∧(ps.all fun p=>Nat.ble (p+1) n)=true:=by simpa only [List.all_cons,Bool.and_eq_true] using hb
    have:=h.put hb'.1 v
    exact Z85 (ps:=ps) (vs:=vs) hb'.2 this
section control
variable {C : Cx} {Q : Exit → Act → World → Prop} {E : Env} {H : Heap}
theorem Lv {ρ:Option Nat}{P:Program}{n:Nat}{D:List Deferred}{S X:Type}{J:S⊕X→Heap→Prop}{jmp:X→Code}{r:S⊕X}{w0:World}{M:List Nat}{s:S}{Hs:Heap}(h:some (Sum.inl s)=some r)(hJ:J (.inl s) Hs)(hp:Pick Hs H) :
    Acq.X ⟨P,ρ,n,D,w0,M⟩ (RQ J jmp r w0 M) .normal E H:=fun _ _ _ hi=>⟨s,Hs,by injection h with h;exact h.symm,hJ,hi.pick hp⟩
theorem Z0g {ρ:Option Nat}{P:Program}{n:Nat}{D:List Deferred}{S X:Type}{J:S⊕X→Heap→Prop}{jmp:X→Code}{r:S⊕X}{w0:World}{M:List Nat}{x:X}{Hs:Heap}(h:some (Sum.inr x)=some r)(hj:jmp x=.ret)(hJ:J (.inr x) Hs)(hp:Pick Hs H) :
    Acq.X ⟨P,ρ,n,D,w0,M⟩ (RQ J jmp r w0 M) .ret E H:=fun _ _ _ hi=>⟨x,Hs,by injection h with h;exact h.symm,hj,hJ,hi.pick hp⟩
end control
section ends
variable {C : Cx} {E : Env} {H H' N : Heap}
theorem Z9z {P:Program}{fn:Func}{tmps:Array Value}{R:Ending→World→Prop}{w0:World}{M:List Nat}:∀ (ms:List Nat) (w:World),Inv w0 M w (Li ms++H') →
    (∀ w',Inv w0 M w' H'→LeavesIn (FW none) 0 P fn tmps R [] .returning w')→LeavesInM (FW none) 0 P fn tmps R (ms.map mkD) .returning w
  | [],w,hi,h=>h w hi
  | r::ms,w,hi,h=>by
    refine ⟨by simp,.inl ⟨r,_,rfl,run_takeDeferred (hi.own r _ (.head _)),Z9z ms _ ?_ h⟩⟩
    exact (Inv.put hi (.deferred none)).pick (Wj (Zv _))
theorem Z6m {fn:Func}{rs:List ResultVar}{vs:List Value}{v:Value}{w0:World}{M:List Nat}{Post:Value→Heap→Prop}(ms:List Nat)(hρ:C.ρ=none)(hw:C.w0=w0)(hMM:C.M=M)(hD:C.D=ms.map mkD)(hfn:fn.results.toList=rs)
    (hH:Pick (Li ms++H') H)(hr:∀ (j:Nat) r u,rs[j]?=some r→vs[j]?=some u→Res { C with D:=[] } E H' r u)(q0_:rs.length=vs.length∧v=Rk vs)
    (hN:Pick N H')(hP:Post v N):Acq.X C (bodyPostM (FW none) 0 C.P fn (Wb w0 M Post)) .ret E H:=by
  obtain ⟨hl,hv⟩:=q0_
  intro a w hf hi
  show LeavesInM (FW none) 0 C.P fn a.tmps (Wb w0 M Post) a.defers .returning w
  rw [hf.defers,hD]
  refine Z9z ms w (hi.pick hH) fun w' hi'=>?_
  have hx:=X.ret (C:={ C with D:=[] }) (fn:=fn) (Post:=Post) hw hMM rfl hfn hr hl hv hN hP { a with defers:=[] } w' ⟨hf.size,rfl,hf.get⟩ hi'
  exact hx.2
theorem Zde {fn:Func}{w0:World}{M:List Nat}{Post:Value→Heap→Prop}(ms:List Nat)(q0_:C.ρ=none∧C.w0=w0∧C.M=M∧C.D=ms.map mkD∧fn.results.toList=[])(hH:Pick (Li ms++H') H)(hN:Pick N H')(hP:Post (.tuple #[]) N) :
    Acq.X C (bodyPostM (FW none) 0 C.P fn (Wb w0 M Post)) .ret E H:=have ⟨hρ,hw,hMM,hD,hfn⟩:=q0_;
  Z6m (vs:=[]) ms hρ hw hMM hD hfn hH (fun j r' u h1 h2=>by simp at h1) Ys hN hP
theorem Z42 {fn:Func}{r r':ResultVar}{v v':Value}{w0:World}{M:List Nat}{Post:Value→Heap→Prop}(ms:List Nat)(q0_:C.ρ=none∧C.w0=w0∧C.M=M∧C.D=ms.map mkD∧fn.results.toList=[r,r'])(hH:Pick (Li ms++H') H)(hr:Res { C with D:=[] } E H' r v)(hr':Res { C with D:=[] } E H' r' v')(hN:Pick N H')(hP:Post (.tuple #[v,v']) N) :
    Acq.X C (bodyPostM (FW none) 0 C.P fn (Wb w0 M Post)) .ret E H:=have ⟨hρ,hw,hMM,hD,hfn⟩:=q0_;
  Z6m (vs:=[v,v']) ms hρ hw hMM hD hfn hH (fun j r'' u h1 h2=>by
    match j with
    | 0=>simp at h1 h2;subst h1;subst h2;exact hr
    | 1=>simp at h1 h2;subst h1;subst h2;exact hr'
    | j+2=>simp at h1) Ys hN hP
theorem Z9i {fn:Func}{r r' r'':ResultVar}{v v' v'':Value}{w0:World}{M:List Nat}{Post:Value→Heap→Prop}(ms:List Nat)(q0_:C.ρ=none∧C.w0=w0∧C.M=M∧C.D=ms.map mkD∧fn.results.toList=[r,r',r''])(hH:Pick (Li ms++H') H)(hr:Res { C with D:=[] } E H' r v)(hr':Res { C with D:=[] } E H' r' v')(hr'':Res { C with D:=[] } E H' r'' v'')(hN:Pick N H')(hP:Post (.tuple #[v,v',v'']) N) :
    Acq.X C (bodyPostM (FW none) 0 C.P fn (Wb w0 M Post)) .ret E H:=have ⟨hρ,hw,hMM,hD,hfn⟩:=q0_;
  Z6m (vs:=[v,v',v'']) ms hρ hw hMM hD hfn hH (fun j q u h1 h2=>by
    match j with
    | 0=>simp at h1 h2;subst h1;subst h2;exact hr
    | 1=>simp at h1 h2;subst h1;subst h2;exact hr'
    | 2=>simp at h1 h2;subst h1;subst h2;exact hr''
    | j+3=>simp at h1) Ys hN hP
theorem Z2r {P:Program}{f:FuncId}{fn:Func}{c:Code}{vs:List Value}{w:World}{M:List Nat}{H:Heap}{Post:Value→Heap→Prop}
    (hf:P.funcs[f]?=some fn)(hb:fn.body=some c)(hn:Nat.ble vs.length fn.ntmps=true)(hi:Inv w M w H)
    (h:T ⟨P,none,fn.ntmps,[],w,M⟩ c (bodyPostM (FW none) 0 P fn (Wb w M Post)) (Gl 0 vs) H):Fnc P f vs.toArray w M Post:=by
  have hn':=Nat.le_of_ble_eq_true hn
  refine callsIn_FW (ρ:=none) (n:=0) |>.1 (callsIn_of_wp_marks hf hb trivial ?_ rfl)
  refine h _ w ⟨by simp;omega,rfl,fun t v hv=>?_⟩ hi
  obtain ⟨_,h2⟩:=Z0s vs 0 t v hv
  rw [Nat.sub_zero] at h2
  have hlt:=(List.getElem?_eq_some_iff.1 h2).1
  simp only [Array.getD_eq_getD_getElem?]
  rw [Array.getElem?_append_left (by simpa using hlt)]
  simp [h2]
end ends
end Go.Acq
namespace Go.Acq
open Go Go.RowKit
theorem Lm {C:Cx}{Q:Exit→Act→World→Prop}{e:Exit}{E:Env}{H H':Heap}(h:H'=H)(k:X C Q e E H):X C Q e E H':=by rw [h];exact k
theorem Z3q {C:Cx}{Q:Exit→Act→World→Prop}{c:Code}{E:Env}{H H':Heap}(h:H'=H)(k:T C c Q E H):T C c Q E H':=by rw [h];exact k
end Go.Acq
namespace Go.Acq
open Go Go.RowKit
theorem Ga {C:Cx}{P:Program}{fn:Func}{R:Ending→World→Prop}{E:Env}{H:Heap}(h:X C (bodyPost P fn R) .ret E H):X C (bodyPost P fn R) .normal E H:=h
theorem X.fallM {C:Cx}{F:Fence}{n:Nat}{P:Program}{fn:Func}{R:Ending→World→Prop}{E:Env}{H:Heap}(h:X C (bodyPostM F n P fn R) .ret E H):X C (bodyPostM F n P fn R) .normal E H:=h
end Go.Acq
namespace Go.Acq
open Go Go.RowKit
section
variable {C : Cx} {ops : Array Oper} {Q : Exit → Act → World → Prop} {l l2 : List Nat} {E E' : Env} {H H' : Heap}
def JQ (C:Cx)(Q:Exit→Act→World→Prop)(d:Nat)(φ:Bool→Prop)(E:Env)(H:Heap):Exit→Act→World→Prop
  | .normal,a,w=>∃ b,φ b∧Fits C.n C.D ((d,.bool b)::E) a∧Inv C.w0 C.M w H
  | e,a,w=>Q e a w
theorem TO.join (l1 l2:List Nat)(hl:l1++l2=l)(d:Nat)(φ:Bool→Prop)(E':Env)(h1:TO C ops (JQ C Q d φ E' H) l1 E H)(h2:∀ b,φ b→TO C ops Q l2 ((d,.bool b)::E') H):TO C ops Q l E H:=by
 subst hl
 intro a w hf hi
 refine Z1q (Q':=JQ C Q d φ E' H) (fun e a w hne h=>?_) (fun a w h=>?_) l1 a w (h1 a w hf hi)
 ·cases e <;> first | exact absurd rfl hne | exact h
 ·
  obtain ⟨b,hb,hfit,hinv⟩:=h
  exact h2 b hb a w hfit hinv
theorem X.jn {d:Nat}{φ:Bool→Prop}{b:Bool}(h:φ b)(hE:AllF ((d,.bool b)::E') E):X C (JQ C Q d φ E' H) .normal E H:=fun _ _ hf hi=>⟨b,h,hf.weak hE.sub,hi⟩
end
end Go.Acq
namespace Go.Acq
open Go Go.RowKit
def Lf (P:Program)(K:World→Prop)(w:World)(v:Value):Result Next→Prop
  | .ok (.value u) w'=>w'=w∧u=v
  | .ok (.enter f args) w'=>w'=w∧Calls P f args w (fun e w''=>e=.returned v∧K w'')
  | _=>False
def Ji (P:Program)(ops:Array Oper)(K:World→Prop)(Qn:Act→Prop):List Nat→Act→Prop
  | [],a=>Qn a
  | i::rest,a=>match ops[i]? with
    | none=>Ji P ops K Qn rest a
    | some o=>(∀ c,o.op≠.defer c)∧(∀ cs b,o.op≠.select cs b) ∧
        if Region.wanted o (yielded ops a.tmps)=true then ∃ v,(∀ w,K w→Lf P K w v ((execOp a.eval o).run P w))∧Ji P ops K Qn rest (a.put o.dst v)
        else Ji P ops K Qn rest (a.put o.dst undef)
def TQ (C:Cx)(ops:Array Oper)(Qn:Act→Prop)(l:List Nat)(E:Env)(H:Heap):Prop:=∀ a,Fits C.n C.D E a→Ji C.P ops (fun w=>Inv C.w0 C.M w H) Qn l a
def seqB (ops:Array Oper)(m:Nat):Bool:=(List.range m).all fun i=>match ops[i]? with
  | none=>false
  | some o=>(match o.dst with | some d=>(List.range m).all fun j=>Nat.beq j i||!(Yq ops j==some d) | none=>false) &&
      (o.looksAt ops).all fun t=>(List.range m).all fun j=>!(Yq ops j==some t)||(Nat.blt j i&&Uk ops ops.size i j)
section
variable {C : Cx} {ops : Array Oper} {Q : Exit → Act → World → Prop} {E : Env} {H : Heap}
def Vr (ops:Array Oper)(vs:Nat→Value)(a:Act):Nat→Act
  | 0=>a
  | i+1=>(Vr ops vs a i).put (Yq ops i) (vs i)
structure DoneQ (ops:Array Oper)(m:Nat)(vs:Nat→Value)(a0:Act)(done:Nat→Bool)(a:Act):Prop where
  size:a.tmps.size=a0.tmps.size
  defers:a.defers=a0.defers
  has:∀ j d,j<m→done j=true→Yq ops j=some d→d<a0.tmps.size→a.tmps[d]?=some (vs j)
  old:∀ t,(∀ j,j<m→done j=true→Yq ops j≠some t)→a.tmps[t]?=a0.tmps[t]?
theorem DoneQ.put {m:Nat}{vs:Nat→Value}{a0 a:Act}{done:Nat→Bool}{i d:Nat}(h:DoneQ ops m vs a0 done a)(hi:i<m)(hd:Yq ops i=some d)(hu:∀ j,j<m→j≠i→Yq ops j≠some d) :
    DoneQ ops m vs a0 (fun q=>if q=i then true else done q) (a.put (some d) (vs i)):=by
  refine ⟨by simpa [Act.put] using h.size,h.defers,fun j e hj hdj hs hlt=>?_,fun t ht=>?_⟩
  · simp only [Act.put, Array.getElem?_setIfInBounds]
    by_cases c:j=i
    · subst c
      rw [hd] at hs;injection hs with hs;subst hs
      rw [if_pos rfl,if_pos (by rw [h.size];exact hlt)]
    · have hne : d ≠ e := by rintro rfl; exact hu j hj c hs
      rw [if_neg hne]
      exact h.has j e hj (by simpa [c] using hdj) hs hlt
  · simp only [Act.put, Array.getElem?_setIfInBounds]
    have hne:d≠t:=by rintro rfl;exact ht i hi (by simp) hd
    rw [if_neg hne]
    exact h.old t fun j hj hdj=>ht j hj (by by_cases c:j=i <;> simp [c,hdj])
theorem eval_tmp {a a':Act}{t:Nat}(h:a.tmps[t]?=a'.tmps[t]?):a.eval (.tmp t)=a'.eval (.tmp t):=by
 simp [Act.eval,Array.getD_eq_getD_getElem?,h]
theorem Z60 {m:Nat}{vs:Nat→Value}{a0 a a':Act}{done done':Nat→Bool}{o:Oper}(h:DoneQ ops m vs a0 done a)(h':DoneQ ops m vs a0 done' a')
    (hl:∀ t,t∈o.looksAt ops→∀ j,j<m→Yq ops j=some t→done j=true∧done' j=true) :
    (∀ x,x∈o.op.operands→a.eval x=a'.eval x)∧Region.wanted o (yielded ops a.tmps)=Region.wanted o (yielded ops a'.tmps):=by
  have key:∀ t:Nat,t∈o.looksAt ops→a.tmps[t]?=a'.tmps[t]?:=by
    intro t ht
    by_cases c:∃ j,j<m∧Yq ops j=some t
    · obtain ⟨j, hj, hs⟩ := c
      obtain ⟨d1,d2⟩:=hl t ht j hj hs
      by_cases hlt:t<a0.tmps.size
      ·rw [h.has j t hj d1 hs hlt,h'.has j t hj d2 hs hlt]
      ·rw [Array.getElem?_eq_none (by rw [h.size];omega),Array.getElem?_eq_none (by rw [h'.size];omega)]
    · have hn : ∀ j, j < m → Yq ops j ≠ some t := fun j hj hs => c ⟨j, hj, hs⟩
      rw [h.old t fun j hj _=>hn j hj,h'.old t fun j hj _=>hn j hj]
  refine ⟨fun x hx=>?_,?_⟩
  · cases x with
    | tmp t=>exact eval_tmp (key t (List.mem_append_left _ (List.mem_filterMap.2 ⟨.tmp t,by simpa using hx,rfl⟩)))
    | const v=>rfl
    | global g=>rfl
    | func f=>rfl
  · unfold Region.wanted
    cases hg:o.guard with
    | none=>rfl
    | some gw =>
      obtain ⟨g,want⟩:=gw
      have:yielded ops a.tmps g=yielded ops a'.tmps g:=by
        unfold yielded
        cases ht:(ops[g]?).bind (·.dst) with
        | none=>rfl
        | some t =>
          have:=key t (List.mem_append_right _ (by rw [hg];simp [ht]))
          simp only [Option.bind_some,this]
      simp only [this]
theorem Zcl {K:World→Prop}{Qn:Act→Prop}{vs0:Nat→Value}{a0:Act}:∀ (k i:Nat),(∀ j,j<i+k→∃ o,ops[j]?=some o)→Ji C.P ops K Qn (List.range' i k) (Vr ops vs0 a0 i) →
    ∃ vs:Nat→Value,(∀ j,j<i→vs j=vs0 j)∧(∀ j o,i≤j→j<i+k→ops[j]?=some o→(∀ c,o.op≠.defer c)∧(∀ cs b,o.op≠.select cs b) ∧
      ((Region.wanted o (yielded ops (Vr ops vs a0 j).tmps)=true∧∀ w,K w→Lf C.P K w (vs j) ((execOp (Vr ops vs a0 j).eval o).run C.P w))∨(Region.wanted o (yielded ops (Vr ops vs a0 j).tmps)=false∧vs j=undef)))∧Qn (Vr ops vs a0 (i+k))
  | 0,i,_,h=>⟨vs0,fun _ _=>rfl,fun j o h1 h2=>by omega,h⟩
  | k+1,i,hops,h=>by
    obtain ⟨o,ho⟩:=hops i (by omega)
    rw [List.range'_succ] at h
    simp only [Ji,ho] at h
    obtain ⟨hd,hs,h⟩:=h
    have hslot:Yq ops i=o.dst:=by simp [Yq,ho]
    obtain ⟨v,hv,hrest⟩:∃ v,((Region.wanted o (yielded ops (Vr ops vs0 a0 i).tmps)=true∧∀ w,K w→Lf C.P K w v ((execOp (Vr ops vs0 a0 i).eval o).run C.P w))∨(Region.wanted o (yielded ops (Vr ops vs0 a0 i).tmps)=false∧v=undef)) ∧
        Ji C.P ops K Qn (List.range' (i+1) k) ((Vr ops vs0 a0 i).put o.dst v):=by
      by_cases hw:Region.wanted o (yielded ops (Vr ops vs0 a0 i).tmps)=true
      · rw [if_pos hw] at h
        obtain ⟨v,h1,h2⟩:=h
        exact ⟨v,.inl ⟨hw,h1⟩,h2⟩
      · rw [if_neg hw] at h
        exact ⟨undef,.inr ⟨by simpa using hw,rfl⟩,h⟩
    have hcongr:∀ (vs':Nat→Value),(∀ j,j<i→vs' j=vs0 j)→∀ j,j≤i→Vr ops vs' a0 j=Vr ops vs0 a0 j:=by
      intro vs' hvs j
      induction j with
      | zero=>intro _;rfl
      | succ j ih=>intro hj;simp only [Vr];rw [ih (by omega),hvs j (by omega)]
    let vs1:Nat→Value:=fun j=>if j=i then v else vs0 j
    have e1:Vr ops vs1 a0 (i+1)=(Vr ops vs0 a0 i).put o.dst v:=by
      simp only [Vr]
      rw [hcongr vs1 (fun j hj=>by simp only [vs1];rw [if_neg (by omega)]) i (Nat.le_refl _),hslot]
      simp only [vs1,if_true]
    rw [←e1] at hrest
    obtain ⟨vs,g1,g2,g3⟩:=Zcl k (i+1) (fun j hj=>hops j (by omega)) hrest
    have gi:vs i=v:=by rw [g1 i (by omega)];simp only [vs1,if_true]
    have gl:∀ j,j<i→vs j=vs0 j:=fun j hj=>by rw [g1 j (by omega)];simp only [vs1];rw [if_neg (by omega)]
    refine ⟨vs,gl,fun j o' h1 h2 ho'=>?_,by rw [show i+(k+1)=i+1+k by omega];exact g3⟩
    by_cases c:j=i
    · subst c
      rw [ho] at ho';injection ho' with ho';subst ho'
      rw [hcongr vs gl j (Nat.le_refl _),gi]
      exact ⟨hd,hs,hv⟩
    ·exact g2 j o' (by omega) (by omega) ho'
theorem Z8q {m:Nat}{vs:Nat→Value}{a0:Act}(hu:∀ i,i<m→∃ d,Yq ops i=some d∧∀ j,j<m→j≠i→Yq ops j≠some d):∀ i,i≤m→DoneQ ops m vs a0 (fun q=>decide (q<i)) (Vr ops vs a0 i)
 | 0,_=>⟨rfl,rfl,fun j d _ h=>by simp at h,fun t _=>rfl⟩
 | i+1,hi=>by
  obtain ⟨d,hd,hud⟩:=hu i (by omega)
  have:=(Z8q (vs:=vs) (a0:=a0) hu i (by omega)).put (by omega) hd hud
  simp only [Vr]
  rw [hd]
  have e:(fun q:Nat=>decide (q<i+1))=fun q=>if q=i then true else decide (q<i):=by
   funext q
   by_cases c:q=i
   ·simp [c]
   ·
    have:(q<i+1)↔q<i:=by omega
    simp [c,this]
  rw [e];exact this
theorem Wz {id:Nat}(m:Nat)(ll:List Nat)(hll:List.range m=ll)(hm:C.P.follows .mixedOrders=true)(hb:Kf ops=true)(ht:Np ops m=true)(hms:Nat.ble m ops.size=true)(hs:seqB ops m=true)
    (k:TQ C ops (fun a=>∀ w,Inv C.w0 C.M w H→wpOpsIn (FW C.ρ) 0 C.P ops Q (List.range' m (ops.size-m)) a w) ll E H):T C (.region id ops true) Q E H:=by
  subst hll
  intro a0 w hf hi
  have hms':=Nat.le_of_ble_eq_true hms
  have hseq:∀ i,i<m→∃ o d,ops[i]?=some o∧Yq ops i=some d∧(∀ j,j<m→j≠i→Yq ops j≠some d)∧∀ t,t∈o.looksAt ops→∀ j,j<m→Yq ops j=some t→j<i∧Uk ops ops.size i j=true:=by
    intro i him
    have h1:=List.all_eq_true.1 hs i (List.mem_range.2 him)
    have ho:ops[i]?=some ops[i]:=Array.getElem?_eq_getElem (by omega)
    rw [ho] at h1
    simp only [Bool.and_eq_true] at h1
    cases hd:(ops[i]).dst with
    | none=>rw [hd] at h1;simp at h1
    | some d =>
      rw [hd] at h1
      refine ⟨ops[i],d,ho,by simp [Yq,ho,hd],fun j hj hji he=>?_,fun t htl j hj hsj=>?_⟩
      · have h2 := List.all_eq_true.1 h1.1 j (List.mem_range.2 hj)
        simp only [Bool.or_eq_true] at h2
        rcases h2 with h2 | h2
        ·exact hji (Nat.eq_of_beq_eq_true h2)
        ·rw [he] at h2;simp at h2
      · have h2 := List.all_eq_true.1 (List.all_eq_true.1 h1.2 t htl) j (List.mem_range.2 hj)
        rw [hsj] at h2
        simpa using h2
  have hu:∀ i,i<m→∃ d,Yq ops i=some d∧∀ j,j<m→j≠i→Yq ops j≠some d:=fun i h=>by
    obtain ⟨_,d,_,h1,h2,_⟩:=hseq i h;exact ⟨d,h1,h2⟩
  have hk:=k a0 hf
  rw [List.range_eq_range'] at hk
  obtain ⟨vs,-,hstep,hend⟩:=Zcl (C:=C) (vs0:=fun _=>undef) (a0:=a0) m 0 (fun j hj=>by obtain ⟨o,_,ho,_⟩:=hseq j (by omega);exact ⟨o,ho⟩) hk
  rw [Nat.zero_add] at hend
  refine Z66 (m:=m) (Jp:=fun done a w=>DoneQ ops m vs a0 done a∧Inv C.w0 C.M w H) hm hb ht hms' ?_ ?_ ⟨⟨rfl,rfl,fun j d _ h=>by simp at h,fun t _=>rfl⟩,hi.ofHeap rfl rfl rfl rfl⟩
  · rintro done i o a w1 him ho hdi hcl hafter _ ⟨hD, hinv⟩
    obtain ⟨o',d,ho',hsl,hud,hlook⟩:=hseq i him
    rw [ho] at ho';injection ho' with ho';subst ho'
    have hdst:o.dst=some d:=by simpa [Yq,ho] using hsl
    have hdone:∀ j,Uk ops ops.size i j=true→done j=true:=fun j hj=>Lu hcl _ i j hj (fun o' ho'=>by rw [ho] at ho';injection ho' with ho';subst ho';exact hafter)
    obtain ⟨hev,hwt⟩:=Z60 hD (Z8q hu i (by omega)) (o:=o) (fun t htl j hj hsj=>by
      obtain ⟨h1,h2⟩:=hlook t htl j hj hsj
      exact ⟨hdone j h2,by simpa using h1⟩)
    obtain ⟨hnd,hns,hval⟩:=hstep i o (by omega) (by omega) ho
    have hex:=execOp_congr o hns hev
    have hput:=hD.put him hsl hud
    unfold wpOpIn
    rw [ho]
    simp only
    rcases hval with ⟨hw,hq⟩ | ⟨hw,hq⟩
    · rw [hwt, hw]
      simp only [if_true]
      refine ⟨fun _ _=>trivial,?_⟩
      rw [Oper.semAt_eq _ _ _ hnd,hex]
      have hq:=hq w1 hinv
      generalize (execOp (Vr ops vs a0 i).eval o).run C.P w1=r at hq
      cases r with
      | ok x w' =>
        cases x <;> simp only [Lf] at hq
        case value u =>
          obtain ⟨rfl,rfl⟩:=hq
          show _∧_
          rw [hdst]
          exact ⟨hput,hinv⟩
        case enter f args =>
          obtain ⟨rfl,hc⟩:=hq
          refine ⟨by simp [FW],callsIn_FW.2 (Calls.mono hc ?_)⟩
          rintro e w'' ⟨rfl,hK⟩
          show _∧_
          rw [hdst]
          exact ⟨hput,hK⟩
      | halt x w'=>simp only [Lf] at hq
    · rw [hwt, hw]
      simp only [Bool.false_eq_true,if_false]
      refine ⟨fun _ _=>trivial,?_⟩
      rw [hdst,←hq]
      exact ⟨hput,hinv⟩
  · rintro done a w1 hall ⟨hD, hinv⟩
    have hA:=Z8q (vs:=vs) (a0:=a0) hu m (Nat.le_refl _)
    have ea:a=Vr ops vs a0 m:=by
      have e1:a.tmps=(Vr ops vs a0 m).tmps:=by
        apply Array.ext_getElem?
        intro t
        by_cases c:∃ j,j<m∧Yq ops j=some t
        · obtain ⟨j, hj, hsj⟩ := c
          by_cases hlt:t<a0.tmps.size
          ·rw [hD.has j t hj (hall j hj) hsj hlt,hA.has j t hj (by simpa using hj) hsj hlt]
          ·rw [Array.getElem?_eq_none (by rw [hD.size];omega),Array.getElem?_eq_none (by rw [hA.size];omega)]
        · have hn : ∀ j, j < m → Yq ops j ≠ some t := fun j hj hsj => c ⟨j, hj, hsj⟩
          rw [hD.old t fun j hj _=>hn j hj,hA.old t fun j hj _=>hn j hj]
      have e2:a.defers=(Vr ops vs a0 m).defers:=by rw [hD.defers,hA.defers]
      cases a;simp_all
    rw [ea]
    exact hend w1 hinv
theorem TQ.tail {m k:Nat}(l:List Nat){H0:Heap}(q0_:List.range' m k=l∧H0=H)(h:TO C ops Q l E H):TQ C ops (fun a=>∀ w,Inv C.w0 C.M w H→wpOpsIn (FW C.ρ) 0 C.P ops Q (List.range' m k) a w) [] E H0:=have ⟨hl,hH⟩:=q0_;fun a hf w hi=>by rw [hl];exact h a w hf hi
end
end Go.Acq
namespace Go.Acq
open Go Go.RowKit
section rules
variable {C : Cx} {ops : Array Oper} {Q : Act → Prop} {l : List Nat} {E : Env} {H R : Heap} {i d : Nat} {ty : TypeId} {pos : String} {af : Array Edge} {g : Option (Nat × Bool)}
theorem TQ.val {op:Op}{v:Value}(ho:ops[i]?=some ⟨some d,op,ty,pos,af,g⟩)(hg:Zr ops E g=true)(hd:Nat.ble (d+1) C.n=true)(hnd:∀ c,op≠.defer c)
    (hr:∀ a w,Fits C.n C.D E a→Inv C.w0 C.M w H→(execOp a.eval ⟨some d,op,ty,pos,af,g⟩).run C.P w=.ok (.value v) w)
    (k:TQ C ops Q l ((d,v)::E) H)(hns:∀ cs b,op≠.select cs b:=by simp):TQ C ops Q (i::l) E H:=by
  intro a hf
  simp only [Ji,ho]
  refine ⟨hnd,hns,?_⟩
  rw [if_pos (Z49 hf hg)]
  exact ⟨v,fun w hi=>by rw [hr a w hf hi];exact ⟨rfl,rfl⟩,k _ (hf.put hd v)⟩
theorem Yi {o:Oper}(q0_:ops[i]?=some o∧gdN ops E o.guard=true∧o.dst=some d∧Nat.ble (d+1) C.n=true)(k:TQ C ops Q l ((d,undef)::E) H)(hnd:∀ c,o.op≠.defer c:=by simp)(hns:∀ cs b,o.op≠.select cs b:=by simp):TQ C ops Q (i::l) E H:=by
 obtain ⟨ho,hg,hdst,hd⟩:=q0_
 intro a hf
 simp only [Ji,ho]
 refine ⟨hnd,hns,?_⟩
 rw [if_neg (by rw [Za5 hf hg];simp),hdst]
 exact k _ (hf.put hd _)
theorem Vz {t:Nat}{b b':Bool}(ht:find E t=some (.bool b))(hb:b=b')(k:TQ C ops Q l ((t,.bool b')::E) H):TQ C ops Q l E H:=by
 subst hb
 intro a hf
 refine k a ⟨hf.size,hf.defers,fun u v hu=>?_⟩
 rw [Kb] at hu
 by_cases e:t=u
 ·subst e;rw [if_pos rfl] at hu;injection hu with hu;subst hu;exact hf.get t _ ht
 ·rw [if_neg e] at hu;exact hf.get u v hu
theorem Lb {f:FuncId}{xs:Array Operand}{at':Array TypeId}{vs:List Value}{v:Value}{Post:Value→Heap→Prop}(hF:Yb C.P f=true)
    (q0_:ops[i]?=some ⟨some d,.call ⟨.value (.func f),xs,at'⟩,ty,pos,af,g⟩∧Zr ops E g=true∧Nat.ble (d+1) C.n=true∧evs E xs.toList=some vs)
    (hc:∀ w,Inv C.w0 C.M w H→Fnc C.P f vs.toArray w [] Post)(hv:∀ u N,Post u N→u=v)(k:TQ C ops Q l ((d,v)::E) H):TQ C ops Q (i::l) E H:=by
  obtain ⟨ho,hg,hd,hx⟩:=q0_
  intro a hf
  simp only [Ji,ho]
  refine ⟨by simp,by simp,?_⟩
  rw [if_pos (Z49 hf hg)]
  refine ⟨v,fun w hi=>?_,k _ (hf.put hd v)⟩
  have e1:xs.map a.eval=vs.toArray:=by apply Array.ext';simpa using Jk hf hx
  have:(execOp a.eval ⟨some d,.call ⟨.value (.func f),xs,at'⟩,ty,pos,af,g⟩).run C.P w=.ok (.enter f vs.toArray) w:=by
    simp [execOp,resolve,Deferred.ofValue,invoke,Act.eval,e1,Ux hF]
  rw [this]
  refine ⟨rfl,Calls.mono (hc w hi) ?_⟩
  rintro e w' ⟨u,N,hP,rfl,hN⟩
  exact ⟨by rw [hv u N hP],(hi.join0 hN).perm List.perm_append_comm |>.left⟩
theorem TQ.move {x:Operand}{v:Value}(q0_:ops[i]?=some ⟨some d,.move x,ty,pos,af,g⟩∧Zr ops E g=true∧Nat.ble (d+1) C.n=true∧ev E x=some v)
    (k:TQ C ops Q l ((d,v)::E) H):TQ C ops Q (i::l) E H:=have ⟨ho,hg,hd,hx⟩:=q0_;
  TQ.val ho hg hd (by simp) (fun a w hf _=>by simp [execOp,hf.ev hx]) k
theorem TQ.assign {x:Operand}{v:Value}(q0_:ops[i]?=some ⟨some d,.assign x,ty,pos,af,g⟩∧Zr ops E g=true∧Nat.ble (d+1) C.n=true∧ev E x=some v)
    (k:TQ C ops Q l ((d,v)::E) H):TQ C ops Q (i::l) E H:=have ⟨ho,hg,hd,hx⟩:=q0_;
  TQ.val ho hg hd (by simp) (fun a w hf _=>by simp [execOp,hf.ev hx]) k
theorem Rr {c x y:Operand}{v:Value}(q0_:ops[i]?=some ⟨some d,.pick c x y,ty,pos,af,g⟩∧Zr ops E g=true∧Nat.ble (d+1) C.n=true∧ev E c=some (.bool true)∧ev E x=some v)(k:TQ C ops Q l ((d,v)::E) H):TQ C ops Q (i::l) E H:=have ⟨ho,hg,hd,hc,hx⟩:=q0_;
  TQ.val ho hg hd (by simp) (fun a w hf _=>by simp [execOp,hf.ev hc,hf.ev hx,asBool]) k
theorem Z90 {c x y:Operand}{v:Value}(q0_:ops[i]?=some ⟨some d,.pick c x y,ty,pos,af,g⟩∧Zr ops E g=true∧Nat.ble (d+1) C.n=true∧ev E c=some (.bool false)∧ev E y=some v)(k:TQ C ops Q l ((d,v)::E) H):TQ C ops Q (i::l) E H:=have ⟨ho,hg,hd,hc,hx⟩:=q0_;
  TQ.val ho hg hd (by simp) (fun a w hf _=>by simp [execOp,hf.ev hc,hf.ev hx,asBool]) k
theorem Uv {op:BinOp}{t t2:TypeId}{x y:Operand}{k:IntKind}{p q:Int}{v:Value}
    (q0_:ops[i]?=some ⟨some d,.binOp op t x y t2,ty,pos,af,g⟩∧Zr ops E g=true∧Nat.ble (d+1) C.n=true∧ev E x=some (.int k p)∧ev E y=some (.int k q)∧Lj op k p q=some v)(kk:TQ C ops Q l ((d,v)::E) H):TQ C ops Q (i::l) E H:=have ⟨ho,hg,hd,hx,hy,hv⟩:=q0_;
  TQ.val ho hg hd (by simp) (fun a w hf _=>by simp [execOp,hf.ev hx,hf.ev hy,eqGuard_at_int,Lq hv]) kk
theorem TQ.add {t t2:TypeId}{x y:Operand}{p q:Int}
    (ho:ops[i]?=some ⟨some d,.binOp .add t x y t2,ty,pos,af,g⟩)(hg:Zr ops E g=true)(hd:Nat.ble (d+1) C.n=true)(hx:ev E x=some (.int .i64 p))(hy:ev E y=some (.int .i64 q))
    (h1:-9223372036854775808≤p+q)(h2:p+q≤9223372036854775807)(kk:TQ C ops Q l ((d,.int .i64 (p+q))::E) H):TQ C ops Q (i::l) E H :=
  Uv ⟨ho,hg,hd,hx,hy,(by simp only [Lj];rw [Z2e h1 h2])⟩ kk
theorem TQ.extract {x:Operand}{n:Nat}{vs:Array Value}{v:Value}(q0_:ops[i]?=some ⟨some d,.extract x n,ty,pos,af,g⟩∧Zr ops E g=true∧Nat.ble (d+1) C.n=true∧ev E x=some (.tuple vs)∧vs[n]?=some v)(kk:TQ C ops Q l ((d,v)::E) H):TQ C ops Q (i::l) E H:=have ⟨ho,hg,hd,hx,hv⟩:=q0_;
  TQ.val ho hg hd (by simp) (fun a w hf _=>by simp [execOp,hf.ev hx,Instr.extract,hv]) kk
theorem TQ.fieldAddr {s:TypeId}{x:Operand}{f o b p:Nat}(ho:ops[i]?=some ⟨some d,.fieldAddr s x f,ty,pos,af,g⟩)(hg:Zr ops E g=true)(hd:Nat.ble (d+1) C.n=true)
    (hx:ev E x=some (.pointer (some ⟨b,p,none⟩)))(hT:Wh C.P s f=some o)(kk:TQ C ops Q l ((d,.pointer (some ⟨b,p+o,none⟩))::E) H):TQ C ops Q (i::l) E H :=
  TQ.val ho hg hd (by simp) (fun a w hf _=>by simp [execOp,hf.ev hx,Z6s hT]) kk
theorem Yo {s:TypeId}{x:Operand}{f o b:Nat}(q0_:ops[i]?=some ⟨some d,.fieldAddr s x f,ty,pos,af,g⟩∧Zr ops E g=true∧Nat.ble (d+1) C.n=true∧ev E x=some (.pointer (some ⟨b,0,none⟩)))(hT:Wh C.P s f=some o)(kk:TQ C ops Q l ((d,.pointer (some ⟨b,o,none⟩))::E) H):TQ C ops Q (i::l) E H:=have ⟨ho,hg,hd,hx⟩:=q0_;
  TQ.fieldAddr ho hg hd hx hT (by rw [Nat.zero_add];exact kk)
theorem TQ.load {t:TypeId}{x:Operand}{ad:Addr}{v:Value}(ho:ops[i]?=some ⟨some d,.load t x,ty,pos,af,g⟩)(hg:Zr ops E g=true)(hd:Nat.ble (d+1) C.n=true)
    (hx:ev E x=some (.pointer (some ad)))(hT:Xi C.P t=true)(hc:∀ w,Inv C.w0 C.M w H→w.cell? ad=some v)
    (kk:TQ C ops Q l ((d,v)::E) H):TQ C ops Q (i::l) E H :=
  TQ.val ho hg hd (by simp) (fun a w hf hi=>by simp [execOp,hf.ev hx,Instr.loadAt,Instr.sureAddr,Z4r hT (hc w hi)]) kk
theorem Yx {t T':TypeId}{x:Operand}{b o:Nat}{cs:Array Value}{fr:Nat×Nat}{v:Value}(q0_:ops[i]?=some ⟨some d,.load t x,ty,pos,af,g⟩∧Zr ops E g=true∧Nat.ble (d+1) C.n=true∧ev E x=some (.pointer (some ⟨b,o,none⟩)))(hT:Xi C.P t=true)(hm:(some b,Obj.cells cs T' fr)∈H)(hv:cs[o]?=some v)
    (kk:TQ C ops Q l ((d,v)::E) H):TQ C ops Q (i::l) E H:=have ⟨ho,hg,hd,hx⟩:=q0_;
  TQ.load ho hg hd hx hT (fun w hi=>by rw [hi.cell_own hm];exact hv) kk
theorem TQ.loadS {t:TypeId}{x:Operand}{ad:Addr}{k:Nat}{cs:List Value}(ho:ops[i]?=some ⟨some d,.load t x,ty,pos,af,g⟩)(hg:Zr ops E g=true)(hd:Nat.ble (d+1) C.n=true)
    (hx:ev E x=some (.pointer (some ad)))(hT:Vs C.P t k=true)(hk:cs.length=k)(hc:∀ w,Inv C.w0 C.M w H→∀ j v,cs[j]?=some v→w.cell? (ad.add j)=some v)
    (kk:TQ C ops Q l ((d,.agg cs.toArray)::E) H):TQ C ops Q (i::l) E H :=
  TQ.val ho hg hd (by simp) (fun a w hf hi=>by simp [execOp,hf.ev hx,Instr.loadAt,Instr.sureAddr,Z3l hT hk (hc w hi)]) kk
theorem TQ.loadA {t T':TypeId}{x:Operand}{b k:Nat}{cs:List Value}{fr:Nat×Nat}(q0_:ops[i]?=some ⟨some d,.load t x,ty,pos,af,g⟩∧Zr ops E g=true∧Nat.ble (d+1) C.n=true∧ev E x=some (.pointer (some ⟨b,0,none⟩)))(hT:Vs C.P t k=true)(hm:(some b,Obj.cells cs.toArray T' fr)∈H)(hk:cs.length=k)
    (kk:TQ C ops Q l ((d,.agg cs.toArray)::E) H):TQ C ops Q (i::l) E H:=have ⟨ho,hg,hd,hx⟩:=q0_;
  TQ.loadS ho hg hd hx hT hk (fun w hi j v hv=>by rw [Addr.add_mid,Nat.zero_add,hi.cell_own hm];simpa using hv) kk
theorem TQ.ldI {t T':TypeId}{x:Operand}{b o:Nat}{k:IntKind}{xs:List Int}{j:List Value}{fr:Nat×Nat}(ho:ops[i]?=some ⟨some d,.load t x,ty,pos,af,g⟩)(hg:Zr ops E g=true)(hd:Nat.ble (d+1) C.n=true)
    (hx:ev E x=some (.pointer (some ⟨b,o,none⟩)))(hT:Xi C.P t=true)(hm:(some b,Obj.cells (arr (intC k) xs j).toArray T' fr)∈H)(hv:o<xs.length)
    (kk:TQ C ops Q l ((d,.int k (xs.getD o 0))::E) H):TQ C ops Q (i::l) E H :=
  Yx ⟨ho,hg,hd,hx⟩ hT hm (by
    have:=Z4i (f:=intC k) (s:=1) (fun _=>rfl) 0 xs j o 0 hv (by omega)
    simpa using this) kk
theorem Z9m {t e:TypeId}{x y:Operand}{base:Option Addr}{n c s:Nat}{k:IntKind}{p:Int}(ho:ops[i]?=some ⟨some d,.indexAddr t x y,ty,pos,af,g⟩)(hg:Zr ops E g=true)(hd:Nat.ble (d+1) C.n=true)
    (hx:ev E x=some (.slice base n c))(hy:ev E y=some (.int k p))(ht:Yk C.P t=some e)(hs:Yh C.P e=some s)(hb:base=none→n=0)(h0:0≤p)(h1:p<n)
    (kk:TQ C ops Q l ((d,.pointer (some (ea base (p.toNat*s))))::E) H):TQ C ops Q (i::l) E H :=
  TQ.val ho hg hd (by simp) (fun a w hf hi=>by
    cases base with
    | none=>exact absurd h1 (by simp [hb rfl];omega)
    | some b =>
      have hu:=Va ht
      simp [execOp,hf.ev hx,hf.ev hy,Instr.indexAt,asIntOf,run_underlying hu,h0,h1,Um hs,ea]) kk
theorem TQ.index {t e:TypeId}{x y:Operand}{b o n c s:Nat}{k:IntKind}{p:Int}(ho:ops[i]?=some ⟨some d,.indexAddr t x y,ty,pos,af,g⟩)(hg:Zr ops E g=true)(hd:Nat.ble (d+1) C.n=true)
    (hx:ev E x=some (.slice (some ⟨b,o,none⟩) n c))(hy:ev E y=some (.int k p))(ht:Yk C.P t=some e)(hs:Yh C.P e=some s)(h0:0≤p)(h1:p<n)
    (kk:TQ C ops Q l ((d,.pointer (some ⟨b,o+p.toNat*s,none⟩))::E) H):TQ C ops Q (i::l) E H :=
  Z9m ho hg hd hx hy ht hs (by simp) h0 h1 (by simpa [ea,Addr.add_mid] using kk)
theorem Zh4 {t e:TypeId}{x y:Operand}{b n c s:Nat}{k:IntKind}{p:Int}(ho:ops[i]?=some ⟨some d,.indexAddr t x y,ty,pos,af,g⟩)(hg:Zr ops E g=true)(hd:Nat.ble (d+1) C.n=true)
    (hx:ev E x=some (.slice (some ⟨b,0,none⟩) n c))(hy:ev E y=some (.int k p))(ht:Yk C.P t=some e)(hs:Yh C.P e=some s)(h0:0≤p)(h1:p<n)
    (kk:TQ C ops Q l ((d,.pointer (some ⟨b,p.toNat*s,none⟩))::E) H):TQ C ops Q (i::l) E H :=
  TQ.index ho hg hd hx hy ht hs h0 h1 (by rw [Nat.zero_add];exact kk)
theorem Zf1 {t e:TypeId}{x y:Operand}{b n c:Nat}{k:IntKind}{p:Int}(ho:ops[i]?=some ⟨some d,.indexAddr t x y,ty,pos,af,g⟩)(hg:Zr ops E g=true)(hd:Nat.ble (d+1) C.n=true)
    (hx:ev E x=some (.slice (some ⟨b,0,none⟩) n c))(hy:ev E y=some (.int k p))(ht:Yk C.P t=some e)(hs:Yh C.P e=some 1)(h0:0≤p)(h1:p<n)
    (kk:TQ C ops Q l ((d,.pointer (some ⟨b,p.toNat,none⟩))::E) H):TQ C ops Q (i::l) E H :=
  Zh4 ho hg hd hx hy ht hs h0 h1 (by rw [Nat.mul_one];exact kk)
theorem TQ.len {t:TypeId}{at':Array TypeId}{x:Operand}{e:TypeId}{base:Option Addr}{n c:Nat}
    (ho:ops[i]?=some ⟨some d,.call ⟨.builtin .len,#[x],at'⟩,ty,pos,af,g⟩)(hg:Zr ops E g=true)(hd:Nat.ble (d+1) C.n=true)(hat:at'[0]?=some t)
    (hx:ev E x=some (.slice base n c))(ht:Yk C.P t=some e)(kk:TQ C ops Q l ((d,.int .i64 n)::E) H):TQ C ops Q (i::l) E H :=
  TQ.val ho hg hd (by simp) (fun a w hf _=>by
    simp [execOp,resolve,invoke,builtin,hf.ev hx,Builtin.len_,hat,run_underlying (Va ht),goInt]) kk
theorem Lz {α:Type}{t:TypeId}{at':Array TypeId}{x:Operand}{e:TypeId}{base:Option Addr}{n c:Nat}{xs:List α}(hn:xs.length=n)
    (q0_:ops[i]?=some ⟨some d,.call ⟨.builtin .len,#[x],at'⟩,ty,pos,af,g⟩∧Zr ops E g=true∧Nat.ble (d+1) C.n=true∧at'[0]?=some t∧ev E x=some (.slice base n c))(ht:Yk C.P t=some e)(kk:TQ C ops Q l ((d,.int .i64 (xs.length:Int))::E) H):TQ C ops Q (i::l) E H:=have ⟨ho,hg,hd,hat,hx⟩:=q0_;
  TQ.len ho hg hd hat hx ht (by rw [←hn];exact kk)
theorem Ka {α:Type}{f:α→List Value}{M:List Nat}{w:World}{xs:List α}{t e:TypeId}{x y:Operand}{base:Option Addr}{n c s:Nat}{k:IntKind}{p:Int}(hr:RS w M f s base n c xs)(hp:inb p xs.length)
    (q0_:ops[i]?=some ⟨some d,.indexAddr t x y,ty,pos,af,g⟩∧Zr ops E g=true∧Nat.ble (d+1) C.n=true∧ev E x=some (.slice base n c)∧ev E y=some (.int k p))(ht:Yk C.P t=some e)(hs:Yh C.P e=some s)
    (kk:TQ C ops Q l ((d,.pointer (some (ea base (p.toNat*s))))::E) H):TQ C ops Q (i::l) E H:=have ⟨ho,hg,hd,hx,hy⟩:=q0_;
  Z9m ho hg hd hx hy ht hs hr.ro.nil hp.1 (by have:=hp.2;rw [hr.len] at this;exact this) kk
theorem Z0c {α:Type}{xs:List α}{t e:TypeId}{x y:Operand}{b n c:Nat}{k:IntKind}{p:Int}(hn:xs.length=n)(hp:inb p xs.length)
    (q0_:ops[i]?=some ⟨some d,.indexAddr t x y,ty,pos,af,g⟩∧Zr ops E g=true∧Nat.ble (d+1) C.n=true∧ev E x=some (.slice (some ⟨b,0,none⟩) n c)∧ev E y=some (.int k p))(ht:Yk C.P t=some e)(hs:Yh C.P e=some 1)
    (kk:TQ C ops Q l ((d,.pointer (some ⟨b,p.toNat,none⟩))::E) H):TQ C ops Q (i::l) E H:=have ⟨ho,hg,hd,hx,hy⟩:=q0_;
  Zf1 ho hg hd hx hy ht hs hp.1 (by have:=hp.2;rw [hn] at this;exact this) kk
theorem Gt {t:TypeId}{x:Operand}{base:Option Addr}{n c:Nat}{k:IntKind}{p:Int}{xs:List Int}(hr:RS C.w0 C.M (intC k) 1 base n c xs)(hp:inb p xs.length)(q0_:ops[i]?=some ⟨some d,.load t x,ty,pos,af,g⟩∧Zr ops E g=true∧Nat.ble (d+1) C.n=true∧ev E x=some (.pointer (some (ea base (p.toNat*1)))))(hT:Xi C.P t=true)
    (kk:TQ C ops Q l ((d,.int k (xs.getD p.toNat 0))::E) H):TQ C ops Q (i::l) E H:=have ⟨ho,hg,hd,hx⟩:=q0_;
  TQ.load ho hg hd hx hT (fun w hi=>by
    have:=(hr.ro.monoM hr.far hi).at 0 (o:=p.toNat) (c:=0) (Ub hp) (by omega)
    simpa using this) kk
theorem Z4h {t:TypeId}{x:Operand}{base:Option Addr}{n c:Nat}{p:Int}{xs:List Bool}(hr:RS C.w0 C.M boolC 1 base n c xs)(hp:inb p xs.length)(q0_:ops[i]?=some ⟨some d,.load t x,ty,pos,af,g⟩∧Zr ops E g=true∧Nat.ble (d+1) C.n=true∧ev E x=some (.pointer (some (ea base (p.toNat*1)))))(hT:Xi C.P t=true)
    (kk:TQ C ops Q l ((d,.bool (xs.getD p.toNat false))::E) H):TQ C ops Q (i::l) E H:=have ⟨ho,hg,hd,hx⟩:=q0_;
  TQ.load ho hg hd hx hT (fun w hi=>by
    have:=(hr.ro.monoM hr.far hi).at false (o:=p.toNat) (c:=0) (Ub hp) (by omega)
    simpa using this) kk
theorem TQ.ldFR {α:Type}{f:α→List Value}{s:Nat}{t:TypeId}{x:Operand}{base:Option Addr}{n c q:Nat}{p:Int}{xs:List α}{v:Value}(dflt:α)(hr:RS C.w0 C.M f s base n c xs)(hp:inb p xs.length)(hv:(f (xs.getD p.toNat dflt))[q]?=some v)
    (ho:ops[i]?=some ⟨some d,.load t x,ty,pos,af,g⟩)(hg:Zr ops E g=true)(hd:Nat.ble (d+1) C.n=true)
    (hx:ev E x=some (.pointer (some (ea base (p.toNat*s+q)))))(hT:Xi C.P t=true)
    (kk:TQ C ops Q l ((d,v)::E) H):TQ C ops Q (i::l) E H :=
  TQ.load ho hg hd hx hT (fun w hi=>by
    have hqs:q<s:=by rw [←hr.ro.wide (xs.getD p.toNat dflt)];exact (List.getElem?_eq_some_iff.1 hv).1
    have:=(hr.ro.monoM hr.far hi).at dflt (o:=p.toNat) (c:=q) (Ub hp) hqs
    exact this.trans hv) kk
theorem Z0o {t T':TypeId}{x:Operand}{b:Nat}{k:IntKind}{p:Int}{xs:List Int}{j:List Value}{fr:Nat×Nat}(hp:inb p xs.length)(q0_:ops[i]?=some ⟨some d,.load t x,ty,pos,af,g⟩∧Zr ops E g=true∧Nat.ble (d+1) C.n=true∧ev E x=some (.pointer (some ⟨b,p.toNat,none⟩)))(hT:Xi C.P t=true)(hm:(some b,Obj.cells (arr (intC k) xs j).toArray T' fr)∈H)
    (kk:TQ C ops Q l ((d,.int k (xs.getD p.toNat 0))::E) H):TQ C ops Q (i::l) E H:=have ⟨ho,hg,hd,hx⟩:=q0_;TQ.ldI ho hg hd hx hT hm (Ub hp) kk
theorem Z02 {t t2:TypeId}{x y:Operand}{p q:Int}(h:i64ok (p+q))(q0_:ops[i]?=some ⟨some d,.binOp .add t x y t2,ty,pos,af,g⟩∧Zr ops E g=true∧Nat.ble (d+1) C.n=true∧ev E x=some (.int .i64 p)∧ev E y=some (.int .i64 q))
    (kk:TQ C ops Q l ((d,.int .i64 (p+q))::E) H):TQ C ops Q (i::l) E H:=have ⟨ho,hg,hd,hx,hy⟩:=q0_;TQ.add ho hg hd hx hy h.1 h.2 kk
theorem Ue {t:TypeId}{x:Operand}{b o:Nat}{cs:List Value}{v:Value}(hc:HB C.w0 C.M b cs)(q0_:ops[i]?=some ⟨some d,.load t x,ty,pos,af,g⟩∧Zr ops E g=true∧Nat.ble (d+1) C.n=true∧ev E x=some (.pointer (some ⟨b,o,none⟩))∧cs[o]?=some v)(hT:Xi C.P t=true)
    (kk:TQ C ops Q l ((d,v)::E) H):TQ C ops Q (i::l) E H:=have ⟨ho,hg,hd,hx,hv⟩:=q0_;TQ.load ho hg hd hx hT (fun w hi=>hi.cell_old (hc.has o v hv) hc.far) kk
theorem TQ.slL {α:Type}{xs:List α}{t e:TypeId}{x y:Operand}{base:Option Addr}{n c s:Nat}{k:IntKind}{p:Int}(hn:xs.length=n)(hp:0≤p∧p≤(xs.length:Int))
    (q0_:ops[i]?=some ⟨some d,.slice t x (some y) none none,ty,pos,af,g⟩∧Zr ops E g=true∧Nat.ble (d+1) C.n=true∧ev E x=some (.slice base n c)∧ev E y=some (.int k p))(ht:Yk C.P t=some e)(hs:Yh C.P e=some s)
    (kk:TQ C ops Q l ((d,.slice (Us base p.toNat c s) (n-p.toNat) (c-p.toNat))::E) H):TQ C ops Q (i::l) E H:=have ⟨ho,hg,hd,hx,hy⟩:=q0_;
  TQ.val ho hg hd (by simp) (fun a w hf hi=>by
    have hu:=Va ht
    have h1:0≤p∧p≤(n:Int):=by rw [hn] at hp;exact hp
    simp [execOp,hf.ev hx,hf.ev hy,Instr.sliceAt,Instr.slice,Instr.sliceBounds,Instr.sliceBound,asIntOf,run_underlying hu,h1.1,h1.2,Um hs,Us]) kk
end rules
end Go.Acq
namespace Go.Acq
open Go Go.RowKit
theorem Z23 {α:Type}{xs:List α}{k:Nat}(h:Nat.blt k xs.length=true):inb (k:Int) xs.length:=⟨Int.natCast_nonneg k,Int.ofNat_lt.2 (Nat.le_of_ble_eq_true h)⟩
section rules
variable {C : Cx} {ops : Array Oper} {Q : Exit → Act → World → Prop} {l : List Nat} {E : Env} {H R : Heap} {i d : Nat} {ty : TypeId} {pos : String} {af : Array Edge} {g : Option (Nat × Bool)}
end rules
end Go.Acq
namespace Go.Acq
open Go Go.RowKit
section
variable {C : Cx} {Q : Exit → Act → World → Prop} {E : Env} {H : Heap} {c x y : Code}
end
end Go.Acq
namespace Go.Acq
open Go
def band (k:IntKind)(x y:Int):Int:=k.wrap ((BitVec.ofInt k.bits x &&& BitVec.ofInt k.bits y).toNat)
end Go.Acq
namespace Go.Acq
open Go Go.RowKit
theorem Zi {α:Type}{x:α}{l:List α}:x∈x::l:=.head _
theorem Yl {α:Type}{a0 x:α}{l:List α}:x∈a0::x::l:=.tail _ Zi
theorem Xn {α:Type}{a0 a1 x:α}{l:List α}:x∈a0::a1::x::l:=.tail _ Yl
theorem Uo {α:Type}{a0 a1 a2 x:α}{l:List α}:x∈a0::a1::a2::x::l:=.tail _ Xn
theorem Vp {α:Type}{a0 a1 a2 a3 x:α}{l:List α}:x∈a0::a1::a2::a3::x::l:=.tail _ Uo
theorem Vf {α:Type}{a0 a1 a2 a3 a4 x:α}{l:List α}:x∈a0::a1::a2::a3::a4::x::l:=.tail _ Vp
theorem mm6 {α:Type}{a0 a1 a2 a3 a4 a5 x:α}{l:List α}:x∈a0::a1::a2::a3::a4::a5::x::l:=.tail _ Vf
theorem mm7 {α:Type}{a0 a1 a2 a3 a4 a5 a6 x:α}{l:List α}:x∈a0::a1::a2::a3::a4::a5::a6::x::l:=.tail _ mm6
theorem Ul {α:Type}{a0 a1 a2 a3 a4 a5 a6 a7 x:α}{l:List α}:x∈a0::a1::a2::a3::a4::a5::a6::a7::x::l:=.tail _ mm7
theorem mm9 {α:Type}{a0 a1 a2 a3 a4 a5 a6 a7 a8 x:α}{l:List α}:x∈a0::a1::a2::a3::a4::a5::a6::a7::a8::x::l:=.tail _ Ul
theorem Jw {α:Type}{a0 a1 a2 a3 a4 a5 a6 a7 a8 a9 x:α}{l:List α}:x∈a0::a1::a2::a3::a4::a5::a6::a7::a8::a9::x::l:=.tail _ mm9
theorem Ze {x:Option Nat×Obj}{l:Heap}:Take x (x::l) (l):=Take.head _ _
theorem Zo {a0 x:Option Nat×Obj}{l:Heap}:Take x (a0::x::l) (a0::l):=Take.tail Ze
theorem Yt {a0 a1 x:Option Nat×Obj}{l:Heap}:Take x (a0::a1::x::l) (a0::a1::l):=Take.tail Zo
theorem Vv {a0 a1 a2 x:Option Nat×Obj}{l:Heap}:Take x (a0::a1::a2::x::l) (a0::a1::a2::l):=Take.tail Yt
theorem Gb {a0 a1 a2 a3 x:Option Nat×Obj}{l:Heap}:Take x (a0::a1::a2::a3::x::l) (a0::a1::a2::a3::l):=Take.tail Vv
theorem Ks {a0 a1 a2 a3 a4 x:Option Nat×Obj}{l:Heap}:Take x (a0::a1::a2::a3::a4::x::l) (a0::a1::a2::a3::a4::l):=Take.tail Gb
theorem Jj {a0 a1 a2 a3 a4 a5 x:Option Nat×Obj}{l:Heap}:Take x (a0::a1::a2::a3::a4::a5::x::l) (a0::a1::a2::a3::a4::a5::l):=Take.tail Ks
theorem tk7 {a0 a1 a2 a3 a4 a5 a6 x:Option Nat×Obj}{l:Heap}:Take x (a0::a1::a2::a3::a4::a5::a6::x::l) (a0::a1::a2::a3::a4::a5::a6::l):=Take.tail Jj
theorem tk8 {a0 a1 a2 a3 a4 a5 a6 a7 x:Option Nat×Obj}{l:Heap}:Take x (a0::a1::a2::a3::a4::a5::a6::a7::x::l) (a0::a1::a2::a3::a4::a5::a6::a7::l):=Take.tail tk7
theorem tk9 {a0 a1 a2 a3 a4 a5 a6 a7 a8 x:Option Nat×Obj}{l:Heap}:Take x (a0::a1::a2::a3::a4::a5::a6::a7::a8::x::l) (a0::a1::a2::a3::a4::a5::a6::a7::a8::l):=Take.tail tk8
theorem Gone.refl (R:Heap):List.Perm R ([]++R):=List.Perm.refl R
section rules
variable {C : Cx} {ops : Array Oper} {Q : Exit → Act → World → Prop} {l : List Nat} {E : Env} {H R : Heap} {i d : Nat} {ty : TypeId} {pos : String} {af : Array Edge} {g : Option (Nat × Bool)}
theorem TO.nilCheck {x:Operand}{p:Addr}(q0_:ops[i]?=some ⟨some d,.nilCheck x,ty,pos,af,g⟩∧Zr ops E g=true∧Nat.ble (d+1) C.n=true∧ev E x=some (.pointer (some p)))
    (k:TO C ops Q l ((d,.pointer (some p))::E) H):TO C ops Q (i::l) E H:=have ⟨ho,hg,hd,hx⟩:=q0_;
  TO.val ho hg hd (by simp) (fun a w hf _=>by simp [execOp,hf.ev hx]) k
end rules
section rules
variable {C : Cx} {ops : Array Oper} {Q : Act → Prop} {l : List Nat} {E : Env} {H R : Heap} {i d : Nat} {ty : TypeId} {pos : String} {af : Array Edge} {g : Option (Nat × Bool)}
theorem TQ.nilCheck {x:Operand}{p:Addr}(q0_:ops[i]?=some ⟨some d,.nilCheck x,ty,pos,af,g⟩∧Zr ops E g=true∧Nat.ble (d+1) C.n=true∧ev E x=some (.pointer (some p)))
    (k:TQ C ops Q l ((d,.pointer (some p))::E) H):TQ C ops Q (i::l) E H:=have ⟨ho,hg,hd,hx⟩:=q0_;
  TQ.val ho hg hd (by simp) (fun a w hf _=>by simp [execOp,hf.ev hx]) k
end rules
section draw
variable {C : Cx} {ops : Array Oper} {Q : Exit → Act → World → Prop} {E : Env} {H : Heap}
theorem Z46 {A B Tl:Heap}(X Hx:Heap):List.Perm (X++((A++Tl)++(B++Hx))) (X++(A++(B++(Tl++Hx)))):=by
 refine List.Perm.append_left X ?_
 rw [List.append_assoc]
 refine List.Perm.append_left A ?_
 rw [←List.append_assoc,←List.append_assoc]
 exact List.Perm.append_right Hx List.perm_append_comm
theorem ObQ.tail {S:List Sp}{W:Env}{Hc:Heap}{i:Nat}(Tl:Heap)(h:ObQ C ops Q S W Hc i):ObQ C ops Q S W (Hc++Tl) i:=by
 intro vs es Es Hx hr a w hf hi
 refine Z1q (l2:=[]) (fun e a w hne hq=>?_) (fun a w hq=>?_) [i] a w (h vs es Es (Tl++Hx) hr a w hf (hi.perm (Z46 [] Hx)))
 ·cases e <;> first | exact absurd rfl hne | exact hq
 ·
  obtain ⟨v,e',h1,h2,h3⟩:=hq
  exact ⟨v,e',h1,h2,h3.perm (Z46 e' Hx).symm⟩
end draw
end Go.Acq
namespace Go.Acq
open Go Go.RowKit
section
variable {C : Cx} {ops : Array Oper} {Q : Exit → Act → World → Prop} {l : List Nat} {i d : Nat} {E : Env} {H : Heap} {ty : TypeId} {pos : String} {af : Array Edge} {g : Option (Nat × Bool)}
end
end Go.Acq
namespace Go.Acq
open Go
structure Chan where
  cap:Nat
  buf:List Int
  deriving DecidableEq
instance:Inhabited Chan:=⟨⟨0,[]⟩⟩
end Go.Acq
namespace Go.Acq
open Go Go.RowKit Go.Conc
section
variable {C : Cx} {Q : Exit → Act → World → Prop} {E E' : Env} {H H' R : Heap} {x y c : Code} {ops : Array Oper} {l : List Nat} {i d : Nat} {ty : TypeId} {pos : String} {af : Array Edge} {g : Option (Nat × Bool)}
theorem Rj {t T':TypeId}{x:Operand}{b o k:Nat}{cs vs:List Value}{fr:Nat×Nat}(q0_:ops[i]?=some ⟨some d,.load t x,ty,pos,af,g⟩∧Zr ops E g=true∧Nat.ble (d+1) C.n=true∧ev E x=some (.pointer (some ⟨b,o,none⟩)))(hT:Vs C.P t k=true)(hm:(some b,Obj.cells cs.toArray T' fr)∈H)(q1_:(cs.drop o).take k=vs∧vs.length=k)
    (kk:TO C ops Q l ((d,.agg vs.toArray)::E) H):TO C ops Q (i::l) E H:=have ⟨ho,hg,hd,hx⟩:=q0_;have ⟨hv,hk⟩:=q1_;
  Z45 ho hg hd hx hT hk (fun w hi j v hj=>by
    rw [Addr.add_mid,hi.cell_own hm]
    subst hv
    rw [List.getElem?_take] at hj
    split at hj
    ·rw [List.getElem?_drop] at hj;simpa using hj
    ·cases hj) kk
end
end Go.Acq
namespace Go.Acq
open Go Go.RowKit
def eqFs (P:Program):List Field→List IntKind→Nat→Bool
  | [],[],_=>true
  | f::fs,k::ks,o=>f.name != "_"&&Nat.beq f.offset o&&(match P.underlying f.type with | some (.int q)=>decide (q=k) | _=>false)&&eqFs P fs ks (o+1)
  | _,_,_=>false
def eqsT (P:Program)(t:TypeId)(ks:List IntKind):Bool :=
  (match P.underlying t with | some (.struct fs)=>eqFs P fs.toList ks 0 | _=>false)&&!P.stoodInHeld t&&!P.eqGuardType P.depth t
theorem Zcz {P:Program}{w:World}{n:Nat}{xs ys:Array Value}:∀ (fs:List Field) (ks:List IntKind) (o:Nat) (us ws:List Int),eqFs P fs ks o=true→us.length=ks.length→ws.length=ks.length →
    (∀ i,i<ks.length→xs[o+i]?=some (.int (ks.getD i .i64) (us.getD i 0))∧ys[o+i]?=some (.int (ks.getD i .i64) (ws.getD i 0)))→(Op.eqFields (n+1) xs ys fs).run P w=.ok (decide (us=ws)) w
  | [],[],_,[],[],_,_,_,_=>by simp [Op.eqFields]
  | f::fs,k::ks,o,a::us,b::ws,h,ha,hb,hx=>by
    simp only [eqFs,Bool.and_eq_true,bne_iff_ne,ne_eq] at h
    obtain ⟨⟨⟨h1,h2⟩,h3⟩,h4⟩:=h
    have h2:f.offset=o:=Nat.eq_of_beq_eq_true h2
    split at h3
    · rename_i q hq
      have h3:q=k:=of_decide_eq_true h3
      subst h3
      have h0:=hx 0 (by simp)
      simp only [Nat.add_zero,List.getD_cons_zero] at h0
      have ih:=Zcz (w:=w) (n:=n) fs ks (o+1) us ws h4 (by simpa using ha) (by simpa using hb) (fun i hi=>by
        have:=hx (i+1) (by simpa using hi)
        simp only [List.getD_cons_succ] at this
        rwa [show o+1+i=o+(i+1) by omega])
      have hagg:∀ w,(isAgg f.type).run P w=.ok false w:=fun w=>by simp [isAgg,run_underlying hq]
      have hp:∀ (cs:Array Value) v,cs[f.offset]?=some v→∀ w,(part f.type cs f.offset).run P w=.ok v w:=fun cs v hv w=>by
        simp [part,hagg,hv]
      rw [←h2] at h0
      simp only [Op.eqFields,h1,not_false_eq_true,ne_eq,if_true]
      simp only [Sem.run_bind,hp _ _ h0.1,hp _ _ h0.2,Result.andThen_ok,run_equalIn_int w n f.type q q a b hq]
      by_cases hab:a=b
      · subst hab
        simp [ih]
      ·simp [hab]
    ·cases h3
section rules
variable {C : Cx} {ops : Array Oper} {Q : Exit → Act → World → Prop} {l : List Nat} {E : Env} {H R : Heap} {i d : Nat} {ty : TypeId} {pos : String} {af : Array Edge} {g : Option (Nat × Bool)}
theorem eqsT_run {P:Program}{t:TypeId}{ks:List IntKind}{us ws:List Int}(h:eqsT P t ks=true)(ha:us.length=ks.length)(hb:ws.length=ks.length)(w:World) :
    (Op.equal t (.agg ((ks.zip us).map fun p=>Value.int p.1 p.2).toArray) (.agg ((ks.zip ws).map fun p=>Value.int p.1 p.2).toArray)).run P w=.ok (decide (us=ws)) w:=by
  simp only [eqsT,Bool.and_eq_true,Bool.not_eq_true'] at h
  obtain ⟨⟨h1,h2⟩,h3⟩:=h
  split at h1
  · rename_i fs hfs
    have hf:P.fieldsOf t=fs:=by simp [Program.fieldsOf,hfs]
    have key:∀ (cs:List Int),cs.length=ks.length→∀ i,i<ks.length→(((ks.zip cs).map fun p=>Value.int p.1 p.2).toArray)[0+i]?=some (.int (ks.getD i .i64) (cs.getD i 0)):=fun cs hc i hi=>by
      have e1:ks[i]?=some (ks.getD i .i64):=by simp [List.getD_eq_getElem?_getD,hi]
      have e2:cs[i]?=some (cs.getD i 0):=by simp [List.getD_eq_getElem?_getD,hc,hi]
      rw [Nat.zero_add,List.getElem?_toArray,List.getElem?_map,List.zip,List.getElem?_zipWith,e1,e2]
      rfl
    show (Op.equalIn (9999+1) t _ _).run P w=_
    rw [run_equalIn_agg w 9999 t _ _ (by rw [hf];exact hfs) h2,hf]
    exact Zcz (n:=9998) fs.toList ks 0 us ws h1 ha hb fun i hi=>⟨key us ha i hi,key ws hb i hi⟩
  ·cases h1
end rules
end Go.Acq
namespace Go.Acq
open Go Go.RowKit
section
variable {α : Type} {w0 w : World} {M M' : List Nat} {f : α → List Value} {s n c : Nat} {base : Option Addr} {xs ys : List α} {ob : Option Nat} {j : List Value} {H Hm R : Heap} {T' : TypeId} {fr : Nat × Nat}
end
section rules
variable {C : Cx} {ops : Array Oper} {Q : Exit → Act → World → Prop} {l : List Nat} {E : Env} {H R : Heap} {i d : Nat} {ty : TypeId} {pos : String} {af : Array Edge} {g : Option (Nat × Bool)}
theorem X.obQ2 {S:List Sp}{W Es B B':Env}{Hc Hx:Heap}{v v0:Value}{e' De:Heap}{vl:List Value}{H':Heap}(hs:Yq ops i=some d)(hr:Un S i vl v e')(hH:Pick (e'++(Hc++(De++Hx))) H')(hB:B=B') :
    X C (fun e a w=>match e with
      | .normal=>∃ v e',Un S i vl v e'∧Fits C.n C.D (Ja (Yq ops i) v (B++(W++Es))) a∧Inv C.w0 C.M w (e'++(Hc++(De++Hx)))
      | e=>Q e a w) .normal ((d,v)::(d,v0)::(B'++(W++Es))) H':=by
  subst hB
  exact fun _ _ hf hi=>⟨v,e',hr,by
    rw [hs]
    exact hf.weak (fun t u h=>by
      have h:find ((d,v)::(B++(W++Es))) t=some u:=h
      rw [Kb] at h ⊢
      split
      ·rename_i e;rw [if_pos e] at h;exact h
      ·rename_i e;rw [if_neg e] at h;rw [Kb,if_neg e];exact h),hi.pick hH⟩
end rules
end Go.Acq
namespace Go.Acq
def Kl {α:Type}(z:α)(k:Int×Int):List ((Int×Int)×α)→α
  | []=>z
  | x::xs=>if k=x.1 then x.2 else Kl z k xs
end Go.Acq
namespace Go.Acq
open Go Go.RowKit
section
variable {α : Type} {q : IntKind} {f : α → Value} {k : Int × Int} {z v : α}
end
section
variable {P : Program} {w : World} {kt i : TypeId} {q : IntKind}
end
section rules
variable {C : Cx} {ops : Array Oper} {Q : Exit → Act → World → Prop} {l : List Nat} {E : Env} {H R : Heap} {i d : Nat} {ty : TypeId} {pos : String} {af : Array Edge} {g : Option (Nat × Bool)}
variable {α : Type} {q : IntKind} {f : α → Value}
end rules
end Go.Acq
namespace Go.Acq
open Go
end Go.Acq
namespace Go.Acq
open Go Go.RowKit
section rules
variable {C : Cx} {ops : Array Oper} {Q : Exit → Act → World → Prop} {l : List Nat} {E : Env} {H R : Heap} {i d : Nat} {ty : TypeId} {pos : String} {af : Array Edge} {g : Option (Nat × Bool)}
end rules
end Go.Acq
namespace Go.Acq
open Go Go.RowKit
section rules
variable {C : Cx} {ops : Array Oper} {Q : Exit → Act → World → Prop} {l : List Nat} {E : Env} {H R : Heap} {i d : Nat} {ty : TypeId} {pos : String} {af : Array Edge} {g : Option (Nat × Bool)}
end rules
end Go.Acq
