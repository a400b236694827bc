/- Texts of this claim, one behind the other. -/
import Derived.WalkKit
import Derived.RangeFuncIn
import Derived.CallsIn
import Derived.Deep.AppendSrc
import Derived.Deep.MidRow
import Derived.Great.BuildSlice
import Derived.KernelRfl
import Derived.OrdersIn
import Derived.Maps.RangeRun
import Derived.Laws.Bits64b
import Derived.Deep.Slices
import Derived.Deep.Fields
import Derived.ChangeSame
import Derived.Lib.SmallJoins
import Derived.ProofKit
import Derived.ChangeArms
import Derived.RangeFuncSeq
import Derived.Conc.LoneCalls
import Derived.Conc.LoneSelectN
import Derived.Conc.SmallLaws
import Derived.Laws.StructEq
import Derived.Scope
import Derived.ChangeKeysEq
set_option linter.unusedVariables false
set_option linter.unusedSimpArgs false
namespace Go.Acq
open Go Go.RowKit
theorem Yp {α β:Type}{a:α}{b:β}:a=a∧b=b:=⟨rfl,rfl⟩
theorem Zk {α β γ:Type}{a:α}{b:β}{c:γ}:a=a∧b=b∧c=c:=⟨rfl,rfl,rfl⟩
theorem Za {α β γ δ:Type}{a:α}{b:β}{c:γ}{d:δ}:a=a∧b=b∧c=c∧d=d:=⟨rfl,rfl,rfl,rfl⟩
theorem Zb {α β γ δ ε:Type}{a:α}{b:β}{c:γ}{d:δ}{e:ε}:a=a∧b=b∧c=c∧d=d∧e=e:=⟨rfl,rfl,rfl,rfl,rfl⟩
theorem Zl {α β γ δ ε ζ:Type}{a:α}{b:β}{c:γ}{d:δ}{e:ε}{f:ζ}:a=a∧b=b∧c=c∧d=d∧e=e∧f=f:=⟨rfl,rfl,rfl,rfl,rfl,rfl⟩
theorem rr7 {α β γ δ ε ζ η:Type}{a:α}{b:β}{c:γ}{d:δ}{e:ε}{f:ζ}{g:η}:a=a∧b=b∧c=c∧d=d∧e=e∧f=f∧g=g:=⟨rfl,rfl,rfl,rfl,rfl,rfl,rfl⟩
theorem rr8 {α β γ δ ε ζ η θ:Type}{a:α}{b:β}{c:γ}{d:δ}{e:ε}{f:ζ}{g:η}{h:θ}:a=a∧b=b∧c=c∧d=d∧e=e∧f=f∧g=g∧h=h:=⟨rfl,rfl,rfl,rfl,rfl,rfl,rfl,rfl⟩
abbrev Env:=List (Nat×Value)
abbrev Heap:=List (Option Nat×Obj)
def find:Env→Nat→Option Value
  | [],_=>none
  | (d,v)::E,t=>cond (Nat.beq d t) (some v) (find E t)
def ev (E:Env):Operand→Option Value
  | .tmp t=>find E t
  | .const v=>some v
  | .global g=>some (.pointer (some ⟨g,0,none⟩))
  | .func f=>some (.func (.func f) #[] #[])
structure Fits (n:Nat)(D:List Deferred)(E:Env)(a:Act):Prop where
  size:a.tmps.size=n
  defers:a.defers=D
  get:∀ t v,find E t=some v→a.tmps.getD t undef=v
section fits
variable {n : Nat} {D : List Deferred} {E E' : Env} {a : Act} {x : Operand} {v : Value} {d : Nat}
theorem Fits.ev (h:Fits n D E a)(hx:ev E x=some v):a.eval x=v:=by
 cases x with
 | tmp t=>exact h.get t v hx
 | const u=>simpa [Acq.ev,Act.eval] using hx
 | global g=>simpa [Acq.ev,Act.eval] using hx
 | func f=>simpa [Acq.ev,Act.eval] using hx
theorem Ks (d t:Nat)(v:Value)(E:Env):find ((d,v)::E) t=if d=t then some v else find E t:=by
 simp only [find]
 by_cases h:d=t
 ·subst h;simp
 ·
  rw [if_neg h]
  have:Nat.beq d t=false:=by
   cases hb:Nat.beq d t
   ·rfl
   ·exact absurd (Nat.eq_of_beq_eq_true hb) h
  simp [this]
theorem Fits.put (h:Fits n D E a)(hd:Nat.ble (d+1) n=true)(v:Value):Fits n D ((d,v)::E) (a.put (some d) v):=by
 have hdn:d<n:=Nat.le_of_ble_eq_true hd
 refine ⟨by simpa [Act.put] using h.size,h.defers,fun t u hu=>?_⟩
 rw [Ks] at hu
 by_cases e:d=t
 ·
  subst e
  rw [if_pos rfl] at hu
  simp only [Act.put,Array.getD_eq_getD_getElem?]
  have:d<a.tmps.size:=by rw [h.size];exact hdn
  simp [this]
  simpa using hu
 ·
  rw [if_neg e] at hu
  have:=h.get t u hu
  simp only [Act.put,Array.getD_eq_getD_getElem?] at *
  simp [e,this]
theorem Fits.putNone (h:Fits n D E a)(v:Value):Fits n D E (a.put none v):=h
theorem Fits.weak (h:Fits n D E a)(hs:∀ t v,find E' t=some v→find E t=some v):Fits n D E' a:=⟨h.size,h.defers,fun t v hv=>h.get t v (hs t v hv)⟩
end fits
def AllF:Env→Env→Prop
  | [],_=>True
  | (t,v)::L,E=>find E t=some v∧AllF L E
theorem AllF.sub:∀ {L E:Env},AllF L E→∀ t v,find L t=some v→find E t=some v
 | [],_,_,t,v,h=>by simp [find] at h
 | (d,u)::L,E,⟨h1,h2⟩,t,v,h=>by
  rw [Ks] at h
  by_cases e:d=t
  ·subst e;rw [if_pos rfl] at h;rw [h1];exact h
  ·rw [if_neg e] at h;exact AllF.sub h2 t v h
def wo:List Nat→Env→Env
  | _,[]=>[]
  | D,(t,v)::E=>cond (D.any (Nat.beq t)) (wo D E) ((t,v)::wo (t::D) E)
theorem any_beq {t:Nat}:∀ {D:List Nat},D.any (Nat.beq t)=true↔t∈D
 | []=>by simp
 | d::D=>by
  simp only [List.any_cons,Bool.or_eq_true,List.mem_cons,any_beq]
  constructor
  ·
   rintro (h | h)
   ·exact .inl (Nat.eq_of_beq_eq_true h)
   ·exact .inr h
  ·
   rintro (rfl | h)
   ·exact .inl (by simp)
   ·exact .inr h
theorem Z9n:∀ (E:Env) (D:List Nat) (t:Nat) (v:Value),find (wo D E) t=some v→t∉D∧find E t=some v
 | [],D,t,v,h=>by simp [wo,find] at h
 | (d,u)::E,D,t,v,h=>by
  simp only [wo] at h
  cases hb:D.any (Nat.beq d) with
  | true =>
   rw [hb] at h
   obtain ⟨h1,h2⟩:=Z9n E D t v h
   refine ⟨h1,?_⟩
   rw [Ks,if_neg]
   ·exact h2
   ·rintro rfl;exact h1 (any_beq.1 hb)
  | false =>
   rw [hb] at h
   simp only [cond_false] at h
   rw [Ks] at h
   by_cases e:d=t
   ·
    subst e
    rw [if_pos rfl] at h
    refine ⟨fun hm=>?_,by rw [Ks,if_pos rfl];exact h⟩
    rw [any_beq.2 hm] at hb;cases hb
   ·
    rw [if_neg e] at h
    obtain ⟨h1,h2⟩:=Z9n E (d::D) t v h
    exact ⟨fun hm=>h1 (.tail _ hm),by rw [Ks,if_neg e];exact h2⟩
theorem Z3a (L E:Env)(t:Nat):find (L++E) t=(find L t).or (find E t):=by
 induction L with
 | nil=>simp [find]
 | cons p L ih =>
  obtain ⟨d,v⟩:=p
  rw [List.cons_append,Ks,Ks]
  split
  ·simp
  ·exact ih
structure Inv (w0:World)(M:List Nat)(w:World)(H:Heap):Prop where
  os:w.os=w0.os
  tape:w.tape=w0.tape
  output:w.output=w0.output
  size:w0.heap.size≤w.heap.size
  keep:∀ b,b<w0.heap.size→b∉M→w.heap[b]?=w0.heap[b]?
  own:∀ b o,(some b,o)∈H→w.heap[b]?=some o
  low:∀ b o,(some b,o)∈H→w0.heap.size≤b∨b∈M
  apart:(H.filterMap (·.1)).Nodup
section inv
variable {w0 w w' w'' : World} {M : List Nat} {H H' N R : Heap} {b : Nat} {o o' : Obj}
theorem Inv.below (h:Inv w0 [] w H):Below w0.heap.size w0 w:=⟨h.os,h.tape,h.output,h.size,fun k hk=>h.keep k hk (by simp)⟩
theorem Inv.refl (w:World):Inv w [] w []:=⟨rfl,rfl,rfl,Nat.le_refl _,fun _ _ _=>rfl,by simp,by simp,by simp⟩
theorem Lu {b:Nat}{o:Obj}{H:Heap}(h:(some b,o)∈H):b∈H.filterMap (·.1):=List.mem_filterMap.2 ⟨_,h,rfl⟩
theorem Li {b:Nat}{H:Heap}(h:b∈H.filterMap (·.1)):∃ o,(some b,o)∈H:=by
 obtain ⟨⟨x,o⟩,hm,hx⟩:=List.mem_filterMap.1 h
 simp only at hx
 subst hx
 exact ⟨o,hm⟩
theorem Inv.lt (h:Inv w0 M w H)(hp:(some b,o)∈H):b<w.heap.size:=(Array.getElem?_eq_some_iff.1 (h.own b o hp)).1
theorem Inv.ofHeap (h:Inv w0 M w H)(hh:w'.heap=w.heap)(h1:w'.os=w.os)(h2:w'.tape=w.tape)(h3:w'.output=w.output):Inv w0 M w' H :=
 ⟨h1.trans h.os,h2.trans h.tape,h3.trans h.output,by rw [hh];exact h.size,by rw [hh];exact h.keep,by rw [hh];exact h.own,h.low,h.apart⟩
theorem Inv.drew (h:Inv w0 M w H):Inv w0 M w.drew H:=h.ofHeap rfl rfl rfl rfl
theorem Inv.alloc (h:Inv w0 M w H)(o:Obj):Inv w0 M (w.alloc o) ((some w.heap.size,o)::H):=by
 have hsz:(w.alloc o).heap.size=w.heap.size+1:=World.size_alloc ..
 refine ⟨h.os,h.tape,h.output,by rw [hsz];have:=h.size;omega,fun b hb hm=>?_,fun b o' hp=>?_,fun b o' hp=>?_,?_⟩
 ·rw [Below.heap_alloc _ _ _ (by have:=h.size;omega)];exact h.keep b hb hm
 ·
  rcases List.mem_cons.1 hp with e | hp
  ·
   injection e with e1 e2
   injection e1 with e1
   subst e1;subst e2
   show (w.heap.push o')[w.heap.size]?=some o'
   simp
  ·rw [Below.heap_alloc _ _ _ (h.lt hp)];exact h.own b o' hp
 ·
  rcases List.mem_cons.1 hp with e | hp
  ·
   injection e with e1 e2
   injection e1 with e1
   subst e1
   exact .inl h.size
  ·exact h.low b o' hp
 ·
  simp only [List.filterMap_cons,List.nodup_cons]
  refine ⟨fun hm=>?_,h.apart⟩
  obtain ⟨o',hm⟩:=Li hm
  have:=h.lt hm
  omega
theorem Inv.addNone (h:Inv w0 M w H)(o:Obj):Inv w0 M w ((none,o)::H) :=
 ⟨h.os,h.tape,h.output,h.size,h.keep,fun b o' hp=>h.own b o' (by simpa using hp),fun b o' hp=>h.low b o' (by simpa using hp),by simpa using h.apart⟩
def Take (p:Option Nat×Obj)(H R:Heap):Prop:=List.Perm H (p::R)
theorem Take.head (p:Option Nat×Obj)(H:Heap):Take p (p::H) H:=List.Perm.refl _
theorem Take.tail {p q:Option Nat×Obj}(h:Take p H R):Take p (q::H) (q::R) :=
 (List.Perm.cons q h).trans (List.Perm.swap p q R)
theorem Take.mem {p:Option Nat×Obj}(h:Take p H R):p∈H:=(List.Perm.mem_iff h).2 (.head _)
def Pick (H' H:Heap):Prop:=∃ R ns:Heap,(∀ x,x∈ns→x.1=none)∧List.Perm (H++ns) (H'++R)
theorem Zf:Pick [] H:=⟨H,[],by simp,by simp⟩
theorem Zv (H:Heap):Pick H H:=⟨[],[],by simp,by simp⟩
theorem Zd {p:Option Nat×Obj}(h:Take p H R)(hp:Pick H' R):Pick (p::H') H:=by
 obtain ⟨S,ns,hn,hS⟩:=hp
 exact ⟨S,ns,hn,(List.Perm.append_right ns h).trans (List.Perm.cons p hS)⟩
theorem Pick.none {o:Obj}(hp:Pick H' H):Pick ((none,o)::H') H:=by
 obtain ⟨S,ns,hn,hS⟩:=hp
 refine ⟨S,(Option.none,o)::ns,fun x hx=>?_,?_⟩
 ·
  rcases List.mem_cons.1 hx with rfl | hx
  ·rfl
  ·exact hn x hx
 ·exact List.perm_middle.trans (List.Perm.cons _ hS)
theorem Lb {S:Heap}(h:List.Perm H (H'++S)):Pick H' H:=⟨S,[],by simp,by simpa using h⟩
theorem Inv.perm (h:Inv w0 M w H)(hp:List.Perm H H'):Inv w0 M w H' :=
 ⟨h.os,h.tape,h.output,h.size,h.keep,fun b o hm=>h.own b o ((List.Perm.mem_iff hp).2 hm),fun b o hm=>h.low b o ((List.Perm.mem_iff hp).2 hm),(List.Perm.nodup_iff (hp.filterMap _)).1 h.apart⟩
theorem Inv.left (h:Inv w0 M w (H++R)):Inv w0 M w H :=
 ⟨h.os,h.tape,h.output,h.size,h.keep,fun b o hm=>h.own b o (List.mem_append_left _ hm),fun b o hm=>h.low b o (List.mem_append_left _ hm),by
  have:=h.apart
  rw [List.filterMap_append] at this
  exact (List.nodup_append.1 this).1⟩
theorem Inv.nones (h:Inv w0 M w H):∀ {ns:Heap},(∀ x,x∈ns→x.1=none)→Inv w0 M w (H++ns)
 | [],_=>by simpa using h
 | (x,o)::ns,hn=>by
  have h1:=hn (x,o) (.head _)
  simp only at h1
  subst h1
  exact ((Inv.nones h (ns:=ns) (fun y hy=>hn y (.tail _ hy))).addNone o).perm List.perm_middle.symm
theorem Inv.pick (h:Inv w0 M w H)(hp:Pick H' H):Inv w0 M w H':=by
 obtain ⟨R,ns,hn,hR⟩:=hp
 exact ((h.nones hn).perm hR).left
theorem Inv.upd (h:Inv w0 M w H)(ht:Take (some b,o) H R)(h1:w'.os=w.os)(h2:w'.tape=w.tape)(h3:w'.output=w.output)(hs:w'.heap.size=w.heap.size)
    (hb:w'.heap[b]?=some o')(ho:∀ k,k≠b→w'.heap[k]?=w.heap[k]?):Inv w0 M w' ((some b,o')::R):=by
  have g:=h.perm ht
  have ga:=g.apart
  simp only [List.filterMap_cons,List.nodup_cons] at ga
  refine ⟨h1.trans h.os,h2.trans h.tape,h3.trans h.output,by rw [hs];exact h.size,fun k hk hm=>?_,fun k p hp=>?_,fun k p hp=>?_,?_⟩
  · rw [ho k ?_]
    ·exact h.keep k hk hm
    · rintro rfl
      rcases g.low k o (.head _) with hl | hl
      ·omega
      ·exact hm hl
  · rcases List.mem_cons.1 hp with e | hp
    · injection e with e1 e2
      injection e1 with e1
      subst e1;subst e2
      exact hb
    · rw [ho k ?_]
      ·exact g.own k p (.tail _ hp)
      · intro e
        exact ga.1 (e▸Lu hp)
  · rcases List.mem_cons.1 hp with e | hp
    · injection e with e1 e2
      injection e1 with e1
      subst e1
      exact g.low k o (.head _)
    ·exact g.low k p (.tail _ hp)
  ·simpa using ga
theorem Inv.join {M':List Nat}{Hm:Heap}(h:Inv w0 M w H)(hH:List.Perm H (Hm++R))(hM:∀ m,m∈M'→m∈Hm.filterMap (·.1))(g:Inv w M' w' N):Inv w0 M w' (N++R):=by
 have hp:=h.perm hH
 have ha:=hp.apart
 rw [List.filterMap_append] at ha
 obtain ⟨_,ha2,ha3⟩:=List.nodup_append.1 ha
 have hlowM:∀ m,m∈M'→w0.heap.size≤m∨m∈M:=fun m hm=>by
  obtain ⟨o,hpm⟩:=Li (hM m hm)
  exact hp.low m o (List.mem_append_left _ hpm)
 refine ⟨g.os.trans h.os,g.tape.trans h.tape,g.output.trans h.output,Nat.le_trans h.size g.size,fun k hk hm=>?_,fun k p hpm=>?_,fun k p hpm=>?_,?_⟩
 ·
  rw [g.keep k (Nat.lt_of_lt_of_le hk h.size) ?_]
  ·exact h.keep k hk hm
  ·
   intro hm'
   rcases hlowM k hm' with hl | hl
   ·omega
   ·exact hm hl
 ·
  rcases List.mem_append.1 hpm with hpm | hpm
  ·exact g.own k p hpm
  ·
   rw [g.keep k (hp.lt (List.mem_append_right _ hpm)) ?_]
   ·exact hp.own k p (List.mem_append_right _ hpm)
   ·
    intro hm'
    exact ha3 _ (hM _ hm') _ (Lu hpm) rfl
 ·
  rcases List.mem_append.1 hpm with hpm | hpm
  ·
   rcases g.low k p hpm with hl | hl
   ·exact .inl (Nat.le_trans h.size hl)
   ·exact hlowM _ hl
  ·exact hp.low k p (List.mem_append_right _ hpm)
 ·
  rw [List.filterMap_append,List.nodup_append]
  refine ⟨g.apart,ha2,fun x hx y hy e=>?_⟩
  subst e
  obtain ⟨o1,hpN⟩:=Li hx
  obtain ⟨o2,hqR⟩:=Li hy
  have hlt:=hp.lt (List.mem_append_right Hm hqR)
  rcases g.low x o1 hpN with hl | hl
  ·omega
  ·exact ha3 _ (hM _ hl) _ hy rfl
theorem Inv.join0 (h:Inv w0 M w H)(g:Inv w [] w' N):Inv w0 M w' (N++H):=h.join (Hm:=[]) (List.Perm.refl _) (by simp) g
theorem Inv.cell_own (h:Inv w0 M w H){cs:Array Value}{T:TypeId}{fr:Nat×Nat}(hm:(some b,.cells cs T fr)∈H)(off:Nat):w.cell? ⟨b,off,none⟩=cs[off]?:=by
 have:=h.own _ _ hm
 simp [World.cell?,this]
theorem Inv.frozen_own (h:Inv w0 M w H){cs:Array Value}{T:TypeId}(hm:(some b,.cells cs T (0,0))∈H)(off:Nat):w.frozen? ⟨b,off,none⟩=false:=by
 have:=h.own _ _ hm
 simp [World.frozen?,this]
theorem Inv.cell_old (h:Inv w0 M w H){a:Addr}{v:Value}(hc:w0.cell? a=some v)(hm:a.block∉M):w.cell? a=some v:=by
 have hb:a.block<w0.heap.size:=by
  unfold World.cell? at hc
  split at hc
  ·
   rename_i he
   exact (Array.getElem?_eq_some_iff.1 he).1
  ·cases hc
 have:=h.keep a.block hb hm
 unfold World.cell? at *
 rw [this]
 exact hc
end inv
structure Cx where
  P:Program
  ρ:Option Nat
  n:Nat
  D:List Deferred
  w0:World
  M:List Nat
def FW (ρ:Option Nat):Fence:={ fn:=fun _=>True,depth:=none,alive:=false,round:=ρ }
def T (C:Cx)(c:Code)(Q:Exit→Act→World→Prop)(E:Env)(H:Heap):Prop :=
  ∀ a w,Fits C.n C.D E a→Inv C.w0 C.M w H→c.wpIn (FW C.ρ) 0 C.P Q a w
def TO (C:Cx)(ops:Array Oper)(Q:Exit→Act→World→Prop)(l:List Nat)(E:Env)(H:Heap):Prop :=
  ∀ a w,Fits C.n C.D E a→Inv C.w0 C.M w H→wpOpsIn (FW C.ρ) 0 C.P ops Q l a w
def X (C:Cx)(Q:Exit→Act→World→Prop)(e:Exit)(E:Env)(H:Heap):Prop :=
  ∀ a w,Fits C.n C.D E a→Inv C.w0 C.M w H→Q e a w
def Fnc (P:Program)(f:FuncId)(args:Array Value)(w:World)(M:List Nat)(Post:Value→Heap→Prop):Prop :=
  Calls P f args w (fun e w'=>∃ v N,Post v N∧e=.returned v∧Inv w M w' N)
def We (w:World)(M:List Nat)(Post:Value→Heap→Prop):Ending→World→Prop:=fun e w'=>∃ v N,Post v N∧e=.returned v∧Inv w M w' N
theorem Fnc.mono {P:Program}{f:FuncId}{args:Array Value}{w:World}{M:List Nat}{A B:Value→Heap→Prop}(h:Fnc P f args w M A)(hab:∀ v N,A v N→B v N):Fnc P f args w M B :=
 Calls.mono h fun _ _ ⟨v,N,hA,he,hi⟩=>⟨v,N,hab v N hA,he,hi⟩
theorem callsIn_FW {ρ:Option Nat}{n:Nat}{P:Program}{f:FuncId}{args:Array Value}{w:World}{R:Ending→World→Prop}:CallsIn (FW ρ) n P f args w R↔Calls P f args w R:=by
 have:CallsIn (FW ρ) n P f args w R↔CallsIn Fence.wide n P f args w R:=Iff.rfl
 rw [this];exact callsIn_wide
section control
variable {C : Cx} {Q : Exit → Act → World → Prop} {E E' : Env} {H H' : Heap} {c x y : Code}
theorem T.weak (h:T C c Q E' H')(hE:∀ t v,find E' t=some v→find E t=some v)(hH:Pick H' H):T C c Q E H :=
 fun a w hf hi=>h a w (hf.weak hE) (hi.pick hH)
theorem T.mono {Q':Exit→Act→World→Prop}(h:T C c Q' E H)(hq:∀ e a w,Q' e a w→Q e a w):T C c Q E H :=
 fun a w hf hi=>wpIn_mono (h a w hf hi) hq
theorem T.skip (h:X C Q .normal E H):T C .skip Q E H:=fun a w hf hi=>wpIn_skip (h a w hf hi)
theorem T.ret (h:X C Q .ret E H):T C .ret Q E H:=fun a w hf hi=>wpIn_ret (h a w hf hi)
theorem T.exit {id:Nat}(h:X C Q (.exit id) E H):T C (.exit id) Q E H:=fun a w hf hi=>wpIn_exit (h a w hf hi)
theorem Zi (h:T C x (Exit.then (y.wpIn (FW C.ρ) 0 C.P Q) Q) E H):T C (.seq x y) Q E H:=fun a w hf hi=>wpIn_seq (h a w hf hi)
theorem T.block {id:Nat}(h:T C c (Exit.inBlock id Q) E H):T C (.block id c) Q E H:=fun a w hf hi=>wpIn_block (h a w hf hi)
theorem T.region {id:Nat}{ops:Array Oper}(h:TO C ops Q (List.range ops.size) E H):T C (.region id ops false) Q E H :=
 fun a w hf hi=>wpIn_region (h a w hf hi)
theorem T.cond {o:Operand}{b:Bool}(ho:ev E o=some (.bool b))(ht:b=true→T C x Q E H)(hf:b=false→T C y Q E H):T C (.cond o x y) Q E H :=
 fun a w hfit hi=>wpIn_cond_split (hfit.ev ho) (fun h=>ht h a w hfit hi) (fun h=>hf h a w hfit hi)
theorem Yz {o:Operand}{b:Bool}(ho:ev E o=some (.bool b))(hb:b=true)(ht:T C x Q E H):T C (.cond o x y) Q E H:=T.cond ho (fun _=>ht) (fun h=>by rw [hb] at h;cases h)
theorem Xl {o:Operand}{b:Bool}(ho:ev E o=some (.bool b))(hb:b=false)(hf:T C y Q E H):T C (.cond o x y) Q E H:=T.cond ho (fun h=>by rw [hb] at h;cases h) (fun _=>hf)
theorem Yx {o:Operand}{p:Prop}{hp:Decidable p}(ho:ev E o=some (.bool (@decide p hp)))(hb:p)(ht:T C x Q E H):T C (.cond o x y) Q E H:=Yz ho (decide_eq_true hb) ht
theorem Yu {o:Operand}{p:Prop}{hp:Decidable p}(ho:ev E o=some (.bool (@decide p hp)))(hb:¬p)(hf:T C y Q E H):T C (.cond o x y) Q E H:=Xl ho (decide_eq_false hb) hf
theorem Yb (h:T C y Q E H):X C (Exit.then (y.wpIn (FW C.ρ) 0 C.P Q) Q) .normal E H:=h
theorem Yc {K:Act→World→Prop}(h:X C Q .ret E H):X C (Exit.then K Q) .ret E H:=h
theorem Xk {K:Act→World→Prop}{id:Nat}(h:X C Q (.exit id) E H):X C (Exit.then K Q) (.exit id) E H:=h
theorem Yv {id:Nat}(h:X C Q .normal E H):X C (Exit.inBlock id Q) .normal E H:=h
theorem Xc {id:Nat}(h:X C Q .ret E H):X C (Exit.inBlock id Q) .ret E H:=h
theorem Vr {id:Nat}(h:X C Q .normal E H):X C (Exit.inBlock id Q) (.exit id) E H:=fun a w hf hi=>by
 simp only [Exit.inBlock,if_true];exact h a w hf hi
theorem Zb8 {id j:Nat}(hj:Nat.beq j id=false)(h:X C Q (.exit j) E H):X C (Exit.inBlock id Q) (.exit j) E H:=fun a w hf hi=>by
 have:j≠id:=by rintro rfl;simp at hj
 simp only [Exit.inBlock,if_neg this];exact h a w hf hi
end control
end Go.Acq
namespace Go.Acq
open Go Go.RowKit
section
variable {C : Cx} {Q : Exit → Act → World → Prop} {E : Env} {H : Heap} {c x y : Code}
end
end Go.Acq
namespace Go.Acq
open Go Go.RowKit
def Xi (P:Program)(t:TypeId):Bool :=
  match P.underlying t with
  | some (.struct _) | some (.array _ _) | none=>false
  | _=>(P.info? t).map (·.size)==some 1
def Ua (P:Program)(t:TypeId)(k:Nat):Bool :=
  match P.underlying t with
  | some (.struct _) | some (.array _ _)=>(P.info? t).map (·.size)==some k
  | _=>false
def Yg (P:Program)(t:TypeId):Option Nat:=(P.info? t).map (·.size)
def Vn (P:Program)(t:TypeId):Option Nat:=(P.info? t).map (·.bytes)
def Xb (P:Program)(t:TypeId):Option Value:=(P.info? t).bind (·.zero)
def Ym (P:Program)(t:TypeId):Option TypeId :=
  match P.underlying t with
  | some (.slice e)=>some e
  | _=>none
def Wk (P:Program)(s:TypeId)(f:Nat):Option Nat :=
  match P.underlying s with
  | some (.struct fs)=>(fs[f]?).bind fun g=>(P.info? g.type).bind fun i=>if i.size=0 then none else some g.offset
  | _=>none
def Lf (P:Program)(t:TypeId):Option IntKind :=
  match P.underlying t with
  | some (.int k)=>some k
  | _=>none
section types
variable {P : Program} {t e s : TypeId} {k f o : Nat} {w : World}
theorem Vg (h:Ym P t=some e):P.underlying t=some (.slice e):=by
 unfold Ym at h
 split at h
 ·injection h with h;subst h;assumption
 ·cases h
theorem Z8i {q:IntKind}(h:Lf P t=some q):P.underlying t=some (.int q):=by
 unfold Lf at h
 split at h
 ·injection h with h;subst h;assumption
 ·cases h
theorem Gy (h:Yg P t=some k):∃ i,P.info? t=some i∧i.size=k:=by
 unfold Yg at h
 cases hi:P.info? t with
 | none=>simp [hi] at h
 | some i=>exact ⟨i,rfl,by simpa [hi] using h⟩
theorem Uv (h:Yg P t=some k):(sizeOf t).run P w=.ok k w:=by
 obtain ⟨i,hi,rfl⟩:=Gy h
 simp [sizeOf,typeInfo,hi]
theorem Nw {z:Value}(h:Xb P t=some z):(zeroValue t).run P w=.ok z w:=by
 unfold Xb at h
 cases hi:P.info? t with
 | none=>simp [hi] at h
 | some i=>simp [hi] at h;simp [zeroValue,typeInfo,hi,h]
theorem Zdm (h:Xi P t=true):(isAgg t).run P w=.ok false w:=by
 unfold Xi at h
 cases hu:P.underlying t with
 | none=>simp [hu] at h
 | some d=>cases d <;> simp_all [isAgg,run_underlying hu]
theorem Z90 (h:Ua P t k=true):(isAgg t).run P w=.ok true w:=by
 unfold Ua at h
 cases hu:P.underlying t with
 | none=>simp [hu] at h
 | some d=>cases d <;> simp_all [isAgg,run_underlying hu]
theorem Z9h (h:Ua P t k=true):Yg P t=some k:=by
 unfold Ua at h
 unfold Yg
 split at h <;> simp_all
theorem Z7i (h:Xi P t=true){a:Addr}{v:Value}(hc:w.cell? a=some v):(loadVar t a).run P w=.ok v w:=by
 simp [loadVar,Zdm h,hc]
theorem Z54 (h:Ua P t k=true){a:Addr}{cs:List Value}(hk:cs.length=k)(hc:∀ j v,cs[j]?=some v→w.cell? (a.add j)=some v) :
    (loadVar t a).run P w=.ok (.agg cs.toArray) w:=by
  have hl:=run_loadCells_list (P:=P) w a cs hc
  rw [hk] at hl
  simp [loadVar,Z90 h,Uv (Z9h h),hl]
theorem Z9f (h:Wk P s f=some o)(b p:Nat):(Instr.fieldAt s (.pointer (some ⟨b,p,none⟩)) f).run P w=.ok (.pointer (some ⟨b,p+o,none⟩)) w:=by
 unfold Wk at h
 split at h
 ·
  rename_i fs hu
  cases hg:fs[f]? with
  | none=>simp [hg] at h
  | some g =>
   cases hi:P.info? g.type with
   | none=>simp [hg,hi] at h
   | some i =>
    simp only [hg,hi,Option.bind_some] at h
    by_cases hz:i.size=0
    ·simp [hz] at h
    ·
     simp [hz] at h
     subst h
     simp [Instr.fieldAt,run_underlying hu,hg,Instr.sureAddr,fieldPlace,sizeOf,typeInfo,hi,hz,Addr.add_mid]
 ·cases h
end types
theorem Inv.setRow {w0 w:World}{M:List Nat}{H R:Heap}{b:Nat}{cs cs':Array Value}{T:TypeId}{fr:Nat×Nat}(h:Inv w0 M w H)(ht:Take (some b,.cells cs T fr) H R) :
    Inv w0 M (w.setRow b cs') ((some b,.cells cs' T fr)::R):=by
  have hb:=h.own _ _ ht.mem
  refine h.upd ht rfl rfl rfl (by simp [World.setRow]) ?_ fun k hk=>?_
  ·simp only [World.setRow,Array.getElem?_modify,hb];simp
  · simp only [World.setRow, Array.getElem?_modify]
    rw [if_neg (by omega)]
section rules
variable {C : Cx} {ops : Array Oper} {Q : Exit → Act → World → Prop} {l : List Nat} {E : Env} {H R : Heap} {i d : Nat} {ty : TypeId} {pos : String} {af : Array Edge} {g : Option (Nat × Bool)}
def Zp (ops:Array Oper)(E:Env):Option (Nat×Bool)→Bool
  | none=>true
  | some (j,want) =>
    match ((ops[j]?).bind (·.dst)).bind (find E) with
    | some (.bool b)=>b==want
    | _=>false
def gdN (ops:Array Oper)(E:Env):Option (Nat×Bool)→Bool
  | none=>false
  | some (j,want) =>
    match ((ops[j]?).bind (·.dst)).bind (find E) with
    | some (.bool b)=>b != want
    | _=>false
theorem Fits.yields {n:Nat}{D:List Deferred}{a:Act}(hf:Fits n D E a){j t:Nat}{b:Bool}(hj:(ops[j]?).bind (·.dst)=some t)(ht:find E t=some (.bool b)):yielded ops a.tmps j=some b:=by
 have h:=hf.get t _ ht
 unfold yielded
 rw [hj,Option.bind_some]
 have h2:a.tmps[t]?=some (.bool b):=by
  rw [Array.getD_eq_getD_getElem?] at h
  cases hq:a.tmps[t]? with
  | none=>rw [hq] at h;simp [undef] at h
  | some u=>rw [hq] at h;simpa using h
 rw [h2]
theorem Z5x {n:Nat}{D:List Deferred}{a:Act}{o:Oper}(hf:Fits n D E a)(h:Zp ops E o.guard=true):Region.wanted o (yielded ops a.tmps)=true:=by
 unfold Region.wanted
 cases hg:o.guard with
 | none=>rfl
 | some jw =>
  obtain ⟨j,want⟩:=jw
  rw [hg] at h
  simp only [Zp] at h
  cases hj:(ops[j]?).bind (·.dst) with
  | none=>simp [hj] at h
  | some t =>
   rw [hj,Option.bind_some] at h
   cases ht:find E t with
   | none=>simp [ht] at h
   | some v =>
    rw [ht] at h
    cases v <;> simp at h
    subst h
    simp [hf.yields hj ht]
theorem Zfa {n:Nat}{D:List Deferred}{a:Act}{o:Oper}(hf:Fits n D E a)(h:gdN ops E o.guard=true):Region.wanted o (yielded ops a.tmps)=false:=by
 unfold Region.wanted
 cases hg:o.guard with
 | none=>rw [hg] at h;simp [gdN] at h
 | some jw =>
  obtain ⟨j,want⟩:=jw
  rw [hg] at h
  simp only [gdN] at h
  cases hj:(ops[j]?).bind (·.dst) with
  | none=>simp [hj] at h
  | some t =>
   rw [hj,Option.bind_some] at h
   cases ht:find E t with
   | none=>simp [ht] at h
   | some v =>
    rw [ht] at h
    cases v <;> simp at h
    simp [hf.yields hj ht,h]
theorem Ky {o:Oper}(ho:ops[i]?=some o)(hg:Zp ops E o.guard=true)(hnd:∀ c,o.op≠.defer c)
    (h:∀ a w,Fits C.n C.D E a→Inv C.w0 C.M w H→o.uponIn (FW C.ρ) 0 C.P a (wpOpsIn (FW C.ρ) 0 C.P ops Q l) Q ((execOp a.eval o).run C.P w)) :
    TO C ops Q (i::l) E H:=by
  intro a w hf hi
  have hw:Region.wanted o (yielded ops a.tmps)=true:=Z5x hf hg
  simp only [wpOpsIn,ho,hw,if_true,Oper.wpIn]
  refine ⟨fun _ _=>trivial,?_⟩
  rw [Oper.semAt_eq _ _ _ hnd]
  exact h a w hf hi
theorem Zg {o:Oper}(q0_:ops[i]?=some o∧gdN ops E o.guard=true∧o.dst=some d∧Nat.ble (d+1) C.n=true)(k:TO C ops Q l ((d,undef)::E) H):TO C ops Q (i::l) E H:=by
 obtain ⟨ho,hg,hdst,hd⟩:=q0_
 intro a w hf hi
 have hw:Region.wanted o (yielded ops a.tmps)=false:=Zfa hf hg
 simp only [wpOpsIn,ho,hw,Bool.false_eq_true,if_false]
 refine ⟨fun _ _=>trivial,?_⟩
 rw [hdst]
 exact k _ _ (hf.put hd _) hi
theorem Ya {t:Nat}{b b':Bool}(ht:find E t=some (.bool b))(hb:b=b')(k:TO C ops Q l ((t,.bool b')::E) H):TO C ops Q l E H:=by
 subst hb
 intro a w hf hi
 refine k a w ⟨hf.size,hf.defers,fun u v hu=>?_⟩ hi
 rw [Ks] at hu
 by_cases e:t=u
 ·subst e;rw [if_pos rfl] at hu;injection hu with hu;subst hu;exact hf.get t _ ht
 ·rw [if_neg e] at hu;exact hf.get u v hu
theorem Zj (h:X C Q .normal E H):TO C ops Q [] E H:=h
theorem TO.val {op:Op}{v:Value}(ho:ops[i]?=some ⟨some d,op,ty,pos,af,g⟩)(hg:Zp ops E g=true)(hd:Nat.ble (d+1) C.n=true)(hnd:∀ c,op≠.defer c)
    (hr:∀ a w,Fits C.n C.D E a→Inv C.w0 C.M w H→(execOp a.eval ⟨some d,op,ty,pos,af,g⟩).run C.P w=.ok (.value v) w)
    (k:TO C ops Q l ((d,v)::E) H):TO C ops Q (i::l) E H :=
  Ky ho hg hnd fun a w hf hi=>by
    rw [hr a w hf hi]
    exact k _ _ (hf.put hd v) hi
theorem Zc {x:Operand}{v:Value}(q0_:ops[i]?=some ⟨some d,.move x,ty,pos,af,g⟩∧Zp ops E g=true∧Nat.ble (d+1) C.n=true∧ev E x=some v)
    (k:TO C ops Q l ((d,v)::E) H):TO C ops Q (i::l) E H:=have ⟨ho,hg,hd,hx⟩:=q0_;
  TO.val ho hg hd (by simp) (fun a w hf _=>by simp [execOp,hf.ev hx]) k
theorem Zy {x:Operand}{v:Value}(q0_:ops[i]?=some ⟨some d,.assign x,ty,pos,af,g⟩∧Zp ops E g=true∧Nat.ble (d+1) C.n=true∧ev E x=some v)
    (k:TO C ops Q l ((d,v)::E) H):TO C ops Q (i::l) E H:=have ⟨ho,hg,hd,hx⟩:=q0_;
  TO.val ho hg hd (by simp) (fun a w hf _=>by simp [execOp,hf.ev hx]) k
theorem Yi {c x y:Operand}{v:Value}(q0_:ops[i]?=some ⟨some d,.pick c x y,ty,pos,af,g⟩∧Zp ops E g=true∧Nat.ble (d+1) C.n=true∧ev E c=some (.bool true)∧ev E x=some v)(k:TO C ops Q l ((d,v)::E) H):TO C ops Q (i::l) E H:=have ⟨ho,hg,hd,hc,hx⟩:=q0_;
  TO.val ho hg hd (by simp) (fun a w hf _=>by simp [execOp,hf.ev hc,hf.ev hx,asBool]) k
theorem Yl {c x y:Operand}{v:Value}(q0_:ops[i]?=some ⟨some d,.pick c x y,ty,pos,af,g⟩∧Zp ops E g=true∧Nat.ble (d+1) C.n=true∧ev E c=some (.bool false)∧ev E y=some v)(k:TO C ops Q l ((d,v)::E) H):TO C ops Q (i::l) E H:=have ⟨ho,hg,hd,hc,hx⟩:=q0_;
  TO.val ho hg hd (by simp) (fun a w hf _=>by simp [execOp,hf.ev hc,hf.ev hx,asBool]) k
def Rm:BinOp→IntKind→Int→Int→Option Value
  | .add,k,a,b=>some (.int k (k.wrap (a+b)))
  | .sub,k,a,b=>some (.int k (k.wrap (a-b)))
  | .mul,k,a,b=>some (.int k (k.wrap (a*b)))
  | .eql,_,a,b=>some (.bool (decide (a=b)))
  | .neq,_,a,b=>some (.bool (decide (a≠b)))
  | .lss,_,a,b=>some (.bool (decide (a<b)))
  | .leq,_,a,b=>some (.bool (decide (a≤b)))
  | .gtr,_,a,b=>some (.bool (decide (b<a)))
  | .geq,_,a,b=>some (.bool (decide (b≤a)))
  | _,_,_,_=>none
theorem Re {op:BinOp}{k:IntKind}{a b:Int}{v:Value}{t:TypeId}{P:Program}{w:World}(h:Rm op k a b=some v):(binOp op t (.int k a) (.int k b)).run P w=.ok v w:=by
 unfold Rm at h
 split at h <;> try (cases h;done)
 all_goals (injection h with h;subst h)
 ·simp [binOp,Op.intArith]
 ·simp [binOp,Op.intArith]
 ·simp [binOp,Op.intArith]
 ·simp only [binOp_eql];rw [Sem.run_pure];congr 2
 ·simp only [binOp_neq];rw [Sem.run_pure];congr 2;by_cases e:a=b <;> simp [e]
 ·simp [binOp,Op.intCmp]
 ·simp [binOp,Op.intCmp]
 ·simp [binOp,Op.intCmp]
 ·simp [binOp,Op.intCmp]
theorem Zr {op:BinOp}{t t2:TypeId}{x y:Operand}{k:IntKind}{p q:Int}{v:Value}
    (q0_:ops[i]?=some ⟨some d,.binOp op t x y t2,ty,pos,af,g⟩∧Zp ops E g=true∧Nat.ble (d+1) C.n=true∧ev E x=some (.int k p)∧ev E y=some (.int k q)∧Rm op k p q=some v)(kk:TO C ops Q l ((d,v)::E) H):TO C ops Q (i::l) E H:=have ⟨ho,hg,hd,hx,hy,hv⟩:=q0_;
  TO.val ho hg hd (by simp) (fun a w hf _=>by simp [execOp,hf.ev hx,hf.ev hy,eqGuard_at_int,Re hv]) kk
theorem Z3z {a:Int}(h1:-9223372036854775808≤a)(h2:a≤9223372036854775807):IntKind.i64.wrap a=a:=by
 rw [IntKind.wrap_i64];omega
theorem TO.add {t t2:TypeId}{x y:Operand}{p q:Int}
    (ho:ops[i]?=some ⟨some d,.binOp .add t x y t2,ty,pos,af,g⟩)(hg:Zp ops E g=true)(hd:Nat.ble (d+1) C.n=true)(hx:ev E x=some (.int .i64 p))(hy:ev E y=some (.int .i64 q))
    (h1:-9223372036854775808≤p+q)(h2:p+q≤9223372036854775807)(kk:TO C ops Q l ((d,.int .i64 (p+q))::E) H):TO C ops Q (i::l) E H :=
  Zr ⟨ho,hg,hd,hx,hy,(by simp only [Rm];rw [Z3z h1 h2])⟩ kk
theorem TO.sub {t t2:TypeId}{x y:Operand}{p q:Int}
    (ho:ops[i]?=some ⟨some d,.binOp .sub t x y t2,ty,pos,af,g⟩)(hg:Zp ops E g=true)(hd:Nat.ble (d+1) C.n=true)(hx:ev E x=some (.int .i64 p))(hy:ev E y=some (.int .i64 q))
    (h1:-9223372036854775808≤p-q)(h2:p-q≤9223372036854775807)(kk:TO C ops Q l ((d,.int .i64 (p-q))::E) H):TO C ops Q (i::l) E H :=
  Zr ⟨ho,hg,hd,hx,hy,(by simp only [Rm];rw [Z3z h1 h2])⟩ kk
theorem TO.rem {t t2:TypeId}{x y:Operand}{k:IntKind}{p q:Int}
    (q0_:ops[i]?=some ⟨some d,.binOp .rem t x y t2,ty,pos,af,g⟩∧Zp ops E g=true∧Nat.ble (d+1) C.n=true∧ev E x=some (.int k p)∧ev E y=some (.int k q))
    (h0:q≠0)(kk:TO C ops Q l ((d,.int k (p.tmod q))::E) H):TO C ops Q (i::l) E H:=have ⟨ho,hg,hd,hx,hy⟩:=q0_;
  TO.val ho hg hd (by simp) (fun a w hf _=>by simp [execOp,hf.ev hx,hf.ev hy,eqGuard_at_int,binOp,Op.intDiv,h0]) kk
theorem Zkv {P:Program}(w:World)(n:Nat){t:TypeId}(p q:Bool)(ht:P.underlying t=some .bool):(Op.equalIn (n+1) t (.bool p) (.bool q)).run P w=.ok (p==q) w:=by
 simp [Op.equalIn,run_underlying ht]
theorem Zcv {P:Program}(w:World)(n:Nat){t e:TypeId}(base:Option Addr)(a c m c2:Nat)(ht:P.underlying t=some (.slice e)):(Op.equalIn (n+1) t (.slice base a c) (.slice none m c2)).run P w=.ok base.isNone w:=by
 cases base <;> simp [Op.equalIn,run_underlying ht]
theorem Lm {P:Program}{w:World}{t:TypeId}{x y:Value}{r:Bool}(h:∀ n,(Op.equalIn (n+1) t x y).run P w=.ok r w):(Op.equal t x y).run P w=.ok r w:=h 9999
theorem Zdb {P:Program}{w:World}{t:TypeId}{x y:Value}{r:Bool}(h:(Op.equal t x y).run P w=.ok r w)(hb:binOp .eql t x y=(do pure (.bool (←Op.equal t x y)))) :
    (binOp .eql t x y).run P w=.ok (.bool r) w:=by rw [hb];simp [h]
theorem Zd1 {P:Program}{w:World}{t:TypeId}{x y:Value}{r:Bool}(h:(Op.equal t x y).run P w=.ok r w)(hb:binOp .neq t x y=(do pure (.bool (!(←Op.equal t x y))))) :
    (binOp .neq t x y).run P w=.ok (.bool (!r)) w:=by rw [hb];simp [h]
theorem TO.not {t:TypeId}{x:Operand}{b:Bool}(q0_:ops[i]?=some ⟨some d,.unOp .not t x,ty,pos,af,g⟩∧Zp ops E g=true∧Nat.ble (d+1) C.n=true∧ev E x=some (.bool b))(kk:TO C ops Q l ((d,.bool (!b))::E) H):TO C ops Q (i::l) E H:=have ⟨ho,hg,hd,hx⟩:=q0_;
  TO.val ho hg hd (by simp) (fun a w hf _=>by simp [execOp,hf.ev hx,Op.unary]) kk
theorem TO.neg {t:TypeId}{x:Operand}{k:IntKind}{p:Int}(ho:ops[i]?=some ⟨some d,.unOp .neg t x,ty,pos,af,g⟩)(hg:Zp ops E g=true)(hd:Nat.ble (d+1) C.n=true)
    (hx:ev E x=some (.int k p))(kk:TO C ops Q l ((d,.int k (k.wrap (-p)))::E) H):TO C ops Q (i::l) E H :=
  TO.val ho hg hd (by simp) (fun a w hf _=>by simp [execOp,hf.ev hx,Op.unary,Op.intArith]) kk
theorem TO.conv {s t:TypeId}{x:Operand}{k q:IntKind}{p:Int}(ho:ops[i]?=some ⟨some d,.convert s t x,ty,pos,af,g⟩)(hg:Zp ops E g=true)(hd:Nat.ble (d+1) C.n=true)
    (hx:ev E x=some (.int k p))(hs:(C.P.underlying s).isSome=true)(ht:Lf C.P t=some q)(kk:TO C ops Q l ((d,.int q (q.wrap p))::E) H):TO C ops Q (i::l) E H :=
  TO.val ho hg hd (by simp) (fun a w hf _=>by
    have hu:=Z8i ht
    cases hs':C.P.underlying s with
    | none=>simp [hs'] at hs
    | some ds=>simp [execOp,hf.ev hx,convert,run_underlying hs',run_underlying hu,Conv.intToInt]) kk
theorem Zfd {s t:TypeId}{x:Operand}{k q:IntKind}{p:Int}(q0_:ops[i]?=some ⟨some d,.convert s t x,ty,pos,af,g⟩∧Zp ops E g=true∧Nat.ble (d+1) C.n=true∧ev E x=some (.int k p))(hs:(C.P.underlying s).isSome=true)(ht:Lf C.P t=some q)(hw:q.wrap p=p)(kk:TO C ops Q l ((d,.int q p)::E) H):TO C ops Q (i::l) E H:=have ⟨ho,hg,hd,hx⟩:=q0_;
  TO.conv ho hg hd hx hs ht (by rw [hw];exact kk)
theorem TO.extract {x:Operand}{n:Nat}{vs:Array Value}{v:Value}(q0_:ops[i]?=some ⟨some d,.extract x n,ty,pos,af,g⟩∧Zp ops E g=true∧Nat.ble (d+1) C.n=true∧ev E x=some (.tuple vs)∧vs[n]?=some v)(kk:TO C ops Q l ((d,v)::E) H):TO C ops Q (i::l) E H:=have ⟨ho,hg,hd,hx,hv⟩:=q0_;
  TO.val ho hg hd (by simp) (fun a w hf _=>by simp [execOp,hf.ev hx,Instr.extract,hv]) kk
def evs (E:Env):List Operand→Option (List Value)
  | []=>some []
  | x::xs=>match ev E x,evs E xs with
    | some v,some vs=>some (v::vs)
    | _,_=>none
theorem Gf {n:Nat}{D:List Deferred}{a:Act}(hfit:Fits n D E a):∀ {xs:List Operand} {ys:List Value},evs E xs=some ys→xs.map a.eval=ys
 | [],ys,h=>by simp [evs] at h;subst h;rfl
 | x::xs,ys,h=>by
  simp only [evs] at h
  cases hx:ev E x with
  | none=>simp [hx] at h
  | some v =>
   cases hxs:evs E xs with
   | none=>simp [hx,hxs] at h
   | some vs=>simp [hx,hxs] at h;subst h;simp [hfit.ev hx,Gf hfit hxs]
def evp (E:Env):List (Nat×Operand)→Option (List (Nat×Value))
  | []=>some []
  | (j,x)::xs=>match ev E x,evp E xs with
    | some v,some vs=>some ((j,v)::vs)
    | _,_=>none
theorem Zal {n:Nat}{D:List Deferred}{a:Act}(hfit:Fits n D E a):∀ {xs:List (Nat×Operand)} {ys:List (Nat×Value)},evp E xs=some ys→xs.map (fun p=>(p.1,a.eval p.2))=ys
 | [],ys,h=>by simp [evp] at h;subst h;rfl
 | (j,x)::xs,ys,h=>by
  simp only [evp] at h
  cases hx:ev E x with
  | none=>simp [hx] at h
  | some v =>
   cases hxs:evp E xs with
   | none=>simp [hx,hxs] at h
   | some vs=>simp [hx,hxs] at h;subst h;simp [hfit.ev hx,Zal hfit hxs]
theorem TO.makeFunc {f:Fn}{fs cs:Array Operand}{vs us:List Value}(q0_:ops[i]?=some ⟨some d,.makeFunc f fs cs,ty,pos,af,g⟩∧Zp ops E g=true∧Nat.ble (d+1) C.n=true∧evs E fs.toList=some vs∧evs E cs.toList=some us)(kk:TO C ops Q l ((d,.func f vs.toArray us.toArray)::E) H):TO C ops Q (i::l) E H:=have ⟨ho,hg,hd,hf,hc⟩:=q0_;
  TO.val ho hg hd (by simp) (fun a w hfit _=>by
    have e1:fs.map a.eval=vs.toArray:=by apply Array.ext';simpa using Gf hfit hf
    have e2:cs.map a.eval=us.toArray:=by apply Array.ext';simpa using Gf hfit hc
    simp [execOp,Instr.makeFunc,e1,e2]) kk
theorem TO.fieldAddr {s:TypeId}{x:Operand}{f o b p:Nat}(ho:ops[i]?=some ⟨some d,.fieldAddr s x f,ty,pos,af,g⟩)(hg:Zp ops E g=true)(hd:Nat.ble (d+1) C.n=true)
    (hx:ev E x=some (.pointer (some ⟨b,p,none⟩)))(hT:Wk C.P s f=some o)(kk:TO C ops Q l ((d,.pointer (some ⟨b,p+o,none⟩))::E) H):TO C ops Q (i::l) E H :=
  TO.val ho hg hd (by simp) (fun a w hf _=>by simp [execOp,hf.ev hx,Z9f hT]) kk
theorem Zs {s:TypeId}{x:Operand}{f o b:Nat}(q0_:ops[i]?=some ⟨some d,.fieldAddr s x f,ty,pos,af,g⟩∧Zp ops E g=true∧Nat.ble (d+1) C.n=true∧ev E x=some (.pointer (some ⟨b,0,none⟩)))(hT:Wk C.P s f=some o)(kk:TO C ops Q l ((d,.pointer (some ⟨b,o,none⟩))::E) H):TO C ops Q (i::l) E H:=have ⟨ho,hg,hd,hx⟩:=q0_;
  TO.fieldAddr ho hg hd hx hT (by rw [Nat.zero_add];exact kk)
theorem TO.new {op:Op}{o:Obj}(v:Nat→Value)(ho:ops[i]?=some ⟨some d,op,ty,pos,af,g⟩)(hg:Zp ops E g=true)(hd:Nat.ble (d+1) C.n=true)(hnd:∀ c,op≠.defer c)
    (hr:∀ a w,Fits C.n C.D E a→Inv C.w0 C.M w H→(execOp a.eval ⟨some d,op,ty,pos,af,g⟩).run C.P w=.ok (.value (v w.heap.size)) (w.alloc o))
    (k:∀ b,TO C ops Q l ((d,v b)::E) ((some b,o)::H)):TO C ops Q (i::l) E H :=
  Ky ho hg hnd fun a w hf hi=>by
    rw [hr a w hf hi]
    exact k _ _ _ (hf.put hd _) (hi.alloc o)
theorem TO.box {t:TypeId}{x:Operand}{v:Value}(q0_:ops[i]?=some ⟨some d,.box t x,ty,pos,af,g⟩∧Zp ops E g=true∧Nat.ble (d+1) C.n=true∧ev E x=some v)
    (k:∀ b,TO C ops Q l ((d,.pointer (some ⟨b,0,none⟩))::E) ((some b,.cells v.cells t (0,0))::H)):TO C ops Q (i::l) E H:=have ⟨ho,hg,hd,hx⟩:=q0_;
  TO.new (fun b=>.pointer (some ⟨b,0,none⟩)) ho hg hd (by simp) (fun a w hf _=>by simp [execOp,hf.ev hx,Instr.box,newVar,newRow]) k
theorem Xz {t:TypeId}{x:Operand}{cs:Array Value}(q0_:ops[i]?=some ⟨some d,.box t x,ty,pos,af,g⟩∧Zp ops E g=true∧Nat.ble (d+1) C.n=true∧ev E x=some (.agg cs))
    (k:∀ b,TO C ops Q l ((d,.pointer (some ⟨b,0,none⟩))::E) ((some b,.cells cs t (0,0))::H)):TO C ops Q (i::l) E H:=have ⟨ho,hg,hd,hx⟩:=q0_;TO.box ⟨ho,hg,hd,hx⟩ k
theorem TO.alloc {t:TypeId}{z:Value}(q0_:ops[i]?=some ⟨some d,.alloc t,ty,pos,af,g⟩∧Zp ops E g=true∧Nat.ble (d+1) C.n=true)(hz:Xb C.P t=some z)
    (k:∀ b,TO C ops Q l ((d,.pointer (some ⟨b,0,none⟩))::E) ((some b,.cells z.cells t (0,0))::H)):TO C ops Q (i::l) E H:=have ⟨ho,hg,hd⟩:=q0_;
  TO.new (fun b=>.pointer (some ⟨b,0,none⟩)) ho hg hd (by simp) (fun a w hf _=>by simp [execOp,Instr.alloc,Nw hz,newVar,newRow]) k
theorem Wb {t:TypeId}{cs:Array Value}(q0_:ops[i]?=some ⟨some d,.alloc t,ty,pos,af,g⟩∧Zp ops E g=true∧Nat.ble (d+1) C.n=true)(hz:Xb C.P t=some (.agg cs))
    (k:∀ b,TO C ops Q l ((d,.pointer (some ⟨b,0,none⟩))::E) ((some b,.cells cs t (0,0))::H)):TO C ops Q (i::l) E H:=have ⟨ho,hg,hd⟩:=q0_;TO.alloc ⟨ho,hg,hd⟩ hz k
theorem TO.build {t:TypeId}{ps:Array (Nat×Operand)}{vs:List (Nat×Value)}{cs:Array Value}(ho:ops[i]?=some ⟨some d,.build t ps,ty,pos,af,g⟩)(hg:Zp ops E g=true)(hd:Nat.ble (d+1) C.n=true)
    (hx:evp E ps.toList=some vs)(hb:C.P.built t vs=some cs)
    (kk:TO C ops Q l ((d,.agg cs)::E) H):TO C ops Q (i::l) E H :=
  TO.val ho hg hd (by simp) (fun a w hf _=>by
    have e1:(ps.map (fun p=>(p.1,a.eval p.2))).toList=vs:=by simpa using Zal hf hx
    have:=run_build (P:=C.P) w t (ps.map (fun p=>(p.1,a.eval p.2))) cs (by rw [e1];exact hb)
    simp [execOp,this]) kk
theorem Zfw {t e:TypeId}{x y:Operand}{cs:List Value}{k:IntKind}{p:Int}{n s:Nat}{vs:List Value}(ho:ops[i]?=some ⟨some d,.index t x y,ty,pos,af,g⟩)(hg:Zp ops E g=true)(hd:Nat.ble (d+1) C.n=true)
    (hx:ev E x=some (.agg cs.toArray))(hy:ev E y=some (.int k p))(hT:C.P.underlying t=some (.array n e))(hs:Ua C.P e s=true)(h0:0≤p)(h1:p<n)(hv:(cs.drop (p.toNat*s)).take s=vs)
    (kk:TO C ops Q l ((d,.agg vs.toArray)::E) H):TO C ops Q (i::l) E H :=
  TO.val ho hg hd (by simp) (fun a w hf _=>by
    simp [execOp,hf.ev hx,hf.ev hy,Instr.index,asIntOf,run_underlying hT,h0,h1,Uv (Z9h hs),part,Z90 hs,hv]) kk
def setCells:List Value→Nat→List Value→List Value
  | z,_,[]=>z
  | z,o,v::vs=>setCells (z.set o v) (o+1) vs
def Xo (offs:List Nat):List Value→List (Nat×Value)→List Value
  | z,[]=>z
  | z,(j,v)::ps=>Xo offs (setCells z (offs.getD j 0) v.cells.toList) ps
theorem Vj {t:TypeId}{ps:Array (Nat×Operand)}{vs:List (Nat×Value)}{cs:List Value}(z:List Value)(offs:List Nat)(q0_:ops[i]?=some ⟨some d,.build t ps,ty,pos,af,g⟩∧Zp ops E g=true∧Nat.ble (d+1) C.n=true∧evp E ps.toList=some vs)(_hcs:Xo offs z vs=cs)(hb:C.P.built t vs=some cs.toArray)
    (kk:TO C ops Q l ((d,.agg cs.toArray)::E) H):TO C ops Q (i::l) E H:=have ⟨ho,hg,hd,hx⟩:=q0_;TO.build ho hg hd hx hb kk
end rules
end Go.Acq
namespace Go.Acq
open Go Go.RowKit
section rules
variable {C : Cx} {ops : Array Oper} {Q : Exit → Act → World → Prop} {l : List Nat} {E : Env} {H R : Heap} {i d : Nat} {ty : TypeId} {pos : String} {af : Array Edge} {g : Option (Nat × Bool)}
theorem Z0g {id:Nat}{ll:List Nat}(hl:List.range ops.size=ll)(h:TO C ops Q ll E H):T C (.region id ops false) Q E H:=T.region (by rw [hl];exact h)
theorem TO.load {t:TypeId}{x:Operand}{ad:Addr}{v:Value}(ho:ops[i]?=some ⟨some d,.load t x,ty,pos,af,g⟩)(hg:Zp ops E g=true)(hd:Nat.ble (d+1) C.n=true)
    (hx:ev E x=some (.pointer (some ad)))(hT:Xi C.P t=true)(hc:∀ w,Inv C.w0 C.M w H→w.cell? ad=some v)
    (kk:TO C ops Q l ((d,v)::E) H):TO C ops Q (i::l) E H :=
  TO.val ho hg hd (by simp) (fun a w hf hi=>by simp [execOp,hf.ev hx,Instr.loadAt,Instr.sureAddr,Z7i hT (hc w hi)]) kk
theorem Zt {t T':TypeId}{x:Operand}{b o:Nat}{cs:Array Value}{fr:Nat×Nat}{v:Value}(q0_:ops[i]?=some ⟨some d,.load t x,ty,pos,af,g⟩∧Zp ops E g=true∧Nat.ble (d+1) C.n=true∧ev E x=some (.pointer (some ⟨b,o,none⟩)))(hT:Xi C.P t=true)(hm:(some b,Obj.cells cs T' fr)∈H)(hv:cs[o]?=some v)
    (kk:TO C ops Q l ((d,v)::E) H):TO C ops Q (i::l) E H:=have ⟨ho,hg,hd,hx⟩:=q0_;
  TO.load ho hg hd hx hT (fun w hi=>by rw [hi.cell_own hm];exact hv) kk
theorem Z4f {t:TypeId}{x:Operand}{ad:Addr}{k:Nat}{cs:List Value}(ho:ops[i]?=some ⟨some d,.load t x,ty,pos,af,g⟩)(hg:Zp ops E g=true)(hd:Nat.ble (d+1) C.n=true)
    (hx:ev E x=some (.pointer (some ad)))(hT:Ua C.P t k=true)(hk:cs.length=k)(hc:∀ w,Inv C.w0 C.M w H→∀ j v,cs[j]?=some v→w.cell? (ad.add j)=some v)
    (kk:TO C ops Q l ((d,.agg cs.toArray)::E) H):TO C ops Q (i::l) E H :=
  TO.val ho hg hd (by simp) (fun a w hf hi=>by simp [execOp,hf.ev hx,Instr.loadAt,Instr.sureAddr,Z54 hT hk (hc w hi)]) kk
theorem Xj {t T':TypeId}{x:Operand}{b k:Nat}{cs:List Value}{fr:Nat×Nat}(q0_:ops[i]?=some ⟨some d,.load t x,ty,pos,af,g⟩∧Zp ops E g=true∧Nat.ble (d+1) C.n=true∧ev E x=some (.pointer (some ⟨b,0,none⟩)))(hT:Ua C.P t k=true)(hm:(some b,Obj.cells cs.toArray T' fr)∈H)(hk:cs.length=k)
    (kk:TO C ops Q l ((d,.agg cs.toArray)::E) H):TO C ops Q (i::l) E H:=have ⟨ho,hg,hd,hx⟩:=q0_;
  Z4f ho hg hd hx hT hk (fun w hi j v hv=>by rw [Addr.add_mid,Nat.zero_add,hi.cell_own hm];simpa using hv) kk
theorem Z37 {t T':TypeId}{x y:Operand}{b o:Nat}{cs cs':Array Value}{v:Value}{vs:List Value}(ho:ops[i]?=some ⟨none,.store t x y,ty,pos,af,g⟩)(hg:Zp ops E g=true)
    (hx:ev E x=some (.pointer (some ⟨b,o,none⟩)))(hy:ev E y=some v)(ht:Take (some b,.cells cs T' (0,0)) H R)
    (hv:v.cells.toList=vs)(hs:Yg C.P t=some vs.length)(h1:∀ u,u∈vs→u.oneCell'=true)(hfit:o+vs.length≤cs.size)
    (hcs:(cs.toList.take o++vs++cs.toList.drop (o+vs.length)).toArray=cs')
    (kk:TO C ops Q l E ((some b,.cells cs' T' (0,0))::R)):TO C ops Q (i::l) E H :=
  Ky ho hg (by simp) fun a w hf hi=>by
    have hb:=hi.own _ _ ht.mem
    have hst:=run_storeCells_at C.P b o T' vs 0 cs w hb (by simpa using hfit) h1
    simp only [Nat.add_zero] at hst
    rw [hcs] at hst
    have hsz:v.cells.size=vs.length:=by rw [←hv,Array.length_toList]
    have:(execOp a.eval ⟨none,.store t x y,ty,pos,af,g⟩).run C.P w=.ok .skip (w.setRow b cs'):=by
      simp [execOp,hf.ev hx,hf.ev hy,Instr.storeAt,Instr.sureAddr,storeVar,Uv hs,hsz,hv,hst]
    rw [this]
    exact kk _ _ (hf.putNone _) (hi.setRow ht)
theorem Zfi {α:Type}(xs:List α)(o:Nat)(v:α)(h:o<xs.length):xs.take o++[v]++xs.drop (o+1)=xs.set o v:=by
 rw [List.set_eq_take_append_cons_drop,if_pos h];simp
theorem Zkh {t T':TypeId}{x y:Operand}{b o:Nat}{cs:Array Value}{v:Value}(ho:ops[i]?=some ⟨none,.store t x y,ty,pos,af,g⟩)(hg:Zp ops E g=true)
    (hx:ev E x=some (.pointer (some ⟨b,o,none⟩)))(hy:ev E y=some v)(ht:Take (some b,.cells cs T' (0,0)) H R)
    (hs:Yg C.P t=some 1)(h1:v.oneCell'=true)(hfit:Nat.ble (o+1) cs.size=true)
    (kk:TO C ops Q l E ((some b,.cells (cs.setIfInBounds o v) T' (0,0))::R)):TO C ops Q (i::l) E H:=by
  have hfit':o<cs.size:=Nat.le_of_ble_eq_true hfit
  have hc:v.cells=#[v]:=by cases v <;> first | rfl | cases h1
  refine Z37 (vs:=[v]) ho hg hx hy ht (by rw [hc]) hs (fun u hu=>by simp at hu;subst hu;exact h1) (by simp;omega) ?_ kk
  apply Array.ext'
  simp only [List.length_singleton]
  rw [Zfi cs.toList o v (by simpa using hfit')]
  simp
theorem Zhh {t T':TypeId}{x y:Operand}{b o:Nat}{cs:List Value}{v:Value}(ho:ops[i]?=some ⟨none,.store t x y,ty,pos,af,g⟩)(hg:Zp ops E g=true)
    (hx:ev E x=some (.pointer (some ⟨b,o,none⟩)))(hy:ev E y=some v)(ht:Take (some b,.cells cs.toArray T' (0,0)) H R)
    (hs:Yg C.P t=some 1)(h1:v.oneCell'=true)(hfit:Nat.ble (o+1) cs.length=true)
    (kk:TO C ops Q l E ((some b,.cells (cs.set o v).toArray T' (0,0))::R)):TO C ops Q (i::l) E H :=
  Zkh ho hg hx hy ht hs h1 (by simpa using hfit) (by simpa using kk)
theorem Xp {t T':TypeId}{x y:Operand}{b o:Nat}{cs cs':List Value}{v:Value}(q0_:ops[i]?=some ⟨none,.store t x y,ty,pos,af,g⟩∧Zp ops E g=true∧ev E x=some (.pointer (some ⟨b,o,none⟩))∧ev E y=some v)(ht:Take (some b,.cells cs.toArray T' (0,0)) H R)
    (hs:Yg C.P t=some 1)(q1_:v.oneCell'=true∧Nat.ble (o+1) cs.length=true∧cs.set o v=cs')
    (kk:TO C ops Q l E ((some b,.cells cs'.toArray T' (0,0))::R)):TO C ops Q (i::l) E H:=have ⟨ho,hg,hx,hy⟩:=q0_;have ⟨h1,hfit,hcs⟩:=q1_;
  Zhh ho hg hx hy ht hs h1 hfit (by rw [hcs];exact kk)
theorem Xx {t T':TypeId}{x y:Operand}{b k:Nat}{cs vs:List Value}(q0_:ops[i]?=some ⟨none,.store t x y,ty,pos,af,g⟩∧Zp ops E g=true∧ev E x=some (.pointer (some ⟨b,0,none⟩))∧ev E y=some (.agg vs.toArray))(ht:Take (some b,.cells cs.toArray T' (0,0)) H R)
    (hs:Yg C.P t=some k)(q1_:vs.length=k∧cs.length=k∧vs.all (·.oneCell')=true)
    (kk:TO C ops Q l E ((some b,.cells vs.toArray T' (0,0))::R)):TO C ops Q (i::l) E H:=have ⟨ho,hg,hx,hy⟩:=q0_;have ⟨hk,hl,h1⟩:=q1_;
  Z37 (vs:=vs) ho hg hx hy ht (by simp [Value.cells]) (by rw [hk];exact hs) (fun u hu=>List.all_eq_true.1 h1 u hu) (by simp;omega) (by
    simp [List.drop_eq_nil_of_le (show cs.length≤vs.length by omega)]) kk
abbrev arr {α:Type}(f:α→List Value)(xs:List α)(j:List Value):List Value:=xs.flatMap f++j
abbrev intC (k:IntKind)(x:Int):List Value:=[.int k x]
abbrev boolC (b:Bool):List Value:=[.bool b]
theorem Kn {α:Type}{f:α→List Value}{s:Nat}(hf:∀ x,(f x).length=s):∀ xs:List α,(xs.flatMap f).length=xs.length*s
 | []=>by simp
 | x::xs=>by rw [List.flatMap_cons,List.length_append,hf,Kn hf xs,List.length_cons,Nat.add_mul];omega
theorem Zar {α:Type}{f:α→List Value}{s:Nat}(hf:∀ x,(f x).length=s)(dflt:α):∀ (xs:List α) (o c:Nat),o<xs.length→c<s→(xs.flatMap f)[o*s+c]?=(f (xs.getD o dflt))[c]?
 | [],o,c,h,_=>by simp at h
 | x::xs,0,c,_,hc=>by
  rw [List.flatMap_cons,Nat.zero_mul,Nat.zero_add,List.getElem?_append_left (by rw [hf];exact hc)]
  rfl
 | x::xs,o+1,c,h,hc=>by
  rw [List.flatMap_cons,List.getElem?_append_right (by rw [hf,Nat.add_mul];omega),hf]
  have:(o+1)*s+c-s=o*s+c:=by rw [Nat.add_mul];omega
  rw [this,Zar hf dflt xs o c (by simpa using h) hc]
  rfl
theorem Z4i {α:Type}{f:α→List Value}{s:Nat}(hf:∀ x,(f x).length=s)(dflt:α)(xs:List α)(j:List Value)(o c:Nat)(h:o<xs.length)(hc:c<s) :
    (arr f xs j)[o*s+c]?=(f (xs.getD o dflt))[c]?:=by
  unfold arr
  rw [List.getElem?_append_left,Zar hf dflt xs o c h hc]
  rw [Kn hf]
  have:(o+1)*s≤xs.length*s:=Nat.mul_le_mul_right s h
  rw [Nat.add_mul] at this
  omega
theorem Z4r {α:Type}{f:α→List Value}{s:Nat}(hf:∀ x,(f x).length=s)(v:α)(j:List Value):∀ (xs:List α) (o:Nat),o<xs.length →
    (arr f xs j).take (o*s)++f v++(arr f xs j).drop (o*s+(f v).length)=arr f (xs.set o v) j
  | [],o,h=>by simp at h
  | x::xs,0,_=>by
    simp only [arr,List.flatMap_cons,Nat.zero_mul,List.take_zero,List.nil_append,Nat.zero_add,List.set_cons_zero,List.append_assoc]
    rw [hf,←hf x,List.drop_left]
  | x::xs,o+1,h=>by
    have ih:=Z4r hf v j xs o (by simpa using h)
    simp only [arr,List.flatMap_cons,List.append_assoc,List.set_cons_succ] at ih ⊢
    rw [←ih]
    have e:(o+1)*s=(f x).length+o*s:=by rw [hf,Nat.add_mul];omega
    rw [e,List.take_length_add_append,Nat.add_assoc,List.drop_length_add_append]
    simp [List.append_assoc]
theorem TO.ldI {t T':TypeId}{x:Operand}{b o:Nat}{k:IntKind}{xs:List Int}{j:List Value}{fr:Nat×Nat}(ho:ops[i]?=some ⟨some d,.load t x,ty,pos,af,g⟩)(hg:Zp ops E g=true)(hd:Nat.ble (d+1) C.n=true)
    (hx:ev E x=some (.pointer (some ⟨b,o,none⟩)))(hT:Xi C.P t=true)(hm:(some b,Obj.cells (arr (intC k) xs j).toArray T' fr)∈H)(hv:o<xs.length)
    (kk:TO C ops Q l ((d,.int k (xs.getD o 0))::E) H):TO C ops Q (i::l) E H :=
  Zt ⟨ho,hg,hd,hx⟩ hT hm (by
    have:=Z4i (f:=intC k) (s:=1) (fun _=>rfl) 0 xs j o 0 hv (by omega)
    simpa using this) kk
theorem TO.stI {t T':TypeId}{x y:Operand}{b o:Nat}{k:IntKind}{v:Int}{xs:List Int}{j:List Value}(ho:ops[i]?=some ⟨none,.store t x y,ty,pos,af,g⟩)(hg:Zp ops E g=true)
    (hx:ev E x=some (.pointer (some ⟨b,o,none⟩)))(hy:ev E y=some (.int k v))(ht:Take (some b,.cells (arr (intC k) xs j).toArray T' (0,0)) H R)
    (hs:Yg C.P t=some 1)(hv:o<xs.length)
    (kk:TO C ops Q l E ((some b,.cells (arr (intC k) (xs.set o v) j).toArray T' (0,0))::R)):TO C ops Q (i::l) E H:=by
  refine Z37 (vs:=[.int k v]) ho hg hx hy ht rfl hs (fun u hu=>by simp at hu;subst hu;rfl) (by simp [Kn (f:=intC k) (s:=1) (fun _=>rfl)];omega) ?_ kk
  have:=Z4r (f:=intC k) (s:=1) (fun _=>rfl) v j xs o hv
  simpa using this
theorem TO.stB {t T':TypeId}{x y:Operand}{b o:Nat}{v:Bool}{xs:List Bool}{j:List Value}(ho:ops[i]?=some ⟨none,.store t x y,ty,pos,af,g⟩)(hg:Zp ops E g=true)
    (hx:ev E x=some (.pointer (some ⟨b,o,none⟩)))(hy:ev E y=some (.bool v))(ht:Take (some b,.cells (arr boolC xs j).toArray T' (0,0)) H R)
    (hs:Yg C.P t=some 1)(hv:o<xs.length)
    (kk:TO C ops Q l E ((some b,.cells (arr boolC (xs.set o v) j).toArray T' (0,0))::R)):TO C ops Q (i::l) E H:=by
  refine Z37 (vs:=[.bool v]) ho hg hx hy ht rfl hs (fun u hu=>by simp at hu;subst hu;rfl) (by simp [Kn (f:=boolC) (s:=1) (fun _=>rfl)];omega) ?_ kk
  have:=Z4r (f:=boolC) (s:=1) (fun _=>rfl) v j xs o hv
  simpa using this
def ea (base:Option Addr)(n:Nat):Addr:=(base.getD ⟨0,0,none⟩).add n
theorem Z87 {t e:TypeId}{x y:Operand}{base:Option Addr}{n c s:Nat}{k:IntKind}{p:Int}(ho:ops[i]?=some ⟨some d,.indexAddr t x y,ty,pos,af,g⟩)(hg:Zp ops E g=true)(hd:Nat.ble (d+1) C.n=true)
    (hx:ev E x=some (.slice base n c))(hy:ev E y=some (.int k p))(ht:Ym C.P t=some e)(hs:Yg C.P e=some s)(hb:base=none→n=0)(h0:0≤p)(h1:p<n)
    (kk:TO C ops Q l ((d,.pointer (some (ea base (p.toNat*s))))::E) H):TO C ops Q (i::l) E H :=
  TO.val ho hg hd (by simp) (fun a w hf hi=>by
    cases base with
    | none=>exact absurd h1 (by simp [hb rfl];omega)
    | some b =>
      have hu:=Vg ht
      simp [execOp,hf.ev hx,hf.ev hy,Instr.indexAt,asIntOf,run_underlying hu,h0,h1,Uv hs,ea]) kk
theorem TO.index {t e:TypeId}{x y:Operand}{b o n c s:Nat}{k:IntKind}{p:Int}(ho:ops[i]?=some ⟨some d,.indexAddr t x y,ty,pos,af,g⟩)(hg:Zp ops E g=true)(hd:Nat.ble (d+1) C.n=true)
    (hx:ev E x=some (.slice (some ⟨b,o,none⟩) n c))(hy:ev E y=some (.int k p))(ht:Ym C.P t=some e)(hs:Yg C.P e=some s)(h0:0≤p)(h1:p<n)
    (kk:TO C ops Q l ((d,.pointer (some ⟨b,o+p.toNat*s,none⟩))::E) H):TO C ops Q (i::l) E H :=
  Z87 ho hg hd hx hy ht hs (by simp) h0 h1 (by simpa [ea,Addr.add_mid] using kk)
theorem Zdj {t e:TypeId}{x y:Operand}{b n c s:Nat}{k:IntKind}{p:Int}(ho:ops[i]?=some ⟨some d,.indexAddr t x y,ty,pos,af,g⟩)(hg:Zp ops E g=true)(hd:Nat.ble (d+1) C.n=true)
    (hx:ev E x=some (.slice (some ⟨b,0,none⟩) n c))(hy:ev E y=some (.int k p))(ht:Ym C.P t=some e)(hs:Yg C.P e=some s)(h0:0≤p)(h1:p<n)
    (kk:TO C ops Q l ((d,.pointer (some ⟨b,p.toNat*s,none⟩))::E) H):TO C ops Q (i::l) E H :=
  TO.index ho hg hd hx hy ht hs h0 h1 (by rw [Nat.zero_add];exact kk)
theorem Zj7 {t e:TypeId}{x y:Operand}{b n c:Nat}{k:IntKind}{p:Int}(ho:ops[i]?=some ⟨some d,.indexAddr t x y,ty,pos,af,g⟩)(hg:Zp ops E g=true)(hd:Nat.ble (d+1) C.n=true)
    (hx:ev E x=some (.slice (some ⟨b,0,none⟩) n c))(hy:ev E y=some (.int k p))(ht:Ym C.P t=some e)(hs:Yg C.P e=some 1)(h0:0≤p)(h1:p<n)
    (kk:TO C ops Q l ((d,.pointer (some ⟨b,p.toNat,none⟩))::E) H):TO C ops Q (i::l) E H :=
  Zdj ho hg hd hx hy ht hs h0 h1 (by rw [Nat.mul_one];exact kk)
theorem Zfp {t e:TypeId}{x y:Operand}{base:Option Addr}{n c s:Nat}{k:IntKind}{p:Int}(ho:ops[i]?=some ⟨some d,.slice t x none (some y) none,ty,pos,af,g⟩)(hg:Zp ops E g=true)(hd:Nat.ble (d+1) C.n=true)
    (hx:ev E x=some (.slice base n c))(hy:ev E y=some (.int k p))(ht:Ym C.P t=some e)(hs:Yg C.P e=some s)(h0:0≤p)(h1:p≤c)
    (kk:TO C ops Q l ((d,.slice base p.toNat c)::E) H):TO C ops Q (i::l) E H :=
  TO.val ho hg hd (by simp) (fun a w hf hi=>by
    have hu:=Vg ht
    have hb:∀ b:Option Addr,Option.map (fun x=>x.add 0) b=b:=fun b=>by cases b <;> simp [Addr.add]
    simp [execOp,hf.ev hx,hf.ev hy,Instr.sliceAt,Instr.slice,Instr.sliceBounds,Instr.sliceBound,asIntOf,run_underlying hu,h0,h1,Uv hs,hb]) kk
structure RO {α:Type}(w:World)(f:α→List Value)(s:Nat)(base:Option Addr)(n:Nat)(xs:List α):Prop where
  len:xs.length=n
  nil:base=none→n=0
  wide:∀ x,(f x).length=s
  cell:∀ o c,o<xs.length→c<s→∀ x,xs[o]?=some x→w.cell? (ea base (o*s+c))=(f x)[c]?
section ro
variable {α : Type} {w w0 : World} {f : α → List Value} {s n : Nat} {base : Option Addr} {xs : List α} {M : List Nat}
theorem RO.at (h:RO w f s base n xs)(dflt:α){o c:Nat}(ho:o<xs.length)(hc:c<s):w.cell? (ea base (o*s+c))=(f (xs.getD o dflt))[c]? :=
 h.cell o c ho hc _ (by rw [List.getElem?_eq_getElem ho,List.getD_eq_getElem?_getD,List.getElem?_eq_getElem ho];rfl)
theorem Zdu (w:World)(hf:∀ x,(f x).length=s):RO w f s none 0 ([]:List α):=⟨rfl,fun _=>rfl,hf,fun o c h=>by simp at h⟩
theorem Inv.ro (hi:Inv w0 M w H)(hf:∀ x,(f x).length=s){b:Nat}{T':TypeId}{fr:Nat×Nat}{j:List Value}(hm:(some b,Obj.cells (arr f xs j).toArray T' fr)∈H):RO w f s (some ⟨b,0,none⟩) xs.length xs :=
 ⟨rfl,by simp,hf,fun o c ho hc x hx=>by
  rw [show ea (some ⟨b,0,none⟩) (o*s+c)=⟨b,o*s+c,none⟩ by simp [ea,Addr.add_mid],hi.cell_own hm,List.getElem?_toArray,Z4i hf x xs j o c ho hc]
  rw [List.getD_eq_getElem?_getD,hx];rfl⟩
theorem RO.take (h:RO w f s base n xs){m:Nat}(hm:m≤n):RO w f s base m (xs.take m) :=
 ⟨by rw [List.length_take,h.len];omega,fun hb=>by have:=h.nil hb;omega,h.wide,fun o c ho hc x hx=>by
  have:o<m:=by rw [List.length_take] at ho;omega
  rw [List.getElem?_take_of_lt this] at hx
  exact h.cell o c (by rw [List.length_take] at ho;omega) hc x hx⟩
end ro
theorem Z9y (base:Option Addr)(n m:Nat):(ea base n).add m=ea base (n+m):=by
 unfold ea Addr.add
 by_cases h1:n=0
 ·subst h1;simp
 ·
  by_cases h2:m=0
  ·subst h2;simp
  ·
   rw [if_neg h2,if_neg h1,if_neg (show n+m≠0 by omega)]
   simp [Nat.add_assoc]
theorem Zha (z:Value)(n:Nat):madeCells #[z] n=(List.replicate n z).toArray:=by
 unfold madeCells
 apply Array.ext'
 simp only [Array.toList_map]
 rw [List.eq_replicate_iff]
 refine ⟨by simp,fun u hu=>?_⟩
 simp only [List.mem_map] at hu
 obtain ⟨q,_,rfl⟩:=hu
 simp [Nat.mod_one]
theorem TO.makeSlice {t e:TypeId}{x y:Operand}{k k':IntKind}{p:Int}{z:Value}{by':Nat}(ho:ops[i]?=some ⟨some d,.makeSlice t x y,ty,pos,af,g⟩)(hg:Zp ops E g=true)(hd:Nat.ble (d+1) C.n=true)
    (hx:ev E x=some (.int k p))(hy:ev E y=some (.int k' p))(ht:Ym C.P t=some e)(hs:Yg C.P e=some 1)(hz:Xb C.P e=some z)(hz1:z.cells=#[z])(hb:Vn C.P e=some by')
    (h0:0≤p)(hroom:by'*p.toNat≤281474976710656)(h63:p≤9223372036854775807)
    (kk:∀ b,TO C ops Q l ((d,.slice (some ⟨b,0,none⟩) p.toNat p.toNat)::E) ((some b,.cells (List.replicate p.toNat z).toArray e (0,0))::H)):TO C ops Q (i::l) E H:=by
  obtain ⟨ti,hti,hsz⟩:=Gy hs
  have hz':ti.zero=some z:=by simpa [Xb,hti] using hz
  have hb':ti.bytes=by':=by simpa [Vn,hti] using hb
  refine TO.new (fun b=>.slice (some ⟨b,0,none⟩) p.toNat p.toNat) ho hg hd (by simp) (fun a w hf hi=>?_) kk
  have hr:=run_make (P:=C.P) w t e ti z (Vg ht) hti hz' k k' p p h0 (Int.le_refl _) (by
    rw [hb']
    have:(p.toNat:Int)=p:=Int.toNat_of_nonneg h0
    have h2:((by'*p.toNat:Nat):Int)≤281474976710656:=by omega
    rw [Int.natCast_mul,this] at h2
    exact h2) h63
  rw [hsz,Nat.mul_one,hz1,Zha] at hr
  simp [execOp,hf.ev hx,hf.ev hy,hr]
theorem Zl3 (n:Nat)(k:IntKind):(List.replicate n (Value.int k 0))=arr (intC k) (List.replicate n 0) []:=by
 induction n with
 | zero=>rfl
 | succ n ih=>simp only [List.replicate_succ,arr,List.flatMap_cons,List.append_nil,intC,List.singleton_append] at *;rw [←ih]
theorem Zkp (n:Nat):(List.replicate n (Value.bool false))=arr boolC (List.replicate n false) []:=by
 induction n with
 | zero=>rfl
 | succ n ih=>simp only [List.replicate_succ,arr,List.flatMap_cons,List.append_nil,boolC,List.singleton_append] at *;rw [←ih]
theorem TO.makeI {t e:TypeId}{x y:Operand}{k k' q:IntKind}{p:Int}{by':Nat}(ho:ops[i]?=some ⟨some d,.makeSlice t x y,ty,pos,af,g⟩)(hg:Zp ops E g=true)(hd:Nat.ble (d+1) C.n=true)
    (hx:ev E x=some (.int k p))(hy:ev E y=some (.int k' p))(ht:Ym C.P t=some e)(hs:Yg C.P e=some 1)(hz:Xb C.P e=some (.int q 0))(hb:Vn C.P e=some by')
    (h0:0≤p)(hroom:by'*p.toNat≤281474976710656)(h63:p≤9223372036854775807)
    (kk:∀ b,TO C ops Q l ((d,.slice (some ⟨b,0,none⟩) p.toNat p.toNat)::E) ((some b,.cells (arr (intC q) (List.replicate p.toNat 0) []).toArray e (0,0))::H)):TO C ops Q (i::l) E H :=
  TO.makeSlice ho hg hd hx hy ht hs hz rfl hb h0 hroom h63 (fun b=>by rw [Zl3];exact kk b)
theorem TO.makeB {t e:TypeId}{x y:Operand}{k k':IntKind}{p:Int}{by':Nat}(ho:ops[i]?=some ⟨some d,.makeSlice t x y,ty,pos,af,g⟩)(hg:Zp ops E g=true)(hd:Nat.ble (d+1) C.n=true)
    (hx:ev E x=some (.int k p))(hy:ev E y=some (.int k' p))(ht:Ym C.P t=some e)(hs:Yg C.P e=some 1)(hz:Xb C.P e=some (.bool false))(hb:Vn C.P e=some by')
    (h0:0≤p)(hroom:by'*p.toNat≤281474976710656)(h63:p≤9223372036854775807)
    (kk:∀ b,TO C ops Q l ((d,.slice (some ⟨b,0,none⟩) p.toNat p.toNat)::E) ((some b,.cells (arr boolC (List.replicate p.toNat false) []).toArray e (0,0))::H)):TO C ops Q (i::l) E H :=
  TO.makeSlice ho hg hd hx hy ht hs hz rfl hb h0 hroom h63 (fun b=>by rw [Zkp];exact kk b)
theorem TO.buildSlice {t e:TypeId}{n:Nat}{ps:Array (Nat×Operand)}{vs:List (Nat×Value)}{cs:Array Value}{z:Value}{s:Nat}(ho:ops[i]?=some ⟨some d,.buildSlice t n ps,ty,pos,af,g⟩)(hg:Zp ops E g=true)(hd:Nat.ble (d+1) C.n=true)
    (hx:evp E ps.toList=some vs)(ht:Ym C.P t=some e)(hs:Yg C.P e=some s)(hz:Xb C.P e=some z)(h24:Nat.ble (n*s) (2^24)=true)(hp:Nat.ble 1 (n*s)=true)
    (hfill:Instr.fill (fun i=>some (i*s,s)) ((Array.range (n*s)).map (z.cells[·%z.cells.size]!)) vs=some cs)
    (kk:∀ b,TO C ops Q l ((d,.slice (some ⟨b,0,none⟩) n n)::E) ((some b,.cells cs e (0,0))::H)):TO C ops Q (i::l) E H:=by
  obtain ⟨ti,hti,hsz⟩:=Gy hs
  have hz':ti.zero=some z:=by simpa [Xb,hti] using hz
  refine TO.new (fun b=>.slice (some ⟨b,0,none⟩) n n) ho hg hd (by simp) (fun a w hf hi=>?_) kk
  have e1:(ps.map (fun p=>(p.1,a.eval p.2))).toList=vs:=by simpa using Zal hf hx
  have h24':=Nat.le_of_ble_eq_true h24
  have hp':=Nat.le_of_ble_eq_true hp
  have hr:=run_buildSlice (P:=C.P) w t e n (ps.map (fun p=>(p.1,a.eval p.2))) cs ti z (Vg ht) hti hz' (by rw [hsz];omega) (by rw [hsz];omega) (by rw [e1,hsz];exact hfill)
  simp [execOp,hr]
theorem Km {t e:TypeId}{n:Nat}{ps:Array (Nat×Operand)}{vs:List (Nat×Value)}{cs:List Value}{z:Value}{s:Nat}(zs:List Value)(offs:List Nat)(q0_:ops[i]?=some ⟨some d,.buildSlice t n ps,ty,pos,af,g⟩∧Zp ops E g=true∧Nat.ble (d+1) C.n=true∧evp E ps.toList=some vs)(ht:Ym C.P t=some e)(hs:Yg C.P e=some s)(hz:Xb C.P e=some z)(q1_:Nat.ble (n*s) (2^24)=true∧Nat.ble 1 (n*s)=true)
    (_hcs:Xo offs zs vs=cs)
    (hfill:Instr.fill (fun i=>some (i*s,s)) ((Array.range (n*s)).map (z.cells[·%z.cells.size]!)) vs=some cs.toArray)
    (kk:∀ b,TO C ops Q l ((d,.slice (some ⟨b,0,none⟩) n n)::E) ((some b,.cells cs.toArray e (0,0))::H)):TO C ops Q (i::l) E H:=have ⟨ho,hg,hd,hx⟩:=q0_;have ⟨h24,hp⟩:=q1_;
  TO.buildSlice ho hg hd hx ht hs hz h24 hp hfill kk
theorem Zfo {t e:TypeId}{s:Nat}(q0_:ops[i]?=some ⟨some d,.buildSlice t 0 #[],ty,pos,af,g⟩∧Zp ops E g=true∧Nat.ble (d+1) C.n=true)
    (ht:Ym C.P t=some e)(hs:Yg C.P e=some s)
    (kk:∀ b,TO C ops Q l ((d,.slice (some ⟨b,0,none⟩) 0 0)::E) ((some b,.cells #[] e (0,0))::H)):TO C ops Q (i::l) E H:=by
  obtain ⟨ho,hg,hd⟩:=q0_
  refine TO.new (fun b=>.slice (some ⟨b,0,none⟩) 0 0) ho hg hd (by simp) (fun a w hf hi=>?_) kk
  simp [execOp,Instr.buildSlice,run_underlying (Vg ht),Uv hs,Instr.fill,newRow,Array.range_zero']
theorem TO.len {t:TypeId}{at':Array TypeId}{x:Operand}{e:TypeId}{base:Option Addr}{n c:Nat}
    (ho:ops[i]?=some ⟨some d,.call ⟨.builtin .len,#[x],at'⟩,ty,pos,af,g⟩)(hg:Zp ops E g=true)(hd:Nat.ble (d+1) C.n=true)(hat:at'[0]?=some t)
    (hx:ev E x=some (.slice base n c))(ht:Ym C.P t=some e)(kk:TO C ops Q l ((d,.int .i64 n)::E) H):TO C ops Q (i::l) E H :=
  TO.val ho hg hd (by simp) (fun a w hf _=>by
    simp [execOp,resolve,invoke,builtin,hf.ev hx,Builtin.len_,hat,run_underlying (Vg ht),goInt]) kk
theorem TO.min2 {at':Array TypeId}{x y:Operand}{k:IntKind}{p q:Int}
    (q0_:ops[i]?=some ⟨some d,.call ⟨.builtin .min,#[x,y],at'⟩,ty,pos,af,g⟩∧Zp ops E g=true∧Nat.ble (d+1) C.n=true∧ev E x=some (.int k p)∧ev E y=some (.int k q))(kk:TO C ops Q l ((d,.int k (min p q))::E) H):TO C ops Q (i::l) E H:=have ⟨ho,hg,hd,hx,hy⟩:=q0_;
  TO.val ho hg hd (by simp) (fun a w hf _=>by
    have:(if q<p then q else p)=min p q:=by rw [Int.min_def];split <;> split <;> omega
    simp [execOp,resolve,invoke,builtin,hf.ev hx,hf.ev hy,Builtin.min_,Builtin.min2,this]) kk
theorem Z4k {o:Oper}{f:FuncId}{args:Array Value}{M:List Nat}{Hm:Heap}{Post:Value→Heap→Prop}
    (ho:ops[i]?=some o)(hg:Zp ops E o.guard=true)(hdst:o.dst=some d)(hnd:∀ c,o.op≠.defer c)(hd:Nat.ble (d+1) C.n=true)
    (hrun:∀ a w,Fits C.n C.D E a→Inv C.w0 C.M w H→(execOp a.eval o).run C.P w=.ok (.enter f args) w)
    (hH:List.Perm H (Hm++R))(hM:∀ m,m∈M→m∈Hm.filterMap (·.1))
    (hc:∀ w,Inv C.w0 C.M w H→Fnc C.P f args w M Post)
    (kk:∀ v N,Post v N→TO C ops Q l ((d,v)::E) (N++R)):TO C ops Q (i::l) E H :=
  Ky ho hg hnd fun a w hf hi=>by
    rw [hrun a w hf hi]
    refine ⟨by simp [FW],?_⟩
    refine callsIn_FW.2 (Calls.mono (hc w hi) ?_)
    rintro e w' ⟨v,N,hP,rfl,hN⟩
    show wpOpsIn _ _ _ _ _ _ _ _
    rw [hdst]
    exact kk v N hP _ _ (hf.put hd v) (hi.join hH hM hN)
def Zz (P:Program)(f:FuncId):Bool :=
  match P.funcs[f]? with
  | some fn=>fn.body.isSome&&!(fn.name== "runtime.NumGoroutine")
  | none=>false
theorem Kd {P:Program}{f:FuncId}(h:Zz P f=true)(args:Array Value)(w:World):(callFunc f args).run P w=.ok (.enter f args) w:=by
 unfold Zz at h
 cases hf:P.funcs[f]? with
 | none=>simp [hf] at h
 | some fn =>
  simp only [hf,Bool.and_eq_true,Bool.not_eq_true'] at h
  have h2:¬fn.body=none:=by cases hb:fn.body <;> simp_all
  have h3:¬fn.name= "runtime.NumGoroutine":=by simpa using h.2
  simp [callFunc,hf,h3,h2]
theorem TO.call {f:FuncId}{xs:Array Operand}{at':Array TypeId}{vs:List Value}{Post:Value→Heap→Prop}
    (ho:ops[i]?=some ⟨some d,.call ⟨.value (.func f),xs,at'⟩,ty,pos,af,g⟩)(hg:Zp ops E g=true)(hd:Nat.ble (d+1) C.n=true)(hF:Zz C.P f=true)
    (hx:evs E xs.toList=some vs)
    (hc:∀ w,Inv C.w0 C.M w H→Fnc C.P f vs.toArray w [] Post)
    (kk:∀ v N,Post v N→TO C ops Q l ((d,v)::E) (N++H)):TO C ops Q (i::l) E H :=
  Z4k (Hm:=[]) (R:=H) ho hg rfl (by simp) hd (fun a w hf hi=>by
    have e1:xs.map a.eval=vs.toArray:=by apply Array.ext';simpa using Gf hf hx
    simp [execOp,resolve,Deferred.ofValue,invoke,Act.eval,e1,Kd hF]) (List.Perm.refl _) (by simp) hc kk
theorem TO.callV {f:FuncId}{x:Operand}{xs:Array Operand}{at':Array TypeId}{vs:List Value}{fs cs:Array Value}{Post:Value→Heap→Prop}
    (ho:ops[i]?=some ⟨some d,.call ⟨.value x,xs,at'⟩,ty,pos,af,g⟩)(hg:Zp ops E g=true)(hd:Nat.ble (d+1) C.n=true)(hF:Zz C.P f=true)
    (hfv:ev E x=some (.func (.func f) fs cs))(hx:evs E xs.toList=some vs)
    (hc:∀ w,Inv C.w0 C.M w H→Fnc C.P f (fs++vs.toArray++cs) w [] Post)
    (kk:∀ v N,Post v N→TO C ops Q l ((d,v)::E) (N++H)):TO C ops Q (i::l) E H :=
  Z4k (Hm:=[]) (R:=H) ho hg rfl (by simp) hd (fun a w hf hi=>by
    have e1:xs.map a.eval=vs.toArray:=by apply Array.ext';simpa using Gf hf hx
    simp [execOp,resolve,Deferred.ofValue,invoke,hf.ev hfv,e1,Kd hF]) (List.Perm.refl _) (by simp) hc kk
theorem Zju {f:FuncId}{x:Operand}{xs:Array Operand}{at':Array TypeId}{vs:List Value}{fs cs:Array Value}{M:List Nat}{Hm:Heap}{Post:Value→Heap→Prop}
    (ho:ops[i]?=some ⟨some d,.call ⟨.value x,xs,at'⟩,ty,pos,af,g⟩)(hg:Zp ops E g=true)(hd:Nat.ble (d+1) C.n=true)(hF:Zz C.P f=true)
    (hfv:ev E x=some (.func (.func f) fs cs))(hx:evs E xs.toList=some vs)
    (hH:List.Perm H (Hm++R))(hM:∀ m,m∈M→m∈Hm.filterMap (·.1))
    (hc:∀ w,Inv C.w0 C.M w H→Fnc C.P f (fs++vs.toArray++cs) w M Post)
    (kk:∀ v N,Post v N→TO C ops Q l ((d,v)::E) (N++R)):TO C ops Q (i::l) E H :=
  Z4k ho hg rfl (by simp) hd (fun a w hf hi=>by
    have e1:xs.map a.eval=vs.toArray:=by apply Array.ext';simpa using Gf hf hx
    simp [execOp,resolve,Deferred.ofValue,invoke,hf.ev hfv,e1,Kd hF]) hH hM hc kk
end rules
section ends
variable {C : Cx} {E : Env} {H N : Heap}
def Nq (tmps:Array Value):ResultVar→Sem Value
  | .tmp t=>pure (tmps.getD t undef)
  | .cell x t=>do loadVar t (←asAddr (tmps.getD x undef))
theorem Zcs (fn:Func)(tmps:Array Value):results fn tmps=(do
    let vs ←fn.results.mapM (Nq tmps)
    pure (if h:vs.size=1 then vs[0] else .tuple vs)):=by
  unfold results
  congr 2
def Res (C:Cx)(E:Env)(H:Heap)(r:ResultVar)(v:Value):Prop:=∀ a w,Fits C.n C.D E a→Inv C.w0 C.M w H→(Nq a.tmps r).run C.P w=.ok v w
theorem Res.tmp {t:Nat}{v:Value}(h:find E t=some v):Res C E H (.tmp t) v:=fun a w hf _=>by simp only [Nq,hf.get t v h];rfl
theorem Ji {x k:Nat}{t T':TypeId}{b:Nat}{cs:List Value}{fr:Nat×Nat}(h:find E x=some (.pointer (some ⟨b,0,none⟩)))(hT:Ua C.P t k=true)(hm:(some b,Obj.cells cs.toArray T' fr)∈H)(hk:cs.length=k) :
    Res C E H (.cell x t) (.agg cs.toArray):=fun a w hf hi=>by
  have:=Z54 (P:=C.P) (w:=w) hT hk (a:=⟨b,0,none⟩) (fun j v hv=>by rw [Addr.add_mid,Nat.zero_add,hi.cell_own hm];simpa using hv)
  simp only [Nq,hf.get x _ h,asAddr,Sem.run_bind,Sem.run_pure,Result.andThen_ok,this]
theorem Ur {x o:Nat}{t T':TypeId}{b:Nat}{cs:Array Value}{fr:Nat×Nat}{v:Value}(h:find E x=some (.pointer (some ⟨b,o,none⟩)))(hT:Xi C.P t=true)(hm:(some b,Obj.cells cs T' fr)∈H)(hv:cs[o]?=some v) :
    Res C E H (.cell x t) v:=fun a w hf hi=>by
  have:=Z7i hT (show w.cell? ⟨b,o,none⟩=some v by rw [hi.cell_own hm];exact hv)
  simp only [Nq,hf.get x _ h,asAddr,Sem.run_bind,Sem.run_pure,Result.andThen_ok,this]
def Z04:List Value→Value
  | [u]=>u
  | vs=>.tuple vs.toArray
theorem X.ret {fn:Func}{rs:List ResultVar}{vs:List Value}{v:Value}{w0:World}{M:List Nat}{Post:Value→Heap→Prop}(hw:C.w0=w0)(hMM:C.M=M)(hD:C.D=[])(hfn:fn.results.toList=rs)
    (hr:∀ (j:Nat) r u,rs[j]?=some r→vs[j]?=some u→Res C E H r u)(hl:rs.length=vs.length)(hv:v=Z04 vs)
    (hN:Pick N H)(hP:Post v N):X C (bodyPost C.P fn (We w0 M Post)) .ret E H:=by
  intro a w hf hi
  refine ⟨hf.defers.trans hD,v,?_,v,N,hP,rfl,by rw [←hw,←hMM];exact hi.pick hN⟩
  have key:∀ (rs:List ResultVar) (vs:List Value),rs.length=vs.length→(∀ (j:Nat) r u,rs[j]?=some r→vs[j]?=some u→Res C E H r u) →
      (rs.mapM (Nq a.tmps)).run C.P w=.ok vs w:=by
    intro rs
    induction rs with
    | nil=>intro vs hl _;cases vs <;> simp_all
    | cons r rs ih =>
      intro vs hl h
      cases vs with
      | nil=>simp at hl
      | cons u vs =>
        have h0:=h 0 r u rfl rfl a w hf hi
        have h1:=ih vs (by simpa using hl) (fun j r' u' hj hu=>h (j+1) r' u' (by simpa using hj) (by simpa using hu))
        simp only [List.mapM_cons,Sem.run_bind,h0,Result.andThen_ok,h1,Sem.run_pure]
  have:=key rs vs hl hr
  rw [Zcs,←Array.toArray_toList (xs:=fn.results),hfn,List.mapM_toArray]
  simp only [Sem.run_bind,Sem.run_map,this,Result.andThen_ok,Sem.run_pure]
  rw [hv]
  cases vs with
  | nil=>simp [Z04]
  | cons u vs =>
    cases vs with
    | nil=>simp [Z04]
    | cons u' vs=>simp [Z04]
theorem Ye {fn:Func}{r:ResultVar}{v:Value}{w0:World}{M:List Nat}{Post:Value→Heap→Prop}(q0_:C.w0=w0∧C.M=M∧C.D=[]∧fn.results.toList=[r])(hr:Res C E H r v)(hN:Pick N H)(hP:Post v N) :
    X C (bodyPost C.P fn (We w0 M Post)) .ret E H:=have ⟨hw,hMM,hD,hfn⟩:=q0_;
  X.ret (vs:=[v]) hw hMM hD hfn (fun j r' u h1 h2=>by
    cases j with
    | zero=>simp at h1 h2;subst h1;subst h2;exact hr
    | succ j=>simp at h1) rfl rfl hN hP
theorem Xe {fn:Func}{r r':ResultVar}{v v':Value}{w0:World}{M:List Nat}{Post:Value→Heap→Prop}(q0_:C.w0=w0∧C.M=M∧C.D=[]∧fn.results.toList=[r,r'])(hr:Res C E H r v)(hr':Res C E H r' v')(hN:Pick N H)(hP:Post (.tuple #[v,v']) N) :
    X C (bodyPost C.P fn (We w0 M Post)) .ret E H:=have ⟨hw,hMM,hD,hfn⟩:=q0_;
  X.ret (vs:=[v,v']) hw hMM hD hfn (fun j r'' u h1 h2=>by
    match j with
    | 0=>simp at h1 h2;subst h1;subst h2;exact hr
    | 1=>simp at h1 h2;subst h1;subst h2;exact hr'
    | j+2=>simp at h1) rfl rfl hN hP
def Gp:Nat→List Value→Env
  | _,[]=>[]
  | k,v::vs=>(k,v)::Gp (k+1) vs
theorem Z0d:∀ (vs:List Value) (k t:Nat) (v:Value),find (Gp k vs) t=some v→k≤t∧vs[t-k]?=some v
 | [],k,t,v,h=>by simp [Gp,find] at h
 | u::vs,k,t,v,h=>by
  simp only [Gp] at h
  rw [Ks] at h
  by_cases e:k=t
  ·subst e;rw [if_pos rfl] at h;simpa using h
  ·
   rw [if_neg e] at h
   obtain ⟨h1,h2⟩:=Z0d vs (k+1) t v h
   refine ⟨by omega,?_⟩
   have:t-k=(t-(k+1))+1:=by omega
   rw [this];simpa using h2
theorem Fnc.enter {P:Program}{f:FuncId}{fn:Func}{c:Code}{vs:List Value}{w:World}{M:List Nat}{H:Heap}{Post:Value→Heap→Prop}
    (hf:P.funcs[f]?=some fn)(hb:fn.body=some c)(hn:Nat.ble vs.length fn.ntmps=true)(hi:Inv w M w H)
    (h:T ⟨P,none,fn.ntmps,[],w,M⟩ c (bodyPost P fn (We w M Post)) (Gp 0 vs) H):Fnc P f vs.toArray w M Post:=by
  have hn':=Nat.le_of_ble_eq_true hn
  refine callsIn_FW (ρ:=none) (n:=0) |>.1 (callsIn_of_wp hf hb trivial ?_ rfl)
  refine h _ w ⟨by simp;omega,rfl,fun t v hv=>?_⟩ hi
  obtain ⟨_,h2⟩:=Z0d vs 0 t v hv
  rw [Nat.sub_zero] at h2
  have hlt:=(List.getElem?_eq_some_iff.1 h2).1
  simp only [Array.getD_eq_getD_getElem?]
  rw [Array.getElem?_append_left (by simpa using hlt)]
  simp [h2]
end ends
end Go.Acq
namespace Go.Acq
open Go Go.RowKit
def Jb (ops:Array Oper):Bool:=(List.range ops.size).all fun i=>match ops[i]? with
  | some o=>o.after.all fun e=>!Region.binds .any e||Nat.blt e.on i
  | none=>false
section any
variable {F : Fence} {P : Program} {ops : Array Oper} {Q : Exit → Act → World → Prop}
theorem Zhq {listed:Array Bool}(hb:Jb ops=true)(h:Region.ready .any ops listed=[]):∀ i,i<ops.size→listed.getD i true=true:=by
 intro i
 induction i using Nat.strongRecOn with
 | _ i ih =>
  intro hi
  cases hl:listed.getD i true with
  | true=>rfl
  | false =>
   exfalso
   have hb':=List.all_eq_true.1 hb i (List.mem_range.2 hi)
   have ho:ops[i]?=some ops[i]:=Array.getElem?_eq_getElem hi
   rw [ho] at hb'
   have:i∈Region.ready .any ops listed:=by
    rw [mem_ready]
    refine ⟨hl,ops[i],ho,?_⟩
    intro e he hbe
    have h2:=Array.all_eq_true_iff_forall_mem.1 hb' e he
    rw [hbe] at h2
    have hlt:e.on<i:=by simpa using h2
    have:=ih e.on hlt (by omega)
    have hsz:listed.getD e.on false=true:=by
     rw [Array.getD_eq_getD_getElem?] at this hl ⊢
     cases hq:listed[e.on]? with
     | some b=>rw [hq] at this;simpa using this
     | none =>
      have h3:listed[i]?=none:=by
       rw [Array.getElem?_eq_none_iff] at hq ⊢
       omega
      rw [h3] at hl;simp at hl
    exact hsz
   rw [h] at this
   cases this
theorem Z7u (J:(Nat→Bool)→Act→World→Prop)(hb:Jb ops=true)
    (hstep:∀ (done:Nat→Bool) i o a w,ops[i]?=some o→done i=false→(∀ e,e∈o.after→Region.binds .any e=true→done e.on=true)→J done a w →
      wpOpIn F 0 P ops Q i (fun a' w'=>J (fun m=>if m=i then true else done m) a' w') a w)
    (hend:∀ (done:Nat→Bool) a w,(∀ i,i<ops.size→done i=true)→J done a w→Q .normal a w) :
    ∀ (fuel:Nat) (listed:Array Bool) a w,listed.size=ops.size→((List.range ops.size).filter (fun i=>!listed.getD i true)).length≤fuel→J (fun m=>listed.getD m false) a w →
      wpAnyIn F 0 P .any ops Q fuel listed a w:=by
  have hfin:∀ (listed:Array Bool) a w,listed.size=ops.size→Region.ready .any ops listed=[]→J (fun m=>listed.getD m false) a w→Q .normal a w:=by
    intro listed a w hs hr hJ
    refine hend _ a w (fun i hi=>?_) hJ
    have:=Zhq hb hr i hi
    rw [Array.getD_eq_getD_getElem?] at this ⊢
    rw [Array.getElem?_eq_getElem (by omega)] at this ⊢
    simpa using this
  intro fuel
  induction fuel with
  | zero =>
    intro listed a w hs hf hJ
    have hr:Region.ready .any ops listed=[]:=by
      cases hq:Region.ready .any ops listed with
      | nil=>rfl
      | cons i l =>
        exfalso
        have hm:i∈Region.ready .any ops listed:=by rw [hq];exact .head _
        obtain ⟨hl,o,ho,_⟩:=mem_ready.1 hm
        have hi:i<ops.size:=(Array.getElem?_eq_some_iff.1 ho).1
        have:i∈(List.range ops.size).filter (fun i=>!listed.getD i true):=List.mem_filter.2 ⟨List.mem_range.2 hi,by simp [hl]⟩
        have:=List.length_pos_of_mem this
        omega
    exact ⟨hr,hfin listed a w hs hr hJ⟩
  | succ fuel ih =>
    intro listed a w hs hf hJ
    refine ⟨fun hr=>hfin listed a w hs hr hJ,fun i hm=>?_⟩
    obtain ⟨hl,o,ho,hafter⟩:=mem_ready.1 hm
    have hi:i<ops.size:=(Array.getElem?_eq_some_iff.1 ho).1
    have hli:listed[i]?=some false:=by
      rw [Array.getD_eq_getD_getElem?] at hl
      cases hq:listed[i]? with
      | none=>rw [hq] at hl;simp at hl
      | some b=>rw [hq] at hl;simp at hl;rw [hl]
    have hd:(fun m=>listed.getD m false) i=false:=by
      show listed.getD i false=false
      rw [Array.getD_eq_getD_getElem?,hli];rfl
    refine wpOpIn_mono (fun a' w' hJ'=>ih _ a' w' (by simp [hs]) ?_ ?_) (hstep _ i o a w ho hd hafter hJ)
    · have hsub : (List.range ops.size).filter (fun j => !(listed.setIfInBounds i true).getD j true) = ((List.range ops.size).filter (fun j => !listed.getD j true)).filter (fun j => decide (j ≠ i)) := by
        rw [List.filter_filter]
        apply List.filter_congr
        intro j hj
        have hjs:j<ops.size:=List.mem_range.1 hj
        simp only [Array.getD_eq_getD_getElem?,Array.getElem?_setIfInBounds]
        by_cases e:i=j
        ·subst e;simp [hs,hjs]
        · rw [if_neg e]
          have:decide (j≠i)=true:=by simpa using fun h=>e h.symm
          rw [this];simp
      rw [hsub]
      have hmem:i∈(List.range ops.size).filter (fun j=>!listed.getD j true):=List.mem_filter.2 ⟨List.mem_range.2 hi,by simp [hl]⟩
      have:(((List.range ops.size).filter (fun j=>!listed.getD j true)).filter (fun j=>decide (j≠i))).length<((List.range ops.size).filter (fun j=>!listed.getD j true)).length:=by
        rw [List.length_filter_lt_length_iff_exists]
        exact ⟨i,hmem,by simp⟩
      omega
    · have : (fun m => (listed.setIfInBounds i true).getD m false) = (fun m => if m = i then true else listed.getD m false) := by
        funext m
        simp only [Array.getD_eq_getD_getElem?,Array.getElem?_setIfInBounds]
        by_cases e:i=m
        · subst e
          have:i<listed.size:=by omega
          simp [this]
        ·rw [if_neg e,if_neg (fun h=>e h.symm)]
      rw [this];exact hJ'
end any
def Ut (ops:Array Oper):Nat→Nat→Nat→Bool
  | 0,_,_=>false
  | f+1,i,j=>match ops[i]? with
    | some o=>(o.after.toList.any fun e=>Region.binds .any e&&Nat.beq e.on j)||(o.after.toList.any fun e=>Region.binds .any e&&Ut ops f e.on j)
    | none=>false
def Rh (ops:Array Oper)(m:Nat):Bool:=(List.range ops.size).all fun i=>Nat.blt i m||(List.range i).all fun j=>Ut ops ops.size i j
section phase
variable {F : Fence} {P : Program} {ops : Array Oper} {Q : Exit → Act → World → Prop}
def Uu (ops:Array Oper)(done:Nat→Bool):Prop:=∀ (i:Nat) (o:Oper),ops[i]?=some o→done i=true→∀ e,e∈o.after→Region.binds .any e=true→done e.on=true
theorem Rq {done:Nat→Bool}(hc:Uu ops done):∀ (f i j:Nat),Ut ops f i j=true→(∀ (o:Oper),ops[i]?=some o→∀ e,e∈o.after→Region.binds .any e=true→done e.on=true)→done j=true
 | 0,i,j,h,_=>by simp [Ut] at h
 | f+1,i,j,h,hd=>by
  unfold Ut at h
  cases ho:ops[i]? with
  | none=>rw [ho] at h;simp at h
  | some o =>
   rw [ho] at h
   simp only [Bool.or_eq_true,List.any_eq_true] at h
   rcases h with h | h
   ·
    obtain ⟨e,he,h2⟩:=h
    simp only [Bool.and_eq_true] at h2
    rw [←Nat.eq_of_beq_eq_true h2.2]
    exact hd o ho e (by simpa using he) h2.1
   ·
    obtain ⟨e,he,h2⟩:=h
    simp only [Bool.and_eq_true] at h2
    have hde:=hd o ho e (by simpa using he) h2.1
    exact Rq hc f e.on j h2.2 (fun o' ho' e' he' hb'=>hc e.on o' ho' hde e' he' hb')
theorem Zce {id:Nat}{m:Nat}(Jp:(Nat→Bool)→Act→World→Prop)(hm:P.follows .mixedOrders=true)(hb:Jb ops=true)(ht:Rh ops m=true)(hms:m≤ops.size)
    (hstep:∀ (done:Nat→Bool) i o a w,i<m→ops[i]?=some o→done i=false→Uu ops done→(∀ e,e∈o.after→Region.binds .any e=true→done e.on=true)→(∀ j,m≤j→done j=false)→Jp done a w →
      wpOpIn F 0 P ops Q i (fun a' w'=>Jp (fun q=>if q=i then true else done q) a' w') a w)
    (hend:∀ (done:Nat→Bool) a w,(∀ i,i<m→done i=true)→Jp done a w→wpOpsIn F 0 P ops Q (List.range' m (ops.size-m)) a w)
    {a:Act}{w:World}(h0:Jp (fun _=>false) a { w with drawn:=w.drawn+1 }):(Code.region id ops true).wpIn F 0 P Q a w:=by
  have hafter:∀ (done:Nat→Bool) (i:Nat) (o:Oper),Uu ops done→ops[i]?=some o→m≤i→(∀ e,e∈o.after→Region.binds .any e=true→done e.on=true)→∀ j,j<i→done j=true:=by
    intro done i o hc ho hmi hd j hj
    have hi:i<ops.size:=(Array.getElem?_eq_some_iff.1 ho).1
    have h1:=List.all_eq_true.1 ht i (List.mem_range.2 hi)
    simp only [Bool.or_eq_true] at h1
    rcases h1 with h1 | h1
    · have : i < m := by simpa using h1
      omega
    ·exact Rq hc _ i j (List.all_eq_true.1 h1 j (List.mem_range.2 hj)) (fun o' ho'=>by rw [ho] at ho';injection ho' with ho';subst ho';exact hd)
  have hclosed:∀ (done:Nat→Bool) (i:Nat) (o:Oper),Uu ops done→ops[i]?=some o→(∀ e,e∈o.after→Region.binds .any e=true→done e.on=true)→Uu ops (fun q=>if q=i then true else done q):=by
    intro done i o hc ho hd j o' ho' hj e he hbe
    show (if e.on=i then true else done e.on)=true
    by_cases hei:e.on=i
    ·rw [if_pos hei]
    · rw [if_neg hei]
      by_cases hji:j=i
      ·subst hji;rw [ho] at ho';injection ho' with ho';subst ho';exact hd e he hbe
      · have hj' : done j = true := by simpa [hji] using hj
        exact hc j o' ho' hj' e he hbe
  refine wpIn_region_any hm (Z7u (J:=fun done a w=>Uu ops done∧(((∃ i,i<m∧done i=false)∧(∀ j,m≤j→done j=false)∧Jp done a w)∨(∃ q,m≤q∧q≤ops.size∧(∀ j,j<q→done j=true)∧(∀ j,q≤j→done j=false)∧wpOpsIn F 0 P ops Q (List.range' q (ops.size-q)) a w)))
    hb ?_ ?_ ops.size (Array.replicate ops.size false) a _ (by simp) ?_ ?_)
  · rintro done i o a w ho hdi hd ⟨hc, hJ⟩
    have hi:i<ops.size:=(Array.getElem?_eq_some_iff.1 ho).1
    rcases hJ with ⟨⟨i0,hi0,hdi0⟩,htail,hJp⟩ | ⟨q,hmq,hqs,hlow,hhigh,hw⟩
    · have him : i < m := by
        rcases Nat.lt_or_ge i m with h | h
        ·exact h
        · have := hafter done i o hc ho h hd i0 (by omega)
          rw [hdi0] at this;cases this
      refine wpOpIn_mono (fun a' w' hJ'=>⟨hclosed done i o hc ho hd,?_⟩) (hstep done i o a w him ho hdi hc hd htail hJp)
      rcases Classical.em (∃ j,j<m∧(if j=i then true else done j)=false) with hex | hno
      ·exact .inl ⟨hex,fun j hj=>by show (if j=i then true else done j)=false;rw [if_neg (by omega)];exact htail j hj,hJ'⟩
      · have hall : ∀ j, j < m → (if j = i then true else done j) = true := fun j hj => by
          cases hq:(if j=i then true else done j) with
          | true=>rfl
          | false=>exact absurd ⟨j,hj,hq⟩ hno
        exact .inr ⟨m,Nat.le_refl _,hms,hall,fun j hj=>by show (if j=i then true else done j)=false;rw [if_neg (by omega)];exact htail j hj,hend _ a' w' hall hJ'⟩
    · have hiq : i = q := by
        rcases Nat.lt_trichotomy i q with h | h | h
        ·rw [hlow i h] at hdi;cases hdi
        ·exact h
        · have := hafter done i o hc ho (by omega) hd q h
          rw [hhigh q (Nat.le_refl _)] at this;cases this
      subst hiq
      have hsz:ops.size-i=(ops.size-(i+1))+1:=by omega
      rw [hsz,List.range'_succ,wpOpsIn_cons] at hw
      refine wpOpIn_mono (fun a' w' hw'=>⟨hclosed done i o hc ho hd,.inr ⟨i+1,by omega,by omega,fun j hj=>?_,fun j hj=>?_,hw'⟩⟩) hw
      · show (if j = i then true else done j) = true
        by_cases e:j=i
        ·rw [if_pos e]
        ·rw [if_neg e];exact hlow j (by omega)
      · show (if j = i then true else done j) = false
        rw [if_neg (by omega)];exact hhigh j (by omega)
  · rintro done a w hall ⟨hc, hJ⟩
    rcases hJ with ⟨⟨i0,hi0,hdi0⟩,_,_⟩ | ⟨q,hmq,hqs,hlow,hhigh,hw⟩
    ·rw [hall i0 (by omega)] at hdi0;cases hdi0
    · have hq : q = ops.size := by
        rcases Nat.lt_or_ge q ops.size with h | h
        ·have:=hall q h;rw [hhigh q (Nat.le_refl _)] at this;cases this
        ·omega
      subst hq
      simpa [wpOpsIn] using hw
  · have : ((List.range ops.size).filter (fun i => !(Array.replicate ops.size false).getD i true)).length ≤ (List.range ops.size).length := List.length_filter_le _ _
    simpa using this
  · have hf : (fun q => (Array.replicate ops.size false).getD q false) = fun _ => false := by
      funext q
      simp only [Array.getD_eq_getD_getElem?,Array.getElem?_replicate]
      split <;> rfl
    show Uu ops (fun q=>(Array.replicate ops.size false).getD q false)∧_
    rw [hf]
    refine ⟨fun i o _ h=>by simp at h,?_⟩
    rcases Nat.eq_zero_or_pos m with h | h
    · subst h
      exact .inr ⟨0,Nat.le_refl _,Nat.zero_le _,fun j hj=>by omega,fun _ _=>rfl,hend _ _ _ (fun i hi=>by omega) h0⟩
    ·exact .inl ⟨⟨0,h,rfl⟩,fun _ _=>rfl,h0⟩
end phase
section quiet
variable {C : Cx} {ops : Array Oper} {Q : Exit → Act → World → Prop} {E : Env} {H : Heap}
def Zcx (ops:Array Oper)(L:Env)(i:Nat):Env :=
  match ops[i]? with
  | some o=>o.after.toList.filterMap fun e=>cond (Region.binds .any e) (L[e.on]?) none
  | none=>[]
def Ob (C:Cx)(ops:Array Oper)(Q:Exit→Act→World→Prop)(L W:Env)(H:Heap)(i:Nat):Prop :=
  ∀ Es:Env,TO C ops (fun e a w=>match e with
    | .normal=>∃ p,L[i]?=some p∧Fits C.n C.D (p::(Zcx ops L i++(W++Es))) a∧Inv C.w0 C.M w H
    | e=>Q e a w) [i] (Zcx ops L i++(W++Es)) H
def Obs (C:Cx)(ops:Array Oper)(Q:Exit→Act→World→Prop)(L W:Env)(H:Heap):List Nat→Prop
  | []=>True
  | i::l=>Ob C ops Q L W H i∧Obs C ops Q L W H l
def Nx:List Nat→Bool
  | []=>true
  | x::xs=>!(xs.any (Nat.beq x))&&Nx xs
theorem Z8u:∀ {l:List Nat},Nx l=true→l.Nodup
 | [],_=>by simp
 | x::xs,h=>by
  simp only [Nx,Bool.and_eq_true,Bool.not_eq_true'] at h
  refine List.nodup_cons.2 ⟨fun hm=>?_,Z8u h.2⟩
  rw [any_beq.2 hm] at h;cases h.1
theorem Z9w:∀ {L:Env} {t:Nat} {v:Value},find L t=some v→(t,v)∈L
 | [],_,_,h=>by simp [find] at h
 | (d,u)::L,t,v,h=>by
  rw [Ks] at h
  by_cases e:d=t
  ·subst e;rw [if_pos rfl] at h;injection h with h;subst h;exact .head _
  ·rw [if_neg e] at h;exact .tail _ (Z9w h)
end quiet
end Go.Acq
namespace Go.Acq
open Go Go.RowKit
abbrev sb (ob:Option Nat):Option Addr:=ob.map fun b=>⟨b,0,none⟩
section
variable {α : Type} {w w0 : World} {f : α → List Value} {s n : Nat} {base : Option Addr} {xs : List α} {M : List Nat} {H : Heap}
theorem Inv.roO (hi:Inv w0 M w H)(hf:∀ x,(f x).length=s){ob:Option Nat}{T':TypeId}{fr:Nat×Nat}{j:List Value}(hm:(ob,Obj.cells (arr f xs j).toArray T' fr)∈H)(hn:xs.length=n)(h0:ob=none→n=0):RO w f s (sb ob) n xs:=by
 cases ob with
 | none =>
  have:=h0 rfl
  have hx:xs=[]:=List.eq_nil_of_length_eq_zero (by omega)
  subst hx
  exact ⟨hn,fun _=>this,hf,fun o c h=>by simp at h⟩
 | some b=>rw [←hn];exact hi.ro hf hm
theorem RO.cells (h:RO w f s base n xs):∀ (j:Nat) u,(xs.flatMap f)[j]?=some u→w.cell? (ea base j)=some u:=by
 intro j u hj
 have hlt:j<(xs.flatMap f).length:=(List.getElem?_eq_some_iff.1 hj).1
 rw [Kn h.wide] at hlt
 have hs:0<s:=by
  rcases Nat.eq_zero_or_pos s with e | e
  ·subst e;simp at hlt
  ·exact e
 have ho:j / s<xs.length:=Nat.div_lt_of_lt_mul (by rw [Nat.mul_comm];exact hlt)
 have hc:j%s<s:=Nat.mod_lt _ hs
 have hjd:j / s*s+j%s=j:=by rw [Nat.mul_comm];exact Nat.div_add_mod j s
 have hx:xs[j / s]?=some xs[j / s]:=List.getElem?_eq_getElem ho
 have h1:=h.cell (j / s) (j%s) ho hc _ hx
 rw [hjd] at h1
 rw [h1]
 have h2:=Zar h.wide xs[j / s] xs (j / s) (j%s) ho hc
 rw [hjd,hj,List.getD_eq_getElem?_getD,hx] at h2
 exact h2.symm
theorem RO.src {P:Program}{t e':TypeId}(h:RO w f s base n xs)(hk:P.underlying t=some (.slice e'))(h1:∀ x,(f x).all (·.oneCell')=true)(c:Nat):Src P s t (.slice base n c) n (xs.flatMap f) w:=by
 have hall:∀ u,u∈xs.flatMap f→u.oneCell'=true:=by
  intro u hu
  obtain ⟨x,_,hx⟩:=List.mem_flatMap.1 hu
  exact List.all_eq_true.1 (h1 x) u hx
 cases base with
 | none =>
  have hn:=h.nil rfl
  have hx:xs=[]:=List.eq_nil_of_length_eq_zero (by rw [h.len];exact hn)
  subst hx;subst hn
  exact Src.ofNil w hk c
 | some a =>
  refine Src.ofSlice w hk a n c _ (by rw [Kn h.wide,h.len]) (fun j u hj=>?_) hall
  have:=h.cells j u hj
  simpa [ea] using this
theorem RO.drew (h:RO w f s base n xs):RO w.drew f s base n xs:=⟨h.len,h.nil,h.wide,fun o c ho hc x hx=>h.cell o c ho hc x hx⟩
theorem RO.first {P:Program}(h:RO w f s base n xs)(c:Nat):(Builtin.firstCells s n (.slice base n c)).run P w=.ok (xs.flatMap f).toArray w:=by
 cases base with
 | none =>
  have hn:=h.nil rfl
  have hx:xs=[]:=List.eq_nil_of_length_eq_zero (by rw [h.len];exact hn)
  subst hx;subst hn
  exact run_firstCells_none w s 0 0 c
 | some a=>exact run_firstCells_some w s n a n c _ (by rw [Kn h.wide,h.len]) (fun j u hj=>by have:=h.cells j u hj;simpa [ea] using this)
end
section rules
variable {C : Cx} {ops : Array Oper} {Q : Exit → Act → World → Prop} {l : List Nat} {E : Env} {H R : Heap} {i d : Nat} {ty : TypeId} {pos : String} {af : Array Edge} {g : Option (Nat × Bool)}
theorem Z6b {P:Program}{w:World}{b o:Nat}{T':TypeId}{cs:Array Value}{vs:List Value}(hb:w.heap[b]?=some (.cells cs T' (0,0)))(hfit:o+vs.length≤cs.size)(h1:∀ u,u∈vs→u.oneCell'=true) :
    w.setCells b o vs=w.setRow b (cs.toList.take o++vs++cs.toList.drop (o+vs.length)).toArray:=by
  have h2:=run_storeCells_at P b o T' vs 0 cs w hb (by simpa using hfit) h1
  have h3:=run_storeCells_cells (P:=P) b o vs 0 w (fun j hj=>by
    simp only [Nat.add_zero,World.cell?,hb]
    simp;omega) (fun j hj=>by simp [World.frozen?,hb]) h1
  simp only [Nat.add_zero] at h2 h3
  rw [h2] at h3
  injection h3 with _ h3
  exact h3.symm
structure ElemT (P:Program)(t e:TypeId)(s by':Nat)(z:Value):Prop where
  slice:Ym P t=some e
  size:Yg P e=some s
  bytes:Vn P e=some by'
  zero:Xb P e=some z
  zsize:z.cells.size=s
theorem TO.append {α:Type}{f:α→List Value}{s by':Nat}{z:Value}{t e:TypeId}{x y:Operand}{ob:Option Nat}{base:Option Addr}{n c m cy:Nat}{xs ys:List α}{j:List Value}
    (hf:∀ x,(f x).length=s)(h1:∀ x,(f x).all (·.oneCell')=true)(hT:ElemT C.P t e s by' z)
    (ho:ops[i]?=some ⟨some d,.call ⟨.builtin .append,#[x,y],#[t,t]⟩,ty,pos,af,g⟩)(hg:Zp ops E g=true)(hd:Nat.ble (d+1) C.n=true)
    (hx:ev E x=some (.slice (sb ob) n c))(hy:ev E y=some (.slice base m cy))
    (ht:Take (ob,.cells (arr f xs j).toArray e (0,0)) H R)(hn:xs.length=n)(hnc:n≤c)(hj:j.length=(c-n)*s)(h0:ob=none→c=0)
    (hsrc:∀ w,Inv C.w0 C.M w H→RO w f s base m ys)(hroom:(n+m)*by'≤140737488355328)(hmax:n+m≤4611686018427387904)
    (kk:∀ (ob':Option Nat) (c':Nat) (j':List Value),n+m≤c'→j'.length=(c'-(n+m))*s→(ob'=none→c'=0)→TO C ops Q l ((d,.slice (sb ob') (n+m) c')::E) ((ob',.cells (arr f (xs++ys) j').toArray e (0,0))::R)) :
    TO C ops Q (i::l) E H:=by
  refine Ky ho hg (by simp) fun a w hfit hi=>?_
  obtain ⟨ti,hti,hsz⟩:=Gy hT.size
  have hu:=Vg hT.slice
  have hz':ti.zero=some z:=by have:=hT.zero;simpa [Xb,hti] using this
  have hb':ti.bytes=by':=by have:=hT.bytes;simpa [Vn,hti] using this
  have hs:=hsrc w hi
  have hro:=hi.roO hf ht.mem hn (fun e=>by have:=h0 e;omega)
  have hexec:(execOp a.eval ⟨some d,.call ⟨.builtin .append,#[x,y],#[t,t]⟩,ty,pos,af,g⟩).run C.P w=((Builtin.append_ #[t,t] ty #[.slice (sb ob) n c,.slice base m cy]).run C.P w).andThen fun v w'=>.ok (.value v) w':=by
    simp [execOp,resolve,invoke,builtin,hfit.ev hx,hfit.ev hy]
  rw [hexec]
  by_cases hr:n+m≤c
  · cases ob with
    | none =>
      have:=h0 rfl
      subst this
      have hm0:m=0:=by omega
      subst hm0
      have hys:ys=[]:=List.eq_nil_of_length_eq_zero hs.len
      subst hys
      have:(Builtin.append_ #[t,t] ty #[.slice none n 0,.slice base 0 cy]).run C.P w=.ok (.slice none n 0) w:=by
        have hl:=(hs.src hu h1 cy).len w
        have hc:=(hs.src hu h1 cy).cells
        have hn0:n=0:=by omega
        subst hn0
        simp only [List.flatMap_nil] at hc
        simp [Builtin.append_,run_underlying hu,sizeOf,typeInfo,hti,hl,hsz,hc]
      simp only [sb,Option.map_none,this,Result.andThen_ok]
      refine kk none 0 j (by omega) (by omega) (fun _=>rfl) _ _ (hfit.put hd _) ?_
      rw [List.append_nil]
      exact hi.perm ht
    | some b =>
      have hb:=hi.own b _ ht.mem
      have hlen:(arr f xs j).length=c*s:=by
        simp only [arr,List.length_append,Kn hf,hj,hn]
        rw [←Nat.add_mul];congr 1;omega
      have hnews:(ys.flatMap f).length=m*s:=by rw [Kn hf,hs.len]
      have hfit2:n*s+(ys.flatMap f).length≤(arr f xs j).toArray.size:=by
        rw [hnews,List.size_toArray,hlen,←Nat.add_mul];exact Nat.mul_le_mul_right s hr
      have hall:=(hs.src hu h1 cy).one
      have hcell:∀ q,q<(ys.flatMap f).length→(w.cell? ⟨b,0+n*ti.size+q,none⟩).isSome=true:=fun q hq=>by
        rw [hsz,Nat.zero_add,hi.cell_own ht.mem,Array.getElem?_eq_getElem (by omega)];rfl
      have hr2:=run_append_room_src (P:=C.P) w t t ty e ti hu hti b 0 n c (.slice base m cy) m (ys.flatMap f) (by rw [hsz];exact hs.src hu h1 cy) hr hcell (fun q _=>hi.frozen_own ht.mem _)
      rw [hsz,Nat.zero_add,Z6b (P:=C.P) hb hfit2 hall] at hr2
      simp only [sb,Option.map_some,hr2,Result.andThen_ok]
      refine kk (some b) c (j.drop (m*s)) hr ?_ (by simp) _ _ (hfit.put hd _) ?_
      ·rw [List.length_drop,hj,←Nat.sub_mul];congr 1;omega
      · have : ((arr f xs j).toArray.toList.take (n * s) ++ ys.flatMap f ++ (arr f xs j).toArray.toList.drop (n * s + (ys.flatMap f).length)).toArray = (arr f (xs ++ ys) (j.drop (m * s))).toArray := by
          have e1:(xs.flatMap f).length=n*s:=by rw [Kn hf,hn]
          simp only [arr,List.flatMap_append]
          rw [hnews]
          congr 1
          rw [←e1,List.take_left',List.drop_append]
          ·simp [e1,List.append_assoc,List.drop_eq_nil_of_le (show (xs.flatMap f).length≤n*s+m*s by omega)]
          ·rfl
        rw [←this]
        exact hi.setRow ht
  · have hold : (Builtin.firstCells ti.size n (.slice (sb ob) n c)).run C.P w.drew = .ok (xs.flatMap f).toArray w.drew := by rw [hsz]; exact hro.drew.first c
    have hg2:=run_append_grow_src (P:=C.P) w t t ty e ti z hu hti hz' (sb ob) n c (xs.flatMap f) hold (.slice base m cy) m (ys.flatMap f) (by rw [hsz];exact hs.src hu h1 cy) (by omega) (by omega) (by
      rw [hb'];exact growslice_fits (by omega) hroom)
    simp only [hg2,Result.andThen_ok]
    have hcap:n+m≤grownCap w (n+m) c e:=by unfold grownCap Question.cut;simp only;omega
    refine kk (some w.heap.size) (grownCap w (n+m) c e) (Builtin.zeroCells z.cells (grownCap w (n+m) c e-(n+m))).toList hcap (by rw [Array.length_toList,size_zeroCells,hT.zsize]) (by simp) _ _ (hfit.put hd _) ?_
    have e2:((xs.flatMap f++ys.flatMap f).toArray++Builtin.zeroCells z.cells (grownCap w (n+m) c e-(n+m)))=(arr f (xs++ys) (Builtin.zeroCells z.cells (grownCap w (n+m) c e-(n+m))).toList).toArray:=by
      simp only [arr,List.flatMap_append]
      apply Array.ext'
      simp [List.append_assoc]
    rw [e2]
    have h3:=(hi.perm ht).drew.alloc (Obj.cells (arr f (xs++ys) (Builtin.zeroCells z.cells (grownCap w (n+m) c e-(n+m))).toList).toArray e (0,0))
    exact h3.pick (Lb (S:=[(ob,.cells (arr f xs j).toArray e (0,0))]) (by
      refine List.Perm.cons _ ?_
      exact (List.perm_append_comm (l₁:=[(ob,Obj.cells (arr f xs j).toArray e (0,0))]) (l₂:=R))))
end rules
end Go.Acq
namespace Go.Acq
open Go Go.RowKit
structure Arc where
  fr:Int
  to:Int
  cap:Int
  deriving DecidableEq
instance:Inhabited Arc:=⟨⟨0,0,0⟩⟩
def Zu (a:Arc):List Value:=[.int .i64 a.fr,.int .i64 a.to,.int .i64 a.cap]
theorem arcC_len (a:Arc):(Zu a).length=3:=rfl
def Has (w:World)(b:Nat)(cs:List Value):Prop:=∀ (j:Nat) v,cs[j]?=some v→w.cell? ⟨b,j,none⟩=some v
section
variable {w w0 : World} {M : List Nat} {H : Heap} {b : Nat} {cs : List Value}
theorem Inv.has (hi:Inv w0 M w H){T':TypeId}{fr:Nat×Nat}(hm:(some b,Obj.cells cs.toArray T' fr)∈H):Has w b cs:=fun j v hj=>by rw [hi.cell_own hm];simpa using hj
end
section rules
variable {C : Cx} {ops : Array Oper} {Q : Exit → Act → World → Prop} {l : List Nat} {E : Env} {H R : Heap} {i d : Nat} {ty : TypeId} {pos : String} {af : Array Edge} {g : Option (Nat × Bool)}
end rules
theorem Zdr (x:Int){n:Int}(h:0<n):-n<x.tmod n:=by
 have h1:=Int.tmod_lt_of_pos (-x) h
 rw [Int.neg_tmod] at h1;omega
theorem Z4a {α:Type}{xs:List α}{k:Nat}(h:k<xs.length)(d:α):xs.getD k d∈xs:=by
 rw [List.getD_eq_getElem?_getD,List.getElem?_eq_getElem h];exact List.getElem_mem h
def Nk (x n:Int):Int:=if n<1 then 0 else (x.tmod n+n).tmod n
theorem Z3y {x n:Int}(h:1≤n):0≤Nk x n∧Nk x n<n:=by
 unfold Nk
 rw [if_neg (by omega)]
 have h1:=Int.tmod_lt_of_pos x (show 0<n by omega)
 have h2:=Zdr x (show 0<n by omega)
 have h3:=Int.tmod_lt_of_pos (x.tmod n+n) (show 0<n by omega)
 have h4:=Int.tmod_nonneg n (show 0≤x.tmod n+n by omega)
 omega
def Uz:Int→List Arc→Option Int
  | left,[]=>some left
  | left,a::as=>if a.cap<0∨left<a.cap then none else Uz (left-a.cap) as
theorem Zi9 {left:Int}{as:List Arc}{k:Nat}(hk:k<as.length):Uz left (as.drop k)=if (as.getD k default).cap<0∨left<(as.getD k default).cap then none else Uz (left-(as.getD k default).cap) (as.drop (k+1)):=by
 rw [List.drop_eq_getElem_cons hk,Uz,List.getD_eq_getElem?_getD,List.getElem?_eq_getElem hk];rfl
def Ux (N v:Int):Bool:=decide (0≤v∧v<N)
def Gj (N:Int)(a:Arc):Bool:=Ux N a.fr&&Ux N a.to
def Nv (a:Arc):Bool:=decide (0≤a.cap)
def Kr (N S T:Int)(as:List Arc):Int :=
  if ¬(2≤N∧N≤4096) then 10 else if ¬((as.length:Int)≤16384) then 11 else if ¬(Ux N S=true∧Ux N T=true∧S≠T) then 12
  else if as.all (Gj N)=false then 13 else if as.all Nv=false then 14 else if (Uz 4611686018427387904 as).isNone then 15 else 0
def chk (N S T:Int)(n:Nat)(al:List Arc)(k:Nat):Prop :=
  (0<k→2≤N∧N≤4096)∧(1<k→(n:Int)≤16384)∧(2<k→Ux N S=true∧Ux N T=true∧S≠T)∧(3<k→al.all (Gj N)=true)∧(4<k→al.all Nv=true)∧(5<k→(Uz 4611686018427387904 al).isSome=true)
section
variable {N S T : Int} {n : Nat} {al : List Arc}
theorem checkE_2 (hl:al.length=n)(c:chk N S T n al 2)(h:¬(Ux N S=true∧Ux N T=true∧S≠T)):Kr N S T al=12:=by
 unfold Kr;rw [if_neg (not_not_intro (c.1 (by omega))),if_neg (not_not_intro (by rw [hl];exact c.2.1 (by omega))),if_pos h]
end
end Go.Acq
namespace Go.Acq
open Go
abbrev i64ok (x:Int):Prop:=-9223372036854775808≤x∧x≤9223372036854775807
abbrev inb (i:Int)(n:Nat):Prop:=0≤i∧i<(n:Int)
abbrev mkok (p:Int):Prop:=0≤p∧p≤4294967296
abbrev apok (n by':Nat):Prop:=n*by'≤140737488355328∧n≤4611686018427387904
def gd {α:Type}(c:Prop)[Decidable c](m:Option α):Option α:=if c then m else none
theorem Zx {α:Type}{c:Prop}[Decidable c]{m:Option α}{o:α}(h:gd c m=some o):c∧m=some o:=by
 unfold gd at h;split at h
 ·exact ⟨by assumption,h⟩
 ·cases h
theorem Va {α:Type}{c:Prop}[Decidable c]{m:Option α}(h:c):gd c m=m:=if_pos h
theorem Zm {α β:Type}{m:Option α}{k:α→Option β}{o:β}(h:Option.bind m k=some o):∃ a,m=some a∧k a=some o:=by
 cases m with
 | none=>cases h
 | some a=>exact ⟨a,rfl,h⟩
theorem Zq {α:Type}{c:Prop}[Decidable c]{a b:Option α}{o:α}(h:(if c then a else b)=some o):(c∧a=some o)∨(¬c∧b=some o):=by
 split at h
 ·exact .inl ⟨by assumption,h⟩
 ·exact .inr ⟨by assumption,h⟩
def Xd {S O:Type}(step:S→Option (S⊕O)):Nat→S→Option O
  | 0,_=>none
  | n+1,s=>match step s with
    | none=>none
    | some (.inl s')=>Xd step n s'
    | some (.inr o)=>some o
def Xf:Nat:=18446744073709551616
def Z6j {S O:Type}(step:S→Option (S⊕O))(n:Nat)(o:O):S⊕O→Prop
  | .inl s=>Xd step n s=some o
  | .inr p=>p=o
theorem Ub {S O:Type}{step:S→Option (S⊕O)}{n:Nat}{s:S}{o:O}(h:Xd step n s=some o):∃ n' r,n=n'+1∧step s=some r∧Z6j step n' o r:=by
 cases n with
 | zero=>cases h
 | succ n =>
  simp only [Xd] at h
  cases hs:step s with
  | none=>rw [hs] at h;cases h
  | some r =>
   rw [hs] at h
   cases r with
   | inl s'=>exact ⟨n,_,rfl,rfl,h⟩
   | inr p=>exact ⟨n,_,rfl,rfl,by simpa [Z6j] using h⟩
theorem Wu {S O:Type}{step:S→Option (S⊕O)}{n:Nat}{o:O}{s:S}{r:S⊕O}(h:some (.inl s)=some r)(c:Z6j step n o r):Xd step n s=some o:=by
 injection h with h;subst h;exact c
theorem ret1 {α:Type}{a b:α}(h:some a=some b):b=a:=by injection h with h;exact h.symm
theorem ret2 {α β:Type}{a a':α}{b b':β}(h:some (a,b)=some (a',b')):a'=a∧b'=b:=by injection h with h;injection h with h1 h2;exact ⟨h1.symm,h2.symm⟩
theorem ret3 {α β γ:Type}{a a':α}{b b':β}{c c':γ}(h:some (a,b,c)=some (a',b',c')):a'=a∧b'=b∧c'=c:=by
 injection h with h;injection h with h1 h;injection h with h2 h3;exact ⟨h1.symm,h2.symm,h3.symm⟩
def Ok {α:Type}(m:Option α)(Q:α→Prop):Prop:=∃ a,m=some a∧Q a
theorem Ok.some {α:Type}{a:α}{Q:α→Prop}:Ok (Option.some a) Q↔Q a:=⟨fun ⟨b,h,hq⟩=>by injection h with h;subst h;exact hq,fun h=>⟨a,rfl,h⟩⟩
theorem Ok.gd {α:Type}{c:Prop}[Decidable c]{m:Option α}{Q:α→Prop}:Ok (Acq.gd c m) Q↔c∧Ok m Q:=by
 constructor
 ·rintro ⟨a,h,hq⟩;obtain ⟨h1,h2⟩:=Zx h;exact ⟨h1,a,h2,hq⟩
 ·rintro ⟨h1,a,h2,hq⟩;exact ⟨a,by rw [Va h1];exact h2,hq⟩
theorem Ok.bind {α β:Type}{m:Option α}{k:α→Option β}{Q:β→Prop}:Ok (Option.bind m k) Q↔Ok m fun a=>Ok (k a) Q:=by
 constructor
 ·rintro ⟨b,h,hq⟩;obtain ⟨a,h1,h2⟩:=Zm h;exact ⟨a,h1,b,h2,hq⟩
 ·rintro ⟨a,h1,b,h2,hq⟩;exact ⟨b,by rw [h1];exact h2,hq⟩
theorem Ok.ite {α:Type}{c:Prop}[Decidable c]{a b:Option α}{Q:α→Prop}:Ok (if c then a else b) Q↔(c→Ok a Q)∧(¬c→Ok b Q):=by
 by_cases h:c <;> simp [h]
theorem Ok.mono {α:Type}{m:Option α}{Q R:α→Prop}(h:Ok m Q)(hq:∀ a,Q a→R a):Ok m R:=by
 obtain ⟨a,h1,h2⟩:=h;exact ⟨a,h1,hq a h2⟩
theorem Ok.loop {S O:Type}{step:S→Option (S⊕O)}{n:Nat}{s0:S}{Q:O→Prop}(I:S→Prop)(μ:S→Nat)(h0:I s0)(hn:μ s0<n)
    (hstep:∀ s,I s→Ok (step s) fun r=>match r with | .inl s'=>I s'∧μ s'<μ s | .inr o=>Q o):Ok (Xd step n s0) Q:=by
  induction n generalizing s0 with
  | zero=>omega
  | succ n ih =>
    obtain ⟨r,h1,h2⟩:=hstep s0 h0
    simp only [Xd]
    rw [h1]
    cases r with
    | inl s'=>exact ih h2.1 (by have:=h2.2;omega)
    | inr o=>exact ⟨o,rfl,h2⟩
end Go.Acq
namespace Go.Acq
theorem Wi {S O:Type}{step:S→Option (S⊕O)}{n:Nat}{o p:O}{r:S⊕O}(h:some (.inr p)=some r)(c:Z6j step n o r):o=p:=by
 injection h with h;subst h;exact Eq.symm c
end Go.Acq
namespace Go.Acq
end Go.Acq
namespace Go.Acq
end Go.Acq
namespace Go.Acq
end Go.Acq
namespace Go.Acq
abbrev u64ok (x:Int):Prop:=0≤x∧x≤18446744073709551615
end Go.Acq
namespace Go.Acq
theorem Ok.lp {S O:Type}{step:S→Option (S⊕O)}{n:Nat}{s0:S}{Q:O→Prop}(I:S→Prop)(μ:S→Nat)(h0:I s0)(hn:μ s0<n)
    (hstep:∀ s,I s→∀ P:S⊕O→Prop,(∀ s',I s'→μ s'<μ s→P (.inl s'))→(∀ o,Q o→P (.inr o))→Ok (step s) P):Ok (Xd step n s0) Q :=
  Ok.loop I μ h0 hn fun s hs=>hstep s hs _ (fun s' h1 h2=>⟨h1,h2⟩) (fun o h=>h)
end Go.Acq
namespace Go.Acq
def Rx {S X V:Type}(y:S→V→Option (S⊕X))(t:S⊕X)(v:V):Option (S⊕X):=match t with | .inl s=>y s v | .inr _=>none
theorem Zdf {S X V:Type}{y:S→V→Option (S⊕X)}{t r:S⊕X}{v:V}(h:Rx y t v=some r):∃ s,t=.inl s∧y s v=some r:=by
 cases t with
 | inl s=>exact ⟨s,rfl,h⟩
 | inr x=>cases h
end Go.Acq
namespace Go.Acq
open Go Go.RowKit
structure Sp where
  deps:List Nat
  eff:Bool
  eats:List Nat
  rel:List Value→Value→Heap→Prop
def relV (u:Value):List Value→Value→Heap→Prop:=fun _ v e=>v=u∧e=[]
def relN:List Value→Value→Heap→Prop:=fun _ _ e=>e=[]
def Xm (S:List Sp)(i:Nat):List Nat:=match S[i]? with | some s=>s.deps | none=>[]
def Xs (S:List Sp)(i:Nat):Bool:=match S[i]? with | some s=>s.eff | none=>false
def Gq (S:List Sp)(i:Nat):List Nat:=match S[i]? with | some s=>s.eats | none=>[]
def Z16 (S:List Sp)(done:Nat→Bool)(j:Nat):Bool:=(List.range S.length).any fun q=>done q&&(Gq S q).any (Nat.beq j)
def Kh (S:List Sp)(done:Nat→Bool)(j:Nat):Bool:=done j&&!Z16 S done j
def No (S:List Sp)(j:Nat):Bool:=(List.range S.length).any fun q=>(Gq S q).any (Nat.beq j)
def Z0m (S:List Sp)(i:Nat):List Nat:=(Xm S i).filter fun j=>!(Gq S i).any (Nat.beq j)
def Uy (S:List Sp)(i:Nat):List Value→Value→Heap→Prop:=match S[i]? with | some s=>s.rel | none=>fun _ _ _=>False
def Ys (ops:Array Oper)(i:Nat):Option Nat:=(ops[i]?).bind (·.dst)
def Vu (ops:Array Oper)(vs:Nat→Value):List Nat→Env
  | []=>[]
  | j::l=>match Ys ops j with
    | some d=>(d,vs j)::Vu ops vs l
    | none=>Vu ops vs l
def Wp (es:Nat→Heap):List Nat→Heap
  | []=>[]
  | j::l=>es j++Wp es l
def Nb (S:List Sp)(vs:Nat→Value)(es:Nat→Heap):List Nat→Prop
  | []=>True
  | j::l=>Uy S j ((Xm S j).map vs) (vs j) (es j)∧Nb S vs es l
def Ju (d:Option Nat)(v:Value)(E:Env):Env:=match d with | some d=>(d,v)::E | none=>E
def Uw (ops:Array Oper):List Nat→List Nat
  | []=>[]
  | j::l=>match Ys ops j with
    | some d=>d::Uw ops l
    | none=>Uw ops l
def Ga (S:List Sp)(i:Nat):Nat:=((List.range i).filter (Xs S)).length
def Z0f (ops:Array Oper)(S:List Sp)(hd:List (List Nat)):Bool :=
  ((List.range S.length).all fun i =>
    ((Xm S i).all fun j=>Nat.blt j S.length&&Ut ops ops.size i j)&&Nx (Xm S i) &&
    ((Gq S i).all fun j=>Nat.blt j i&&(Xm S i).any (Nat.beq j)&&((List.range S.length).all fun q=>Nat.beq q i||(!(Gq S q).any (Nat.beq j)&&(!(Xm S q).any (Nat.beq j)||Ut ops ops.size i q))))&&(!Xs S i||(Gq S i).isEmpty) &&
    (!Xs S i||(((List.range i).all fun j=>!Xs S j||Ut ops ops.size i j) &&
      ((hd.getD (Ga S i+1) []).all fun j=>Nat.beq j i||(Nat.blt j S.length&&Ut ops ops.size i j))))) &&
  (hd.getD 0 []).isEmpty
section
variable {C : Cx} {ops : Array Oper} {Q : Exit → Act → World → Prop} {E : Env} {H : Heap}
def ObQ (C:Cx)(ops:Array Oper)(Q:Exit→Act→World→Prop)(S:List Sp)(W:Env)(Hc:Heap)(i:Nat):Prop :=
  ∀ (vs:Nat→Value) (es:Nat→Heap) (Es:Env) (Hx:Heap),Nb S vs es (Xm S i) →
    TO C ops (fun e a w=>match e with
      | .normal=>∃ v e',Uy S i ((Xm S i).map vs) v e'∧Fits C.n C.D (Ju (Ys ops i) v (Vu ops vs (Xm S i)++(W++Es))) a∧Inv C.w0 C.M w (e'++(Hc++(Wp es (Z0m S i)++Hx)))
      | e=>Q e a w) [i] (Vu ops vs (Xm S i)++(W++Es)) (Hc++(Wp es (Xm S i)++Hx))
def ObE (C:Cx)(ops:Array Oper)(Q:Exit→Act→World→Prop)(S:List Sp)(HR:Nat→List Value→Heap→Prop)(hd:List (List Nat))(W:Env)(Hc:Heap)(i:Nat):Prop :=
  ∀ (vs:Nat→Value) (es:Nat→Heap) (Es:Env) (Hx hb:Heap),Nb S vs es (Xm S i)→HR (Ga S i) ((hd.getD (Ga S i) []).map vs) hb →
    TO C ops (fun e a w=>match e with
      | .normal=>∃ v hb',Uy S i ((Xm S i).map vs) v []∧HR (Ga S i+1) ((hd.getD (Ga S i+1) []).map (fun j=>cond (Nat.beq j i) v (vs j))) hb' ∧
          Fits C.n C.D (Ju (Ys ops i) v (Vu ops vs (Xm S i)++(W++Es))) a∧Inv C.w0 C.M w (hb'++(Hc++(Wp es (Xm S i)++Hx)))
      | e=>Q e a w) [i] (Vu ops vs (Xm S i)++(W++Es)) (hb++(Hc++(Wp es (Xm S i)++Hx)))
def ObsG (C:Cx)(ops:Array Oper)(Q:Exit→Act→World→Prop)(S:List Sp)(HR:Nat→List Value→Heap→Prop)(hd:List (List Nat))(W:Env)(Hc:Heap):List Nat→Prop
  | []=>True
  | i::l=>(cond (Xs S i) (ObE C ops Q S HR hd W Hc i) (ObQ C ops Q S W Hc i))∧ObsG C ops Q S HR hd W Hc l
theorem Z4s {vs:Nat→Value}{t:Nat}{v:Value}:∀ {l:List Nat},(t,v)∈Vu ops vs l→∃ j,j∈l∧Ys ops j=some t∧v=vs j
 | [],h=>by simp [Vu] at h
 | j::l,h=>by
  simp only [Vu] at h
  cases hs:Ys ops j with
  | none=>rw [hs] at h;obtain ⟨q,h1,h2⟩:=Z4s h;exact ⟨q,.tail _ h1,h2⟩
  | some d =>
   rw [hs] at h
   rcases List.mem_cons.1 h with h | h
   ·injection h with h1 h2;subst h1;subst h2;exact ⟨j,.head _,hs,rfl⟩
   ·obtain ⟨q,h1,h2⟩:=Z4s h;exact ⟨q,.tail _ h1,h2⟩
theorem mem_slotsG {d:Nat}:∀ {l:List Nat},d∈Uw ops l↔∃ j,j∈l∧Ys ops j=some d
 | []=>by simp [Uw]
 | j::l=>by
  simp only [Uw]
  cases hs:Ys ops j with
  | none =>
   rw [mem_slotsG (l:=l)]
   constructor
   ·rintro ⟨q,h1,h2⟩;exact ⟨q,.tail _ h1,h2⟩
   ·
    rintro ⟨q,h1,h2⟩
    rcases List.mem_cons.1 h1 with e | e
    ·subst e;rw [hs] at h2;cases h2
    ·exact ⟨q,e,h2⟩
  | some u =>
   simp only [List.mem_cons,mem_slotsG (l:=l)]
   constructor
   ·
    rintro (h | ⟨q,h1,h2⟩)
    ·subst h;exact ⟨j,.inl rfl,hs⟩
    ·exact ⟨q,.inr h1,h2⟩
   ·
    rintro ⟨q,h1 | h1,h2⟩
    ·subst h1;rw [hs] at h2;injection h2 with h2;exact .inl h2.symm
    ·exact .inr ⟨q,h1,h2⟩
theorem Z8x:∀ {l:List Nat},(Uw ops l).Nodup→∀ i j d,i∈l→j∈l→Ys ops i=some d→Ys ops j=some d→i=j
 | [],_,i,j,d,hi,_,_,_=>by cases hi
 | q::l,hn,i,j,d,hi,hj,h1,h2=>by
  simp only [Uw] at hn
  cases hs:Ys ops q with
  | none =>
   rw [hs] at hn
   have hi':i∈l:=by rcases List.mem_cons.1 hi with e | e;(subst e;rw [hs] at h1;cases h1);exact e
   have hj':j∈l:=by rcases List.mem_cons.1 hj with e | e;(subst e;rw [hs] at h2;cases h2);exact e
   exact Z8x hn i j d hi' hj' h1 h2
  | some u =>
   rw [hs] at hn
   simp only [List.nodup_cons] at hn
   rcases List.mem_cons.1 hi with e | hi' <;> rcases List.mem_cons.1 hj with e' | hj'
   ·rw [e,e']
   ·subst e;rw [hs] at h1;injection h1 with h1;subst h1;exact absurd (mem_slotsG.2 ⟨j,hj',h2⟩) hn.1
   ·subst e';rw [hs] at h2;injection h2 with h2;subst h2;exact absurd (mem_slotsG.2 ⟨i,hi',h1⟩) hn.1
   ·exact Z8x hn.2 i j d hi' hj' h1 h2
theorem Z8a {S:List Sp}{vs:Nat→Value}{es:Nat→Heap}:∀ {l:List Nat},(∀ j,j∈l→Uy S j ((Xm S j).map vs) (vs j) (es j))→Nb S vs es l
 | [],_=>trivial
 | j::l,h=>⟨h j (.head _),Z8a fun q hq=>h q (.tail _ hq)⟩
def Xh (es:Nat→Heap)(done:Nat→Bool)(l:List Nat):Heap:=l.flatMap fun j=>if done j then es j else []
theorem Zd6:∀ (D l:List Nat),D.Nodup→(∀ j,j∈D→j∈l)→∃ r,List.Perm l (D++r)
 | [],l,_,_=>⟨l,List.Perm.refl _⟩
 | j::D,l,hn,hs=>by
  simp only [List.nodup_cons] at hn
  have hp:=List.perm_cons_erase (hs j (.head _))
  obtain ⟨r,hr⟩:=Zd6 D (l.erase j) hn.2 (fun q hq=>by
   have hql:=hs q (.tail _ hq)
   have hne:q≠j:=by rintro rfl;exact hn.1 hq
   exact (List.mem_erase_of_ne hne).2 hql)
  exact ⟨r,hp.trans (List.Perm.cons j hr)⟩
theorem Zct {es:Nat→Heap}{done:Nat→Bool}:∀ {D:List Nat},(∀ j,j∈D→done j=true)→Xh es done D=Wp es D
 | [],_=>rfl
 | j::D,h=>by
  have ih:=Zct (es:=es) (D:=D) (fun q hq=>h q (.tail _ hq))
  unfold Xh at ih ⊢
  rw [List.flatMap_cons,Wp,if_pos (h j (.head _)),ih]
theorem Zcn {es:Nat→Heap}{done:Nat→Bool}{i:Nat}(e':Heap)(hdi:done i=false):∀ {l:List Nat},l.Nodup→i∈l →
    List.Perm (Xh (fun j=>if j=i then e' else es j) (fun q=>if q=i then true else done q) l) (e'++Xh es done l)
  | [],_,h=>by cases h
  | j::l,hn,hm=>by
    simp only [List.nodup_cons] at hn
    have hcongr:∀ l:List Nat,i∉l→Xh (fun j=>if j=i then e' else es j) (fun q=>if q=i then true else done q) l=Xh es done l:=by
      intro l hl
      unfold Xh
      induction l with
      | nil=>rfl
      | cons q l ih =>
        have hq:q≠i:=by rintro rfl;exact hl (.head _)
        rw [List.flatMap_cons,List.flatMap_cons,ih (fun h=>hl (.tail _ h))]
        simp [hq]
    by_cases hji:j=i
    · subst hji
      have h1:Xh (fun q=>if q=j then e' else es q) (fun q=>if q=j then true else done q) (j::l)=e'++Xh es done l:=by
        have:=hcongr l hn.1
        unfold Xh at this ⊢
        rw [List.flatMap_cons,this];simp
      have h2:Xh es done (j::l)=Xh es done l:=by
        unfold Xh;rw [List.flatMap_cons,hdi];simp
      rw [h1,h2]
    · have hm' : i ∈ l := by rcases List.mem_cons.1 hm with e | e; (exact absurd e.symm hji); exact e
      have ih:=Zcn (es:=es) e' hdi hn.2 hm'
      have h1:Xh (fun q=>if q=i then e' else es q) (fun q=>if q=i then true else done q) (j::l)=(if done j then es j else [])++Xh (fun q=>if q=i then e' else es q) (fun q=>if q=i then true else done q) l:=by
        unfold Xh;rw [List.flatMap_cons];simp [hji]
      have h2:Xh es done (j::l)=(if done j then es j else [])++Xh es done l:=by
        unfold Xh;rw [List.flatMap_cons]
      rw [h1,h2]
      refine (List.Perm.append_left _ ih).trans ?_
      rw [←List.append_assoc,←List.append_assoc]
      exact List.Perm.append_right _ List.perm_append_comm
theorem done_eat {es:Nat→Heap}{live live':Nat→Bool}{i:Nat}(e':Heap){D ea:List Nat}{l:List Nat}(hl:l.Nodup)(hil:i∈l)(hiD:i∉D)(hD:D.Nodup)(hDl:∀ j,j∈D→j∈l∧live j=true)
    (hli:live i=false)(hli':live' i=true)(h1:∀ j,j≠i→live' j=(live j&&!ea.any (Nat.beq j)))(hea:∀ j,j∈ea→j∈D) :
    ∃ Hx,List.Perm (Xh es live l) (Wp es D++Hx)∧List.Perm (Xh (fun j=>if j=i then e' else es j) live' l) (e'++(Wp es (D.filter fun j=>!ea.any (Nat.beq j))++Hx)):=by
  obtain ⟨r,hr⟩:=Zd6 D l hD (fun j hj=>(hDl j hj).1)
  have hnd:(D++r).Nodup:=(List.Perm.nodup_iff hr).1 hl
  have hdis:=(List.nodup_append.1 hnd).2.2
  have hrn:=(List.nodup_append.1 hnd).2.1
  have hir:i∈r:=by
    rcases List.mem_append.1 ((List.Perm.mem_iff hr).1 hil) with h | h
    ·exact absurd h hiD
    ·exact h
  refine ⟨Xh es live r,?_,?_⟩
  · have h2 : List.Perm (Xh es live l) (Xh es live (D ++ r)) := hr.flatMap_right _
    rw [show Xh es live (D++r)=Xh es live D++Xh es live r by simp [Xh],Zct (fun j hj=>(hDl j hj).2)] at h2
    exact h2
  · have h2 : List.Perm (Xh (fun j => if j = i then e' else es j) live' l) (Xh (fun j => if j = i then e' else es j) live' (D ++ r)) := hr.flatMap_right _
    rw [show Xh (fun j=>if j=i then e' else es j) live' (D++r)=Xh (fun j=>if j=i then e' else es j) live' D++Xh (fun j=>if j=i then e' else es j) live' r by simp [Xh]] at h2
    have hDe:∀ D:List Nat,i∉D→(∀ j,j∈D→live j=true)→Xh (fun j=>if j=i then e' else es j) live' D=Wp es (D.filter fun j=>!ea.any (Nat.beq j)):=by
      intro D
      induction D with
      | nil=>intro _ _;rfl
      | cons j D ih =>
        intro hi hj
        have hji:j≠i:=by rintro rfl;exact hi (.head _)
        have ih:=ih (fun h=>hi (.tail _ h)) (fun q hq=>hj q (.tail _ hq))
        unfold Xh at ih ⊢
        rw [List.flatMap_cons,ih,h1 j hji,hj j (.head _),Bool.true_and,List.filter_cons]
        simp only [if_neg hji]
        cases (!ea.any (Nat.beq j)) <;> simp [Wp]
    rw [hDe D hiD (fun j hj=>(hDl j hj).2)] at h2
    have hre:Xh (fun j=>if j=i then e' else es j) live' r=Xh (fun j=>if j=i then e' else es j) (fun q=>if q=i then true else live q) r:=by
      have key:∀ r:List Nat,(∀ j,j∈r→j∉ea)→Xh (fun j=>if j=i then e' else es j) live' r=Xh (fun j=>if j=i then e' else es j) (fun q=>if q=i then true else live q) r:=by
        intro r
        induction r with
        | nil=>intro _;rfl
        | cons j r ih =>
          intro hj
          have ih:=ih fun q hq=>hj q (.tail _ hq)
          unfold Xh at ih ⊢
          rw [List.flatMap_cons,List.flatMap_cons,ih]
          congr 1
          by_cases e:j=i
          ·subst e;simp [hli']
          · have : ea.any (Nat.beq j) = false := by
              rw [Bool.eq_false_iff]
              intro h
              exact hj j (.head _) (any_beq.1 h)
            simp [e,h1 j e,this]
      exact key r fun j hj h=>hdis j (hea j h) j hj rfl
    rw [hre] at h2
    have h3:=Zcn (es:=es) (done:=live) e' hli hrn hir
    refine h2.trans ((List.Perm.append_left _ h3).trans ?_)
    rw [←List.append_assoc,←List.append_assoc]
    exact List.Perm.append_right _ List.perm_append_comm
theorem wpOp_Q {ρ:Option Nat}{P:Program}{i:Nat}{K:Act→World→Prop}{a:Act}{w:World}
    (h:wpOpsIn (FW ρ) 0 P ops (fun e a w=>match e with | .normal=>K a w | e=>Q e a w) [i] a w):wpOpIn (FW ρ) 0 P ops Q i K a w:=by
  rw [wpOpsIn_cons] at h
  unfold wpOpIn at h ⊢
  cases ho:ops[i]? with
  | none=>rw [ho] at h;exact h
  | some o =>
    rw [ho] at h
    simp only at h ⊢
    split
    · rename_i hwt
      simp only [hwt,if_true] at h
      refine ⟨h.1,?_⟩
      have h2:=h.2
      generalize (o.semAt (FW ρ).round a.eval).run P w=r at h2 ⊢
      cases r with
      | ok x w'=>cases x <;> exact h2
      | halt x w'=>cases x <;> exact h2
    · rename_i hwt
      simp only [hwt,if_false,Bool.false_eq_true] at h
      exact h
def rdH:List (Nat×Nat×Heap)→Nat→Heap
  | [],_=>[]
  | (j,_,R)::l,i=>cond (Nat.beq j i) R (rdH l i)
def rdK:List (Nat×Nat×Heap)→Nat→Option Nat
  | [],_=>none
  | (j,k,_)::l,i=>cond (Nat.beq j i) (some k) (rdK l i)
def RdOk (HR:Nat→List Value→Heap→Prop):List (Nat×Nat×Heap)→Prop
  | []=>True
  | (_,k,R)::l=>(∀ r,Nat.ble r k=true→∀ vl hb,HR r vl hb→∃ rest,List.Perm hb (R++rest))∧RdOk HR l
def goodR (ops:Array Oper)(S:List Sp)(rd:List (Nat×Nat×Heap)):Bool :=
  rd.all fun p=>(List.range S.length).any fun q=>Xs S q&&Nat.beq (Ga S q) p.2.1&&Ut ops ops.size q p.1
theorem RdOk.get {HR:Nat→List Value→Heap→Prop}:∀ {rd:List (Nat×Nat×Heap)},RdOk HR rd→∀ i r vl hb,(∀ k,rdK rd i=some k→r≤k)→HR r vl hb→∃ rest,List.Perm hb (rdH rd i++rest)
 | [],_,i,r,vl,hb,_,_=>⟨hb,List.Perm.refl _⟩
 | (j,k,R)::l,⟨h1,h2⟩,i,r,vl,hb,hk,hh=>by
  simp only [rdH]
  cases hb':Nat.beq j i with
  | true =>
   exact h1 r (Nat.ble_eq_true_of_le (hk k (by simp only [rdK,hb',cond_true]))) vl hb hh
  | false=>exact RdOk.get h2 i r vl hb (fun k' h=>hk k' (by simp only [rdK,hb',cond_false];exact h)) hh
theorem goodR.get {ops:Array Oper}{S:List Sp}:∀ {rd:List (Nat×Nat×Heap)},goodR ops S rd=true→∀ i k,rdK rd i=some k→∃ q,q<S.length∧Xs S q=true∧Ga S q=k∧Ut ops ops.size q i=true
 | [],_,i,k,h=>by cases h
 | (j,k',R)::l,hg,i,k,h=>by
  simp only [goodR,List.all_cons,Bool.and_eq_true] at hg
  simp only [rdK] at h
  cases hb':Nat.beq j i with
  | true =>
   rw [hb'] at h
   injection h with h
   subst h
   have:=Nat.eq_of_beq_eq_true hb'
   subst this
   obtain ⟨q,hq,h2⟩:=List.any_eq_true.1 hg.1
   simp only [Bool.and_eq_true] at h2
   exact ⟨q,List.mem_range.1 hq,h2.1.1,Nat.eq_of_beq_eq_true h2.1.2,h2.2⟩
  | false=>rw [hb'] at h;exact goodR.get hg.2 i k h
def ObE2 (C:Cx)(ops:Array Oper)(Q:Exit→Act→World→Prop)(S:List Sp)(HR:Nat→List Value→Heap→Prop)(hd:List (List Nat))(W:Env)(Hc:Heap)(i:Nat):Prop :=
  ∀ (vs:Nat→Value) (es:Nat→Heap) (Es:Env) (Hx hb:Heap),Nb S vs es (Xm S i)→HR (Ga S i) ((hd.getD (Ga S i) []).map vs) hb →
    TO C ops (fun e a w=>match e with
      | .normal=>∃ v hb' e',Uy S i ((Xm S i).map vs) v e'∧HR (Ga S i+1) ((hd.getD (Ga S i+1) []).map (fun j=>cond (Nat.beq j i) v (vs j))) hb' ∧
          Fits C.n C.D (Ju (Ys ops i) v (Vu ops vs (Xm S i)++(W++Es))) a∧Inv C.w0 C.M w (hb'++(Hc++(e'++(Wp es (Xm S i)++Hx))))
      | e=>Q e a w) [i] (Vu ops vs (Xm S i)++(W++Es)) (hb++(Hc++(Wp es (Xm S i)++Hx)))
def ObsG3 (C:Cx)(ops:Array Oper)(Q:Exit→Act→World→Prop)(S:List Sp)(HR:Nat→List Value→Heap→Prop)(hd:List (List Nat))(rd:List (Nat×Nat×Heap))(W:Env)(Hc:Heap):List Nat→Prop
  | []=>True
  | i::l=>(cond (Xs S i) (ObE2 C ops Q S HR hd W Hc i) (ObQ C ops Q S W (rdH rd i++Hc) i))∧ObsG3 C ops Q S HR hd rd W Hc l
theorem ObsG3.get {S:List Sp}{HR:Nat→List Value→Heap→Prop}{hd:List (List Nat)}{rd:List (Nat×Nat×Heap)}{W:Env}{Hc:Heap}:∀ {l:List Nat},ObsG3 C ops Q S HR hd rd W Hc l→∀ i,i∈l→(cond (Xs S i) (ObE2 C ops Q S HR hd W Hc i) (ObQ C ops Q S W (rdH rd i++Hc) i))
 | [],_,i,h=>by cases h
 | j::l,⟨h1,h2⟩,i,h=>by
  rcases List.mem_cons.1 h with rfl | h
  ·exact h1
  ·exact ObsG3.get h2 i h
theorem Zb6 {id:Nat}(S:List Sp)(HR:Nat→List Value→Heap→Prop)(hd:List (List Nat))(rd:List (Nat×Nat×Heap))(hb0 Hc:Heap)
    (hm:C.P.follows .mixedOrders=true)(hb:Jb ops=true)(ht:Rh ops S.length=true)(hgood:Z0f ops S hd=true)(hms:Nat.ble S.length ops.size=true)
    (hn:Nx (Uw ops (List.range S.length))=true)(hgr:goodR ops S rd=true)(hro:RdOk HR rd)(h0:HR 0 [] hb0)(hH:Pick (hb0++Hc) H)
    (obs:ObsG3 C ops Q S HR hd rd (wo (Uw ops (List.range S.length)) E) Hc (List.range S.length))
    (k:∀ (vs:Nat→Value) (es:Nat→Heap) (hb:Heap),Nb S vs es (List.range S.length)→HR ((List.range S.length).filter (Xs S)).length ((hd.getD ((List.range S.length).filter (Xs S)).length []).map vs) hb →
      TO C ops Q (List.range' S.length (ops.size-S.length)) (Vu ops vs (List.range S.length)++wo (Uw ops (List.range S.length)) E) (hb++(Hc++Wp es ((List.range S.length).filter fun j=>!No S j)))) :
    T C (.region id ops true) Q E H:=by
  intro a w hf hi
  have hms':=Nat.le_of_ble_eq_true hms
  have hnd:=Z8u hn
  simp only [Z0f,Bool.and_eq_true] at hgood
  obtain ⟨hg,hd0⟩:=hgood
  have hg':∀ i,i<S.length→_:=fun i hi=>List.all_eq_true.1 hg i (List.mem_range.2 hi)
  have hd0':hd.getD 0 []=[]:=by simpa using hd0
  let W:=wo (Uw ops (List.range S.length)) E
  have hW:∀ t v,find W t=some v→find E t=some v∧∀ j,j<S.length→Ys ops j≠some t:=fun t v h=>by
    obtain ⟨h1,h2⟩:=Z9n E _ t v h
    exact ⟨h2,fun j hj hs=>h1 (mem_slotsG.2 ⟨j,List.mem_range.2 hj,hs⟩)⟩
  let rk:(Nat→Bool)→Nat:=fun done=>((List.range S.length).filter (fun i=>Xs S i&&done i)).length
  refine Zce (m:=S.length) (Jp:=fun done a w=>∃ (vs:Nat→Value) (es:Nat→Heap) (hb:Heap) (Es:Env),
      Fits C.n C.D Es a∧(∀ j d,j<S.length→done j=true→Ys ops j=some d→find Es d=some (vs j))∧(∀ t v,find W t=some v→find Es t=some v) ∧
      (∀ j,j<S.length→done j=true→Uy S j ((Xm S j).map vs) (vs j) (es j))∧(∀ j,j∈hd.getD (rk done) []→j<S.length∧done j=true) ∧
      HR (rk done) ((hd.getD (rk done) []).map vs) hb∧Inv C.w0 C.M w (hb++(Hc++Xh es (Kh S done) (List.range S.length))))
    hm hb ht hms' ?_ ?_ ?_
  · rintro done i o a w hil ho hdi hcl hafter _ ⟨vs, es, hb, Es, hfit, hfacts, hbase, hrels, hhd, hHR, hinv⟩
    have hgi:=hg' i hil
    simp only [Bool.and_eq_true] at hgi
    obtain ⟨⟨⟨⟨hdeps,hdnd⟩,heat⟩,heate⟩,heffs⟩:=hgi
    have hdone:∀ j,Ut ops ops.size i j=true→done j=true:=fun j hj=>Rq hcl _ i j hj (fun o' ho'=>by rw [ho] at ho';injection ho' with ho';subst ho';exact hafter)
    have hdd:∀ j,j∈Xm S i→j<S.length∧done j=true:=fun j hj=>by
      have:=List.all_eq_true.1 hdeps j hj
      simp only [Bool.and_eq_true] at this
      exact ⟨by simpa using this.1,hdone j this.2⟩
    have hreld:Nb S vs es (Xm S i):=Z8a fun j hj=>hrels j (hdd j hj).1 (hdd j hj).2
    have heat':∀ q,q<S.length→∀ j,j∈Gq S q→j<q∧j∈Xm S q∧∀ p,p<S.length→p≠q→j∉Gq S p∧(j∈Xm S p→Ut ops ops.size q p=true):=by
      intro q hq j hj
      have h1:=hg' q hq
      simp only [Bool.and_eq_true] at h1
      have h2:=List.all_eq_true.1 h1.1.1.2 j hj
      simp only [Bool.and_eq_true] at h2
      refine ⟨by simpa using h2.1.1,any_beq.1 h2.1.2,fun p hp hpq=>?_⟩
      have h3:=List.all_eq_true.1 h2.2 p (List.mem_range.2 hp)
      simp only [Bool.or_eq_true,Bool.and_eq_true,Bool.not_eq_true'] at h3
      rcases h3 with h3 | ⟨h3,h4⟩
      ·exact absurd (Nat.eq_of_beq_eq_true h3) hpq
      · refine ⟨fun hm => (by rw [any_beq.2 hm] at h3; cases h3), fun hm => ?_⟩
        rcases h4 with h4 | h4
        ·rw [any_beq.2 hm] at h4;cases h4
        ·exact h4
    have hcl':∀ q,q<S.length→done q=true→∀ p,Ut ops ops.size q p=true→done p=true:=fun q hq hdq p hqp =>
      Rq hcl _ q p hqp (fun o' ho'=>hcl q o' ho' hdq)
    have hlive:∀ j,j∈Xm S i→Kh S done j=true:=by
      intro j hj
      unfold Kh
      rw [(hdd j hj).2,Bool.true_and,Bool.not_eq_true',Bool.eq_false_iff]
      intro he
      obtain ⟨q,hq,h2⟩:=List.any_eq_true.1 he
      simp only [Bool.and_eq_true] at h2
      have hqS:=List.mem_range.1 hq
      have hqi:q≠i:=by rintro rfl;rw [hdi] at h2;cases h2.1
      have h3:=((heat' q hqS j (any_beq.1 h2.2)).2.2 i hil (fun e=>hqi e.symm)).2 hj
      have:=hcl' q hqS h2.1 i h3
      rw [hdi] at this;cases this
    have hiD:i∉Xm S i:=fun hm=>by
      have:=(hdd i hm).2
      rw [hdi] at this;cases this
    have hstepL:∀ j,j≠i→Kh S (fun q=>if q=i then true else done q) j=(Kh S done j&&!(Gq S i).any (Nat.beq j)):=by
      intro j hji
      unfold Kh
      simp only [if_neg hji]
      have:Z16 S (fun q=>if q=i then true else done q) j=(Z16 S done j||(Gq S i).any (Nat.beq j)):=by
        rw [Bool.eq_iff_iff]
        simp only [Z16,List.any_eq_true,Bool.or_eq_true,Bool.and_eq_true]
        constructor
        · rintro ⟨q, hq, h1, h2⟩
          by_cases e:q=i
          ·subst e;exact .inr h2
          ·rw [if_neg e] at h1;exact .inl ⟨q,hq,h1,h2⟩
        · rintro (⟨q, hq, h1, h2⟩ | h2)
          ·exact ⟨q,hq,by rw [h1];simp,h2⟩
          ·exact ⟨i,List.mem_range.2 hil,by simp,h2⟩
      rw [this]
      cases done j <;> cases Z16 S done j <;> cases (Gq S i).any (Nat.beq j) <;> rfl
    have hlivei:Kh S (fun q=>if q=i then true else done q) i=true:=by
      unfold Kh
      simp only [if_true]
      rw [Bool.true_and,Bool.not_eq_true',Bool.eq_false_iff]
      intro he
      obtain ⟨q,hq,h2⟩:=List.any_eq_true.1 he
      simp only [Bool.and_eq_true] at h2
      have hqS:=List.mem_range.1 hq
      obtain ⟨h3,h4,h5⟩:=heat' q hqS i (any_beq.1 h2.2)
      by_cases e:q=i
      ·subst e;omega
      · have hdq : done q = true := by have := h2.1; rwa [if_neg e] at this
        have h6:=hg' q hqS
        simp only [Bool.and_eq_true] at h6
        have h7:=List.all_eq_true.1 h6.1.1.1.1 i h4
        simp only [Bool.and_eq_true] at h7
        have:=hcl' q hqS hdq i h7.2
        rw [hdi] at this;cases this
    have hpermE:∀ e':Heap,∃ Hx,List.Perm (Xh es (Kh S done) (List.range S.length)) (Wp es (Xm S i)++Hx) ∧
        List.Perm (Xh (fun j=>if j=i then e' else es j) (Kh S (fun q=>if q=i then true else done q)) (List.range S.length)) (e'++(Wp es (Z0m S i)++Hx)):=fun e' =>
      done_eat e' List.nodup_range (List.mem_range.2 hil) hiD (Z8u hdnd) (fun j hj=>⟨List.mem_range.2 (hdd j hj).1,hlive j hj⟩) (by unfold Kh;rw [hdi];rfl) hlivei hstepL (fun j hj=>(heat' i hil j hj).2.1)
    obtain ⟨Hx,hHx,hHx'⟩:∃ Hx,List.Perm (Xh es (Kh S done) (List.range S.length)) (Wp es (Xm S i)++Hx) ∧
        ∀ e':Heap,List.Perm (Xh (fun j=>if j=i then e' else es j) (Kh S (fun q=>if q=i then true else done q)) (List.range S.length)) (e'++(Wp es (Z0m S i)++Hx)):=by
      obtain ⟨Hx,h1,_⟩:=hpermE []
      refine ⟨Hx,h1,fun e'=>?_⟩
      obtain ⟨Hy,h2,h3⟩:=hpermE e'
      exact h3.trans (List.Perm.append_left _ (List.Perm.append_left _ ((List.perm_append_left_iff _).1 (h2.symm.trans h1))))
    have hsub:∀ t v,find (Vu ops vs (Xm S i)++(W++Es)) t=some v→find Es t=some v:=by
      intro t v h
      rw [Z3a,Z3a] at h
      cases h1:find (Vu ops vs (Xm S i)) t with
      | some u =>
        rw [h1] at h;simp at h;subst h
        obtain ⟨j,hj,hs,rfl⟩:=Z4s (Z9w h1)
        exact hfacts j t (hdd j hj).1 (hdd j hj).2 hs
      | none =>
        rw [h1] at h
        simp only [Option.none_or] at h
        cases h2:find W t with
        | some u=>rw [h2] at h;simp at h;subst h;exact hbase t u h2
        | none=>rw [h2] at h;simpa using h
    have hsub2:∀ t v,find Es t=some v→find (Vu ops vs (Xm S i)++(W++Es)) t=some v:=by
      intro t v h
      cases h1:find (Vu ops vs (Xm S i)++(W++Es)) t with
      | some u=>rw [←hsub t u h1,h]
      | none =>
        rw [Z3a,Z3a,h] at h1
        cases h2:find (Vu ops vs (Xm S i)) t <;> cases h3:find W t <;> simp [h2,h3] at h1
    have hslot:Ys ops i=o.dst:=by simp [Ys,ho]
    have hfin:∀ (v:Value) (e' hb':Heap) (a':Act) (w':World),Uy S i ((Xm S i).map vs) v e'→(∀ j,j∈hd.getD (rk (fun q=>if q=i then true else done q)) []→j<S.length∧(if j=i then true else done j)=true) →
        HR (rk (fun q=>if q=i then true else done q)) ((hd.getD (rk (fun q=>if q=i then true else done q)) []).map (fun j=>if j=i then v else vs j)) hb' →
        Fits C.n C.D (Ju (Ys ops i) v (Vu ops vs (Xm S i)++(W++Es))) a'→Inv C.w0 C.M w' (hb'++(Hc++(e'++(Wp es (Z0m S i)++Hx)))) →
        ∃ (vs:Nat→Value) (es:Nat→Heap) (hb:Heap) (Es:Env),Fits C.n C.D Es a'∧(∀ j d,j<S.length→(if j=i then true else done j)=true→Ys ops j=some d→find Es d=some (vs j))∧(∀ t v,find W t=some v→find Es t=some v) ∧
          (∀ j,j<S.length→(if j=i then true else done j)=true→Uy S j ((Xm S j).map vs) (vs j) (es j))∧(∀ j,j∈hd.getD (rk (fun q=>if q=i then true else done q)) []→j<S.length∧(if j=i then true else done j)=true) ∧
          HR (rk (fun q=>if q=i then true else done q)) ((hd.getD (rk (fun q=>if q=i then true else done q)) []).map vs) hb∧Inv C.w0 C.M w' (hb++(Hc++Xh es (Kh S (fun q=>if q=i then true else done q)) (List.range S.length))):=by
      intro v e' hb' a' w' hrel hhd' hHR' hfit' hinv'
      refine ⟨fun j=>if j=i then v else vs j,fun j=>if j=i then e' else es j,hb',Ju (Ys ops i) v (Vu ops vs (Xm S i)++(W++Es)),hfit',fun j d hj hdj hs=>?_,fun t u h=>?_,fun j hj hdj=>?_,hhd',hHR',?_⟩
      · show find _ d = some (if j = i then v else vs j)
        by_cases e:j=i
        ·subst e;rw [hs,if_pos rfl];simp [Ju,Ks]
        · rw [if_neg e]
          have hdj':done j=true:=by simpa [e] using hdj
          have h1:=hsub2 _ _ (hfacts j d hj hdj' hs)
          cases hsi:Ys ops i with
          | none=>exact h1
          | some di =>
            simp only [Ju,Ks]
            rw [if_neg]
            ·exact h1
            · rintro rfl
              exact e (Z8x hnd j i di (List.mem_range.2 hj) (List.mem_range.2 hil) hs hsi)
      · have h1 := hsub2 _ _ (hbase t u h)
        cases hsi:Ys ops i with
        | none=>exact h1
        | some di =>
          simp only [Ju,Ks]
          rw [if_neg]
          ·exact h1
          · rintro rfl
            exact (hW _ _ h).2 i hil hsi
      · have hmapdeps : ∀ q, q < S.length → (if q = i then true else done q) = true → (Xm S q).map (fun j => if j = i then v else vs j) = (Xm S q).map vs := by
          intro q hq hdq
          apply List.map_congr_left
          intro r hr
          have hrq:=hg' q hq
          simp only [Bool.and_eq_true] at hrq
          have hrr:=List.all_eq_true.1 hrq.1.1.1.1 r hr
          simp only [Bool.and_eq_true] at hrr
          have hne:r≠i:=by
            rintro rfl
            by_cases e:q=r
            · subst e
              have:=hdone q hrr.2
              rw [hdi] at this;cases this
            · have hdq' : done q = true := by simpa [e] using hdq
              have:done r=true:=by
                obtain ⟨oq,hoq⟩:∃ oq,ops[q]?=some oq:=⟨ops[q]'(by omega),Array.getElem?_eq_getElem (by omega)⟩
                exact Rq hcl _ q r hrr.2 (fun o' ho'=>hcl q o' ho' hdq')
              rw [hdi] at this;cases this
          rw [if_neg hne]
        rw [hmapdeps j hj hdj]
        by_cases e:j=i
        ·subst e;simpa using hrel
        · simp only [if_neg e]
          exact hrels j hj (by simpa [e] using hdj)
      ·exact hinv'.perm (List.Perm.append_left _ (List.Perm.append_left _ (hHx' e').symm))
    have hrk:Xs S i=false→rk (fun q=>if q=i then true else done q)=rk done:=by
      intro he
      show ((List.range S.length).filter _).length=_
      congr 1
      apply List.filter_congr
      intro j _
      by_cases e:j=i
      ·subst e;simp [he]
      ·simp [e]
    cases he:Xs S i with
    | false =>
      have hob:=obs.get i (List.mem_range.2 hil)
      rw [he] at hob
      simp only [cond_false] at hob
      have hrkle:∀ k,rdK rd i=some k→rk done≤k:=by
        intro k hk
        obtain ⟨q,hq,heq,hrq,hreach⟩:=goodR.get hgr i k hk
        subst hrq
        have hdq:done q=false:=by
          cases hdq:done q with
          | false=>rfl
          | true=>have:=hcl' q hq hdq i hreach;rw [hdi] at this;cases this
        show ((List.range S.length).filter (fun i=>Xs S i&&done i)).length≤((List.range q).filter (Xs S)).length
        have hsplit:List.range S.length=List.range q++List.range' q (S.length-q):=by
          rw [List.range_eq_range',List.range_eq_range']
          have:=List.range'_append_1 (s:=0) (m:=q) (n:=S.length-q)
          rw [Nat.zero_add] at this
          rw [this]
          congr 1;omega
        have h2:(List.range' q (S.length-q)).filter (fun j=>Xs S j&&done j)=[]:=by
          rw [List.filter_eq_nil_iff]
          intro j hj
          have hjr:=List.mem_range'_1.1 hj
          cases hej:Xs S j with
          | false=>simp
          | true =>
            cases hdj:done j with
            | false=>simp
            | true =>
              exfalso
              by_cases e:j=q
              ·subst e;rw [hdq] at hdj;cases hdj
              · have hgj := hg' j (by omega)
                simp only [Bool.and_eq_true] at hgj
                have h3:=hgj.2
                rw [hej] at h3
                simp only [Bool.not_true,Bool.false_or,Bool.and_eq_true] at h3
                have h4:=List.all_eq_true.1 h3.1 q (List.mem_range.2 (by omega))
                rw [heq] at h4
                simp only [Bool.not_true,Bool.false_or] at h4
                have:=hcl' j (by omega) hdj q h4
                rw [hdq] at this;cases this
        rw [hsplit,List.filter_append,h2,List.append_nil]
        have:∀ l:List Nat,(l.filter (fun i=>Xs S i&&done i)).length≤(l.filter (Xs S)).length:=by
          intro l
          induction l with
          | nil=>simp
          | cons x l ih =>
            rw [List.filter_cons,List.filter_cons]
            cases h1:Xs S x <;> cases h2:done x <;> simp <;> omega
        exact this _
      obtain ⟨rest,hrest⟩:=hro.get i (rk done) _ hb hrkle hHR
      have hh:=hob vs es Es (Hx++rest) hreld a w (hfit.weak hsub) (hinv.perm (by
        refine (List.Perm.append hrest (List.Perm.append_left Hc hHx)).trans ?_
        rw [List.append_assoc,List.append_assoc]
        refine List.Perm.append_left _ ?_
        refine List.perm_append_comm.trans ?_
        rw [List.append_assoc,List.append_assoc]))
      refine wpOpIn_mono ?_ (wpOp_Q hh)
      rintro a' w' ⟨v,e',hrel,hfit',hinv'⟩
      refine hfin v e' hb a' w' hrel ?_ ?_ hfit' (hinv'.perm ?_)
      · rw [hrk he]
        intro j hj
        obtain ⟨h1,h2⟩:=hhd j hj
        exact ⟨h1,by rw [h2];simp⟩
      · rw [hrk he]
        have:(hd.getD (rk done) []).map (fun j=>if j=i then v else vs j)=(hd.getD (rk done) []).map vs:=by
          apply List.map_congr_left
          intro j hj
          rw [if_neg]
          rintro rfl
          have:=(hhd j hj).2
          rw [hdi] at this;cases this
        rw [this]
        exact hHR
      · -- e' ++ ((R ++ Hc) ++ (ents ++ (Hx ++ rest)))  ~  hb ++ (Hc ++ (e' ++ (ents ++ Hx)))
        generalize Wp es (Z0m S i)=A
        refine List.Perm.trans ?_ (List.Perm.append_right _ hrest.symm)
        generalize rdH rd i=R
        have e1:e'++((R++Hc)++(A++(Hx++rest)))=((e'++(R++Hc))++(A++Hx))++rest:=by simp only [List.append_assoc]
        have e2:(R++rest)++(Hc++(e'++(A++Hx)))=R++(rest++(Hc++(e'++(A++Hx)))):=by simp only [List.append_assoc]
        rw [e1,e2]
        have p1:List.Perm (e'++(R++Hc)) (R++(Hc++e')):=by
          refine List.perm_append_comm.trans ?_
          rw [List.append_assoc]
        refine (List.Perm.append_right rest (List.Perm.append_right (A++Hx) p1)).trans ?_
        have e3:((R++(Hc++e'))++(A++Hx))++rest=R++((Hc++(e'++(A++Hx)))++rest):=by simp only [List.append_assoc]
        rw [e3]
        exact List.Perm.append_left R List.perm_append_comm
    | true =>
      have hob:=obs.get i (List.mem_range.2 hil)
      rw [he] at hob
      simp only [cond_true] at hob
      rw [he] at heffs
      simp only [Bool.not_true,Bool.false_or,Bool.and_eq_true] at heffs
      obtain ⟨hchain,hnext⟩:=heffs
      have hrki:rk done=Ga S i:=by
        show ((List.range S.length).filter _).length=((List.range i).filter (Xs S)).length
        have hsplit:List.range S.length=List.range i++List.range' i (S.length-i):=by
          rw [List.range_eq_range',List.range_eq_range']
          have:=List.range'_append_1 (s:=0) (m:=i) (n:=S.length-i)
          rw [Nat.zero_add] at this
          rw [this]
          congr 1;omega
        rw [hsplit,List.filter_append]
        have h1:(List.range i).filter (fun j=>Xs S j&&done j)=(List.range i).filter (Xs S):=by
          apply List.filter_congr
          intro j hj
          have:=List.all_eq_true.1 hchain j hj
          simp only [Bool.or_eq_true,Bool.not_eq_true'] at this
          rcases this with h | h
          ·simp [h]
          ·simp [hdone j h]
        have h2:(List.range' i (S.length-i)).filter (fun j=>Xs S j&&done j)=[]:=by
          rw [List.filter_eq_nil_iff]
          intro j hj
          have hjr:=List.mem_range'_1.1 hj
          cases hej:Xs S j with
          | false=>simp
          | true =>
            cases hdj:done j with
            | false=>simp
            | true =>
              exfalso
              by_cases e:j=i
              ·subst e;rw [hdi] at hdj;cases hdj
              · have hgj := hg' j (by omega)
                simp only [Bool.and_eq_true] at hgj
                have h3:=hgj.2
                rw [hej] at h3
                simp only [Bool.not_true,Bool.false_or,Bool.and_eq_true] at h3
                have h4:=List.all_eq_true.1 h3.1 i (List.mem_range.2 (by omega))
                rw [he] at h4
                simp only [Bool.not_true,Bool.false_or] at h4
                have:done i=true:=Rq hcl _ j i h4 (fun o' ho'=>hcl j o' ho' hdj)
                rw [hdi] at this;cases this
        rw [h1,h2,List.append_nil]
      have hrki':rk (fun q=>if q=i then true else done q)=Ga S i+1:=by
        rw [←hrki]
        show ((List.range S.length).filter _).length=((List.range S.length).filter _).length+1
        have:∀ l:List Nat,l.Nodup→i∈l→(l.filter (fun j=>Xs S j&&(if j=i then true else done j))).length=(l.filter (fun j=>Xs S j&&done j)).length+1:=by
          intro l
          induction l with
          | nil=>intro _ h;cases h
          | cons j l ih =>
            intro hn hm
            simp only [List.nodup_cons] at hn
            by_cases e:j=i
            · subst e
              have hc:l.filter (fun q=>Xs S q&&(if q=j then true else done q))=l.filter (fun q=>Xs S q&&done q):=by
                apply List.filter_congr
                intro q hq
                have:q≠j:=by rintro rfl;exact hn.1 hq
                simp [this]
              rw [List.filter_cons_of_pos (by simp [he]),List.filter_cons_of_neg (by simp [hdi]),hc,List.length_cons]
            · have hm' : i ∈ l := by rcases List.mem_cons.1 hm with h | h; (exact absurd h.symm e); exact h
              have:=ih hn.2 hm'
              simp only [List.filter_cons,e,if_false]
              split
              ·simp only [List.length_cons];omega
              ·exact this
        exact this _ List.nodup_range (List.mem_range.2 hil)
      rw [hrki] at hHR
      have hh:=hob vs es Es Hx hb hreld hHR a w (hfit.weak hsub) (hinv.perm (List.Perm.append_left _ (List.Perm.append_left _ hHx)))
      refine wpOpIn_mono ?_ (wpOp_Q hh)
      rintro a' w' ⟨v,hb',e',hrel,hHR',hfit',hinv'⟩
      have hrest:Z0m S i=Xm S i:=by
        have h0:Gq S i=[]:=by
          rw [he] at heate;simpa using heate
        unfold Z0m;rw [h0];simp
      refine hfin v e' hb' a' w' hrel ?_ ?_ hfit' (by rw [hrest];exact hinv')
      · rw [hrki']
        intro j hj
        have:=List.all_eq_true.1 hnext j hj
        simp only [Bool.or_eq_true,Bool.and_eq_true] at this
        rcases this with h | ⟨h1,h2⟩
        ·have:=Nat.eq_of_beq_eq_true h;subst this;exact ⟨hil,by simp⟩
        ·exact ⟨by simpa using h1,by rw [hdone j h2];simp⟩
      · rw [hrki']
        have:(fun j=>_root_.cond (Nat.beq j i) v (vs j))=(fun j=>if j=i then v else vs j):=by
          funext j
          by_cases e:j=i
          · subst e
            have:Nat.beq j j=true:=by simp
            rw [this,if_pos rfl];rfl
          · rw [if_neg e]
            have:Nat.beq j i=false:=by
              cases hb:Nat.beq j i
              ·rfl
              ·exact absurd (Nat.eq_of_beq_eq_true hb) e
            rw [this];rfl
        rw [←this]
        exact hHR'
  · rintro done a w hall ⟨vs, es, hb, Es, hfit, hfacts, hbase, hrels, hhd, hHR, hinv⟩
    have hrk:rk done=((List.range S.length).filter (Xs S)).length:=by
      show ((List.range S.length).filter _).length=_
      congr 1
      apply List.filter_congr
      intro j hj
      simp [hall j (List.mem_range.1 hj)]
    rw [hrk] at hHR
    refine k vs es hb (Z8a fun j hj=>hrels j (List.mem_range.1 hj) (hall j (List.mem_range.1 hj))) hHR a w (hfit.weak fun t v h=>?_) ?_
    · rw [Z3a] at h
      cases h1:find (Vu ops vs (List.range S.length)) t with
      | some u =>
        rw [h1] at h;simp at h;subst h
        obtain ⟨j,hj,hs,rfl⟩:=Z4s (Z9w h1)
        have hj':=List.mem_range.1 hj
        exact hfacts j t hj' (hall j hj') hs
      | none=>rw [h1] at h;exact hbase t v (by simpa using h)
    · have h1 : Xh es (Kh S done) (List.range S.length) = Wp es ((List.range S.length).filter fun j => !No S j) := by
        have key:∀ l:List Nat,(∀ j,j∈l→j<S.length)→Xh es (Kh S done) l=Wp es (l.filter fun j=>!No S j):=by
          intro l
          induction l with
          | nil=>intro _;rfl
          | cons j l ih =>
            intro h
            have ih:=ih fun q hq=>h q (.tail _ hq)
            have hj:Kh S done j=!No S j:=by
              unfold Kh Z16 No
              rw [hall j (h j (.head _)),Bool.true_and]
              congr 1
              rw [Bool.eq_iff_iff]
              simp only [List.any_eq_true,Bool.and_eq_true]
              constructor
              ·rintro ⟨q,hq,_,h2⟩;exact ⟨q,hq,h2⟩
              ·rintro ⟨q,hq,h2⟩;exact ⟨q,hq,hall q (List.mem_range.1 hq),h2⟩
            unfold Xh at ih ⊢
            rw [List.flatMap_cons,ih,hj,List.filter_cons]
            cases (!No S j) <;> simp [Wp]
        exact key _ fun j hj=>List.mem_range.1 hj
      rw [←h1]
      exact hinv
  · have hrk0 : rk (fun _ => false) = 0 := by
      show ((List.range S.length).filter _).length=0
      simp
    refine ⟨fun _=>undef,fun _=>[],hb0,E,hf,fun j d _ h=>by simp at h,fun t v h=>(hW t v h).1,fun j _ h=>by simp at h,?_,?_,?_⟩
    ·rw [hrk0,hd0'];intro j hj;cases hj
    ·rw [hrk0,hd0'];exact h0
    · have : Xh (fun _ => []) (Kh S fun _ => false) (List.range S.length) = [] := by simp [Xh]
      rw [this,List.append_nil]
      exact (hi.pick hH).ofHeap rfl rfl rfl rfl
theorem Zjl {ρ:Option Nat}{P:Program}{Q':Exit→Act→World→Prop}{i:Nat}{K K':Act→World→Prop}{a:Act}{w:World}(hq:∀ e a w,e≠.normal→Q' e a w→Q e a w)(hk:∀ a w,K' a w→K a w)
    (h:wpOpIn (FW ρ) 0 P ops Q' i K' a w):wpOpIn (FW ρ) 0 P ops Q i K a w:=by
  refine wpOpIn_mono hk ?_
  unfold wpOpIn at h ⊢
  cases ho:ops[i]? with
  | none=>rw [ho] at h;exact h
  | some o =>
    rw [ho] at h
    simp only at h ⊢
    split
    · rename_i hwt
      simp only [hwt,if_true] at h
      refine ⟨h.1,?_⟩
      have h2:=h.2
      generalize (o.semAt (FW ρ).round a.eval).run P w=r at h2 ⊢
      cases r with
      | ok x w' =>
        cases x with
        | enter f args=>exact ⟨h2.1,CallsIn.mono h2.2 (fun e w' hh=>by cases e with
          | returned v=>exact hh
          | panicked c=>exact hq _ _ _ (by simp) hh
          | outgrown=>obtain ⟨a0,w0,h0⟩:=hh;exact ⟨a0,w0,hq _ _ _ (by simp) h0⟩)⟩
        | row _=>exact h2
        | round l f tmps assign body=>exact ⟨h2.1,RoundIn.mono h2.2 (fun e w' hh=>by cases e with
          | returned v=>exact hh
          | panicked c=>exact hq _ _ _ (by simp) hh
          | outgrown=>obtain ⟨a0,w0,h0⟩:=hh;exact ⟨a0,w0,hq _ _ _ (by simp) h0⟩)⟩
        | _=>exact h2
      | halt x w'=>cases x <;> first | exact h2 | exact hq _ _ _ (by simp) h2
    · rename_i hwt
      simp only [hwt,if_false,Bool.false_eq_true] at h
      exact h
theorem Z3r {ρ:Option Nat}{P:Program}{Q':Exit→Act→World→Prop}{l2:List Nat}(hq:∀ e a w,e≠.normal→Q' e a w→Q e a w)(hn:∀ a w,Q' .normal a w→wpOpsIn (FW ρ) 0 P ops Q l2 a w):∀ (l1:List Nat) (a:Act) (w:World),wpOpsIn (FW ρ) 0 P ops Q' l1 a w→wpOpsIn (FW ρ) 0 P ops Q (l1++l2) a w
 | [],a,w,h=>hn a w h
 | i::l1,a,w,h=>by
  rw [List.cons_append,wpOpsIn_cons]
  rw [wpOpsIn_cons] at h
  exact Zjl hq (fun a w=>Z3r hq hn l1 a w) h
theorem ObE.to2 {S:List Sp}{HR:Nat→List Value→Heap→Prop}{hd:List (List Nat)}{W:Env}{Hc:Heap}{i:Nat}(h:ObE C ops Q S HR hd W Hc i):ObE2 C ops Q S HR hd W Hc i:=by
 intro vs es Es Hx hb hr hh a w hf hi
 refine Z3r (l2:=[]) (fun e a w hne hq=>?_) (fun a w hq=>?_) [i] a w (h vs es Es Hx hb hr hh a w hf hi)
 ·cases e <;> first | exact absurd rfl hne | exact hq
 ·
  obtain ⟨v,hb',h1,h2,h3,h4⟩:=hq
  exact ⟨v,hb',[],h1,h2,h3,h4⟩
theorem Ze1 {S:List Sp}{HR:Nat→List Value→Heap→Prop}{hd:List (List Nat)}{W:Env}{Hc:Heap}:∀ {l:List Nat},ObsG C ops Q S HR hd W Hc l→ObsG3 C ops Q S HR hd [] W Hc l
 | [],_=>trivial
 | i::_,⟨h1,h2⟩=>⟨by
  cases he:Xs S i with
  | true=>rw [he] at h1;exact ObE.to2 h1
  | false=>rw [he] at h1;exact h1,Ze1 h2⟩
theorem T.drawG {id:Nat}(S:List Sp)(HR:Nat→List Value→Heap→Prop)(hd:List (List Nat))(hb0 Hc:Heap)
    (hm:C.P.follows .mixedOrders=true)(hb:Jb ops=true)(ht:Rh ops S.length=true)(hgood:Z0f ops S hd=true)(hms:Nat.ble S.length ops.size=true)
    (hn:Nx (Uw ops (List.range S.length))=true)(h0:HR 0 [] hb0)(hH:Pick (hb0++Hc) H)
    (obs:ObsG C ops Q S HR hd (wo (Uw ops (List.range S.length)) E) Hc (List.range S.length))
    (k:∀ (vs:Nat→Value) (es:Nat→Heap) (hb:Heap),Nb S vs es (List.range S.length)→HR ((List.range S.length).filter (Xs S)).length ((hd.getD ((List.range S.length).filter (Xs S)).length []).map vs) hb →
      TO C ops Q (List.range' S.length (ops.size-S.length)) (Vu ops vs (List.range S.length)++wo (Uw ops (List.range S.length)) E) (hb++(Hc++Wp es ((List.range S.length).filter fun j=>!No S j)))) :
    T C (.region id ops true) Q E H:=Zb6 S HR hd [] hb0 Hc hm hb ht hgood hms hn rfl trivial h0 hH (Ze1 obs) k
theorem Z2f {id:Nat}(S:List Sp)(sl:List Nat)(m:Nat)(HR:Nat→List Value→Heap→Prop)(hd:List (List Nat))(hb0 Hc:Heap)
    (hm:C.P.follows .mixedOrders=true)(hsm:S.length=m)(hsl:Uw ops (List.range m)=sl)(hb:Jb ops=true)(ht:Rh ops m=true)(hgood:Z0f ops S hd=true)(hms:Nat.ble m ops.size=true)
    (hn:Nx sl=true)(h0:HR 0 [] hb0)(hH:Pick (hb0++Hc) H)
    (obs:ObsG C ops Q S HR hd (wo sl E) Hc (List.range m))
    (k:∀ (vs:Nat→Value) (es:Nat→Heap) (hb:Heap),Nb S vs es (List.range m)→HR ((List.range m).filter (Xs S)).length ((hd.getD ((List.range m).filter (Xs S)).length []).map vs) hb →
      TO C ops Q (List.range' m (ops.size-m)) (Vu ops vs (List.range m)++wo sl E) (hb++(Hc++Wp es ((List.range m).filter fun j=>!No S j)))) :
    T C (.region id ops true) Q E H:=by
  subst hsm;subst hsl
  exact T.drawG S HR hd hb0 Hc hm hb ht hgood hms hn h0 hH obs k
def HRk (l:List Heap):Nat→List Value→Heap→Prop:=fun k _ hb=>hb=l.getD k []
theorem Yd {l:List Nat}{D D':Env}{W:Env}(h:D'=D)(k:TO C ops Q l (D++W) H):TO C ops Q l (D'++W) H:=by rw [h];exact k
theorem Uk {l:List Nat}{H':Heap}(h:H'=H)(k:TO C ops Q l E H):TO C ops Q l E H':=by rw [h];exact k
theorem Yj {S:List Sp}{W Es B B':Env}{Hc Hx:Heap}{i d:Nat}{v:Value}{e' De:Heap}{vl:List Value}{H':Heap}(hs:Ys ops i=some d)(hr:Uy S i vl v e')(hH:Pick (e'++(Hc++(De++Hx))) H')(hB:B=B') :
    X C (fun e a w=>match e with
      | .normal=>∃ v e',Uy S i vl v e'∧Fits C.n C.D (Ju (Ys ops i) v (B++(W++Es))) a∧Inv C.w0 C.M w (e'++(Hc++(De++Hx)))
      | e=>Q e a w) .normal ((d,v)::(B'++(W++Es))) H':=by
  subst hB
  exact fun _ _ hf hi=>⟨v,e',hr,by rw [hs];exact hf,hi.pick hH⟩
theorem X.obE {S:List Sp}{HR:Nat→List Value→Heap→Prop}{W Es B B':Env}{Hc Hx:Heap}{i k:Nat}{vl:List Value}{F:Value→List Value}{De hb' H':Heap}(hs:Ys ops i=none)(hr:Uy S i vl undef [])(hh:HR k (F undef) hb')
    (hH:Pick (hb'++(Hc++(De++Hx))) H')(hB:B=B') :
    X C (fun e a w=>match e with
      | .normal=>∃ v hb',Uy S i vl v []∧HR k (F v) hb'∧Fits C.n C.D (Ju (Ys ops i) v (B++(W++Es))) a∧Inv C.w0 C.M w (hb'++(Hc++(De++Hx)))
      | e=>Q e a w) .normal (B'++(W++Es)) H':=by
  subst hB
  exact fun _ _ hf hi=>⟨undef,hb',hr,hh,by rw [hs];exact hf,hi.pick hH⟩
end
end Go.Acq
namespace Go.Acq
open Go Go.RowKit
theorem Inv.self {w0 w:World}{M M':List Nat}{H Hm:Heap}(h:Inv w0 M w H)(hp:Pick Hm H)(hM:Hm.filterMap (·.1)=M'):Inv w M' w Hm:=by
 have g:=h.pick hp
 refine ⟨rfl,rfl,rfl,Nat.le_refl _,fun _ _ _=>rfl,g.own,fun b o hm=>?_,g.apart⟩
 subst hM
 first | exact Or.inr (Lu hm) | exact fun _=>Lu hm | exact Or.inl (Lu hm)
theorem Take.gone {p:Option Nat×Obj}{H R S Hm:Heap}(h:Take p H R)(g:List.Perm R (Hm++S)):List.Perm H ((p::Hm)++S) :=
 h.trans (List.Perm.cons p g)
end Go.Acq
namespace Go.Acq
open Go Go.RowKit
section control
variable {C : Cx} {Q : Exit → Act → World → Prop} {E E' : Env} {H H' : Heap} {c x y : Code}
theorem Zim {t:Nat}{v:Value}{L E:Env}(h:find E t=some v)(h2:AllF L E):AllF ((t,v)::L) E:=⟨h,h2⟩
theorem Z00 {E:Env}:AllF [] E:=trivial
theorem Fits.all {n:Nat}{D:List Deferred}{L E:Env}{a:Act}(h:Fits n D E a)(hL:AllF L E):Fits n D L a:=h.weak hL.sub
theorem T.weakE (h:T C c Q E' H')(hE:AllF E' E)(hH:Pick H' H):T C c Q E H:=h.weak hE.sub hH
theorem Z03 {α:Type}(φ:α→Prop)(L:α→Env)(Hs:α→Heap)(μ:α→Nat)(s0:α)(h0:φ s0)(hE:AllF (L s0) E)(hH:Pick (Hs s0) H)
    (round:∀ s,φ s→T C c (Exit.then (fun a w=>∃ s',φ s'∧μ s'<μ s∧Fits C.n C.D (L s') a∧Inv C.w0 C.M w (Hs s')) Q) (L s) (Hs s)):T C (.loop c) Q E H:=by
  refine T.weakE (E':=L s0) (H':=Hs s0) ?_ hE hH
  intro a w hf hi b k cs hro hb hr
  have key:∀ j s a w,μ s=j→φ s→Fits C.n C.D (L s) a→Inv C.w0 C.M w (Hs s) →
      ∃ e a' w',Q e a' w'∧ArrivesIn (Machine.fenced C.P (FW C.ρ)) C.P (lone (b.atR a (.code c::.inLoop c::k)) cs w) b k cs e a' w':=by
    intro j
    induction j using Nat.strongRecOn with
    | _ j ih =>
      intro s a w hj hφ hfit hinv
      obtain ⟨e,a₁,w₁,hq,harr⟩:=round s hφ a w hfit hinv b (.inLoop c::k) cs hro hb hr
      cases e with
      | normal =>
        obtain ⟨s',hφ',hlt,hfit',hinv'⟩:=hq
        obtain ⟨e₂,a₂,w₂,hq₂,harr₂⟩:=ih (μ s') (hj▸hlt) s' a₁ w₁ rfl hφ' hfit' hinv'
        exact ⟨e₂,a₂,w₂,hq₂,.of_steps (StepsIn.trans harr (.one (fenced_calm hb hr rfl) stepR_inLoop)) harr₂⟩
      | exit id=>exact ⟨_,a₁,w₁,hq,.pass (x:=.inLoop c) rfl (fun _ _=>.inl (by simp)) harr⟩
      | goto l=>exact ⟨_,a₁,w₁,hq,.pass (x:=.inLoop c) rfl (fun _ _=>.inl (by simp)) harr⟩
      | ret=>exact ⟨_,a₁,w₁,hq,.pass (x:=.inLoop c) rfl (fun _ _=>.inl (by simp)) harr⟩
      | panic ch=>exact ⟨_,a₁,w₁,hq,.pass (x:=.inLoop c) rfl (fun _ _=>.inl (by simp)) harr⟩
      | outgrown=>exact ⟨_,a₁,w₁,hq,.pass (x:=.inLoop c) rfl (fun _ _=>.inl (by simp)) harr⟩
  obtain ⟨e,a',w',hq,harr⟩:=key _ s0 a w rfl h0 hf hi
  exact ⟨e,a',w',hq,.of_steps (.one (fenced_calm hb hr rfl) stepR_loop) harr⟩
end control
structure RS {α:Type}(w:World)(M:List Nat)(f:α→List Value)(s:Nat)(base:Option Addr)(n c:Nat)(xs:List α):Prop where
  ro:RO w f s base n xs
  far:∀ a,base=some a→0<n→a.block∉M
  cap:n≤c
structure HB (w:World)(M:List Nat)(b:Nat)(cs:List Value):Prop where
  has:Has w b cs
  far:b∉M
section
variable {α : Type} {w w0 : World} {M M' : List Nat} {f : α → List Value} {s n c : Nat} {base : Option Addr} {xs : List α} {H Hm R : Heap}
theorem RS.len (h:RS w M f s base n c xs):xs.length=n:=h.ro.len
theorem RS.nil (w:World)(M:List Nat)(hf:∀ x,(f x).length=s):RS w M f s none 0 0 ([]:List α):=⟨Zdu w hf,(fun _ e=>by cases e),Nat.le_refl _⟩
theorem RO.monoM (h:RO w0 f s base n xs)(hfar:∀ a,base=some a→0<n→a.block∉M)(hi:Inv w0 M w H):RO w f s base n xs :=
 ⟨h.len,h.nil,h.wide,fun o q ho hq x hx=>by
  have h1:=h.cell o q ho hq x hx
  have hcl:q<(f x).length:=by rw [h.wide];exact hq
  have hn:0<n:=by have:=h.len;omega
  cases base with
  | none=>have:=h.nil rfl;omega
  | some a =>
   have hb:(ea (some a) (o*s+q)).block=a.block:=by
    simp only [ea,Option.getD_some,Addr.add];split <;> rfl
   rw [List.getElem?_eq_getElem hcl] at h1 ⊢
   exact hi.cell_old h1 (by rw [hb];exact hfar a rfl hn)⟩
theorem RS.mono (h:RS w0 M f s base n c xs)(hi:Inv w0 M w H):RS w [] f s base n c xs:=⟨h.ro.monoM h.far hi,fun _ _ _=>by simp,h.cap⟩
theorem RO.block_lt (h:RO w f s base n xs)(hs:0<s)(hn:0<n){a:Addr}(ha:base=some a):a.block<w.heap.size:=by
 subst ha
 have h0:0<xs.length:=by rw [h.len];exact hn
 have h1:=h.cell 0 0 h0 hs xs[0] (List.getElem?_eq_getElem h0)
 have hcl:0<(f xs[0]).length:=by rw [h.wide];exact hs
 rw [List.getElem?_eq_getElem hcl] at h1
 simp only [Nat.zero_mul,Nat.add_zero,ea,Option.getD_some,Addr.add,if_true] at h1
 unfold World.cell? at h1
 split at h1
 ·rename_i he;exact (Array.getElem?_eq_some_iff.1 he).1
 ·cases h1
theorem RS.monoM (h:RS w0 M f s base n c xs)(hs:0<s)(hi:Inv w0 M w H)(hp:List.Perm H (Hm++R))(hM:Hm.filterMap (·.1)=M'):RS w M' f s base n c xs :=
 ⟨h.ro.monoM h.far hi,fun a ha hn hm=>by
  have hlt:=h.ro.block_lt hs hn ha
  subst hM
  obtain ⟨o,ho⟩:=Li hm
  rcases hi.low a.block o ((List.Perm.mem_iff hp).2 (List.mem_append_left _ ho)) with hl | hl
  ·omega
  ·exact h.far a ha hn hl,h.cap⟩
theorem Inv.rs (hi:Inv w0 M w H)(hf:∀ x,(f x).length=s){ob:Option Nat}{T':TypeId}{fr:Nat×Nat}{j:List Value}(hm:(ob,Obj.cells (arr f xs j).toArray T' fr)∈H)(hn:xs.length=n)(hc:n≤c)(h0:ob=none→c=0) :
    RS w [] f s (sb ob) n c xs:=⟨hi.roO hf hm hn (fun e=>by have:=h0 e;omega),fun _ _ _=>by simp,hc⟩
theorem Inv.rsM (hi:Inv w0 M w H)(hf:∀ x,(f x).length=s){ob:Option Nat}{T':TypeId}{fr:Nat×Nat}{j:List Value}(hp:List.Perm H (Hm++R))(hM:Hm.filterMap (·.1)=M')
    (hm:(ob,Obj.cells (arr f xs j).toArray T' fr)∈R)(hn:xs.length=n)(hc:n≤c)(h0:ob=none→c=0):RS w M' f s (sb ob) n c xs :=
  ⟨hi.roO hf ((List.Perm.mem_iff hp).2 (List.mem_append_right _ hm)) hn (fun e=>by have:=h0 e;omega),fun a ha _ hmM=>by
    cases ob with
    | none=>cases ha
    | some b =>
      simp only [sb,Option.map_some,Option.some.injEq] at ha
      subst ha
      subst hM
      have ha:=(hi.perm hp).apart
      rw [List.filterMap_append] at ha
      exact (List.nodup_append.1 ha).2.2 _ hmM _ (Lu hm) rfl,hc⟩
theorem HB.mono {b:Nat}{cs:List Value}(h:HB w0 M b cs)(hi:Inv w0 M w H):HB w [] b cs:=⟨fun j v hj=>hi.cell_old (h.has j v hj) h.far,by simp⟩
theorem Inv.hb (hi:Inv w0 M w H){b:Nat}{cs:List Value}{T':TypeId}{fr:Nat×Nat}(hm:(some b,Obj.cells cs.toArray T' fr)∈H):HB w [] b cs:=⟨hi.has hm,by simp⟩
theorem Inv.hbM (hi:Inv w0 M w H){b:Nat}{cs:List Value}{T':TypeId}{fr:Nat×Nat}(hp:List.Perm H (Hm++R))(hM:Hm.filterMap (·.1)=M')(hm:(some b,Obj.cells cs.toArray T' fr)∈R):HB w M' b cs :=
 ⟨hi.has ((List.Perm.mem_iff hp).2 (List.mem_append_right _ hm)),fun hmM=>by
  subst hM
  have ha:=(hi.perm hp).apart
  rw [List.filterMap_append] at ha
  exact (List.nodup_append.1 ha).2.2 _ hmM _ (Lu hm) rfl⟩
end
theorem Zd8 {ob:Option Nat}{n c:Nat}{i:Int}{α:Type}{xs:List α}(h0:ob=none→c=0)(hc:n≤c)(hn:xs.length=n)(g:inb i xs.length):∃ b,ob=some b:=by
 cases ob with
 | none=>have:=h0 rfl;obtain ⟨g1,g2⟩:=g;omega
 | some b=>exact ⟨b,rfl⟩
theorem Wa {b c:Nat}:(some b:Option Nat)=none→c=0:=fun e=>by cases e
theorem Xg (c s:Nat):([]:List Value).length=(c-c)*s:=by simp
theorem Lr {α:Type}{xs ys:List α}{n m:Nat}(h:xs.length=n)(g:ys.length=m):(xs++ys).length=n+m:=by rw [List.length_append,h,g]
theorem Ue {i:Int}{n:Nat}(g:inb i n):i.toNat<n:=by obtain ⟨g1,g2⟩:=g;omega
section rules
variable {C : Cx} {ops : Array Oper} {Q : Exit → Act → World → Prop} {l : List Nat} {E : Env} {H R : Heap} {i d : Nat} {ty : TypeId} {pos : String} {af : Array Edge} {g : Option (Nat × Bool)}
theorem Yt {α:Type}{t:TypeId}{at':Array TypeId}{x:Operand}{e:TypeId}{base:Option Addr}{n c:Nat}{xs:List α}(hn:xs.length=n)
    (q0_:ops[i]?=some ⟨some d,.call ⟨.builtin .len,#[x],at'⟩,ty,pos,af,g⟩∧Zp ops E g=true∧Nat.ble (d+1) C.n=true∧at'[0]?=some t∧ev E x=some (.slice base n c))(ht:Ym C.P t=some e)(kk:TO C ops Q l ((d,.int .i64 (xs.length:Int))::E) H):TO C ops Q (i::l) E H:=have ⟨ho,hg,hd,hat,hx⟩:=q0_;
  TO.len ho hg hd hat hx ht (by rw [←hn];exact kk)
theorem Xy {α:Type}{f:α→List Value}{M:List Nat}{w:World}{xs:List α}{t e:TypeId}{x y:Operand}{base:Option Addr}{n c s:Nat}{k:IntKind}{p:Int}(hr:RS w M f s base n c xs)(hp:inb p xs.length)
    (q0_:ops[i]?=some ⟨some d,.indexAddr t x y,ty,pos,af,g⟩∧Zp ops E g=true∧Nat.ble (d+1) C.n=true∧ev E x=some (.slice base n c)∧ev E y=some (.int k p))(ht:Ym C.P t=some e)(hs:Yg C.P e=some s)
    (kk:TO C ops Q l ((d,.pointer (some (ea base (p.toNat*s))))::E) H):TO C ops Q (i::l) E H:=have ⟨ho,hg,hd,hx,hy⟩:=q0_;
  Z87 ho hg hd hx hy ht hs hr.ro.nil hp.1 (by have:=hp.2;rw [hr.len] at this;exact this) kk
theorem Z18 {α:Type}{xs:List α}{t e:TypeId}{x y:Operand}{b n c s:Nat}{k:IntKind}{p:Int}(hn:xs.length=n)(hp:inb p xs.length)
    (q0_:ops[i]?=some ⟨some d,.indexAddr t x y,ty,pos,af,g⟩∧Zp ops E g=true∧Nat.ble (d+1) C.n=true∧ev E x=some (.slice (some ⟨b,0,none⟩) n c)∧ev E y=some (.int k p))(ht:Ym C.P t=some e)(hs:Yg C.P e=some s)
    (kk:TO C ops Q l ((d,.pointer (some ⟨b,p.toNat*s,none⟩))::E) H):TO C ops Q (i::l) E H:=have ⟨ho,hg,hd,hx,hy⟩:=q0_;
  Zdj ho hg hd hx hy ht hs hp.1 (by have:=hp.2;rw [hn] at this;exact this) kk
theorem Jm {α:Type}{xs:List α}{t e:TypeId}{x y:Operand}{b n c:Nat}{k:IntKind}{p:Int}(hn:xs.length=n)(hp:inb p xs.length)
    (q0_:ops[i]?=some ⟨some d,.indexAddr t x y,ty,pos,af,g⟩∧Zp ops E g=true∧Nat.ble (d+1) C.n=true∧ev E x=some (.slice (some ⟨b,0,none⟩) n c)∧ev E y=some (.int k p))(ht:Ym C.P t=some e)(hs:Yg C.P e=some 1)
    (kk:TO C ops Q l ((d,.pointer (some ⟨b,p.toNat,none⟩))::E) H):TO C ops Q (i::l) E H:=have ⟨ho,hg,hd,hx,hy⟩:=q0_;
  Zj7 ho hg hd hx hy ht hs hp.1 (by have:=hp.2;rw [hn] at this;exact this) kk
theorem Zit {P:Program}{s:TypeId}{f o:Nat}{w:World}(h:Wk P s f=some o)(a:Addr):(Instr.fieldAt s (.pointer (some a)) f).run P w=.ok (.pointer (some (a.add o))) w:=by
 unfold Wk at h
 split at h
 ·
  rename_i fs hu
  cases hg:fs[f]? with
  | none=>simp [hg] at h
  | some g =>
   cases hi:P.info? g.type with
   | none=>simp [hg,hi] at h
   | some i =>
    simp only [hg,hi,Option.bind_some] at h
    by_cases hz:i.size=0
    ·simp [hz] at h
    ·
     simp [hz] at h
     subst h
     simp [Instr.fieldAt,run_underlying hu,hg,Instr.sureAddr,fieldPlace,sizeOf,typeInfo,hi,hz]
 ·cases h
theorem TO.faR {s:TypeId}{x:Operand}{f o n:Nat}{base:Option Addr}(q0_:ops[i]?=some ⟨some d,.fieldAddr s x f,ty,pos,af,g⟩∧Zp ops E g=true∧Nat.ble (d+1) C.n=true∧ev E x=some (.pointer (some (ea base n))))(hT:Wk C.P s f=some o)(kk:TO C ops Q l ((d,.pointer (some (ea base (n+o))))::E) H):TO C ops Q (i::l) E H:=have ⟨ho,hg,hd,hx⟩:=q0_;
  TO.val ho hg hd (by simp) (fun a w hf _=>by simp [execOp,hf.ev hx,Zit hT,Z9y]) kk
theorem Nh {t:TypeId}{x:Operand}{base:Option Addr}{n c:Nat}{k:IntKind}{p:Int}{xs:List Int}(hr:RS C.w0 C.M (intC k) 1 base n c xs)(hp:inb p xs.length)(q0_:ops[i]?=some ⟨some d,.load t x,ty,pos,af,g⟩∧Zp ops E g=true∧Nat.ble (d+1) C.n=true∧ev E x=some (.pointer (some (ea base (p.toNat*1)))))(hT:Xi C.P t=true)
    (kk:TO C ops Q l ((d,.int k (xs.getD p.toNat 0))::E) H):TO C ops Q (i::l) E H:=have ⟨ho,hg,hd,hx⟩:=q0_;
  TO.load ho hg hd hx hT (fun w hi=>by
    have:=(hr.ro.monoM hr.far hi).at 0 (o:=p.toNat) (c:=0) (Ue hp) (by omega)
    simpa using this) kk
theorem Z94 {t:TypeId}{x:Operand}{base:Option Addr}{n c:Nat}{p:Int}{xs:List Bool}(hr:RS C.w0 C.M boolC 1 base n c xs)(hp:inb p xs.length)(q0_:ops[i]?=some ⟨some d,.load t x,ty,pos,af,g⟩∧Zp ops E g=true∧Nat.ble (d+1) C.n=true∧ev E x=some (.pointer (some (ea base (p.toNat*1)))))(hT:Xi C.P t=true)
    (kk:TO C ops Q l ((d,.bool (xs.getD p.toNat false))::E) H):TO C ops Q (i::l) E H:=have ⟨ho,hg,hd,hx⟩:=q0_;
  TO.load ho hg hd hx hT (fun w hi=>by
    have:=(hr.ro.monoM hr.far hi).at false (o:=p.toNat) (c:=0) (Ue hp) (by omega)
    simpa using this) kk
theorem Gi {α:Type}{f:α→List Value}{s:Nat}{t:TypeId}{x:Operand}{base:Option Addr}{n c:Nat}{p:Int}{xs:List α}{cs:List Value}(dflt:α)(hr:RS C.w0 C.M f s base n c xs)(hp:inb p xs.length)(q0_:ops[i]?=some ⟨some d,.load t x,ty,pos,af,g⟩∧Zp ops E g=true∧Nat.ble (d+1) C.n=true∧ev E x=some (.pointer (some (ea base (p.toNat*s))))∧f (xs.getD p.toNat dflt)=cs)(hT:Ua C.P t s=true)
    (kk:TO C ops Q l ((d,.agg cs.toArray)::E) H):TO C ops Q (i::l) E H:=have ⟨ho,hg,hd,hx,hcs⟩:=q0_;
  Z4f ho hg hd hx hT (by rw [←hcs];exact hr.ro.wide _) (fun w hi q v hq=>by
    subst hcs
    have hqs:q<s:=by rw [←hr.ro.wide (xs.getD p.toNat dflt)];exact (List.getElem?_eq_some_iff.1 hq).1
    have:=(hr.ro.monoM hr.far hi).at dflt (o:=p.toNat) (c:=q) (Ue hp) hqs
    rw [Z9y]
    exact this.trans hq) kk
theorem Z7y {α:Type}{f:α→List Value}{s:Nat}{t:TypeId}{x:Operand}{base:Option Addr}{n c q:Nat}{p:Int}{xs:List α}{v:Value}(dflt:α)(hr:RS C.w0 C.M f s base n c xs)(hp:inb p xs.length)(q0_:ops[i]?=some ⟨some d,.load t x,ty,pos,af,g⟩∧Zp ops E g=true∧Nat.ble (d+1) C.n=true∧ev E x=some (.pointer (some (ea base (p.toNat*s+q))))∧(f (xs.getD p.toNat dflt))[q]?=some v)(hT:Xi C.P t=true)
    (kk:TO C ops Q l ((d,v)::E) H):TO C ops Q (i::l) E H:=have ⟨ho,hg,hd,hx,hv⟩:=q0_;
  TO.load ho hg hd hx hT (fun w hi=>by
    have hqs:q<s:=by rw [←hr.ro.wide (xs.getD p.toNat dflt)];exact (List.getElem?_eq_some_iff.1 hv).1
    have:=(hr.ro.monoM hr.far hi).at dflt (o:=p.toNat) (c:=q) (Ue hp) hqs
    exact this.trans hv) kk
theorem Z1d {t T':TypeId}{x:Operand}{b:Nat}{k:IntKind}{p:Int}{xs:List Int}{j:List Value}{fr:Nat×Nat}(hp:inb p xs.length)(q0_:ops[i]?=some ⟨some d,.load t x,ty,pos,af,g⟩∧Zp ops E g=true∧Nat.ble (d+1) C.n=true∧ev E x=some (.pointer (some ⟨b,p.toNat,none⟩)))(hT:Xi C.P t=true)(hm:(some b,Obj.cells (arr (intC k) xs j).toArray T' fr)∈H)
    (kk:TO C ops Q l ((d,.int k (xs.getD p.toNat 0))::E) H):TO C ops Q (i::l) E H:=have ⟨ho,hg,hd,hx⟩:=q0_;TO.ldI ho hg hd hx hT hm (Ue hp) kk
theorem Z08 {t T':TypeId}{x y:Operand}{b:Nat}{k:IntKind}{p v:Int}{xs:List Int}{j:List Value}(hp:inb p xs.length)(q0_:ops[i]?=some ⟨none,.store t x y,ty,pos,af,g⟩∧Zp ops E g=true∧ev E x=some (.pointer (some ⟨b,p.toNat,none⟩))∧ev E y=some (.int k v))(ht:Take (some b,.cells (arr (intC k) xs j).toArray T' (0,0)) H R)(hs:Yg C.P t=some 1)
    (kk:TO C ops Q l E ((some b,.cells (arr (intC k) (xs.set p.toNat v) j).toArray T' (0,0))::R)):TO C ops Q (i::l) E H:=have ⟨ho,hg,hx,hy⟩:=q0_;TO.stI ho hg hx hy ht hs (Ue hp) kk
theorem TO.stBO {t T':TypeId}{x y:Operand}{b:Nat}{p:Int}{v:Bool}{xs:List Bool}{j:List Value}(hp:inb p xs.length)(q0_:ops[i]?=some ⟨none,.store t x y,ty,pos,af,g⟩∧Zp ops E g=true∧ev E x=some (.pointer (some ⟨b,p.toNat,none⟩))∧ev E y=some (.bool v))(ht:Take (some b,.cells (arr boolC xs j).toArray T' (0,0)) H R)(hs:Yg C.P t=some 1)
    (kk:TO C ops Q l E ((some b,.cells (arr boolC (xs.set p.toNat v) j).toArray T' (0,0))::R)):TO C ops Q (i::l) E H:=have ⟨ho,hg,hx,hy⟩:=q0_;TO.stB ho hg hx hy ht hs (Ue hp) kk
where hf_set_len {α : Type} {f : α → List Value} {s : Nat} {x : α} {q : Nat} {v : Value} (hf : ∀ x, (f x).length = s) : ((f x).set q v).length = s := by rw [List.length_set, hf]
theorem Xt {t t2:TypeId}{x y:Operand}{p q:Int}(h:i64ok (p+q))(q0_:ops[i]?=some ⟨some d,.binOp .add t x y t2,ty,pos,af,g⟩∧Zp ops E g=true∧Nat.ble (d+1) C.n=true∧ev E x=some (.int .i64 p)∧ev E y=some (.int .i64 q))
    (kk:TO C ops Q l ((d,.int .i64 (p+q))::E) H):TO C ops Q (i::l) E H:=have ⟨ho,hg,hd,hx,hy⟩:=q0_;TO.add ho hg hd hx hy h.1 h.2 kk
theorem Lk {t t2:TypeId}{x y:Operand}{p q:Int}(h:i64ok (p-q))(q0_:ops[i]?=some ⟨some d,.binOp .sub t x y t2,ty,pos,af,g⟩∧Zp ops E g=true∧Nat.ble (d+1) C.n=true∧ev E x=some (.int .i64 p)∧ev E y=some (.int .i64 q))
    (kk:TO C ops Q l ((d,.int .i64 (p-q))::E) H):TO C ops Q (i::l) E H:=have ⟨ho,hg,hd,hx,hy⟩:=q0_;TO.sub ho hg hd hx hy h.1 h.2 kk
theorem TO.negG {t:TypeId}{x:Operand}{p:Int}(h:i64ok (-p))(q0_:ops[i]?=some ⟨some d,.unOp .neg t x,ty,pos,af,g⟩∧Zp ops E g=true∧Nat.ble (d+1) C.n=true∧ev E x=some (.int .i64 p))(kk:TO C ops Q l ((d,.int .i64 (-p))::E) H):TO C ops Q (i::l) E H:=have ⟨ho,hg,hd,hx⟩:=q0_;TO.neg ho hg hd hx (by rw [Z3z h.1 h.2];exact kk)
theorem Z2s {t e:TypeId}{x y:Operand}{k k' q:IntKind}{p:Int}{by':Nat}(h:mkok p)(q0_:ops[i]?=some ⟨some d,.makeSlice t x y,ty,pos,af,g⟩∧Zp ops E g=true∧Nat.ble (d+1) C.n=true∧ev E x=some (.int k p)∧ev E y=some (.int k' p))(ht:Ym C.P t=some e)(hs:Yg C.P e=some 1)(hz:Xb C.P e=some (.int q 0))(hb:Vn C.P e=some by')(hby:Nat.ble by' 8=true)
    (kk:∀ b,TO C ops Q l ((d,.slice (some ⟨b,0,none⟩) p.toNat p.toNat)::E) ((some b,.cells (arr (intC q) (List.replicate p.toNat 0) []).toArray e (0,0))::H)):TO C ops Q (i::l) E H:=have ⟨ho,hg,hd,hx,hy⟩:=q0_;
  TO.makeI ho hg hd hx hy ht hs hz hb h.1 (by
    have:=Nat.le_of_ble_eq_true hby
    have h2:p.toNat≤4294967296:=by have:=h.2;omega
    have:=Nat.mul_le_mul this h2;omega) (by have:=h.2;omega) kk
theorem Z8z {t e:TypeId}{x y:Operand}{k k':IntKind}{p:Int}{by':Nat}(h:mkok p)(q0_:ops[i]?=some ⟨some d,.makeSlice t x y,ty,pos,af,g⟩∧Zp ops E g=true∧Nat.ble (d+1) C.n=true∧ev E x=some (.int k p)∧ev E y=some (.int k' p))(ht:Ym C.P t=some e)(hs:Yg C.P e=some 1)(hz:Xb C.P e=some (.bool false))(hb:Vn C.P e=some by')(hby:Nat.ble by' 8=true)
    (kk:∀ b,TO C ops Q l ((d,.slice (some ⟨b,0,none⟩) p.toNat p.toNat)::E) ((some b,.cells (arr boolC (List.replicate p.toNat false) []).toArray e (0,0))::H)):TO C ops Q (i::l) E H:=have ⟨ho,hg,hd,hx,hy⟩:=q0_;
  TO.makeB ho hg hd hx hy ht hs hz hb h.1 (by
    have:=Nat.le_of_ble_eq_true hby
    have h2:p.toNat≤4294967296:=by have:=h.2;omega
    have:=Nat.mul_le_mul this h2;omega) (by have:=h.2;omega) kk
theorem Z3n {α:Type}{f:α→List Value}{s by':Nat}{z:Value}{t e:TypeId}{x y:Operand}{ob:Option Nat}{base:Option Addr}{n c m cy:Nat}{xs ys:List α}{j:List Value}
    (hf:∀ x,(f x).length=s)(h1:∀ x,(f x).all (·.oneCell')=true)(hT:ElemT C.P t e s by' z)(hk:apok (xs++ys).length by')
    (q0_:ops[i]?=some ⟨some d,.call ⟨.builtin .append,#[x,y],#[t,t]⟩,ty,pos,af,g⟩∧Zp ops E g=true∧Nat.ble (d+1) C.n=true∧ev E x=some (.slice (sb ob) n c)∧ev E y=some (.slice base m cy))
    (ht:Take (ob,.cells (arr f xs j).toArray e (0,0)) H R)(hn:xs.length=n)(hnc:n≤c)(hj:j.length=(c-n)*s)(h0:ob=none→c=0)
    (hsrc:∀ w,Inv C.w0 C.M w H→RS w [] f s base m cy ys)
    (kk:∀ (ob':Option Nat) (c':Nat) (j':List Value),n+m≤c'→j'.length=(c'-(n+m))*s→(ob'=none→c'=0)→TO C ops Q l ((d,.slice (sb ob') (n+m) c')::E) ((ob',.cells (arr f (xs++ys) j').toArray e (0,0))::R)) :
    TO C ops Q (i::l) E H:=by
  obtain ⟨ho,hg,hd,hx,hy⟩:=q0_
  by_cases hm:ys.length=m
  · have hl : (xs ++ ys).length = n + m := Lr hn hm
    rw [hl] at hk
    exact TO.append hf h1 hT ho hg hd hx hy ht hn hnc hj h0 (fun w hi=>(hsrc w hi).ro) hk.1 hk.2 kk
  · intro a w _ hi
    exact absurd (hsrc w hi).len hm
theorem Zw {f:FuncId}{xs:Array Operand}{at':Array TypeId}{vs:List Value}{Post:Value→Heap→Prop}(hF:Zz C.P f=true)
    (q0_:ops[i]?=some ⟨some d,.call ⟨.value (.func f),xs,at'⟩,ty,pos,af,g⟩∧Zp ops E g=true∧Nat.ble (d+1) C.n=true∧evs E xs.toList=some vs)
    (hc:∀ w,Inv C.w0 C.M w H→Fnc C.P f vs.toArray w [] Post)
    (kk:∀ v N,Post v N→TO C ops Q l ((d,v)::E) (N++H)):TO C ops Q (i::l) E H:=have ⟨ho,hg,hd,hx⟩:=q0_;TO.call ho hg hd hF hx hc kk
end rules
end Go.Acq
namespace Go.Acq
open Go Go.RowKit
section rules
variable {C : Cx} {ops : Array Oper} {Q : Exit → Act → World → Prop} {l : List Nat} {E : Env} {H R : Heap} {i d : Nat} {ty : TypeId} {pos : String} {af : Array Edge} {g : Option (Nat × Bool)}
theorem Vz {t:TypeId}{x:Operand}{b o:Nat}{cs:List Value}{v:Value}(hc:HB C.w0 C.M b cs)(q0_:ops[i]?=some ⟨some d,.load t x,ty,pos,af,g⟩∧Zp ops E g=true∧Nat.ble (d+1) C.n=true∧ev E x=some (.pointer (some ⟨b,o,none⟩))∧cs[o]?=some v)(hT:Xi C.P t=true)
    (kk:TO C ops Q l ((d,v)::E) H):TO C ops Q (i::l) E H:=have ⟨ho,hg,hd,hx,hv⟩:=q0_;TO.load ho hg hd hx hT (fun w hi=>hi.cell_old (hc.has o v hv) hc.far) kk
theorem Zd4 {t:TypeId}{x:Operand}{b k:Nat}{cs:List Value}(hc:HB C.w0 C.M b cs)(q0_:ops[i]?=some ⟨some d,.load t x,ty,pos,af,g⟩∧Zp ops E g=true∧Nat.ble (d+1) C.n=true∧ev E x=some (.pointer (some ⟨b,0,none⟩))∧cs.length=k)(hT:Ua C.P t k=true)
    (kk:TO C ops Q l ((d,.agg cs.toArray)::E) H):TO C ops Q (i::l) E H:=have ⟨ho,hg,hd,hx,hk⟩:=q0_;
  Z4f ho hg hd hx hT hk (fun w hi j v hv=>by rw [Addr.add_mid,Nat.zero_add];exact hi.cell_old (hc.has j v hv) hc.far) kk
theorem Z05 {f:FuncId}{xs:Array Operand}{at':Array TypeId}{vs:List Value}{M:List Nat}{Hm:Heap}{Post:Value→Heap→Prop}(hF:Zz C.P f=true)
    (q0_:ops[i]?=some ⟨some d,.call ⟨.value (.func f),xs,at'⟩,ty,pos,af,g⟩∧Zp ops E g=true∧Nat.ble (d+1) C.n=true∧evs E xs.toList=some vs)(hH:List.Perm H (Hm++R))(hM:Hm.filterMap (·.1)=M)
    (hc:∀ w,Inv C.w0 C.M w H→Fnc C.P f vs.toArray w M Post)
    (kk:∀ v N,Post v N→TO C ops Q l ((d,v)::E) (N++R)):TO C ops Q (i::l) E H:=have ⟨ho,hg,hd,hx⟩:=q0_;
  Z4k (Hm:=Hm) (R:=R) ho hg rfl (by simp) hd (fun a w hf hi=>by
    have e1:xs.map a.eval=vs.toArray:=by apply Array.ext';simpa using Gf hf hx
    simp [execOp,resolve,Deferred.ofValue,invoke,Act.eval,e1,Kd hF]) hH (fun m h=>by rw [hM];exact h) hc kk
theorem Jo {f:FuncId}{x:Operand}{xs:Array Operand}{at':Array TypeId}{vs:List Value}{fs cs:Array Value}{Post:Value→Heap→Prop}(hF:Zz C.P f=true)
    (q0_:ops[i]?=some ⟨some d,.call ⟨.value x,xs,at'⟩,ty,pos,af,g⟩∧Zp ops E g=true∧Nat.ble (d+1) C.n=true∧ev E x=some (.func (.func f) fs cs)∧evs E xs.toList=some vs)
    (hc:∀ w,Inv C.w0 C.M w H→Fnc C.P f (fs++vs.toArray++cs) w [] Post)
    (kk:∀ v N,Post v N→TO C ops Q l ((d,v)::E) (N++H)):TO C ops Q (i::l) E H:=have ⟨ho,hg,hd,hfv,hx⟩:=q0_;TO.callV ho hg hd hF hfv hx hc kk
theorem Z7r {f:FuncId}{x:Operand}{xs:Array Operand}{at':Array TypeId}{vs:List Value}{fs cs:Array Value}{M:List Nat}{Hm:Heap}{Post:Value→Heap→Prop}(hF:Zz C.P f=true)
    (q0_:ops[i]?=some ⟨some d,.call ⟨.value x,xs,at'⟩,ty,pos,af,g⟩∧Zp ops E g=true∧Nat.ble (d+1) C.n=true∧ev E x=some (.func (.func f) fs cs)∧evs E xs.toList=some vs)(hH:List.Perm H (Hm++R))(hM:Hm.filterMap (·.1)=M)
    (hc:∀ w,Inv C.w0 C.M w H→Fnc C.P f (fs++vs.toArray++cs) w M Post)
    (kk:∀ v N,Post v N→TO C ops Q l ((d,v)::E) (N++R)):TO C ops Q (i::l) E H:=have ⟨ho,hg,hd,hfv,hx⟩:=q0_;Zju ho hg hd hF hfv hx hH (fun m h=>by rw [hM];exact h) hc kk
end rules
section ends
variable {C : Cx} {E : Env} {H N : Heap}
theorem Kz {fn:Func}{w0:World}{M:List Nat}{Post:Value→Heap→Prop}(q0_:C.w0=w0∧C.M=M∧C.D=[]∧fn.results.toList=[])(hN:Pick N H)(hP:Post (.tuple #[]) N) :
    X C (bodyPost C.P fn (We w0 M Post)) .ret E H:=have ⟨hw,hMM,hD,hfn⟩:=q0_;
  X.ret (vs:=[]) hw hMM hD hfn (fun j r' u h1 h2=>by simp at h1) rfl rfl hN hP
end ends
end Go.Acq
namespace Go.Acq
open Go Go.RowKit
section
variable {C : Cx} {ops : Array Oper} {Q : Exit → Act → World → Prop} {l : List Nat} {E : Env} {H : Heap} {c : Code}
theorem TO.addNone (o:Obj)(k:TO C ops Q l E ((Option.none,o)::H)):TO C ops Q l E H:=fun a w hf hi=>k a w hf (hi.addNone o)
end
end Go.Acq
namespace Go.Acq
open Go Go.RowKit
section control
variable {C : Cx} {Q : Exit → Act → World → Prop} {E : Env} {H : Heap} {c : Code}
def RAt (C:Cx)(c:Code)(Q:Exit→Act→World→Prop)(a:Act)(w:World):Prop :=
  ∀ (b:Frame) (k:List Item) (cs:List Frame),b.roundOf=(FW C.ρ).round→(FW C.ρ).fn b.fn→(FW C.ρ).room (cs.length+1+0) →
    ∃ e a' w',Q e a' w'∧ArrivesIn (Machine.fenced C.P (FW C.ρ)) C.P (lone (b.atR a (.code c::.inLoop c::k)) cs w) b k cs e a' w'
def RT (C:Cx)(c:Code)(Q:Exit→Act→World→Prop)(E:Env)(H:Heap):Prop:=∀ a w,Fits C.n C.D E a→Inv C.w0 C.M w H→RAt C c Q a w
theorem Zdt (h:RT C c Q E H):T C (.loop c) Q E H:=by
 intro a w hf hi b k cs hro hb hr
 obtain ⟨e,a',w',hq,harr⟩:=h a w hf hi b k cs hro hb hr
 exact ⟨e,a',w',hq,.of_steps (.one (fenced_calm hb hr rfl) stepR_loop) harr⟩
theorem RT.round (h:T C c (Exit.then (RAt C c Q) Q) E H):RT C c Q E H:=by
 intro a w hf hi b k cs hro hb hr
 obtain ⟨e,a₁,w₁,hq,harr⟩:=h a w hf hi b (.inLoop c::k) cs hro hb hr
 cases e with
 | normal =>
  obtain ⟨e₂,a₂,w₂,hq₂,harr₂⟩:=hq b k cs hro hb hr
  exact ⟨e₂,a₂,w₂,hq₂,.of_steps (StepsIn.trans harr (.one (fenced_calm hb hr rfl) stepR_inLoop)) harr₂⟩
 | exit id=>exact ⟨_,a₁,w₁,hq,.pass (x:=.inLoop c) rfl (fun _ _=>.inl (by simp)) harr⟩
 | goto l=>exact ⟨_,a₁,w₁,hq,.pass (x:=.inLoop c) rfl (fun _ _=>.inl (by simp)) harr⟩
 | ret=>exact ⟨_,a₁,w₁,hq,.pass (x:=.inLoop c) rfl (fun _ _=>.inl (by simp)) harr⟩
 | panic ch=>exact ⟨_,a₁,w₁,hq,.pass (x:=.inLoop c) rfl (fun _ _=>.inl (by simp)) harr⟩
 | outgrown=>exact ⟨_,a₁,w₁,hq,.pass (x:=.inLoop c) rfl (fun _ _=>.inl (by simp)) harr⟩
theorem X.round (h:RT C c Q E H):X C (Exit.then (RAt C c Q) Q) .normal E H:=h
end control
section
variable {α : Type} {w : World} {M : List Nat} {f : α → List Value} {s n c : Nat} {base : Option Addr} {xs : List α}
def Kk (base:Option Addr)(l c s:Nat):Option Addr:=if c=l then base else base.map (·.add (l*s))
theorem RS.take (h:RS w M f s base n c xs){p:Int}(hp:0≤p∧p≤(xs.length:Int)):RS w M f s base p.toNat c (xs.take p.toNat):=by
 have hl:=h.len
 have hm:p.toNat≤n:=by omega
 exact ⟨h.ro.take hm,fun a ha h0=>h.far a ha (by omega),Nat.le_trans hm h.cap⟩
theorem ea_low (base:Option Addr)(l c s o:Nat)(hb:base≠none)(hc:c≠l):ea (Kk base l c s) o=ea base (l*s+o):=by
 cases base with
 | none=>exact absurd rfl hb
 | some a =>
  unfold Kk
  rw [if_neg hc]
  show (a.add (l*s)).add o=_
  exact Z9y (some a) (l*s) o
theorem RS.drop (h:RS w M f s base n c xs){p:Int}(hp:0≤p∧p≤(xs.length:Int)):RS w M f s (Kk base p.toNat c s) (n-p.toNat) (c-p.toNat) (xs.drop p.toNat):=by
 have hl:=h.len
 have hc:=h.cap
 refine ⟨⟨by rw [List.length_drop,hl],fun hb=>?_,h.ro.wide,fun o q ho hq x hx=>?_⟩,fun a ha h0=>?_,by omega⟩
 ·
  unfold Kk at hb
  split at hb
  ·omega
  ·
   have:base=none:=by cases base <;> simp_all
   have:=h.ro.nil this;omega
 ·
  rw [List.length_drop] at ho
  have hcl:c≠p.toNat:=by omega
  have hbn:base≠none:=fun e=>by have:=h.ro.nil e;omega
  rw [ea_low base _ _ _ _ hbn hcl,show p.toNat*s+(o*s+q)=(p.toNat+o)*s+q by rw [Nat.add_mul];omega]
  exact h.ro.cell (p.toNat+o) q (by omega) hq x (by rw [List.getElem?_drop] at hx;exact hx)
 ·
  cases base with
  | none=>unfold Kk at ha;split at ha <;> cases ha
  | some a0 =>
   have:=h.far a0 rfl (by omega)
   unfold Kk at ha
   split at ha
   ·injection ha with ha;subst ha;exact this
   ·
    simp only [Option.map_some,Option.some.injEq] at ha
    subst ha
    have:(a0.add (p.toNat*s)).block=a0.block:=by simp only [Addr.add];split <;> rfl
    rw [this];assumption
end
section rules
variable {C : Cx} {ops : Array Oper} {Q : Exit → Act → World → Prop} {l : List Nat} {E : Env} {H R : Heap} {i d : Nat} {ty : TypeId} {pos : String} {af : Array Edge} {g : Option (Nat × Bool)}
theorem Z92 {α:Type}{xs:List α}{t e:TypeId}{x y:Operand}{base:Option Addr}{n c s:Nat}{k:IntKind}{p:Int}(hn:xs.length=n)(hc:n≤c)(hp:0≤p∧p≤(xs.length:Int))
    (q0_:ops[i]?=some ⟨some d,.slice t x none (some y) none,ty,pos,af,g⟩∧Zp ops E g=true∧Nat.ble (d+1) C.n=true∧ev E x=some (.slice base n c)∧ev E y=some (.int k p))(ht:Ym C.P t=some e)(hs:Yg C.P e=some s)
    (kk:TO C ops Q l ((d,.slice base p.toNat c)::E) H):TO C ops Q (i::l) E H:=have ⟨ho,hg,hd,hx,hy⟩:=q0_;
  Zfp ho hg hd hx hy ht hs hp.1 (by have:=hp.2;omega) kk
theorem TO.slL {α:Type}{xs:List α}{t e:TypeId}{x y:Operand}{base:Option Addr}{n c s:Nat}{k:IntKind}{p:Int}(hn:xs.length=n)(hp:0≤p∧p≤(xs.length:Int))
    (q0_:ops[i]?=some ⟨some d,.slice t x (some y) none none,ty,pos,af,g⟩∧Zp ops E g=true∧Nat.ble (d+1) C.n=true∧ev E x=some (.slice base n c)∧ev E y=some (.int k p))(ht:Ym C.P t=some e)(hs:Yg C.P e=some s)
    (kk:TO C ops Q l ((d,.slice (Kk base p.toNat c s) (n-p.toNat) (c-p.toNat))::E) H):TO C ops Q (i::l) E H:=have ⟨ho,hg,hd,hx,hy⟩:=q0_;
  TO.val ho hg hd (by simp) (fun a w hf hi=>by
    have hu:=Vg ht
    have h1:0≤p∧p≤(n:Int):=by rw [hn] at hp;exact hp
    simp [execOp,hf.ev hx,hf.ev hy,Instr.sliceAt,Instr.slice,Instr.sliceBounds,Instr.sliceBound,asIntOf,run_underlying hu,h1.1,h1.2,Uv hs,Kk]) kk
theorem Z1z {t e:TypeId}{x y:Operand}{cs vs:List Value}{k:IntKind}{p:Int}{n s:Nat}(q0_:ops[i]?=some ⟨some d,.index t x y,ty,pos,af,g⟩∧Zp ops E g=true∧Nat.ble (d+1) C.n=true∧ev E x=some (.agg cs.toArray)∧ev E y=some (.int k p))(hT:C.P.underlying t=some (.array n e))(hs:Ua C.P e s=true)(h0:0≤p∧p<(n:Int))(hv:(cs.drop (p.toNat*s)).take s=vs)
    (kk:TO C ops Q l ((d,.agg vs.toArray)::E) H):TO C ops Q (i::l) E H:=have ⟨ho,hg,hd,hx,hy⟩:=q0_;Zfw ho hg hd hx hy hT hs h0.1 h0.2 hv kk
theorem Zik {α:Type}{f:α→List Value}{s:Nat}(z:α)(hf:(f z).length=s)(hs:0<s)(n:Nat):madeCells (f z).toArray (n*s)=(arr f (List.replicate n z) []).toArray:=by
 unfold madeCells
 apply Array.ext'
 simp only [Array.toList_map,Array.toList_range,List.size_toArray,hf,arr,List.append_nil]
 apply List.ext_getElem?
 intro i
 rw [List.getElem?_map]
 by_cases hi:i<n*s
 ·
  rw [List.getElem?_range hi]
  have h1:i / s<(List.replicate n z).length:=by rw [List.length_replicate];exact Nat.div_lt_of_lt_mul (by rw [Nat.mul_comm];exact hi)
  have h2:i%s<s:=Nat.mod_lt _ hs
  have hq:∀ (xs:List α) (o c:Nat),(∀ x,x∈xs→(f x).length=s)→o<xs.length→c<s→(xs.flatMap f)[o*s+c]?=(f (xs.getD o z))[c]?:=by
   intro xs
   induction xs with
   | nil=>intro o c _ h;simp at h
   | cons x xs ih =>
    intro o c hl h hc
    have hx:=hl x (.head _)
    cases o with
    | zero=>rw [List.flatMap_cons,Nat.zero_mul,Nat.zero_add,List.getElem?_append_left (by rw [hx];exact hc)];rfl
    | succ o =>
     rw [List.flatMap_cons,List.getElem?_append_right (by rw [hx,Nat.add_mul];omega),hx]
     have:(o+1)*s+c-s=o*s+c:=by rw [Nat.add_mul];omega
     rw [this,ih o c (fun y hy=>hl y (.tail _ hy)) (by simpa using h) hc];rfl
  have h3:=hq (List.replicate n z) (i / s) (i%s) (fun x hx=>by rw [List.eq_of_mem_replicate hx];exact hf) h1 h2
  have h4:i / s*s+i%s=i:=by rw [Nat.mul_comm];exact Nat.div_add_mod i s
  rw [h4] at h3
  rw [h3]
  have h5:(List.replicate n z).getD (i / s) z=z:=by rw [List.getD_eq_getElem?_getD,List.getElem?_replicate];split <;> simp
  rw [h5]
  have h6:i%s<(f z).length:=by rw [hf];exact h2
  simp [h6]
 ·
  rw [List.getElem?_eq_none (by simp;omega),List.getElem?_eq_none]
  ·rfl
  ·
   have:((List.replicate n z).flatMap f).length=n*s:=by
    clear hi
    induction n with
    | zero=>simp
    | succ n ih=>rw [List.replicate_succ,List.flatMap_cons,List.length_append,ih,hf,Nat.add_mul];omega
   omega
theorem TO.mkS {α:Type}{f:α→List Value}{t e:TypeId}{x y:Operand}{k k':IntKind}{p:Int}{z:Value}{zc:α}{by' s:Nat}(h:mkok p)(q0_:ops[i]?=some ⟨some d,.makeSlice t x y,ty,pos,af,g⟩∧Zp ops E g=true∧Nat.ble (d+1) C.n=true∧ev E x=some (.int k p)∧ev E y=some (.int k' p)∧(f zc).length=s∧Nat.ble 1 s=true∧z.cells=(f zc).toArray)(ht:Ym C.P t=some e)(hs:Yg C.P e=some s)(hz:Xb C.P e=some z)(hb:Vn C.P e=some by')(hby:Nat.ble by' 1024=true)
    (kk:∀ b,TO C ops Q l ((d,.slice (some ⟨b,0,none⟩) p.toNat p.toNat)::E) ((some b,.cells (arr f (List.replicate p.toNat zc) []).toArray e (0,0))::H)):TO C ops Q (i::l) E H:=by
  obtain ⟨ho,hg,hd,hx,hy,hf,hs0,hzc⟩:=q0_
  obtain ⟨ti,hti,hsz⟩:=Gy hs
  have hz':ti.zero=some z:=by simpa [Xb,hti] using hz
  have hb':ti.bytes=by':=by simpa [Vn,hti] using hb
  have hby':=Nat.le_of_ble_eq_true hby
  have h0:=h.1
  have h1:=h.2
  refine TO.new (fun b=>.slice (some ⟨b,0,none⟩) p.toNat p.toNat) ho hg hd (by simp) (fun a w hfit hi=>?_) kk
  have hr:=run_make (P:=C.P) w t e ti z (Vg ht) hti hz' k k' p p h0 (Int.le_refl _) (by
    rw [hb']
    have h2:(by':Int)*p≤1024*4294967296:=Int.mul_le_mul (by omega) h1 h0 (by omega)
    omega) (by omega)
  rw [hsz,hzc,Zik zc hf (Nat.le_of_ble_eq_true hs0)] at hr
  simp [execOp,hfit.ev hx,hfit.ev hy,hr]
theorem Jz {op:BinOp}{t t2:TypeId}{x y:Operand}{k:IntKind}{p q:Int}{c:Prop}{hc:Decidable c}{b:Bool}
    (q0_:ops[i]?=some ⟨some d,.binOp op t x y t2,ty,pos,af,g⟩∧Zp ops E g=true∧Nat.ble (d+1) C.n=true∧ev E x=some (.int k p)∧ev E y=some (.int k q)∧Rm op k p q=some (.bool (@decide c hc)))(h:@decide c hc=b)(kk:TO C ops Q l ((d,.bool b)::E) H):TO C ops Q (i::l) E H:=have ⟨ho,hg,hd,hx,hy,hv⟩:=q0_;
  Zr ⟨ho,hg,hd,hx,hy,hv⟩ (by rw [h];exact kk)
theorem Nu {t t2:TypeId}{x y:Operand}{p q r:Int}(h:p+q=r∧i64ok r)
    (q0_:ops[i]?=some ⟨some d,.binOp .add t x y t2,ty,pos,af,g⟩∧Zp ops E g=true∧Nat.ble (d+1) C.n=true∧ev E x=some (.int .i64 p)∧ev E y=some (.int .i64 q))
    (kk:TO C ops Q l ((d,.int .i64 r)::E) H):TO C ops Q (i::l) E H:=have ⟨ho,hg,hd,hx,hy⟩:=q0_;Xt (by rw [h.1];exact h.2) ⟨ho,hg,hd,hx,hy⟩ (by rw [h.1];exact kk)
end rules
end Go.Acq
namespace Go.Acq
open Go Go.RowKit
end Go.Acq
namespace Go.Acq
open Go Go.RowKit
theorem Zh4 {a:Int}(h:u64ok a):IntKind.u64.wrap a=a:=by rw [IntKind.wrap_u64];omega
section rules
variable {C : Cx} {ops : Array Oper} {Q : Exit → Act → World → Prop} {l : List Nat} {E : Env} {H R : Heap} {i d : Nat} {ty : TypeId} {pos : String} {af : Array Edge} {g : Option (Nat × Bool)}
theorem TO.shrL {t t2:TypeId}{x y:Operand}{k k2:IntKind}{p q:Int}{m:Nat}(q0_:ops[i]?=some ⟨some d,.binOp .shr t x y t2,ty,pos,af,g⟩∧Zp ops E g=true∧Nat.ble (d+1) C.n=true∧ev E x=some (.int k p)∧ev E y=some (.int k2 q)∧q=(m:Int)∧min m k.bits=m)
    (kk:TO C ops Q l ((d,.int k (p.fdiv (2^m)))::E) H):TO C ops Q (i::l) E H:=have ⟨ho,hg,hd,hx,hy,hq,hm⟩:=q0_;
  TO.val ho hg hd (by simp) (fun a w hf _=>by
    subst hq
    have:(binOp .shr t (.int k p) (.int k2 (m:Int)))=pure (.int k (p.fdiv (2^m))):=by
      simp only [binOp,Op.shift]
      rw [if_neg (by omega)]
      simp only [Int.toNat_natCast,hm]
    simp [execOp,hf.ev hx,hf.ev hy,eqGuard_at_int,this]) kk
end rules
end Go.Acq
namespace Go.Acq
open Go Go.RowKit
theorem Ze3 (b k:Nat):ea (some ⟨b,0,none⟩) k=⟨b,k,none⟩:=by simp [ea,Addr.add_mid]
section rules
variable {C : Cx} {ops : Array Oper} {Q : Exit → Act → World → Prop} {l : List Nat} {E : Env} {H R : Heap} {i d : Nat} {ty : TypeId} {pos : String} {af : Array Edge} {g : Option (Nat × Bool)}
theorem Rf {α:Type}{xs:List α}{t e:TypeId}{x y:Operand}{ob:Option Nat}{n c s:Nat}{k:IntKind}{p:Int}(hz:ob=none→c=0)(hc:n≤c)(hn:xs.length=n)(hp:inb p xs.length)
    (q0_:ops[i]?=some ⟨some d,.indexAddr t x y,ty,pos,af,g⟩∧Zp ops E g=true∧Nat.ble (d+1) C.n=true∧ev E x=some (.slice (sb ob) n c)∧ev E y=some (.int k p))(ht:Ym C.P t=some e)(hs:Yg C.P e=some s)
    (kk:TO C ops Q l ((d,.pointer (some (ea (sb ob) (p.toNat*s))))::E) H):TO C ops Q (i::l) E H:=by
  obtain ⟨ho,hg,hd,hx,hy⟩:=q0_
  obtain ⟨b,rfl⟩:=Zd8 hz hc hn hp
  exact Z18 hn hp ⟨ho,hg,hd,hx,hy⟩ ht hs (by rw [←Ze3];exact kk)
theorem Zdx {t T':TypeId}{x:Operand}{ob:Option Nat}{n c:Nat}{k:IntKind}{p:Int}{xs:List Int}{j:List Value}{fr:Nat×Nat}(hz:ob=none→c=0)(hc:n≤c)(hn:xs.length=n)(hp:inb p xs.length)(q0_:ops[i]?=some ⟨some d,.load t x,ty,pos,af,g⟩∧Zp ops E g=true∧Nat.ble (d+1) C.n=true∧ev E x=some (.pointer (some (ea (sb ob) (p.toNat*1)))))(hT:Xi C.P t=true)(hm:(ob,Obj.cells (arr (intC k) xs j).toArray T' fr)∈H)
    (kk:TO C ops Q l ((d,.int k (xs.getD p.toNat 0))::E) H):TO C ops Q (i::l) E H:=by
  obtain ⟨ho,hg,hd,hx⟩:=q0_
  obtain ⟨b,rfl⟩:=Zd8 hz hc hn hp
  exact Z1d hp ⟨ho,hg,hd,(by rw [←Ze3,←Nat.mul_one p.toNat];exact hx)⟩ hT hm kk
end rules
end Go.Acq
namespace Go.Acq
open Go Go.RowKit
section
variable {C : Cx} {Q : Exit → Act → World → Prop} {E : Env} {H : Heap} {c x y : Code}
theorem Wf {α0:Type}(φ:α0→Prop)(L:α0→Env)(Hs:α0→Heap)(hx:T C x (Exit.then (fun ac w=>∃ (b0:α0),φ b0∧Fits C.n C.D (L b0) ac∧Inv C.w0 C.M w (Hs b0)) Q) E H)
    (hy:∀ (b0:α0),φ b0→T C y Q (L b0) (Hs b0)):T C x (Exit.then (y.wpIn (FW C.ρ) 0 C.P Q) Q) E H:=T.mono hx (fun e ac w h=>by
  cases e with
  | normal=>obtain ⟨b0,h1,h2,h3⟩:=h;exact hy b0 h1 ac w h2 h3
  | _=>exact h)
theorem Xa {α0:Type}{φ:α0→Prop}{L:α0→Env}{Hs:α0→Heap}(b0:α0)(hφ:φ b0)(hL:AllF (L b0) E)(hH:Pick (Hs b0) H) :
    X C (Exit.then (fun ac w=>∃ (b0:α0),φ b0∧Fits C.n C.D (L b0) ac∧Inv C.w0 C.M w (Hs b0)) Q) .normal E H:=fun _ _ hf hi=>⟨b0,hφ,hf.all hL,hi.pick hH⟩
theorem Z2r {α0 α1:Type}(φ:α0→α1→Prop)(L:α0→α1→Env)(Hs:α0→α1→Heap)(μ:α0→α1→Nat)(a0:α0)(a1:α1)(h0:φ a0 a1)(hE:AllF (L a0 a1) E)(hH:Pick (Hs a0 a1) H)
    (round:∀ (a0:α0) (a1:α1),φ a0 a1→T C c (Exit.then (fun ac w=>∃ (b0:α0) (b1:α1),φ b0 b1∧μ b0 b1<μ a0 a1∧Fits C.n C.D (L b0 b1) ac∧Inv C.w0 C.M w (Hs b0 b1)) Q) (L a0 a1) (Hs a0 a1)):T C (.loop c) Q E H :=
  Z03 (α:=α0×α1) (fun s=>φ s.1 s.2) (fun s=>L s.1 s.2) (fun s=>Hs s.1 s.2) (fun s=>μ s.1 s.2) (a0,a1) h0 hE hH (fun s hs=>T.mono (round s.1 s.2 hs) (fun e ac w h=>by
    cases e with
    | normal=>obtain ⟨b0,b1,h1,h2,h3,h4⟩:=h;exact ⟨⟨b0,b1⟩,h1,h2,h3,h4⟩
    | _=>exact h))
theorem Z07 {α0 α1:Type}{φ:α0→α1→Prop}{L:α0→α1→Env}{Hs:α0→α1→Heap}{μ:α0→α1→Nat}{m:Nat}(b0:α0)(b1:α1)(hφ:φ b0 b1)(hμ:μ b0 b1<m)(hL:AllF (L b0 b1) E)(hH:Pick (Hs b0 b1) H) :
    X C (Exit.then (fun ac w=>∃ (b0:α0) (b1:α1),φ b0 b1∧μ b0 b1<m∧Fits C.n C.D (L b0 b1) ac∧Inv C.w0 C.M w (Hs b0 b1)) Q) .normal E H:=fun _ _ hf hi=>⟨b0,b1,hφ,hμ,hf.all hL,hi.pick hH⟩
theorem Ziq {α0 α1:Type}(φ:α0→α1→Prop)(L:α0→α1→Env)(Hs:α0→α1→Heap)(hx:T C x (Exit.then (fun ac w=>∃ (b0:α0) (b1:α1),φ b0 b1∧Fits C.n C.D (L b0 b1) ac∧Inv C.w0 C.M w (Hs b0 b1)) Q) E H)
    (hy:∀ (b0:α0) (b1:α1),φ b0 b1→T C y Q (L b0 b1) (Hs b0 b1)):T C x (Exit.then (y.wpIn (FW C.ρ) 0 C.P Q) Q) E H:=T.mono hx (fun e ac w h=>by
  cases e with
  | normal=>obtain ⟨b0,b1,h1,h2,h3⟩:=h;exact hy b0 b1 h1 ac w h2 h3
  | _=>exact h)
theorem X.metE2 {α0 α1:Type}{φ:α0→α1→Prop}{L:α0→α1→Env}{Hs:α0→α1→Heap}(b0:α0)(b1:α1)(hφ:φ b0 b1)(hL:AllF (L b0 b1) E)(hH:Pick (Hs b0 b1) H) :
    X C (Exit.then (fun ac w=>∃ (b0:α0) (b1:α1),φ b0 b1∧Fits C.n C.D (L b0 b1) ac∧Inv C.w0 C.M w (Hs b0 b1)) Q) .normal E H:=fun _ _ hf hi=>⟨b0,b1,hφ,hf.all hL,hi.pick hH⟩
theorem Rt {α0 α1 α2:Type}(φ:α0→α1→α2→Prop)(L:α0→α1→α2→Env)(Hs:α0→α1→α2→Heap)(μ:α0→α1→α2→Nat)(a0:α0)(a1:α1)(a2:α2)(h0:φ a0 a1 a2)(hE:AllF (L a0 a1 a2) E)(hH:Pick (Hs a0 a1 a2) H)
    (round:∀ (a0:α0) (a1:α1) (a2:α2),φ a0 a1 a2→T C c (Exit.then (fun ac w=>∃ (b0:α0) (b1:α1) (b2:α2),φ b0 b1 b2∧μ b0 b1 b2<μ a0 a1 a2∧Fits C.n C.D (L b0 b1 b2) ac∧Inv C.w0 C.M w (Hs b0 b1 b2)) Q) (L a0 a1 a2) (Hs a0 a1 a2)):T C (.loop c) Q E H :=
  Z03 (α:=α0×α1×α2) (fun s=>φ s.1 s.2.1 s.2.2) (fun s=>L s.1 s.2.1 s.2.2) (fun s=>Hs s.1 s.2.1 s.2.2) (fun s=>μ s.1 s.2.1 s.2.2) (a0,a1,a2) h0 hE hH (fun s hs=>T.mono (round s.1 s.2.1 s.2.2 hs) (fun e ac w h=>by
    cases e with
    | normal=>obtain ⟨b0,b1,b2,h1,h2,h3,h4⟩:=h;exact ⟨⟨b0,b1,b2⟩,h1,h2,h3,h4⟩
    | _=>exact h))
theorem La {α0 α1 α2:Type}{φ:α0→α1→α2→Prop}{L:α0→α1→α2→Env}{Hs:α0→α1→α2→Heap}{μ:α0→α1→α2→Nat}{m:Nat}(b0:α0)(b1:α1)(b2:α2)(hφ:φ b0 b1 b2)(hμ:μ b0 b1 b2<m)(hL:AllF (L b0 b1 b2) E)(hH:Pick (Hs b0 b1 b2) H) :
    X C (Exit.then (fun ac w=>∃ (b0:α0) (b1:α1) (b2:α2),φ b0 b1 b2∧μ b0 b1 b2<m∧Fits C.n C.D (L b0 b1 b2) ac∧Inv C.w0 C.M w (Hs b0 b1 b2)) Q) .normal E H:=fun _ _ hf hi=>⟨b0,b1,b2,hφ,hμ,hf.all hL,hi.pick hH⟩
theorem T.loopE4 {α0 α1 α2 α3:Type}(φ:α0→α1→α2→α3→Prop)(L:α0→α1→α2→α3→Env)(Hs:α0→α1→α2→α3→Heap)(μ:α0→α1→α2→α3→Nat)(a0:α0)(a1:α1)(a2:α2)(a3:α3)(h0:φ a0 a1 a2 a3)(hE:AllF (L a0 a1 a2 a3) E)(hH:Pick (Hs a0 a1 a2 a3) H)
    (round:∀ (a0:α0) (a1:α1) (a2:α2) (a3:α3),φ a0 a1 a2 a3→T C c (Exit.then (fun ac w=>∃ (b0:α0) (b1:α1) (b2:α2) (b3:α3),φ b0 b1 b2 b3∧μ b0 b1 b2 b3<μ a0 a1 a2 a3∧Fits C.n C.D (L b0 b1 b2 b3) ac∧Inv C.w0 C.M w (Hs b0 b1 b2 b3)) Q) (L a0 a1 a2 a3) (Hs a0 a1 a2 a3)):T C (.loop c) Q E H :=
  Z03 (α:=α0×α1×α2×α3) (fun s=>φ s.1 s.2.1 s.2.2.1 s.2.2.2) (fun s=>L s.1 s.2.1 s.2.2.1 s.2.2.2) (fun s=>Hs s.1 s.2.1 s.2.2.1 s.2.2.2) (fun s=>μ s.1 s.2.1 s.2.2.1 s.2.2.2) (a0,a1,a2,a3) h0 hE hH (fun s hs=>T.mono (round s.1 s.2.1 s.2.2.1 s.2.2.2 hs) (fun e ac w h=>by
    cases e with
    | normal=>obtain ⟨b0,b1,b2,b3,h1,h2,h3,h4⟩:=h;exact ⟨⟨b0,b1,b2,b3⟩,h1,h2,h3,h4⟩
    | _=>exact h))
theorem Zbi {α0 α1 α2 α3:Type}{φ:α0→α1→α2→α3→Prop}{L:α0→α1→α2→α3→Env}{Hs:α0→α1→α2→α3→Heap}{μ:α0→α1→α2→α3→Nat}{m:Nat}(b0:α0)(b1:α1)(b2:α2)(b3:α3)(hφ:φ b0 b1 b2 b3)(hμ:μ b0 b1 b2 b3<m)(hL:AllF (L b0 b1 b2 b3) E)(hH:Pick (Hs b0 b1 b2 b3) H) :
    X C (Exit.then (fun ac w=>∃ (b0:α0) (b1:α1) (b2:α2) (b3:α3),φ b0 b1 b2 b3∧μ b0 b1 b2 b3<m∧Fits C.n C.D (L b0 b1 b2 b3) ac∧Inv C.w0 C.M w (Hs b0 b1 b2 b3)) Q) .normal E H:=fun _ _ hf hi=>⟨b0,b1,b2,b3,hφ,hμ,hf.all hL,hi.pick hH⟩
theorem Z7g {α0 α1 α2 α3 α4:Type}(φ:α0→α1→α2→α3→α4→Prop)(L:α0→α1→α2→α3→α4→Env)(Hs:α0→α1→α2→α3→α4→Heap)(hx:T C x (Exit.then (fun ac w=>∃ (b0:α0) (b1:α1) (b2:α2) (b3:α3) (b4:α4),φ b0 b1 b2 b3 b4∧Fits C.n C.D (L b0 b1 b2 b3 b4) ac∧Inv C.w0 C.M w (Hs b0 b1 b2 b3 b4)) Q) E H)
    (hy:∀ (b0:α0) (b1:α1) (b2:α2) (b3:α3) (b4:α4),φ b0 b1 b2 b3 b4→T C y Q (L b0 b1 b2 b3 b4) (Hs b0 b1 b2 b3 b4)):T C x (Exit.then (y.wpIn (FW C.ρ) 0 C.P Q) Q) E H:=T.mono hx (fun e ac w h=>by
  cases e with
  | normal=>obtain ⟨b0,b1,b2,b3,b4,h1,h2,h3⟩:=h;exact hy b0 b1 b2 b3 b4 h1 ac w h2 h3
  | _=>exact h)
theorem Z6q {α0 α1 α2 α3 α4:Type}{φ:α0→α1→α2→α3→α4→Prop}{L:α0→α1→α2→α3→α4→Env}{Hs:α0→α1→α2→α3→α4→Heap}(b0:α0)(b1:α1)(b2:α2)(b3:α3)(b4:α4)(hφ:φ b0 b1 b2 b3 b4)(hL:AllF (L b0 b1 b2 b3 b4) E)(hH:Pick (Hs b0 b1 b2 b3 b4) H) :
    X C (Exit.then (fun ac w=>∃ (b0:α0) (b1:α1) (b2:α2) (b3:α3) (b4:α4),φ b0 b1 b2 b3 b4∧Fits C.n C.D (L b0 b1 b2 b3 b4) ac∧Inv C.w0 C.M w (Hs b0 b1 b2 b3 b4)) Q) .normal E H:=fun _ _ hf hi=>⟨b0,b1,b2,b3,b4,hφ,hf.all hL,hi.pick hH⟩
theorem Z2z {α0 α1 α2 α3 α4 α5:Type}(φ:α0→α1→α2→α3→α4→α5→Prop)(L:α0→α1→α2→α3→α4→α5→Env)(Hs:α0→α1→α2→α3→α4→α5→Heap)(hx:T C x (Exit.then (fun ac w=>∃ (b0:α0) (b1:α1) (b2:α2) (b3:α3) (b4:α4) (b5:α5),φ b0 b1 b2 b3 b4 b5∧Fits C.n C.D (L b0 b1 b2 b3 b4 b5) ac∧Inv C.w0 C.M w (Hs b0 b1 b2 b3 b4 b5)) Q) E H)
    (hy:∀ (b0:α0) (b1:α1) (b2:α2) (b3:α3) (b4:α4) (b5:α5),φ b0 b1 b2 b3 b4 b5→T C y Q (L b0 b1 b2 b3 b4 b5) (Hs b0 b1 b2 b3 b4 b5)):T C x (Exit.then (y.wpIn (FW C.ρ) 0 C.P Q) Q) E H:=T.mono hx (fun e ac w h=>by
  cases e with
  | normal=>obtain ⟨b0,b1,b2,b3,b4,b5,h1,h2,h3⟩:=h;exact hy b0 b1 b2 b3 b4 b5 h1 ac w h2 h3
  | _=>exact h)
theorem Z2w {α0 α1 α2 α3 α4 α5:Type}{φ:α0→α1→α2→α3→α4→α5→Prop}{L:α0→α1→α2→α3→α4→α5→Env}{Hs:α0→α1→α2→α3→α4→α5→Heap}(b0:α0)(b1:α1)(b2:α2)(b3:α3)(b4:α4)(b5:α5)(hφ:φ b0 b1 b2 b3 b4 b5)(hL:AllF (L b0 b1 b2 b3 b4 b5) E)(hH:Pick (Hs b0 b1 b2 b3 b4 b5) H) :
    X C (Exit.then (fun ac w=>∃ (b0:α0) (b1:α1) (b2:α2) (b3:α3) (b4:α4) (b5:α5),φ b0 b1 b2 b3 b4 b5∧Fits C.n C.D (L b0 b1 b2 b3 b4 b5) ac∧Inv C.w0 C.M w (Hs b0 b1 b2 b3 b4 b5)) Q) .normal E H:=fun _ _ hf hi=>⟨b0,b1,b2,b3,b4,b5,hφ,hf.all hL,hi.pick hH⟩
theorem Z6e {α0 α1 α2 α3 α4 α5 α6:Type}(φ:α0→α1→α2→α3→α4→α5→α6→Prop)(L:α0→α1→α2→α3→α4→α5→α6→Env)(Hs:α0→α1→α2→α3→α4→α5→α6→Heap)(μ:α0→α1→α2→α3→α4→α5→α6→Nat)(a0:α0)(a1:α1)(a2:α2)(a3:α3)(a4:α4)(a5:α5)(a6:α6)(h0:φ a0 a1 a2 a3 a4 a5 a6)(hE:AllF (L a0 a1 a2 a3 a4 a5 a6) E)(hH:Pick (Hs a0 a1 a2 a3 a4 a5 a6) H)
    (round:∀ (a0:α0) (a1:α1) (a2:α2) (a3:α3) (a4:α4) (a5:α5) (a6:α6),φ a0 a1 a2 a3 a4 a5 a6→T C c (Exit.then (fun ac w=>∃ (b0:α0) (b1:α1) (b2:α2) (b3:α3) (b4:α4) (b5:α5) (b6:α6),φ b0 b1 b2 b3 b4 b5 b6∧μ b0 b1 b2 b3 b4 b5 b6<μ a0 a1 a2 a3 a4 a5 a6∧Fits C.n C.D (L b0 b1 b2 b3 b4 b5 b6) ac∧Inv C.w0 C.M w (Hs b0 b1 b2 b3 b4 b5 b6)) Q) (L a0 a1 a2 a3 a4 a5 a6) (Hs a0 a1 a2 a3 a4 a5 a6)):T C (.loop c) Q E H :=
  Z03 (α:=α0×α1×α2×α3×α4×α5×α6) (fun s=>φ s.1 s.2.1 s.2.2.1 s.2.2.2.1 s.2.2.2.2.1 s.2.2.2.2.2.1 s.2.2.2.2.2.2) (fun s=>L s.1 s.2.1 s.2.2.1 s.2.2.2.1 s.2.2.2.2.1 s.2.2.2.2.2.1 s.2.2.2.2.2.2) (fun s=>Hs s.1 s.2.1 s.2.2.1 s.2.2.2.1 s.2.2.2.2.1 s.2.2.2.2.2.1 s.2.2.2.2.2.2) (fun s=>μ s.1 s.2.1 s.2.2.1 s.2.2.2.1 s.2.2.2.2.1 s.2.2.2.2.2.1 s.2.2.2.2.2.2) (a0,a1,a2,a3,a4,a5,a6) h0 hE hH (fun s hs=>T.mono (round s.1 s.2.1 s.2.2.1 s.2.2.2.1 s.2.2.2.2.1 s.2.2.2.2.2.1 s.2.2.2.2.2.2 hs) (fun e ac w h=>by
    cases e with
    | normal=>obtain ⟨b0,b1,b2,b3,b4,b5,b6,h1,h2,h3,h4⟩:=h;exact ⟨⟨b0,b1,b2,b3,b4,b5,b6⟩,h1,h2,h3,h4⟩
    | _=>exact h))
theorem Z3g {α0 α1 α2 α3 α4 α5 α6:Type}{φ:α0→α1→α2→α3→α4→α5→α6→Prop}{L:α0→α1→α2→α3→α4→α5→α6→Env}{Hs:α0→α1→α2→α3→α4→α5→α6→Heap}{μ:α0→α1→α2→α3→α4→α5→α6→Nat}{m:Nat}(b0:α0)(b1:α1)(b2:α2)(b3:α3)(b4:α4)(b5:α5)(b6:α6)(hφ:φ b0 b1 b2 b3 b4 b5 b6)(hμ:μ b0 b1 b2 b3 b4 b5 b6<m)(hL:AllF (L b0 b1 b2 b3 b4 b5 b6) E)(hH:Pick (Hs b0 b1 b2 b3 b4 b5 b6) H) :
    X C (Exit.then (fun ac w=>∃ (b0:α0) (b1:α1) (b2:α2) (b3:α3) (b4:α4) (b5:α5) (b6:α6),φ b0 b1 b2 b3 b4 b5 b6∧μ b0 b1 b2 b3 b4 b5 b6<m∧Fits C.n C.D (L b0 b1 b2 b3 b4 b5 b6) ac∧Inv C.w0 C.M w (Hs b0 b1 b2 b3 b4 b5 b6)) Q) .normal E H:=fun _ _ hf hi=>⟨b0,b1,b2,b3,b4,b5,b6,hφ,hμ,hf.all hL,hi.pick hH⟩
theorem Z9l {α0 α1 α2 α3 α4 α5 α6 α7:Type}(φ:α0→α1→α2→α3→α4→α5→α6→α7→Prop)(L:α0→α1→α2→α3→α4→α5→α6→α7→Env)(Hs:α0→α1→α2→α3→α4→α5→α6→α7→Heap)(μ:α0→α1→α2→α3→α4→α5→α6→α7→Nat)(a0:α0)(a1:α1)(a2:α2)(a3:α3)(a4:α4)(a5:α5)(a6:α6)(a7:α7)(h0:φ a0 a1 a2 a3 a4 a5 a6 a7)(hE:AllF (L a0 a1 a2 a3 a4 a5 a6 a7) E)(hH:Pick (Hs a0 a1 a2 a3 a4 a5 a6 a7) H)
    (round:∀ (a0:α0) (a1:α1) (a2:α2) (a3:α3) (a4:α4) (a5:α5) (a6:α6) (a7:α7),φ a0 a1 a2 a3 a4 a5 a6 a7→T C c (Exit.then (fun ac w=>∃ (b0:α0) (b1:α1) (b2:α2) (b3:α3) (b4:α4) (b5:α5) (b6:α6) (b7:α7),φ b0 b1 b2 b3 b4 b5 b6 b7∧μ b0 b1 b2 b3 b4 b5 b6 b7<μ a0 a1 a2 a3 a4 a5 a6 a7∧Fits C.n C.D (L b0 b1 b2 b3 b4 b5 b6 b7) ac∧Inv C.w0 C.M w (Hs b0 b1 b2 b3 b4 b5 b6 b7)) Q) (L a0 a1 a2 a3 a4 a5 a6 a7) (Hs a0 a1 a2 a3 a4 a5 a6 a7)):T C (.loop c) Q E H :=
  Z03 (α:=α0×α1×α2×α3×α4×α5×α6×α7) (fun s=>φ s.1 s.2.1 s.2.2.1 s.2.2.2.1 s.2.2.2.2.1 s.2.2.2.2.2.1 s.2.2.2.2.2.2.1 s.2.2.2.2.2.2.2) (fun s=>L s.1 s.2.1 s.2.2.1 s.2.2.2.1 s.2.2.2.2.1 s.2.2.2.2.2.1 s.2.2.2.2.2.2.1 s.2.2.2.2.2.2.2) (fun s=>Hs s.1 s.2.1 s.2.2.1 s.2.2.2.1 s.2.2.2.2.1 s.2.2.2.2.2.1 s.2.2.2.2.2.2.1 s.2.2.2.2.2.2.2) (fun s=>μ s.1 s.2.1 s.2.2.1 s.2.2.2.1 s.2.2.2.2.1 s.2.2.2.2.2.1 s.2.2.2.2.2.2.1 s.2.2.2.2.2.2.2) (a0,a1,a2,a3,a4,a5,a6,a7) h0 hE hH (fun s hs=>T.mono (round s.1 s.2.1 s.2.2.1 s.2.2.2.1 s.2.2.2.2.1 s.2.2.2.2.2.1 s.2.2.2.2.2.2.1 s.2.2.2.2.2.2.2 hs) (fun e ac w h=>by
    cases e with
    | normal=>obtain ⟨b0,b1,b2,b3,b4,b5,b6,b7,h1,h2,h3,h4⟩:=h;exact ⟨⟨b0,b1,b2,b3,b4,b5,b6,b7⟩,h1,h2,h3,h4⟩
    | _=>exact h))
theorem Z6s {α0 α1 α2 α3 α4 α5 α6 α7:Type}{φ:α0→α1→α2→α3→α4→α5→α6→α7→Prop}{L:α0→α1→α2→α3→α4→α5→α6→α7→Env}{Hs:α0→α1→α2→α3→α4→α5→α6→α7→Heap}{μ:α0→α1→α2→α3→α4→α5→α6→α7→Nat}{m:Nat}(b0:α0)(b1:α1)(b2:α2)(b3:α3)(b4:α4)(b5:α5)(b6:α6)(b7:α7)(hφ:φ b0 b1 b2 b3 b4 b5 b6 b7)(hμ:μ b0 b1 b2 b3 b4 b5 b6 b7<m)(hL:AllF (L b0 b1 b2 b3 b4 b5 b6 b7) E)(hH:Pick (Hs b0 b1 b2 b3 b4 b5 b6 b7) H) :
    X C (Exit.then (fun ac w=>∃ (b0:α0) (b1:α1) (b2:α2) (b3:α3) (b4:α4) (b5:α5) (b6:α6) (b7:α7),φ b0 b1 b2 b3 b4 b5 b6 b7∧μ b0 b1 b2 b3 b4 b5 b6 b7<m∧Fits C.n C.D (L b0 b1 b2 b3 b4 b5 b6 b7) ac∧Inv C.w0 C.M w (Hs b0 b1 b2 b3 b4 b5 b6 b7)) Q) .normal E H:=fun _ _ hf hi=>⟨b0,b1,b2,b3,b4,b5,b6,b7,hφ,hμ,hf.all hL,hi.pick hH⟩
theorem Zjx {α0 α1 α2 α3 α4 α5 α6 α7 α8 α9 α10 α11:Type}(φ:α0→α1→α2→α3→α4→α5→α6→α7→α8→α9→α10→α11→Prop)(L:α0→α1→α2→α3→α4→α5→α6→α7→α8→α9→α10→α11→Env)(Hs:α0→α1→α2→α3→α4→α5→α6→α7→α8→α9→α10→α11→Heap)(μ:α0→α1→α2→α3→α4→α5→α6→α7→α8→α9→α10→α11→Nat)(a0:α0)(a1:α1)(a2:α2)(a3:α3)(a4:α4)(a5:α5)(a6:α6)(a7:α7)(a8:α8)(a9:α9)(a10:α10)(a11:α11)(h0:φ a0 a1 a2 a3 a4 a5 a6 a7 a8 a9 a10 a11)(hE:AllF (L a0 a1 a2 a3 a4 a5 a6 a7 a8 a9 a10 a11) E)(hH:Pick (Hs a0 a1 a2 a3 a4 a5 a6 a7 a8 a9 a10 a11) H)
    (round:∀ (a0:α0) (a1:α1) (a2:α2) (a3:α3) (a4:α4) (a5:α5) (a6:α6) (a7:α7) (a8:α8) (a9:α9) (a10:α10) (a11:α11),φ a0 a1 a2 a3 a4 a5 a6 a7 a8 a9 a10 a11→T C c (Exit.then (fun ac w=>∃ (b0:α0) (b1:α1) (b2:α2) (b3:α3) (b4:α4) (b5:α5) (b6:α6) (b7:α7) (b8:α8) (b9:α9) (b10:α10) (b11:α11),φ b0 b1 b2 b3 b4 b5 b6 b7 b8 b9 b10 b11∧μ b0 b1 b2 b3 b4 b5 b6 b7 b8 b9 b10 b11<μ a0 a1 a2 a3 a4 a5 a6 a7 a8 a9 a10 a11∧Fits C.n C.D (L b0 b1 b2 b3 b4 b5 b6 b7 b8 b9 b10 b11) ac∧Inv C.w0 C.M w (Hs b0 b1 b2 b3 b4 b5 b6 b7 b8 b9 b10 b11)) Q) (L a0 a1 a2 a3 a4 a5 a6 a7 a8 a9 a10 a11) (Hs a0 a1 a2 a3 a4 a5 a6 a7 a8 a9 a10 a11)):T C (.loop c) Q E H :=
  Z03 (α:=α0×α1×α2×α3×α4×α5×α6×α7×α8×α9×α10×α11) (fun s=>φ s.1 s.2.1 s.2.2.1 s.2.2.2.1 s.2.2.2.2.1 s.2.2.2.2.2.1 s.2.2.2.2.2.2.1 s.2.2.2.2.2.2.2.1 s.2.2.2.2.2.2.2.2.1 s.2.2.2.2.2.2.2.2.2.1 s.2.2.2.2.2.2.2.2.2.2.1 s.2.2.2.2.2.2.2.2.2.2.2) (fun s=>L s.1 s.2.1 s.2.2.1 s.2.2.2.1 s.2.2.2.2.1 s.2.2.2.2.2.1 s.2.2.2.2.2.2.1 s.2.2.2.2.2.2.2.1 s.2.2.2.2.2.2.2.2.1 s.2.2.2.2.2.2.2.2.2.1 s.2.2.2.2.2.2.2.2.2.2.1 s.2.2.2.2.2.2.2.2.2.2.2) (fun s=>Hs s.1 s.2.1 s.2.2.1 s.2.2.2.1 s.2.2.2.2.1 s.2.2.2.2.2.1 s.2.2.2.2.2.2.1 s.2.2.2.2.2.2.2.1 s.2.2.2.2.2.2.2.2.1 s.2.2.2.2.2.2.2.2.2.1 s.2.2.2.2.2.2.2.2.2.2.1 s.2.2.2.2.2.2.2.2.2.2.2) (fun s=>μ s.1 s.2.1 s.2.2.1 s.2.2.2.1 s.2.2.2.2.1 s.2.2.2.2.2.1 s.2.2.2.2.2.2.1 s.2.2.2.2.2.2.2.1 s.2.2.2.2.2.2.2.2.1 s.2.2.2.2.2.2.2.2.2.1 s.2.2.2.2.2.2.2.2.2.2.1 s.2.2.2.2.2.2.2.2.2.2.2) (a0,a1,a2,a3,a4,a5,a6,a7,a8,a9,a10,a11) h0 hE hH (fun s hs=>T.mono (round s.1 s.2.1 s.2.2.1 s.2.2.2.1 s.2.2.2.2.1 s.2.2.2.2.2.1 s.2.2.2.2.2.2.1 s.2.2.2.2.2.2.2.1 s.2.2.2.2.2.2.2.2.1 s.2.2.2.2.2.2.2.2.2.1 s.2.2.2.2.2.2.2.2.2.2.1 s.2.2.2.2.2.2.2.2.2.2.2 hs) (fun e ac w h=>by
    cases e with
    | normal=>obtain ⟨b0,b1,b2,b3,b4,b5,b6,b7,b8,b9,b10,b11,h1,h2,h3,h4⟩:=h;exact ⟨⟨b0,b1,b2,b3,b4,b5,b6,b7,b8,b9,b10,b11⟩,h1,h2,h3,h4⟩
    | _=>exact h))
theorem Zbg {α0 α1 α2 α3 α4 α5 α6 α7 α8 α9 α10 α11:Type}{φ:α0→α1→α2→α3→α4→α5→α6→α7→α8→α9→α10→α11→Prop}{L:α0→α1→α2→α3→α4→α5→α6→α7→α8→α9→α10→α11→Env}{Hs:α0→α1→α2→α3→α4→α5→α6→α7→α8→α9→α10→α11→Heap}{μ:α0→α1→α2→α3→α4→α5→α6→α7→α8→α9→α10→α11→Nat}{m:Nat}(b0:α0)(b1:α1)(b2:α2)(b3:α3)(b4:α4)(b5:α5)(b6:α6)(b7:α7)(b8:α8)(b9:α9)(b10:α10)(b11:α11)(hφ:φ b0 b1 b2 b3 b4 b5 b6 b7 b8 b9 b10 b11)(hμ:μ b0 b1 b2 b3 b4 b5 b6 b7 b8 b9 b10 b11<m)(hL:AllF (L b0 b1 b2 b3 b4 b5 b6 b7 b8 b9 b10 b11) E)(hH:Pick (Hs b0 b1 b2 b3 b4 b5 b6 b7 b8 b9 b10 b11) H) :
    X C (Exit.then (fun ac w=>∃ (b0:α0) (b1:α1) (b2:α2) (b3:α3) (b4:α4) (b5:α5) (b6:α6) (b7:α7) (b8:α8) (b9:α9) (b10:α10) (b11:α11),φ b0 b1 b2 b3 b4 b5 b6 b7 b8 b9 b10 b11∧μ b0 b1 b2 b3 b4 b5 b6 b7 b8 b9 b10 b11<m∧Fits C.n C.D (L b0 b1 b2 b3 b4 b5 b6 b7 b8 b9 b10 b11) ac∧Inv C.w0 C.M w (Hs b0 b1 b2 b3 b4 b5 b6 b7 b8 b9 b10 b11)) Q) .normal E H:=fun _ _ hf hi=>⟨b0,b1,b2,b3,b4,b5,b6,b7,b8,b9,b10,b11,hφ,hμ,hf.all hL,hi.pick hH⟩
theorem Zj5 {α0 α1 α2 α3 α4 α5 α6 α7 α8 α9 α10 α11 α12 α13 α14 α15:Type}(φ:α0→α1→α2→α3→α4→α5→α6→α7→α8→α9→α10→α11→α12→α13→α14→α15→Prop)(L:α0→α1→α2→α3→α4→α5→α6→α7→α8→α9→α10→α11→α12→α13→α14→α15→Env)(Hs:α0→α1→α2→α3→α4→α5→α6→α7→α8→α9→α10→α11→α12→α13→α14→α15→Heap)(μ:α0→α1→α2→α3→α4→α5→α6→α7→α8→α9→α10→α11→α12→α13→α14→α15→Nat)(a0:α0)(a1:α1)(a2:α2)(a3:α3)(a4:α4)(a5:α5)(a6:α6)(a7:α7)(a8:α8)(a9:α9)(a10:α10)(a11:α11)(a12:α12)(a13:α13)(a14:α14)(a15:α15)(h0:φ a0 a1 a2 a3 a4 a5 a6 a7 a8 a9 a10 a11 a12 a13 a14 a15)(hE:AllF (L a0 a1 a2 a3 a4 a5 a6 a7 a8 a9 a10 a11 a12 a13 a14 a15) E)(hH:Pick (Hs a0 a1 a2 a3 a4 a5 a6 a7 a8 a9 a10 a11 a12 a13 a14 a15) H)
    (round:∀ (a0:α0) (a1:α1) (a2:α2) (a3:α3) (a4:α4) (a5:α5) (a6:α6) (a7:α7) (a8:α8) (a9:α9) (a10:α10) (a11:α11) (a12:α12) (a13:α13) (a14:α14) (a15:α15),φ a0 a1 a2 a3 a4 a5 a6 a7 a8 a9 a10 a11 a12 a13 a14 a15→T C c (Exit.then (fun ac w=>∃ (b0:α0) (b1:α1) (b2:α2) (b3:α3) (b4:α4) (b5:α5) (b6:α6) (b7:α7) (b8:α8) (b9:α9) (b10:α10) (b11:α11) (b12:α12) (b13:α13) (b14:α14) (b15:α15),φ b0 b1 b2 b3 b4 b5 b6 b7 b8 b9 b10 b11 b12 b13 b14 b15∧μ b0 b1 b2 b3 b4 b5 b6 b7 b8 b9 b10 b11 b12 b13 b14 b15<μ a0 a1 a2 a3 a4 a5 a6 a7 a8 a9 a10 a11 a12 a13 a14 a15∧Fits C.n C.D (L b0 b1 b2 b3 b4 b5 b6 b7 b8 b9 b10 b11 b12 b13 b14 b15) ac∧Inv C.w0 C.M w (Hs b0 b1 b2 b3 b4 b5 b6 b7 b8 b9 b10 b11 b12 b13 b14 b15)) Q) (L a0 a1 a2 a3 a4 a5 a6 a7 a8 a9 a10 a11 a12 a13 a14 a15) (Hs a0 a1 a2 a3 a4 a5 a6 a7 a8 a9 a10 a11 a12 a13 a14 a15)):T C (.loop c) Q E H :=
  Z03 (α:=α0×α1×α2×α3×α4×α5×α6×α7×α8×α9×α10×α11×α12×α13×α14×α15) (fun s=>φ s.1 s.2.1 s.2.2.1 s.2.2.2.1 s.2.2.2.2.1 s.2.2.2.2.2.1 s.2.2.2.2.2.2.1 s.2.2.2.2.2.2.2.1 s.2.2.2.2.2.2.2.2.1 s.2.2.2.2.2.2.2.2.2.1 s.2.2.2.2.2.2.2.2.2.2.1 s.2.2.2.2.2.2.2.2.2.2.2.1 s.2.2.2.2.2.2.2.2.2.2.2.2.1 s.2.2.2.2.2.2.2.2.2.2.2.2.2.1 s.2.2.2.2.2.2.2.2.2.2.2.2.2.2.1 s.2.2.2.2.2.2.2.2.2.2.2.2.2.2.2) (fun s=>L s.1 s.2.1 s.2.2.1 s.2.2.2.1 s.2.2.2.2.1 s.2.2.2.2.2.1 s.2.2.2.2.2.2.1 s.2.2.2.2.2.2.2.1 s.2.2.2.2.2.2.2.2.1 s.2.2.2.2.2.2.2.2.2.1 s.2.2.2.2.2.2.2.2.2.2.1 s.2.2.2.2.2.2.2.2.2.2.2.1 s.2.2.2.2.2.2.2.2.2.2.2.2.1 s.2.2.2.2.2.2.2.2.2.2.2.2.2.1 s.2.2.2.2.2.2.2.2.2.2.2.2.2.2.1 s.2.2.2.2.2.2.2.2.2.2.2.2.2.2.2) (fun s=>Hs s.1 s.2.1 s.2.2.1 s.2.2.2.1 s.2.2.2.2.1 s.2.2.2.2.2.1 s.2.2.2.2.2.2.1 s.2.2.2.2.2.2.2.1 s.2.2.2.2.2.2.2.2.1 s.2.2.2.2.2.2.2.2.2.1 s.2.2.2.2.2.2.2.2.2.2.1 s.2.2.2.2.2.2.2.2.2.2.2.1 s.2.2.2.2.2.2.2.2.2.2.2.2.1 s.2.2.2.2.2.2.2.2.2.2.2.2.2.1 s.2.2.2.2.2.2.2.2.2.2.2.2.2.2.1 s.2.2.2.2.2.2.2.2.2.2.2.2.2.2.2) (fun s=>μ s.1 s.2.1 s.2.2.1 s.2.2.2.1 s.2.2.2.2.1 s.2.2.2.2.2.1 s.2.2.2.2.2.2.1 s.2.2.2.2.2.2.2.1 s.2.2.2.2.2.2.2.2.1 s.2.2.2.2.2.2.2.2.2.1 s.2.2.2.2.2.2.2.2.2.2.1 s.2.2.2.2.2.2.2.2.2.2.2.1 s.2.2.2.2.2.2.2.2.2.2.2.2.1 s.2.2.2.2.2.2.2.2.2.2.2.2.2.1 s.2.2.2.2.2.2.2.2.2.2.2.2.2.2.1 s.2.2.2.2.2.2.2.2.2.2.2.2.2.2.2) (a0,a1,a2,a3,a4,a5,a6,a7,a8,a9,a10,a11,a12,a13,a14,a15) h0 hE hH (fun s hs=>T.mono (round s.1 s.2.1 s.2.2.1 s.2.2.2.1 s.2.2.2.2.1 s.2.2.2.2.2.1 s.2.2.2.2.2.2.1 s.2.2.2.2.2.2.2.1 s.2.2.2.2.2.2.2.2.1 s.2.2.2.2.2.2.2.2.2.1 s.2.2.2.2.2.2.2.2.2.2.1 s.2.2.2.2.2.2.2.2.2.2.2.1 s.2.2.2.2.2.2.2.2.2.2.2.2.1 s.2.2.2.2.2.2.2.2.2.2.2.2.2.1 s.2.2.2.2.2.2.2.2.2.2.2.2.2.2.1 s.2.2.2.2.2.2.2.2.2.2.2.2.2.2.2 hs) (fun e ac w h=>by
    cases e with
    | normal=>obtain ⟨b0,b1,b2,b3,b4,b5,b6,b7,b8,b9,b10,b11,b12,b13,b14,b15,h1,h2,h3,h4⟩:=h;exact ⟨⟨b0,b1,b2,b3,b4,b5,b6,b7,b8,b9,b10,b11,b12,b13,b14,b15⟩,h1,h2,h3,h4⟩
    | _=>exact h))
theorem Zir {α0 α1 α2 α3 α4 α5 α6 α7 α8 α9 α10 α11 α12 α13 α14 α15:Type}{φ:α0→α1→α2→α3→α4→α5→α6→α7→α8→α9→α10→α11→α12→α13→α14→α15→Prop}{L:α0→α1→α2→α3→α4→α5→α6→α7→α8→α9→α10→α11→α12→α13→α14→α15→Env}{Hs:α0→α1→α2→α3→α4→α5→α6→α7→α8→α9→α10→α11→α12→α13→α14→α15→Heap}{μ:α0→α1→α2→α3→α4→α5→α6→α7→α8→α9→α10→α11→α12→α13→α14→α15→Nat}{m:Nat}(b0:α0)(b1:α1)(b2:α2)(b3:α3)(b4:α4)(b5:α5)(b6:α6)(b7:α7)(b8:α8)(b9:α9)(b10:α10)(b11:α11)(b12:α12)(b13:α13)(b14:α14)(b15:α15)(hφ:φ b0 b1 b2 b3 b4 b5 b6 b7 b8 b9 b10 b11 b12 b13 b14 b15)(hμ:μ b0 b1 b2 b3 b4 b5 b6 b7 b8 b9 b10 b11 b12 b13 b14 b15<m)(hL:AllF (L b0 b1 b2 b3 b4 b5 b6 b7 b8 b9 b10 b11 b12 b13 b14 b15) E)(hH:Pick (Hs b0 b1 b2 b3 b4 b5 b6 b7 b8 b9 b10 b11 b12 b13 b14 b15) H) :
    X C (Exit.then (fun ac w=>∃ (b0:α0) (b1:α1) (b2:α2) (b3:α3) (b4:α4) (b5:α5) (b6:α6) (b7:α7) (b8:α8) (b9:α9) (b10:α10) (b11:α11) (b12:α12) (b13:α13) (b14:α14) (b15:α15),φ b0 b1 b2 b3 b4 b5 b6 b7 b8 b9 b10 b11 b12 b13 b14 b15∧μ b0 b1 b2 b3 b4 b5 b6 b7 b8 b9 b10 b11 b12 b13 b14 b15<m∧Fits C.n C.D (L b0 b1 b2 b3 b4 b5 b6 b7 b8 b9 b10 b11 b12 b13 b14 b15) ac∧Inv C.w0 C.M w (Hs b0 b1 b2 b3 b4 b5 b6 b7 b8 b9 b10 b11 b12 b13 b14 b15)) Q) .normal E H:=fun _ _ hf hi=>⟨b0,b1,b2,b3,b4,b5,b6,b7,b8,b9,b10,b11,b12,b13,b14,b15,hφ,hμ,hf.all hL,hi.pick hH⟩
end
end Go.Acq
namespace Go.Acq
open Go Go.RowKit
section rules
variable {C : Cx} {ops : Array Oper} {Q : Exit → Act → World → Prop} {l : List Nat} {E : Env} {H R : Heap} {i d : Nat}
def gdU (ops:Array Oper)(E:Env):Option (Nat×Bool)→Bool
  | none=>false
  | some (j,_) =>
    match ((ops[j]?).bind (·.dst)).bind (find E) with
    | some (.tuple _)=>true
    | _=>false
theorem Zl5 {n:Nat}{D:List Deferred}{a:Act}{o:Oper}(hf:Fits n D E a)(h:gdU ops E o.guard=true):Region.wanted o (yielded ops a.tmps)=false:=by
 unfold Region.wanted
 cases hg:o.guard with
 | none=>rw [hg] at h;simp [gdU] at h
 | some jw =>
  obtain ⟨j,want⟩:=jw
  rw [hg] at h
  simp only [gdU] at h
  cases hj:(ops[j]?).bind (·.dst) with
  | none=>simp [hj] at h
  | some t =>
   rw [hj,Option.bind_some] at h
   cases ht:find E t with
   | none=>simp [ht] at h
   | some v =>
    rw [ht] at h
    cases v with
    | tuple xs =>
     have h3:=hf.get t _ ht
     have:yielded ops a.tmps j=none:=by
      unfold yielded
      rw [hj,Option.bind_some]
      rw [Array.getD_eq_getD_getElem?] at h3
      cases hq:a.tmps[t]? with
      | none=>rfl
      | some u =>
       rw [hq] at h3
       have h4:u=.tuple xs:=by simpa using h3
       rw [h4]
     simp [this]
    | _=>simp at h
theorem Kt {o:Oper}(q0_:ops[i]?=some o∧gdU ops E o.guard=true∧o.dst=some d∧Nat.ble (d+1) C.n=true)(k:TO C ops Q l ((d,undef)::E) H):TO C ops Q (i::l) E H:=by
 obtain ⟨ho,hg,hdst,hd⟩:=q0_
 intro a w hf hi
 have hw:Region.wanted o (yielded ops a.tmps)=false:=Zl5 hf hg
 simp only [wpOpsIn,ho,hw,Bool.false_eq_true,if_false]
 refine ⟨fun _ _=>trivial,?_⟩
 rw [hdst]
 exact k _ _ (hf.put hd _) hi
end rules
end Go.Acq
namespace Go.Acq
open Go Go.RowKit
def Kp {α:Type}(q:IntKind)(f:α→Value):Nat→List (Int×α)→List MapEntry
  | _,[]=>[]
  | i,x::xs=>{ key:=.int q x.1,val:=f x.2,born:=i }::Kp q f (i+1) xs
abbrev mapO {α:Type}(q:IntKind)(f:α→Value)(xs:List (Int×α)):Obj:=.map (Kp q f 0 xs).toArray xs.length
def getM {α:Type}(z:α)(k:Int):List (Int×α)→α
  | []=>z
  | x::xs=>if k=x.1 then x.2 else getM z k xs
def Kq {α:Type}(k:Int)(v:α):List (Int×α)→List (Int×α)
  | []=>[(k,v)]
  | x::xs=>if k=x.1 then (k,v)::xs else x::Kq k v xs
def Jw {α:Type}(f:α→Value)(k:Int):Nat→List (Int×α)→Option (Nat×Value)
  | _,[]=>none
  | i,x::xs=>if k=x.1 then some (i,f x.2) else Jw f k (i+1) xs
section
variable {α : Type} {q : IntKind} {f : α → Value} {k : Int} {z v : α}
theorem Zcu:∀ (xs:List (Int×α)) (i j:Nat),Instr.findNow (.int q) (.int q k) (Kp q f i xs) j=some (Jw f k j xs)
 | [],_,_=>rfl
 | x::xs,i,j=>by
  simp only [Kp,Instr.findNow,Instr.sameNow,if_true,Jw]
  by_cases h:k=x.1
  ·rw [if_pos h,show (k==x.1)=true by simpa using h]
  ·
   rw [if_neg h,show (k==x.1)=false by simpa using h]
   exact Zcu xs (i+1) (j+1)
theorem Zgw:∀ (xs:List (Int×α)) (j:Nat),(match Jw f k j xs with | some (_,u)=>u | none=>f z)=f (getM z k xs)
 | [],_=>rfl
 | x::xs,j=>by
  unfold Jw getM
  by_cases h:k=x.1
  ·rw [if_pos h,if_pos h]
  ·rw [if_neg h,if_neg h];exact Zgw xs (j+1)
theorem Zf7:∀ (xs:List (Int×α)) (i j:Nat),(match Jw f k j xs with
    | some (p,_)=>(∃ o,(j≤p∧(Kp q f i xs)[p-j]?=some o∧o.key=.int q k))∧(Kq k v xs).length=xs.length∧Kp q f i (Kq k v xs)=(Kp q f i xs).modify (p-j) (fun e=>{ e with key:=.int q k,val:=f v })
    | none=>(Kq k v xs).length=xs.length+1∧Kp q f i (Kq k v xs)=Kp q f i xs++[{ key:=.int q k,val:=f v,born:=i+xs.length }])
  | [],i,j=>by simp [Jw,Kq,Kp]
  | x::xs,i,j=>by
    unfold Jw Kq
    by_cases h:k=x.1
    · subst h
      simp [Kp]
    · simp only [if_neg h]
      have ih:=Zf7 xs (i+1) (j+1)
      cases hf:Jw f k (j+1) xs with
      | none =>
        rw [hf] at ih
        simp only [Kp,List.length_cons,List.cons_append] at ih ⊢
        refine ⟨by omega,?_⟩
        rw [ih.2]
        simp;omega
      | some y =>
        rw [hf] at ih
        obtain ⟨p,u⟩:=y
        simp only at ih ⊢
        obtain ⟨⟨o,h1,h2,h3⟩,h4,h5⟩:=ih
        have e:p-j=(p-(j+1))+1:=by omega
        refine ⟨⟨o,by omega,?_,h3⟩,by simp [h4],?_⟩
        ·rw [e];simpa [Kp] using h2
        ·rw [e];simp only [Kp,List.modify_succ_cons,h5]
end
def mapT (P:Program)(t:TypeId):Option (IntKind×TypeId) :=
  match P.underlying t with
  | some (.map k e)=>match P.underlying k with
    | some (.int q)=>some (q,e)
    | _=>none
  | _=>none
theorem Zed {P:Program}{t e:TypeId}{q:IntKind}(h:mapT P t=some (q,e)):∃ k,P.underlying t=some (.map k e)∧P.underlying k=some (.int q):=by
 unfold mapT at h
 split at h
 ·
  rename_i k e' h1
  split at h
  ·
   rename_i q' h2
   injection h with h;injection h with h3 h4
   subst h3;subst h4
   exact ⟨k,h1,h2⟩
  ·cases h
 ·cases h
section rules
variable {C : Cx} {ops : Array Oper} {Q : Exit → Act → World → Prop} {l : List Nat} {E : Env} {H R : Heap} {i d : Nat} {ty : TypeId} {pos : String} {af : Array Edge} {g : Option (Nat × Bool)}
variable {α : Type} {q : IntKind} {f : α → Value}
theorem Z66 {P:Program}{w:World}{em:Bool}{kt:TypeId}{q:IntKind}{k:Int}(h:P.underlying kt=some (.int q)):(Instr.checkKey em 10000 kt (.int q k)).run P w=.ok () w:=by
 show (Instr.checkKey em (9999+1) kt (.int q k)).run P w=.ok () w
 rw [Instr.checkKey]
 simp [underlying,h]
theorem Zdo {P:Program}{w:World}{kt:TypeId}{q:IntKind}{f:α→Value}{k:Int}{xs:List (Int×α)}(h:P.underlying kt=some (.int q)):(Instr.findKey kt (.int q k) (Kp q f 0 xs)).run P w=.ok (Jw f k 0 xs) w:=by
 unfold Instr.findKey
 simp [underlying,h,Zcu]
theorem Js {P:Program}{w:World}{b:Nat}{m:Array MapEntry}{c:Nat}(h:w.heap[b]?=some (.map m c)):(getObj b).run P w=.ok (.map m c) w:=by
 simp [getObj,Sem.run,h]
theorem Z0u {P:Program}{w:World}{b:Nat}{m:Array MapEntry}{c:Nat}(h:w.heap[b]?=some (.map m c))(o':Obj):(setObj b o').run P w=.ok () (Go.ChangeMaps.setBlock w b o'):=by
 simp [setObj,Sem.run,h,Go.ChangeMaps.setBlock]
theorem Zg1 (q:IntKind)(k:Int):Instr.sameBits 10000 (.int q k) (.int q k)=true:=by
 show Instr.sameBits (9999+1) (.int q k) (.int q k)=true
 simp [Instr.sameBits]
end rules
end Go.Acq
namespace Go.Acq
open Go Go.RowKit
section rules
variable {C : Cx} {ops : Array Oper} {Q : Exit → Act → World → Prop} {l : List Nat} {E : Env} {H R : Heap} {i d : Nat} {ty : TypeId} {pos : String} {af : Array Edge} {g : Option (Nat × Bool)}
theorem Zo {c:Code}{E':Env}(hE:AllF E' E)(h:T C c Q E' H):T C c Q E H:=T.weak h hE.sub (Zv _)
end rules
end Go.Acq
namespace Go.Acq
open Go Go.RowKit
section rules
variable {C : Cx} {ops : Array Oper} {Q : Exit → Act → World → Prop} {l : List Nat} {E : Env} {H R : Heap} {i d : Nat} {ty : TypeId} {pos : String} {af : Array Edge} {g : Option (Nat × Bool)}
end rules
end Go.Acq
namespace Go.Acq
open Go Go.RowKit Go.ChangeShapes Go.WideShapes Go.Deep Go.Joins
section
variable {H : Type} {enc : TypeId × Value → H} {P : Program} {w : World} {base : Nat} {spare : Nat → Bool} {held : Bool}
theorem Zlv {t e:TypeId}{fs:Array Field}{fuel:Nat}{cs:List Value}{x:DataW H×List MemPlace}(ht:P.underlying t=some (.slice e))(he:P.underlying e=some (.struct fs))
    (hone:oneCellFields P fs=true)(hC:P.cellsOf e=fs.size)(h:DataW.trod enc P w base spare held fuel t cs=some x) :
    (cs=[.slice none 0 0]∧x=(.nil,[])) ∨
    ∃ (a:Addr) (len cap m:Nat) (D:Nat→DataW H) (Pl:Nat→List MemPlace),cs=[.slice (some a) len cap]∧base≤a.block∧len≤cap∧cap≤maxLen∧m=(if spare a.block then cap else len) ∧
      x=(.slice ((List.range len).map D) ((List.range (m-len)).map fun j=>D (len+j)),MemPlace.row a (m*fs.size)++(List.range m).flatMap Pl) ∧
      ∀ i,i<m→∃ (ys:List (DataW H×List MemPlace)) (n:Nat),D i=.agg (ys.map (·.1))∧Pl i=ys.flatMap (·.2)∧ys.length=fs.size ∧
        ∀ (j:Nat) (f:Field),fs[j]?=some f→∃ (v:Value) (y:DataW H×List MemPlace),w.cell? (a.add (i*fs.size+j))=some v∧ys[j]?=some y∧DataW.trod enc P w base spare held n f.type [v]=some y:=by
  rcases open_slice ht h with h0 | ⟨a,len,cap,m,n,D,Pl,hcs,hb,hl,hm,hmm,hx,hi⟩
  ·exact .inl h0
  · refine .inr ⟨a, len, cap, m, D, Pl, hcs, hb, hl, hm, hmm, by rw [hC] at hx; exact hx, fun i him => ?_⟩
    obtain ⟨cs',hc,ht'⟩:=hi i him
    rw [hC] at hc
    obtain ⟨ys,n',hn',hy,hlen,hyl,hf⟩:=DataW.trod_struct he ht'
    obtain ⟨_,hcl,hat⟩:=World.cells?_some hc
    simp only [Prod.mk.injEq] at hy
    refine ⟨ys,n',hy.1,hy.2,hyl,fun j f hj=>?_⟩
    obtain ⟨ho,hk⟩:=hone_of hone j f hj
    have hjl:j<fs.size:=(Array.getElem?_eq_some_iff.1 hj).1
    have hcell:=hat j hjl
    have hv:cs'[j]?=some (cs'[j]'(by omega)):=List.getElem?_eq_getElem (by omega)
    have h1:=hf j f hj
    rw [ho,hk] at h1
    have hone':(cs'.drop j).take 1=[cs'[j]'(by omega)]:=by
      rw [List.drop_eq_getElem_cons (by omega)]
      rfl
    rw [hone'] at h1
    have hys:ys[j]?=some (ys[j]'(by omega)):=List.getElem?_eq_getElem (by omega)
    refine ⟨_,_,?_,hys,h1.trans hys⟩
    rw [←Go.Deep.add_add,hcell,hv]
end
section
variable {H : Type} {enc : TypeId × Value → H} {P : Program} {w : World} {base : Nat} {spare : Nat → Bool} {held : Bool}
def Rs (x:Int):Prop:=-9223372036854775808≤x∧x≤9223372036854775807
theorem Z82 {x:Int}(h:(Lit.int .i64 x).wf=true):Rs x:=by
 unfold Rs;simp [Lit.wf,IntKind.min,IntKind.max,IntKind.signed,IntKind.bits] at h;omega
theorem open_arcs {t e:TypeId}{fs:Array Field}{f0 f1 f2:Field}{fuel:Nat}{v:Value}{x:DataW H×List MemPlace}(ht:P.underlying t=some (.slice e))(he:P.underlying e=some (.struct fs))(hfs:fs=#[f0,f1,f2])
    (hone:oneCellFields P fs=true)(hC:P.cellsOf e=fs.size)(k0:P.underlying f0.type=some (.int .i64))(k1:P.underlying f1.type=some (.int .i64))(k2:P.underlying f2.type=some (.int .i64))
    (h:DataW.trod enc P w base spare held fuel t [v]=some x) :
    ∃ (b:Option Addr) (n c:Nat) (al:List Arc),v=.slice b n c∧RO w Zu 3 b n al∧n≤c∧n≤9223372036854775807∧∀ a,a∈al→Rs a.fr∧Rs a.to∧Rs a.cap:=by
  rcases Zlv ht he hone hC h with ⟨hcs,_⟩ | ⟨a,l,c,m,D,Pl,hcs,_,hl,hm,hmm,_,hi⟩
  · injection hcs with h1 _
    exact ⟨none,0,0,[],h1,Zdu w (fun _=>rfl),Nat.le_refl _,by omega,fun y hy=>by cases hy⟩
  · injection hcs with h1 _
    have hlm:l≤m:=by rw [hmm];split <;> omega
    have key:∀ i,i<l→∃ q:Arc,w.cell? (a.add (i*3+0))=some (.int .i64 q.fr)∧w.cell? (a.add (i*3+1))=some (.int .i64 q.to)∧w.cell? (a.add (i*3+2))=some (.int .i64 q.cap)∧Rs q.fr∧Rs q.to∧Rs q.cap:=by
      intro i hil
      obtain ⟨ys,n,_,_,_,hf⟩:=hi i (by omega)
      subst hfs
      obtain ⟨v0,y0,c0,_,t0⟩:=hf 0 f0 rfl
      obtain ⟨v1,y1,c1,_,t1⟩:=hf 1 f1 rfl
      obtain ⟨v2,y2,c2,_,t2⟩:=hf 2 f2 rfl
      obtain ⟨n0,e0,_,w0⟩:=DataW.trod_int k0 t0
      obtain ⟨n1,e1,_,w1⟩:=DataW.trod_int k1 t1
      obtain ⟨n2,e2,_,w2⟩:=DataW.trod_int k2 t2
      injection e0 with e0 _;injection e1 with e1 _;injection e2 with e2 _
      subst e0;subst e1;subst e2
      exact ⟨⟨n0,n1,n2⟩,c0,c1,c2,Z82 w0,Z82 w1,Z82 w2⟩
    let g:Nat→Arc:=fun i=>if hil:i<l then Classical.choose (key i hil) else default
    have hg:∀ i (hil:i<l),g i=Classical.choose (key i hil):=fun i hil=>by simp only [g,dif_pos hil]
    refine ⟨some a,l,c,(List.range l).map g,h1,⟨by simp,(fun e=>by cases e),arcC_len,fun o q ho hq x hx=>?_⟩,hl,by unfold maxLen at hm;omega,fun y hy=>?_⟩
    · simp only [List.length_map, List.length_range] at ho
      have hs:=Classical.choose_spec (key o ho)
      rw [←hg o ho] at hs
      have hxo:x=g o:=by
        rw [List.getElem?_map,List.getElem?_range ho] at hx
        simpa using hx.symm
      subst hxo
      rcases (show q=0∨q=1∨q=2 by omega) with rfl | rfl | rfl
      ·exact hs.1
      ·exact hs.2.1
      ·exact hs.2.2.1
    · obtain ⟨i, hil, rfl⟩ := List.mem_map.1 hy
      have hil:=List.mem_range.1 hil
      have hs:=Classical.choose_spec (key i hil)
      rw [←hg i hil] at hs
      exact hs.2.2.2
end
end Go.Acq
namespace Go.Acq
open Go Go.RowKit Go.ChangeShapes Go.WideShapes Go.Deep Go.Joins
theorem i64ok_wf {x:Int}(h:(Lit.int .i64 x).wf=true):i64ok x:=by simp [Lit.wf,IntKind.min,IntKind.max,IntKind.signed,IntKind.bits] at h;omega
section
variable {H : Type} {enc : TypeId × Value → H} {P : Program} {w : World} {base : Nat} {spare : Nat → Bool} {held : Bool}
end
end Go.Acq
namespace Go.Acq
open Go Go.RowKit
abbrev SM:=Option Addr×Nat×Nat
def Wh (m:SM):List Value:=[.slice m.1 m.2.1 m.2.2]
structure RW {α:Type}(w:World)(M:List Nat)(f:α→List Value)(s:Nat)(base:Option Addr)(n c:Nat)(ms:List SM)(xss:List (List α)):Prop where
  rs:RS w M Wh 1 base n c ms
  eqlen:ms.length=xss.length
  row:∀ i,i<ms.length→RS w M f s (ms.getD i default).1 (ms.getD i default).2.1 (ms.getD i default).2.2 (xss.getD i [])
section
variable {α : Type} {w w0 : World} {M M' : List Nat} {f : α → List Value} {s n c : Nat} {base : Option Addr} {ms : List SM} {xss : List (List α)} {H Hm R : Heap}
theorem RW.len (h:RW w M f s base n c ms xss):xss.length=n:=by rw [←h.eqlen];exact h.rs.len
theorem RW.at (h:RW w M f s base n c ms xss){p:Int}(hp:inb p xss.length):RS w M f s (ms.getD p.toNat default).1 (ms.getD p.toNat default).2.1 (ms.getD p.toNat default).2.2 (xss.getD p.toNat []) :=
 h.row _ (by rw [h.eqlen];exact Ue hp)
theorem RW.inb (h:RW w M f s base n c ms xss){p:Int}(hp:inb p xss.length):inb p ms.length:=by rw [h.eqlen];exact hp
end
section rules
variable {C : Cx} {ops : Array Oper} {Q : Exit → Act → World → Prop} {l : List Nat} {E : Env} {H R : Heap} {i d : Nat} {ty : TypeId} {pos : String} {af : Array Edge} {g : Option (Nat × Bool)}
theorem Ze8 {α:Type}{f:α→List Value}{s:Nat}{t:TypeId}{x:Operand}{base:Option Addr}{n c:Nat}{p:Int}{ms:List SM}{xss:List (List α)}(hr:RW C.w0 C.M f s base n c ms xss)(hp:inb p xss.length)(q0_:ops[i]?=some ⟨some d,.load t x,ty,pos,af,g⟩∧Zp ops E g=true∧Nat.ble (d+1) C.n=true∧ev E x=some (.pointer (some (ea base (p.toNat*1)))))(hT:Xi C.P t=true)
    (kk:TO C ops Q l ((d,.slice (ms.getD p.toNat default).1 (ms.getD p.toNat default).2.1 (ms.getD p.toNat default).2.2)::E) H):TO C ops Q (i::l) E H:=have ⟨ho,hg,hd,hx⟩:=q0_;
  TO.load ho hg hd hx hT (fun w hi=>by
    have:=(hr.rs.ro.monoM hr.rs.far hi).at default (o:=p.toNat) (c:=0) (Ue (hr.inb hp)) (by omega)
    simpa [Wh] using this) kk
end rules
open Go.ChangeShapes Go.WideShapes Go.Deep Go.Joins
section
variable {H : Type} {enc : TypeId × Value → H} {P : Program} {w : World} {base : Nat} {spare : Nat → Bool} {held : Bool}
end
end Go.Acq
namespace Go.Acq
open Go Go.RowKit
end Go.Acq
namespace Go.Acq
open Go Go.RowKit
end Go.Acq
namespace Go.Acq
open Go Go.RowKit Go.ChangeShapes Go.WideShapes Go.Deep Go.Joins
section
variable {H : Type} {enc : TypeId × Value → H} {P : Program} {w : World} {base : Nat} {spare : Nat → Bool} {held : Bool}
end
end Go.Acq
namespace Go.Acq
open Go Go.RowKit
abbrev ids (H:Heap):List Nat:=H.filterMap (·.1)
abbrev mkD (r:Nat):Deferred:={ target:=.collected r,args:=#[] }
abbrev mkO:Obj:=.deferred (some [])
def Lx:List Nat→Heap
  | []=>[]
  | r::ms=>(some r,mkO)::Lx ms
section
variable {w0 w w' w'' : World} {M M' : List Nat} {H H' Hm R : Heap} {b : Nat} {o o' : Obj}
theorem Wo {p:Option Nat×Obj}(h:Pick H' H):Pick H' (p::H):=by
 obtain ⟨S,ns,hn,hS⟩:=h
 refine ⟨p::S,ns,hn,?_⟩
 rw [List.cons_append]
 exact (List.Perm.cons p hS).trans List.perm_middle.symm
theorem Inv.put (h:Inv w0 M w ((some b,o)::R))(o':Obj):Inv w0 M (w.putObj b o') ((some b,o')::R) :=
 h.upd (Take.head _ _) rfl rfl rfl World.putObj_size (World.putObj_heap_same (h.lt (.head _))) (fun _ hk=>World.putObj_heap_other hk)
theorem HB.monoM {cs:List Value}(h:HB w0 M b cs)(hne:cs≠[])(hi:Inv w0 M w H)(hp:List.Perm H (Hm++R))(hM:Hm.filterMap (·.1)=M'):HB w M' b cs :=
 ⟨fun j v hj=>hi.cell_old (h.has j v hj) h.far,fun hm=>by
  subst hM
  obtain ⟨o,ho⟩:=Li hm
  obtain ⟨v,cs',rfl⟩:=List.exists_cons_of_ne_nil hne
  have h0:=h.has 0 v rfl
  have hb:b<w0.heap.size:=by
   unfold World.cell? at h0
   split at h0
   ·rename_i he;exact (Array.getElem?_eq_some_iff.1 he).1
   ·cases h0
  rcases hi.low b o ((List.Perm.mem_iff hp).2 (List.mem_append_left _ ho)) with hl | hl
  ·omega
  ·exact h.far hl⟩
end
section rules
variable {C : Cx} {ops : Array Oper} {Q : Exit → Act → World → Prop} {l : List Nat} {E : Env} {H R : Heap} {i d : Nat} {ty : TypeId} {pos : String} {af : Array Edge} {g : Option (Nat × Bool)}
end rules
abbrev recO (fn:FuncId)(tmps:Array Value)(ps:Array Tmp)(assign body:Code)(df:Nat)(st:LoopState)(pd:Option Code):Obj :=
  .loop { state:=st,pending:=pd,fn,tmps,params:=ps,assign,body,defers:=df }
def RQ {S X:Type}(J:S⊕X→Heap→Prop)(jmp:X→Code)(r:S⊕X)(w0:World)(M:List Nat):Exit→Act→World→Prop
  | .normal,_,w=>∃ s Hs,r=.inl s∧J (.inl s) Hs∧Inv w0 M w Hs
  | .ret,_,w=>∃ x Hs,r=.inr x∧jmp x=.ret∧J (.inr x) Hs∧Inv w0 M w Hs
  | .exit id,_,w=>∃ x Hs,r=.inr x∧jmp x=.exit id∧J (.inr x) Hs∧Inv w0 M w Hs
  | _,_,_=>False
def Z1a:List Tmp→List Value→Env→Env
  | [],_,E=>E
  | _::_,[],E=>E
  | p::ps,v::vs,E=>Z1a ps vs ((p,v)::E)
theorem Z83 {n:Nat}:∀ {ps:List Tmp} {vs:List Value} {E:Env} {tmps:Array Value} (_:ps.all (fun p=>Nat.ble (p+1) n)=true),Fits n [] E { tmps,defers:=[] } →
    Fits n [] (Z1a ps vs E) { tmps:=(ps.zip vs).foldl (fun tmps (t,a)=>tmps.setIfInBounds t a) tmps,defers:=[] }
  | [],_,_,_,_,h=>h
  | _::_,[],_,_,_,h=>h
  | p::ps,v::vs,E,tmps,hb,h=>by
    have hb':Nat.ble (p+1) n=true∧(ps.all fun p=>Nat.ble (p+1) n)=true:=by simpa only [List.all_cons,Bool.and_eq_true] using hb
    have:=h.put hb'.1 v
    exact Z83 (ps:=ps) (vs:=vs) hb'.2 this
section control
variable {C : Cx} {Q : Exit → Act → World → Prop} {E : Env} {H : Heap}
theorem Ri {ρ:Option Nat}{P:Program}{n:Nat}{D:List Deferred}{S X:Type}{J:S⊕X→Heap→Prop}{jmp:X→Code}{r:S⊕X}{w0:World}{M:List Nat}{s:S}{Hs:Heap}(h:some (Sum.inl s)=some r)(hJ:J (.inl s) Hs)(hp:Pick Hs H) :
    Acq.X ⟨P,ρ,n,D,w0,M⟩ (RQ J jmp r w0 M) .normal E H:=fun _ _ _ hi=>⟨s,Hs,by injection h with h;exact h.symm,hJ,hi.pick hp⟩
theorem Z21 {ρ:Option Nat}{P:Program}{n:Nat}{D:List Deferred}{S X:Type}{J:S⊕X→Heap→Prop}{jmp:X→Code}{r:S⊕X}{w0:World}{M:List Nat}{x:X}{Hs:Heap}(h:some (Sum.inr x)=some r)(hj:jmp x=.ret)(hJ:J (.inr x) Hs)(hp:Pick Hs H) :
    Acq.X ⟨P,ρ,n,D,w0,M⟩ (RQ J jmp r w0 M) .ret E H:=fun _ _ _ hi=>⟨x,Hs,by injection h with h;exact h.symm,hj,hJ,hi.pick hp⟩
end control
section ends
variable {C : Cx} {E : Env} {H H' N : Heap}
theorem Zb2 {P:Program}{fn:Func}{tmps:Array Value}{R:Ending→World→Prop}{w0:World}{M:List Nat}:∀ (ms:List Nat) (w:World),Inv w0 M w (Lx ms++H') →
    (∀ w',Inv w0 M w' H'→LeavesIn (FW none) 0 P fn tmps R [] .returning w')→LeavesInM (FW none) 0 P fn tmps R (ms.map mkD) .returning w
  | [],w,hi,h=>h w hi
  | r::ms,w,hi,h=>by
    refine ⟨by simp,.inl ⟨r,_,rfl,run_takeDeferred (hi.own r _ (.head _)),Zb2 ms _ ?_ h⟩⟩
    exact (Inv.put hi (.deferred none)).pick (Wo (Zv _))
theorem Z9a {fn:Func}{rs:List ResultVar}{vs:List Value}{v:Value}{w0:World}{M:List Nat}{Post:Value→Heap→Prop}(ms:List Nat)(hρ:C.ρ=none)(hw:C.w0=w0)(hMM:C.M=M)(hD:C.D=ms.map mkD)(hfn:fn.results.toList=rs)
    (hH:Pick (Lx ms++H') H)(hr:∀ (j:Nat) r u,rs[j]?=some r→vs[j]?=some u→Res { C with D:=[] } E H' r u)(q0_:rs.length=vs.length∧v=Z04 vs)
    (hN:Pick N H')(hP:Post v N):Acq.X C (bodyPostM (FW none) 0 C.P fn (We w0 M Post)) .ret E H:=by
  obtain ⟨hl,hv⟩:=q0_
  intro a w hf hi
  show LeavesInM (FW none) 0 C.P fn a.tmps (We w0 M Post) a.defers .returning w
  rw [hf.defers,hD]
  refine Zb2 ms w (hi.pick hH) fun w' hi'=>?_
  have hx:=X.ret (C:={ C with D:=[] }) (fn:=fn) (Post:=Post) hw hMM rfl hfn hr hl hv hN hP { a with defers:=[] } w' ⟨hf.size,rfl,hf.get⟩ hi'
  exact hx.2
theorem Ze9 {fn:Func}{w0:World}{M:List Nat}{Post:Value→Heap→Prop}(ms:List Nat)(q0_:C.ρ=none∧C.w0=w0∧C.M=M∧C.D=ms.map mkD∧fn.results.toList=[])(hH:Pick (Lx ms++H') H)(hN:Pick N H')(hP:Post (.tuple #[]) N) :
    Acq.X C (bodyPostM (FW none) 0 C.P fn (We w0 M Post)) .ret E H:=have ⟨hρ,hw,hMM,hD,hfn⟩:=q0_;
  Z9a (vs:=[]) ms hρ hw hMM hD hfn hH (fun j r' u h1 h2=>by simp at h1) Yp hN hP
theorem Z56 {fn:Func}{r r':ResultVar}{v v':Value}{w0:World}{M:List Nat}{Post:Value→Heap→Prop}(ms:List Nat)(q0_:C.ρ=none∧C.w0=w0∧C.M=M∧C.D=ms.map mkD∧fn.results.toList=[r,r'])(hH:Pick (Lx ms++H') H)(hr:Res { C with D:=[] } E H' r v)(hr':Res { C with D:=[] } E H' r' v')(hN:Pick N H')(hP:Post (.tuple #[v,v']) N) :
    Acq.X C (bodyPostM (FW none) 0 C.P fn (We w0 M Post)) .ret E H:=have ⟨hρ,hw,hMM,hD,hfn⟩:=q0_;
  Z9a (vs:=[v,v']) ms hρ hw hMM hD hfn hH (fun j r'' u h1 h2=>by
    match j with
    | 0=>simp at h1 h2;subst h1;subst h2;exact hr
    | 1=>simp at h1 h2;subst h1;subst h2;exact hr'
    | j+2=>simp at h1) Yp hN hP
theorem Zaf {fn:Func}{r r' r'':ResultVar}{v v' v'':Value}{w0:World}{M:List Nat}{Post:Value→Heap→Prop}(ms:List Nat)(q0_:C.ρ=none∧C.w0=w0∧C.M=M∧C.D=ms.map mkD∧fn.results.toList=[r,r',r''])(hH:Pick (Lx ms++H') H)(hr:Res { C with D:=[] } E H' r v)(hr':Res { C with D:=[] } E H' r' v')(hr'':Res { C with D:=[] } E H' r'' v'')(hN:Pick N H')(hP:Post (.tuple #[v,v',v'']) N) :
    Acq.X C (bodyPostM (FW none) 0 C.P fn (We w0 M Post)) .ret E H:=have ⟨hρ,hw,hMM,hD,hfn⟩:=q0_;
  Z9a (vs:=[v,v',v'']) ms hρ hw hMM hD hfn hH (fun j q u h1 h2=>by
    match j with
    | 0=>simp at h1 h2;subst h1;subst h2;exact hr
    | 1=>simp at h1 h2;subst h1;subst h2;exact hr'
    | 2=>simp at h1 h2;subst h1;subst h2;exact hr''
    | j+3=>simp at h1) Yp hN hP
theorem Z6c {P:Program}{f:FuncId}{fn:Func}{c:Code}{vs:List Value}{w:World}{M:List Nat}{H:Heap}{Post:Value→Heap→Prop}
    (hf:P.funcs[f]?=some fn)(hb:fn.body=some c)(hn:Nat.ble vs.length fn.ntmps=true)(hi:Inv w M w H)
    (h:T ⟨P,none,fn.ntmps,[],w,M⟩ c (bodyPostM (FW none) 0 P fn (We w M Post)) (Gp 0 vs) H):Fnc P f vs.toArray w M Post:=by
  have hn':=Nat.le_of_ble_eq_true hn
  refine callsIn_FW (ρ:=none) (n:=0) |>.1 (callsIn_of_wp_marks hf hb trivial ?_ rfl)
  refine h _ w ⟨by simp;omega,rfl,fun t v hv=>?_⟩ hi
  obtain ⟨_,h2⟩:=Z0d vs 0 t v hv
  rw [Nat.sub_zero] at h2
  have hlt:=(List.getElem?_eq_some_iff.1 h2).1
  simp only [Array.getD_eq_getD_getElem?]
  rw [Array.getElem?_append_left (by simpa using hlt)]
  simp [h2]
end ends
end Go.Acq
namespace Go.Acq
open Go Go.RowKit
theorem Rj {C:Cx}{Q:Exit→Act→World→Prop}{e:Exit}{E:Env}{H H':Heap}(h:H'=H)(k:X C Q e E H):X C Q e E H':=by rw [h];exact k
theorem Z5f {C:Cx}{Q:Exit→Act→World→Prop}{c:Code}{E:Env}{H H':Heap}(h:H'=H)(k:T C c Q E H):T C c Q E H':=by rw [h];exact k
end Go.Acq
namespace Go.Acq
open Go Go.RowKit
theorem Jy {C:Cx}{P:Program}{fn:Func}{R:Ending→World→Prop}{E:Env}{H:Heap}(h:X C (bodyPost P fn R) .ret E H):X C (bodyPost P fn R) .normal E H:=h
theorem X.fallM {C:Cx}{F:Fence}{n:Nat}{P:Program}{fn:Func}{R:Ending→World→Prop}{E:Env}{H:Heap}(h:X C (bodyPostM F n P fn R) .ret E H):X C (bodyPostM F n P fn R) .normal E H:=h
end Go.Acq
namespace Go.Acq
open Go Go.RowKit
section
variable {C : Cx} {ops : Array Oper} {Q : Exit → Act → World → Prop} {l l2 : List Nat} {E E' : Env} {H H' : Heap}
def JQ (C:Cx)(Q:Exit→Act→World→Prop)(d:Nat)(φ:Bool→Prop)(E:Env)(H:Heap):Exit→Act→World→Prop
  | .normal,a,w=>∃ b,φ b∧Fits C.n C.D ((d,.bool b)::E) a∧Inv C.w0 C.M w H
  | e,a,w=>Q e a w
theorem TO.join (l1 l2:List Nat)(hl:l1++l2=l)(d:Nat)(φ:Bool→Prop)(E':Env)(h1:TO C ops (JQ C Q d φ E' H) l1 E H)(h2:∀ b,φ b→TO C ops Q l2 ((d,.bool b)::E') H):TO C ops Q l E H:=by
 subst hl
 intro a w hf hi
 refine Z3r (Q':=JQ C Q d φ E' H) (fun e a w hne h=>?_) (fun a w h=>?_) l1 a w (h1 a w hf hi)
 ·cases e <;> first | exact absurd rfl hne | exact h
 ·
  obtain ⟨b,hb,hfit,hinv⟩:=h
  exact h2 b hb a w hfit hinv
theorem Jt {d:Nat}{φ:Bool→Prop}{b:Bool}(h:φ b)(hE:AllF ((d,.bool b)::E') E):X C (JQ C Q d φ E' H) .normal E H:=fun _ _ hf hi=>⟨b,h,hf.weak hE.sub,hi⟩
end
end Go.Acq
namespace Go.Acq
open Go Go.RowKit
def Ra (P:Program)(K:World→Prop)(w:World)(v:Value):Result Next→Prop
  | .ok (.value u) w'=>w'=w∧u=v
  | .ok (.enter f args) w'=>w'=w∧Calls P f args w (fun e w''=>e=.returned v∧K w'')
  | _=>False
def Gk (P:Program)(ops:Array Oper)(K:World→Prop)(Qn:Act→Prop):List Nat→Act→Prop
  | [],a=>Qn a
  | i::rest,a=>match ops[i]? with
    | none=>Gk P ops K Qn rest a
    | some o=>(∀ c,o.op≠.defer c)∧(∀ cs b,o.op≠.select cs b) ∧
        if Region.wanted o (yielded ops a.tmps)=true then ∃ v,(∀ w,K w→Ra P K w v ((execOp a.eval o).run P w))∧Gk P ops K Qn rest (a.put o.dst v)
        else Gk P ops K Qn rest (a.put o.dst undef)
def TQ (C:Cx)(ops:Array Oper)(Qn:Act→Prop)(l:List Nat)(E:Env)(H:Heap):Prop:=∀ a,Fits C.n C.D E a→Gk C.P ops (fun w=>Inv C.w0 C.M w H) Qn l a
def seqB (ops:Array Oper)(m:Nat):Bool:=(List.range m).all fun i=>match ops[i]? with
  | none=>false
  | some o=>(match o.dst with | some d=>(List.range m).all fun j=>Nat.beq j i||!(Ys ops j==some d) | none=>false) &&
      (o.looksAt ops).all fun t=>(List.range m).all fun j=>!(Ys ops j==some t)||(Nat.blt j i&&Ut ops ops.size i j)
section
variable {C : Cx} {ops : Array Oper} {Q : Exit → Act → World → Prop} {E : Env} {H : Heap}
def Uc (ops:Array Oper)(vs:Nat→Value)(a:Act):Nat→Act
  | 0=>a
  | i+1=>(Uc ops vs a i).put (Ys ops i) (vs i)
structure DoneQ (ops:Array Oper)(m:Nat)(vs:Nat→Value)(a0:Act)(done:Nat→Bool)(a:Act):Prop where
  size:a.tmps.size=a0.tmps.size
  defers:a.defers=a0.defers
  has:∀ j d,j<m→done j=true→Ys ops j=some d→d<a0.tmps.size→a.tmps[d]?=some (vs j)
  old:∀ t,(∀ j,j<m→done j=true→Ys ops j≠some t)→a.tmps[t]?=a0.tmps[t]?
theorem DoneQ.put {m:Nat}{vs:Nat→Value}{a0 a:Act}{done:Nat→Bool}{i d:Nat}(h:DoneQ ops m vs a0 done a)(hi:i<m)(hd:Ys ops i=some d)(hu:∀ j,j<m→j≠i→Ys ops j≠some d) :
    DoneQ ops m vs a0 (fun q=>if q=i then true else done q) (a.put (some d) (vs i)):=by
  refine ⟨by simpa [Act.put] using h.size,h.defers,fun j e hj hdj hs hlt=>?_,fun t ht=>?_⟩
  · simp only [Act.put, Array.getElem?_setIfInBounds]
    by_cases c:j=i
    · subst c
      rw [hd] at hs;injection hs with hs;subst hs
      rw [if_pos rfl,if_pos (by rw [h.size];exact hlt)]
    · have hne : d ≠ e := by rintro rfl; exact hu j hj c hs
      rw [if_neg hne]
      exact h.has j e hj (by simpa [c] using hdj) hs hlt
  · simp only [Act.put, Array.getElem?_setIfInBounds]
    have hne:d≠t:=by rintro rfl;exact ht i hi (by simp) hd
    rw [if_neg hne]
    exact h.old t fun j hj hdj=>ht j hj (by by_cases c:j=i <;> simp [c,hdj])
theorem eval_tmp {a a':Act}{t:Nat}(h:a.tmps[t]?=a'.tmps[t]?):a.eval (.tmp t)=a'.eval (.tmp t):=by
 simp [Act.eval,Array.getD_eq_getD_getElem?,h]
theorem Za6 {m:Nat}{vs:Nat→Value}{a0 a a':Act}{done done':Nat→Bool}{o:Oper}(h:DoneQ ops m vs a0 done a)(h':DoneQ ops m vs a0 done' a')
    (hl:∀ t,t∈o.looksAt ops→∀ j,j<m→Ys ops j=some t→done j=true∧done' j=true) :
    (∀ x,x∈o.op.operands→a.eval x=a'.eval x)∧Region.wanted o (yielded ops a.tmps)=Region.wanted o (yielded ops a'.tmps):=by
  have key:∀ t:Nat,t∈o.looksAt ops→a.tmps[t]?=a'.tmps[t]?:=by
    intro t ht
    by_cases c:∃ j,j<m∧Ys ops j=some t
    · obtain ⟨j, hj, hs⟩ := c
      obtain ⟨d1,d2⟩:=hl t ht j hj hs
      by_cases hlt:t<a0.tmps.size
      ·rw [h.has j t hj d1 hs hlt,h'.has j t hj d2 hs hlt]
      ·rw [Array.getElem?_eq_none (by rw [h.size];omega),Array.getElem?_eq_none (by rw [h'.size];omega)]
    · have hn : ∀ j, j < m → Ys ops j ≠ some t := fun j hj hs => c ⟨j, hj, hs⟩
      rw [h.old t fun j hj _=>hn j hj,h'.old t fun j hj _=>hn j hj]
  refine ⟨fun x hx=>?_,?_⟩
  · cases x with
    | tmp t=>exact eval_tmp (key t (List.mem_append_left _ (List.mem_filterMap.2 ⟨.tmp t,by simpa using hx,rfl⟩)))
    | const v=>rfl
    | global g=>rfl
    | func f=>rfl
  · unfold Region.wanted
    cases hg:o.guard with
    | none=>rfl
    | some gw =>
      obtain ⟨g,want⟩:=gw
      have:yielded ops a.tmps g=yielded ops a'.tmps g:=by
        unfold yielded
        cases ht:(ops[g]?).bind (·.dst) with
        | none=>rfl
        | some t =>
          have:=key t (List.mem_append_right _ (by rw [hg];simp [ht]))
          simp only [Option.bind_some,this]
      simp only [this]
theorem Zbr {K:World→Prop}{Qn:Act→Prop}{vs0:Nat→Value}{a0:Act}:∀ (k i:Nat),(∀ j,j<i+k→∃ o,ops[j]?=some o)→Gk C.P ops K Qn (List.range' i k) (Uc ops vs0 a0 i) →
    ∃ vs:Nat→Value,(∀ j,j<i→vs j=vs0 j)∧(∀ j o,i≤j→j<i+k→ops[j]?=some o→(∀ c,o.op≠.defer c)∧(∀ cs b,o.op≠.select cs b) ∧
      ((Region.wanted o (yielded ops (Uc ops vs a0 j).tmps)=true∧∀ w,K w→Ra C.P K w (vs j) ((execOp (Uc ops vs a0 j).eval o).run C.P w))∨(Region.wanted o (yielded ops (Uc ops vs a0 j).tmps)=false∧vs j=undef)))∧Qn (Uc ops vs a0 (i+k))
  | 0,i,_,h=>⟨vs0,fun _ _=>rfl,fun j o h1 h2=>by omega,h⟩
  | k+1,i,hops,h=>by
    obtain ⟨o,ho⟩:=hops i (by omega)
    rw [List.range'_succ] at h
    simp only [Gk,ho] at h
    obtain ⟨hd,hs,h⟩:=h
    have hslot:Ys ops i=o.dst:=by simp [Ys,ho]
    obtain ⟨v,hv,hrest⟩:∃ v,((Region.wanted o (yielded ops (Uc ops vs0 a0 i).tmps)=true∧∀ w,K w→Ra C.P K w v ((execOp (Uc ops vs0 a0 i).eval o).run C.P w))∨(Region.wanted o (yielded ops (Uc ops vs0 a0 i).tmps)=false∧v=undef)) ∧
        Gk C.P ops K Qn (List.range' (i+1) k) ((Uc ops vs0 a0 i).put o.dst v):=by
      by_cases hw:Region.wanted o (yielded ops (Uc ops vs0 a0 i).tmps)=true
      · rw [if_pos hw] at h
        obtain ⟨v,h1,h2⟩:=h
        exact ⟨v,.inl ⟨hw,h1⟩,h2⟩
      · rw [if_neg hw] at h
        exact ⟨undef,.inr ⟨by simpa using hw,rfl⟩,h⟩
    have hcongr:∀ (vs':Nat→Value),(∀ j,j<i→vs' j=vs0 j)→∀ j,j≤i→Uc ops vs' a0 j=Uc ops vs0 a0 j:=by
      intro vs' hvs j
      induction j with
      | zero=>intro _;rfl
      | succ j ih=>intro hj;simp only [Uc];rw [ih (by omega),hvs j (by omega)]
    let vs1:Nat→Value:=fun j=>if j=i then v else vs0 j
    have e1:Uc ops vs1 a0 (i+1)=(Uc ops vs0 a0 i).put o.dst v:=by
      simp only [Uc]
      rw [hcongr vs1 (fun j hj=>by simp only [vs1];rw [if_neg (by omega)]) i (Nat.le_refl _),hslot]
      simp only [vs1,if_true]
    rw [←e1] at hrest
    obtain ⟨vs,g1,g2,g3⟩:=Zbr k (i+1) (fun j hj=>hops j (by omega)) hrest
    have gi:vs i=v:=by rw [g1 i (by omega)];simp only [vs1,if_true]
    have gl:∀ j,j<i→vs j=vs0 j:=fun j hj=>by rw [g1 j (by omega)];simp only [vs1];rw [if_neg (by omega)]
    refine ⟨vs,gl,fun j o' h1 h2 ho'=>?_,by rw [show i+(k+1)=i+1+k by omega];exact g3⟩
    by_cases c:j=i
    · subst c
      rw [ho] at ho';injection ho' with ho';subst ho'
      rw [hcongr vs gl j (Nat.le_refl _),gi]
      exact ⟨hd,hs,hv⟩
    ·exact g2 j o' (by omega) (by omega) ho'
theorem Z7v {m:Nat}{vs:Nat→Value}{a0:Act}(hu:∀ i,i<m→∃ d,Ys ops i=some d∧∀ j,j<m→j≠i→Ys ops j≠some d):∀ i,i≤m→DoneQ ops m vs a0 (fun q=>decide (q<i)) (Uc ops vs a0 i)
 | 0,_=>⟨rfl,rfl,fun j d _ h=>by simp at h,fun t _=>rfl⟩
 | i+1,hi=>by
  obtain ⟨d,hd,hud⟩:=hu i (by omega)
  have:=(Z7v (vs:=vs) (a0:=a0) hu i (by omega)).put (by omega) hd hud
  simp only [Uc]
  rw [hd]
  have e:(fun q:Nat=>decide (q<i+1))=fun q=>if q=i then true else decide (q<i):=by
   funext q
   by_cases c:q=i
   ·simp [c]
   ·
    have:(q<i+1)↔q<i:=by omega
    simp [c,this]
  rw [e];exact this
theorem Ws {id:Nat}(m:Nat)(ll:List Nat)(hll:List.range m=ll)(hm:C.P.follows .mixedOrders=true)(hb:Jb ops=true)(ht:Rh ops m=true)(hms:Nat.ble m ops.size=true)(hs:seqB ops m=true)
    (k:TQ C ops (fun a=>∀ w,Inv C.w0 C.M w H→wpOpsIn (FW C.ρ) 0 C.P ops Q (List.range' m (ops.size-m)) a w) ll E H):T C (.region id ops true) Q E H:=by
  subst hll
  intro a0 w hf hi
  have hms':=Nat.le_of_ble_eq_true hms
  have hseq:∀ i,i<m→∃ o d,ops[i]?=some o∧Ys ops i=some d∧(∀ j,j<m→j≠i→Ys ops j≠some d)∧∀ t,t∈o.looksAt ops→∀ j,j<m→Ys ops j=some t→j<i∧Ut ops ops.size i j=true:=by
    intro i him
    have h1:=List.all_eq_true.1 hs i (List.mem_range.2 him)
    have ho:ops[i]?=some ops[i]:=Array.getElem?_eq_getElem (by omega)
    rw [ho] at h1
    simp only [Bool.and_eq_true] at h1
    cases hd:(ops[i]).dst with
    | none=>rw [hd] at h1;simp at h1
    | some d =>
      rw [hd] at h1
      refine ⟨ops[i],d,ho,by simp [Ys,ho,hd],fun j hj hji he=>?_,fun t htl j hj hsj=>?_⟩
      · have h2 := List.all_eq_true.1 h1.1 j (List.mem_range.2 hj)
        simp only [Bool.or_eq_true] at h2
        rcases h2 with h2 | h2
        ·exact hji (Nat.eq_of_beq_eq_true h2)
        ·rw [he] at h2;simp at h2
      · have h2 := List.all_eq_true.1 (List.all_eq_true.1 h1.2 t htl) j (List.mem_range.2 hj)
        rw [hsj] at h2
        simpa using h2
  have hu:∀ i,i<m→∃ d,Ys ops i=some d∧∀ j,j<m→j≠i→Ys ops j≠some d:=fun i h=>by
    obtain ⟨_,d,_,h1,h2,_⟩:=hseq i h;exact ⟨d,h1,h2⟩
  have hk:=k a0 hf
  rw [List.range_eq_range'] at hk
  obtain ⟨vs,-,hstep,hend⟩:=Zbr (C:=C) (vs0:=fun _=>undef) (a0:=a0) m 0 (fun j hj=>by obtain ⟨o,_,ho,_⟩:=hseq j (by omega);exact ⟨o,ho⟩) hk
  rw [Nat.zero_add] at hend
  refine Zce (m:=m) (Jp:=fun done a w=>DoneQ ops m vs a0 done a∧Inv C.w0 C.M w H) hm hb ht hms' ?_ ?_ ⟨⟨rfl,rfl,fun j d _ h=>by simp at h,fun t _=>rfl⟩,hi.ofHeap rfl rfl rfl rfl⟩
  · rintro done i o a w1 him ho hdi hcl hafter _ ⟨hD, hinv⟩
    obtain ⟨o',d,ho',hsl,hud,hlook⟩:=hseq i him
    rw [ho] at ho';injection ho' with ho';subst ho'
    have hdst:o.dst=some d:=by simpa [Ys,ho] using hsl
    have hdone:∀ j,Ut ops ops.size i j=true→done j=true:=fun j hj=>Rq hcl _ i j hj (fun o' ho'=>by rw [ho] at ho';injection ho' with ho';subst ho';exact hafter)
    obtain ⟨hev,hwt⟩:=Za6 hD (Z7v hu i (by omega)) (o:=o) (fun t htl j hj hsj=>by
      obtain ⟨h1,h2⟩:=hlook t htl j hj hsj
      exact ⟨hdone j h2,by simpa using h1⟩)
    obtain ⟨hnd,hns,hval⟩:=hstep i o (by omega) (by omega) ho
    have hex:=execOp_congr o hns hev
    have hput:=hD.put him hsl hud
    unfold wpOpIn
    rw [ho]
    simp only
    rcases hval with ⟨hw,hq⟩ | ⟨hw,hq⟩
    · rw [hwt, hw]
      simp only [if_true]
      refine ⟨fun _ _=>trivial,?_⟩
      rw [Oper.semAt_eq _ _ _ hnd,hex]
      have hq:=hq w1 hinv
      generalize (execOp (Uc ops vs a0 i).eval o).run C.P w1=r at hq
      cases r with
      | ok x w' =>
        cases x <;> simp only [Ra] at hq
        case value u =>
          obtain ⟨rfl,rfl⟩:=hq
          show _∧_
          rw [hdst]
          exact ⟨hput,hinv⟩
        case enter f args =>
          obtain ⟨rfl,hc⟩:=hq
          refine ⟨by simp [FW],callsIn_FW.2 (Calls.mono hc ?_)⟩
          rintro e w'' ⟨rfl,hK⟩
          show _∧_
          rw [hdst]
          exact ⟨hput,hK⟩
      | halt x w'=>simp only [Ra] at hq
    · rw [hwt, hw]
      simp only [Bool.false_eq_true,if_false]
      refine ⟨fun _ _=>trivial,?_⟩
      rw [hdst,←hq]
      exact ⟨hput,hinv⟩
  · rintro done a w1 hall ⟨hD, hinv⟩
    have hA:=Z7v (vs:=vs) (a0:=a0) hu m (Nat.le_refl _)
    have ea:a=Uc ops vs a0 m:=by
      have e1:a.tmps=(Uc ops vs a0 m).tmps:=by
        apply Array.ext_getElem?
        intro t
        by_cases c:∃ j,j<m∧Ys ops j=some t
        · obtain ⟨j, hj, hsj⟩ := c
          by_cases hlt:t<a0.tmps.size
          ·rw [hD.has j t hj (hall j hj) hsj hlt,hA.has j t hj (by simpa using hj) hsj hlt]
          ·rw [Array.getElem?_eq_none (by rw [hD.size];omega),Array.getElem?_eq_none (by rw [hA.size];omega)]
        · have hn : ∀ j, j < m → Ys ops j ≠ some t := fun j hj hsj => c ⟨j, hj, hsj⟩
          rw [hD.old t fun j hj _=>hn j hj,hA.old t fun j hj _=>hn j hj]
      have e2:a.defers=(Uc ops vs a0 m).defers:=by rw [hD.defers,hA.defers]
      cases a;simp_all
    rw [ea]
    exact hend w1 hinv
theorem TQ.tail {m k:Nat}(l:List Nat){H0:Heap}(q0_:List.range' m k=l∧H0=H)(h:TO C ops Q l E H):TQ C ops (fun a=>∀ w,Inv C.w0 C.M w H→wpOpsIn (FW C.ρ) 0 C.P ops Q (List.range' m k) a w) [] E H0:=have ⟨hl,hH⟩:=q0_;fun a hf w hi=>by rw [hl];exact h a w hf hi
end
end Go.Acq
namespace Go.Acq
open Go Go.RowKit
section rules
variable {C : Cx} {ops : Array Oper} {Q : Act → Prop} {l : List Nat} {E : Env} {H R : Heap} {i d : Nat} {ty : TypeId} {pos : String} {af : Array Edge} {g : Option (Nat × Bool)}
theorem TQ.val {op:Op}{v:Value}(ho:ops[i]?=some ⟨some d,op,ty,pos,af,g⟩)(hg:Zp ops E g=true)(hd:Nat.ble (d+1) C.n=true)(hnd:∀ c,op≠.defer c)
    (hr:∀ a w,Fits C.n C.D E a→Inv C.w0 C.M w H→(execOp a.eval ⟨some d,op,ty,pos,af,g⟩).run C.P w=.ok (.value v) w)
    (k:TQ C ops Q l ((d,v)::E) H)(hns:∀ cs b,op≠.select cs b:=by simp):TQ C ops Q (i::l) E H:=by
  intro a hf
  simp only [Gk,ho]
  refine ⟨hnd,hns,?_⟩
  rw [if_pos (Z5x hf hg)]
  exact ⟨v,fun w hi=>by rw [hr a w hf hi];exact ⟨rfl,rfl⟩,k _ (hf.put hd v)⟩
theorem Yh {o:Oper}(q0_:ops[i]?=some o∧gdN ops E o.guard=true∧o.dst=some d∧Nat.ble (d+1) C.n=true)(k:TQ C ops Q l ((d,undef)::E) H)(hnd:∀ c,o.op≠.defer c:=by simp)(hns:∀ cs b,o.op≠.select cs b:=by simp):TQ C ops Q (i::l) E H:=by
 obtain ⟨ho,hg,hdst,hd⟩:=q0_
 intro a hf
 simp only [Gk,ho]
 refine ⟨hnd,hns,?_⟩
 rw [if_neg (by rw [Zfa hf hg];simp),hdst]
 exact k _ (hf.put hd _)
theorem Uj {t:Nat}{b b':Bool}(ht:find E t=some (.bool b))(hb:b=b')(k:TQ C ops Q l ((t,.bool b')::E) H):TQ C ops Q l E H:=by
 subst hb
 intro a hf
 refine k a ⟨hf.size,hf.defers,fun u v hu=>?_⟩
 rw [Ks] at hu
 by_cases e:t=u
 ·subst e;rw [if_pos rfl] at hu;injection hu with hu;subst hu;exact hf.get t _ ht
 ·rw [if_neg e] at hu;exact hf.get u v hu
theorem Gt {f:FuncId}{xs:Array Operand}{at':Array TypeId}{vs:List Value}{v:Value}{Post:Value→Heap→Prop}(hF:Zz C.P f=true)
    (q0_:ops[i]?=some ⟨some d,.call ⟨.value (.func f),xs,at'⟩,ty,pos,af,g⟩∧Zp ops E g=true∧Nat.ble (d+1) C.n=true∧evs E xs.toList=some vs)
    (hc:∀ w,Inv C.w0 C.M w H→Fnc C.P f vs.toArray w [] Post)(hv:∀ u N,Post u N→u=v)(k:TQ C ops Q l ((d,v)::E) H):TQ C ops Q (i::l) E H:=by
  obtain ⟨ho,hg,hd,hx⟩:=q0_
  intro a hf
  simp only [Gk,ho]
  refine ⟨by simp,by simp,?_⟩
  rw [if_pos (Z5x hf hg)]
  refine ⟨v,fun w hi=>?_,k _ (hf.put hd v)⟩
  have e1:xs.map a.eval=vs.toArray:=by apply Array.ext';simpa using Gf hf hx
  have:(execOp a.eval ⟨some d,.call ⟨.value (.func f),xs,at'⟩,ty,pos,af,g⟩).run C.P w=.ok (.enter f vs.toArray) w:=by
    simp [execOp,resolve,Deferred.ofValue,invoke,Act.eval,e1,Kd hF]
  rw [this]
  refine ⟨rfl,Calls.mono (hc w hi) ?_⟩
  rintro e w' ⟨u,N,hP,rfl,hN⟩
  exact ⟨by rw [hv u N hP],(hi.join0 hN).perm List.perm_append_comm |>.left⟩
theorem TQ.move {x:Operand}{v:Value}(q0_:ops[i]?=some ⟨some d,.move x,ty,pos,af,g⟩∧Zp ops E g=true∧Nat.ble (d+1) C.n=true∧ev E x=some v)
    (k:TQ C ops Q l ((d,v)::E) H):TQ C ops Q (i::l) E H:=have ⟨ho,hg,hd,hx⟩:=q0_;
  TQ.val ho hg hd (by simp) (fun a w hf _=>by simp [execOp,hf.ev hx]) k
theorem TQ.assign {x:Operand}{v:Value}(q0_:ops[i]?=some ⟨some d,.assign x,ty,pos,af,g⟩∧Zp ops E g=true∧Nat.ble (d+1) C.n=true∧ev E x=some v)
    (k:TQ C ops Q l ((d,v)::E) H):TQ C ops Q (i::l) E H:=have ⟨ho,hg,hd,hx⟩:=q0_;
  TQ.val ho hg hd (by simp) (fun a w hf _=>by simp [execOp,hf.ev hx]) k
theorem Z0b {c x y:Operand}{v:Value}(q0_:ops[i]?=some ⟨some d,.pick c x y,ty,pos,af,g⟩∧Zp ops E g=true∧Nat.ble (d+1) C.n=true∧ev E c=some (.bool true)∧ev E x=some v)(k:TQ C ops Q l ((d,v)::E) H):TQ C ops Q (i::l) E H:=have ⟨ho,hg,hd,hc,hx⟩:=q0_;
  TQ.val ho hg hd (by simp) (fun a w hf _=>by simp [execOp,hf.ev hc,hf.ev hx,asBool]) k
theorem Z8y {c x y:Operand}{v:Value}(q0_:ops[i]?=some ⟨some d,.pick c x y,ty,pos,af,g⟩∧Zp ops E g=true∧Nat.ble (d+1) C.n=true∧ev E c=some (.bool false)∧ev E y=some v)(k:TQ C ops Q l ((d,v)::E) H):TQ C ops Q (i::l) E H:=have ⟨ho,hg,hd,hc,hx⟩:=q0_;
  TQ.val ho hg hd (by simp) (fun a w hf _=>by simp [execOp,hf.ev hc,hf.ev hx,asBool]) k
theorem Kb {op:BinOp}{t t2:TypeId}{x y:Operand}{k:IntKind}{p q:Int}{v:Value}
    (q0_:ops[i]?=some ⟨some d,.binOp op t x y t2,ty,pos,af,g⟩∧Zp ops E g=true∧Nat.ble (d+1) C.n=true∧ev E x=some (.int k p)∧ev E y=some (.int k q)∧Rm op k p q=some v)(kk:TQ C ops Q l ((d,v)::E) H):TQ C ops Q (i::l) E H:=have ⟨ho,hg,hd,hx,hy,hv⟩:=q0_;
  TQ.val ho hg hd (by simp) (fun a w hf _=>by simp [execOp,hf.ev hx,hf.ev hy,eqGuard_at_int,Re hv]) kk
theorem TQ.add {t t2:TypeId}{x y:Operand}{p q:Int}
    (ho:ops[i]?=some ⟨some d,.binOp .add t x y t2,ty,pos,af,g⟩)(hg:Zp ops E g=true)(hd:Nat.ble (d+1) C.n=true)(hx:ev E x=some (.int .i64 p))(hy:ev E y=some (.int .i64 q))
    (h1:-9223372036854775808≤p+q)(h2:p+q≤9223372036854775807)(kk:TQ C ops Q l ((d,.int .i64 (p+q))::E) H):TQ C ops Q (i::l) E H :=
  Kb ⟨ho,hg,hd,hx,hy,(by simp only [Rm];rw [Z3z h1 h2])⟩ kk
theorem TQ.extract {x:Operand}{n:Nat}{vs:Array Value}{v:Value}(q0_:ops[i]?=some ⟨some d,.extract x n,ty,pos,af,g⟩∧Zp ops E g=true∧Nat.ble (d+1) C.n=true∧ev E x=some (.tuple vs)∧vs[n]?=some v)(kk:TQ C ops Q l ((d,v)::E) H):TQ C ops Q (i::l) E H:=have ⟨ho,hg,hd,hx,hv⟩:=q0_;
  TQ.val ho hg hd (by simp) (fun a w hf _=>by simp [execOp,hf.ev hx,Instr.extract,hv]) kk
theorem TQ.fieldAddr {s:TypeId}{x:Operand}{f o b p:Nat}(ho:ops[i]?=some ⟨some d,.fieldAddr s x f,ty,pos,af,g⟩)(hg:Zp ops E g=true)(hd:Nat.ble (d+1) C.n=true)
    (hx:ev E x=some (.pointer (some ⟨b,p,none⟩)))(hT:Wk C.P s f=some o)(kk:TQ C ops Q l ((d,.pointer (some ⟨b,p+o,none⟩))::E) H):TQ C ops Q (i::l) E H :=
  TQ.val ho hg hd (by simp) (fun a w hf _=>by simp [execOp,hf.ev hx,Z9f hT]) kk
theorem Yn {s:TypeId}{x:Operand}{f o b:Nat}(q0_:ops[i]?=some ⟨some d,.fieldAddr s x f,ty,pos,af,g⟩∧Zp ops E g=true∧Nat.ble (d+1) C.n=true∧ev E x=some (.pointer (some ⟨b,0,none⟩)))(hT:Wk C.P s f=some o)(kk:TQ C ops Q l ((d,.pointer (some ⟨b,o,none⟩))::E) H):TQ C ops Q (i::l) E H:=have ⟨ho,hg,hd,hx⟩:=q0_;
  TQ.fieldAddr ho hg hd hx hT (by rw [Nat.zero_add];exact kk)
theorem TQ.load {t:TypeId}{x:Operand}{ad:Addr}{v:Value}(ho:ops[i]?=some ⟨some d,.load t x,ty,pos,af,g⟩)(hg:Zp ops E g=true)(hd:Nat.ble (d+1) C.n=true)
    (hx:ev E x=some (.pointer (some ad)))(hT:Xi C.P t=true)(hc:∀ w,Inv C.w0 C.M w H→w.cell? ad=some v)
    (kk:TQ C ops Q l ((d,v)::E) H):TQ C ops Q (i::l) E H :=
  TQ.val ho hg hd (by simp) (fun a w hf hi=>by simp [execOp,hf.ev hx,Instr.loadAt,Instr.sureAddr,Z7i hT (hc w hi)]) kk
theorem Yw {t T':TypeId}{x:Operand}{b o:Nat}{cs:Array Value}{fr:Nat×Nat}{v:Value}(q0_:ops[i]?=some ⟨some d,.load t x,ty,pos,af,g⟩∧Zp ops E g=true∧Nat.ble (d+1) C.n=true∧ev E x=some (.pointer (some ⟨b,o,none⟩)))(hT:Xi C.P t=true)(hm:(some b,Obj.cells cs T' fr)∈H)(hv:cs[o]?=some v)
    (kk:TQ C ops Q l ((d,v)::E) H):TQ C ops Q (i::l) E H:=have ⟨ho,hg,hd,hx⟩:=q0_;
  TQ.load ho hg hd hx hT (fun w hi=>by rw [hi.cell_own hm];exact hv) kk
theorem TQ.loadS {t:TypeId}{x:Operand}{ad:Addr}{k:Nat}{cs:List Value}(ho:ops[i]?=some ⟨some d,.load t x,ty,pos,af,g⟩)(hg:Zp ops E g=true)(hd:Nat.ble (d+1) C.n=true)
    (hx:ev E x=some (.pointer (some ad)))(hT:Ua C.P t k=true)(hk:cs.length=k)(hc:∀ w,Inv C.w0 C.M w H→∀ j v,cs[j]?=some v→w.cell? (ad.add j)=some v)
    (kk:TQ C ops Q l ((d,.agg cs.toArray)::E) H):TQ C ops Q (i::l) E H :=
  TQ.val ho hg hd (by simp) (fun a w hf hi=>by simp [execOp,hf.ev hx,Instr.loadAt,Instr.sureAddr,Z54 hT hk (hc w hi)]) kk
theorem TQ.loadA {t T':TypeId}{x:Operand}{b k:Nat}{cs:List Value}{fr:Nat×Nat}(q0_:ops[i]?=some ⟨some d,.load t x,ty,pos,af,g⟩∧Zp ops E g=true∧Nat.ble (d+1) C.n=true∧ev E x=some (.pointer (some ⟨b,0,none⟩)))(hT:Ua C.P t k=true)(hm:(some b,Obj.cells cs.toArray T' fr)∈H)(hk:cs.length=k)
    (kk:TQ C ops Q l ((d,.agg cs.toArray)::E) H):TQ C ops Q (i::l) E H:=have ⟨ho,hg,hd,hx⟩:=q0_;
  TQ.loadS ho hg hd hx hT hk (fun w hi j v hv=>by rw [Addr.add_mid,Nat.zero_add,hi.cell_own hm];simpa using hv) kk
theorem TQ.ldI {t T':TypeId}{x:Operand}{b o:Nat}{k:IntKind}{xs:List Int}{j:List Value}{fr:Nat×Nat}(ho:ops[i]?=some ⟨some d,.load t x,ty,pos,af,g⟩)(hg:Zp ops E g=true)(hd:Nat.ble (d+1) C.n=true)
    (hx:ev E x=some (.pointer (some ⟨b,o,none⟩)))(hT:Xi C.P t=true)(hm:(some b,Obj.cells (arr (intC k) xs j).toArray T' fr)∈H)(hv:o<xs.length)
    (kk:TQ C ops Q l ((d,.int k (xs.getD o 0))::E) H):TQ C ops Q (i::l) E H :=
  Yw ⟨ho,hg,hd,hx⟩ hT hm (by
    have:=Z4i (f:=intC k) (s:=1) (fun _=>rfl) 0 xs j o 0 hv (by omega)
    simpa using this) kk
theorem Zbo {t e:TypeId}{x y:Operand}{base:Option Addr}{n c s:Nat}{k:IntKind}{p:Int}(ho:ops[i]?=some ⟨some d,.indexAddr t x y,ty,pos,af,g⟩)(hg:Zp ops E g=true)(hd:Nat.ble (d+1) C.n=true)
    (hx:ev E x=some (.slice base n c))(hy:ev E y=some (.int k p))(ht:Ym C.P t=some e)(hs:Yg C.P e=some s)(hb:base=none→n=0)(h0:0≤p)(h1:p<n)
    (kk:TQ C ops Q l ((d,.pointer (some (ea base (p.toNat*s))))::E) H):TQ C ops Q (i::l) E H :=
  TQ.val ho hg hd (by simp) (fun a w hf hi=>by
    cases base with
    | none=>exact absurd h1 (by simp [hb rfl];omega)
    | some b =>
      have hu:=Vg ht
      simp [execOp,hf.ev hx,hf.ev hy,Instr.indexAt,asIntOf,run_underlying hu,h0,h1,Uv hs,ea]) kk
theorem TQ.index {t e:TypeId}{x y:Operand}{b o n c s:Nat}{k:IntKind}{p:Int}(ho:ops[i]?=some ⟨some d,.indexAddr t x y,ty,pos,af,g⟩)(hg:Zp ops E g=true)(hd:Nat.ble (d+1) C.n=true)
    (hx:ev E x=some (.slice (some ⟨b,o,none⟩) n c))(hy:ev E y=some (.int k p))(ht:Ym C.P t=some e)(hs:Yg C.P e=some s)(h0:0≤p)(h1:p<n)
    (kk:TQ C ops Q l ((d,.pointer (some ⟨b,o+p.toNat*s,none⟩))::E) H):TQ C ops Q (i::l) E H :=
  Zbo ho hg hd hx hy ht hs (by simp) h0 h1 (by simpa [ea,Addr.add_mid] using kk)
theorem Zhn {t e:TypeId}{x y:Operand}{b n c s:Nat}{k:IntKind}{p:Int}(ho:ops[i]?=some ⟨some d,.indexAddr t x y,ty,pos,af,g⟩)(hg:Zp ops E g=true)(hd:Nat.ble (d+1) C.n=true)
    (hx:ev E x=some (.slice (some ⟨b,0,none⟩) n c))(hy:ev E y=some (.int k p))(ht:Ym C.P t=some e)(hs:Yg C.P e=some s)(h0:0≤p)(h1:p<n)
    (kk:TQ C ops Q l ((d,.pointer (some ⟨b,p.toNat*s,none⟩))::E) H):TQ C ops Q (i::l) E H :=
  TQ.index ho hg hd hx hy ht hs h0 h1 (by rw [Nat.zero_add];exact kk)
theorem Zj8 {t e:TypeId}{x y:Operand}{b n c:Nat}{k:IntKind}{p:Int}(ho:ops[i]?=some ⟨some d,.indexAddr t x y,ty,pos,af,g⟩)(hg:Zp ops E g=true)(hd:Nat.ble (d+1) C.n=true)
    (hx:ev E x=some (.slice (some ⟨b,0,none⟩) n c))(hy:ev E y=some (.int k p))(ht:Ym C.P t=some e)(hs:Yg C.P e=some 1)(h0:0≤p)(h1:p<n)
    (kk:TQ C ops Q l ((d,.pointer (some ⟨b,p.toNat,none⟩))::E) H):TQ C ops Q (i::l) E H :=
  Zhn ho hg hd hx hy ht hs h0 h1 (by rw [Nat.mul_one];exact kk)
theorem TQ.len {t:TypeId}{at':Array TypeId}{x:Operand}{e:TypeId}{base:Option Addr}{n c:Nat}
    (ho:ops[i]?=some ⟨some d,.call ⟨.builtin .len,#[x],at'⟩,ty,pos,af,g⟩)(hg:Zp ops E g=true)(hd:Nat.ble (d+1) C.n=true)(hat:at'[0]?=some t)
    (hx:ev E x=some (.slice base n c))(ht:Ym C.P t=some e)(kk:TQ C ops Q l ((d,.int .i64 n)::E) H):TQ C ops Q (i::l) E H :=
  TQ.val ho hg hd (by simp) (fun a w hf _=>by
    simp [execOp,resolve,invoke,builtin,hf.ev hx,Builtin.len_,hat,run_underlying (Vg ht),goInt]) kk
theorem Rn {α:Type}{t:TypeId}{at':Array TypeId}{x:Operand}{e:TypeId}{base:Option Addr}{n c:Nat}{xs:List α}(hn:xs.length=n)
    (q0_:ops[i]?=some ⟨some d,.call ⟨.builtin .len,#[x],at'⟩,ty,pos,af,g⟩∧Zp ops E g=true∧Nat.ble (d+1) C.n=true∧at'[0]?=some t∧ev E x=some (.slice base n c))(ht:Ym C.P t=some e)(kk:TQ C ops Q l ((d,.int .i64 (xs.length:Int))::E) H):TQ C ops Q (i::l) E H:=have ⟨ho,hg,hd,hat,hx⟩:=q0_;
  TQ.len ho hg hd hat hx ht (by rw [←hn];exact kk)
theorem Kf {α:Type}{f:α→List Value}{M:List Nat}{w:World}{xs:List α}{t e:TypeId}{x y:Operand}{base:Option Addr}{n c s:Nat}{k:IntKind}{p:Int}(hr:RS w M f s base n c xs)(hp:inb p xs.length)
    (q0_:ops[i]?=some ⟨some d,.indexAddr t x y,ty,pos,af,g⟩∧Zp ops E g=true∧Nat.ble (d+1) C.n=true∧ev E x=some (.slice base n c)∧ev E y=some (.int k p))(ht:Ym C.P t=some e)(hs:Yg C.P e=some s)
    (kk:TQ C ops Q l ((d,.pointer (some (ea base (p.toNat*s))))::E) H):TQ C ops Q (i::l) E H:=have ⟨ho,hg,hd,hx,hy⟩:=q0_;
  Zbo ho hg hd hx hy ht hs hr.ro.nil hp.1 (by have:=hp.2;rw [hr.len] at this;exact this) kk
theorem Z1u {α:Type}{xs:List α}{t e:TypeId}{x y:Operand}{b n c:Nat}{k:IntKind}{p:Int}(hn:xs.length=n)(hp:inb p xs.length)
    (q0_:ops[i]?=some ⟨some d,.indexAddr t x y,ty,pos,af,g⟩∧Zp ops E g=true∧Nat.ble (d+1) C.n=true∧ev E x=some (.slice (some ⟨b,0,none⟩) n c)∧ev E y=some (.int k p))(ht:Ym C.P t=some e)(hs:Yg C.P e=some 1)
    (kk:TQ C ops Q l ((d,.pointer (some ⟨b,p.toNat,none⟩))::E) H):TQ C ops Q (i::l) E H:=have ⟨ho,hg,hd,hx,hy⟩:=q0_;
  Zj8 ho hg hd hx hy ht hs hp.1 (by have:=hp.2;rw [hn] at this;exact this) kk
theorem Nl {t:TypeId}{x:Operand}{base:Option Addr}{n c:Nat}{k:IntKind}{p:Int}{xs:List Int}(hr:RS C.w0 C.M (intC k) 1 base n c xs)(hp:inb p xs.length)(q0_:ops[i]?=some ⟨some d,.load t x,ty,pos,af,g⟩∧Zp ops E g=true∧Nat.ble (d+1) C.n=true∧ev E x=some (.pointer (some (ea base (p.toNat*1)))))(hT:Xi C.P t=true)
    (kk:TQ C ops Q l ((d,.int k (xs.getD p.toNat 0))::E) H):TQ C ops Q (i::l) E H:=have ⟨ho,hg,hd,hx⟩:=q0_;
  TQ.load ho hg hd hx hT (fun w hi=>by
    have:=(hr.ro.monoM hr.far hi).at 0 (o:=p.toNat) (c:=0) (Ue hp) (by omega)
    simpa using this) kk
theorem Z4w {t:TypeId}{x:Operand}{base:Option Addr}{n c:Nat}{p:Int}{xs:List Bool}(hr:RS C.w0 C.M boolC 1 base n c xs)(hp:inb p xs.length)(q0_:ops[i]?=some ⟨some d,.load t x,ty,pos,af,g⟩∧Zp ops E g=true∧Nat.ble (d+1) C.n=true∧ev E x=some (.pointer (some (ea base (p.toNat*1)))))(hT:Xi C.P t=true)
    (kk:TQ C ops Q l ((d,.bool (xs.getD p.toNat false))::E) H):TQ C ops Q (i::l) E H:=have ⟨ho,hg,hd,hx⟩:=q0_;
  TQ.load ho hg hd hx hT (fun w hi=>by
    have:=(hr.ro.monoM hr.far hi).at false (o:=p.toNat) (c:=0) (Ue hp) (by omega)
    simpa using this) kk
theorem TQ.ldFR {α:Type}{f:α→List Value}{s:Nat}{t:TypeId}{x:Operand}{base:Option Addr}{n c q:Nat}{p:Int}{xs:List α}{v:Value}(dflt:α)(hr:RS C.w0 C.M f s base n c xs)(hp:inb p xs.length)(hv:(f (xs.getD p.toNat dflt))[q]?=some v)
    (ho:ops[i]?=some ⟨some d,.load t x,ty,pos,af,g⟩)(hg:Zp ops E g=true)(hd:Nat.ble (d+1) C.n=true)
    (hx:ev E x=some (.pointer (some (ea base (p.toNat*s+q)))))(hT:Xi C.P t=true)
    (kk:TQ C ops Q l ((d,v)::E) H):TQ C ops Q (i::l) E H :=
  TQ.load ho hg hd hx hT (fun w hi=>by
    have hqs:q<s:=by rw [←hr.ro.wide (xs.getD p.toNat dflt)];exact (List.getElem?_eq_some_iff.1 hv).1
    have:=(hr.ro.monoM hr.far hi).at dflt (o:=p.toNat) (c:=q) (Ue hp) hqs
    exact this.trans hv) kk
theorem Z25 {t T':TypeId}{x:Operand}{b:Nat}{k:IntKind}{p:Int}{xs:List Int}{j:List Value}{fr:Nat×Nat}(hp:inb p xs.length)(q0_:ops[i]?=some ⟨some d,.load t x,ty,pos,af,g⟩∧Zp ops E g=true∧Nat.ble (d+1) C.n=true∧ev E x=some (.pointer (some ⟨b,p.toNat,none⟩)))(hT:Xi C.P t=true)(hm:(some b,Obj.cells (arr (intC k) xs j).toArray T' fr)∈H)
    (kk:TQ C ops Q l ((d,.int k (xs.getD p.toNat 0))::E) H):TQ C ops Q (i::l) E H:=have ⟨ho,hg,hd,hx⟩:=q0_;TQ.ldI ho hg hd hx hT hm (Ue hp) kk
theorem Lq {t t2:TypeId}{x y:Operand}{p q:Int}(h:i64ok (p+q))(q0_:ops[i]?=some ⟨some d,.binOp .add t x y t2,ty,pos,af,g⟩∧Zp ops E g=true∧Nat.ble (d+1) C.n=true∧ev E x=some (.int .i64 p)∧ev E y=some (.int .i64 q))
    (kk:TQ C ops Q l ((d,.int .i64 (p+q))::E) H):TQ C ops Q (i::l) E H:=have ⟨ho,hg,hd,hx,hy⟩:=q0_;TQ.add ho hg hd hx hy h.1 h.2 kk
theorem Um {t:TypeId}{x:Operand}{b o:Nat}{cs:List Value}{v:Value}(hc:HB C.w0 C.M b cs)(q0_:ops[i]?=some ⟨some d,.load t x,ty,pos,af,g⟩∧Zp ops E g=true∧Nat.ble (d+1) C.n=true∧ev E x=some (.pointer (some ⟨b,o,none⟩))∧cs[o]?=some v)(hT:Xi C.P t=true)
    (kk:TQ C ops Q l ((d,v)::E) H):TQ C ops Q (i::l) E H:=have ⟨ho,hg,hd,hx,hv⟩:=q0_;TQ.load ho hg hd hx hT (fun w hi=>hi.cell_old (hc.has o v hv) hc.far) kk
theorem TQ.slL {α:Type}{xs:List α}{t e:TypeId}{x y:Operand}{base:Option Addr}{n c s:Nat}{k:IntKind}{p:Int}(hn:xs.length=n)(hp:0≤p∧p≤(xs.length:Int))
    (q0_:ops[i]?=some ⟨some d,.slice t x (some y) none none,ty,pos,af,g⟩∧Zp ops E g=true∧Nat.ble (d+1) C.n=true∧ev E x=some (.slice base n c)∧ev E y=some (.int k p))(ht:Ym C.P t=some e)(hs:Yg C.P e=some s)
    (kk:TQ C ops Q l ((d,.slice (Kk base p.toNat c s) (n-p.toNat) (c-p.toNat))::E) H):TQ C ops Q (i::l) E H:=have ⟨ho,hg,hd,hx,hy⟩:=q0_;
  TQ.val ho hg hd (by simp) (fun a w hf hi=>by
    have hu:=Vg ht
    have h1:0≤p∧p≤(n:Int):=by rw [hn] at hp;exact hp
    simp [execOp,hf.ev hx,hf.ev hy,Instr.sliceAt,Instr.slice,Instr.sliceBounds,Instr.sliceBound,asIntOf,run_underlying hu,h1.1,h1.2,Uv hs,Kk]) kk
end rules
end Go.Acq
namespace Go.Acq
open Go Go.RowKit
theorem Z3i {α:Type}{xs:List α}{k:Nat}(h:Nat.blt k xs.length=true):inb (k:Int) xs.length:=⟨Int.natCast_nonneg k,Int.ofNat_lt.2 (Nat.le_of_ble_eq_true h)⟩
section rules
variable {C : Cx} {ops : Array Oper} {Q : Exit → Act → World → Prop} {l : List Nat} {E : Env} {H R : Heap} {i d : Nat} {ty : TypeId} {pos : String} {af : Array Edge} {g : Option (Nat × Bool)}
end rules
end Go.Acq
namespace Go.Acq
open Go Go.RowKit
section
variable {C : Cx} {Q : Exit → Act → World → Prop} {E : Env} {H : Heap} {c x y : Code}
end
end Go.Acq
namespace Go.Acq
open Go
def band (k:IntKind)(x y:Int):Int:=k.wrap ((BitVec.ofInt k.bits x &&& BitVec.ofInt k.bits y).toNat)
end Go.Acq
namespace Go.Acq
open Go Go.RowKit
theorem Zh {α:Type}{x:α}{l:List α}:x∈x::l:=.head _
theorem Yk {α:Type}{a0 x:α}{l:List α}:x∈a0::x::l:=.tail _ Zh
theorem Wj {α:Type}{a0 a1 x:α}{l:List α}:x∈a0::a1::x::l:=.tail _ Yk
theorem Un {α:Type}{a0 a1 a2 x:α}{l:List α}:x∈a0::a1::a2::x::l:=.tail _ Wj
theorem Vo {α:Type}{a0 a1 a2 a3 x:α}{l:List α}:x∈a0::a1::a2::a3::x::l:=.tail _ Un
theorem Vl {α:Type}{a0 a1 a2 a3 a4 x:α}{l:List α}:x∈a0::a1::a2::a3::a4::x::l:=.tail _ Vo
theorem mm6 {α:Type}{a0 a1 a2 a3 a4 a5 x:α}{l:List α}:x∈a0::a1::a2::a3::a4::a5::x::l:=.tail _ Vl
theorem mm7 {α:Type}{a0 a1 a2 a3 a4 a5 a6 x:α}{l:List α}:x∈a0::a1::a2::a3::a4::a5::a6::x::l:=.tail _ mm6
theorem Us {α:Type}{a0 a1 a2 a3 a4 a5 a6 a7 x:α}{l:List α}:x∈a0::a1::a2::a3::a4::a5::a6::a7::x::l:=.tail _ mm7
theorem mm9 {α:Type}{a0 a1 a2 a3 a4 a5 a6 a7 a8 x:α}{l:List α}:x∈a0::a1::a2::a3::a4::a5::a6::a7::a8::x::l:=.tail _ Us
theorem Nc {α:Type}{a0 a1 a2 a3 a4 a5 a6 a7 a8 a9 x:α}{l:List α}:x∈a0::a1::a2::a3::a4::a5::a6::a7::a8::a9::x::l:=.tail _ mm9
theorem Ze {x:Option Nat×Obj}{l:Heap}:Take x (x::l) (l):=Take.head _ _
theorem Zn {a0 x:Option Nat×Obj}{l:Heap}:Take x (a0::x::l) (a0::l):=Take.tail Ze
theorem Yo {a0 a1 x:Option Nat×Obj}{l:Heap}:Take x (a0::a1::x::l) (a0::a1::l):=Take.tail Zn
theorem Ul {a0 a1 a2 x:Option Nat×Obj}{l:Heap}:Take x (a0::a1::a2::x::l) (a0::a1::a2::l):=Take.tail Yo
theorem Nf {a0 a1 a2 a3 x:Option Nat×Obj}{l:Heap}:Take x (a0::a1::a2::a3::x::l) (a0::a1::a2::a3::l):=Take.tail Ul
theorem Jl {a0 a1 a2 a3 a4 x:Option Nat×Obj}{l:Heap}:Take x (a0::a1::a2::a3::a4::x::l) (a0::a1::a2::a3::a4::l):=Take.tail Nf
theorem Gg {a0 a1 a2 a3 a4 a5 x:Option Nat×Obj}{l:Heap}:Take x (a0::a1::a2::a3::a4::a5::x::l) (a0::a1::a2::a3::a4::a5::l):=Take.tail Jl
theorem tk7 {a0 a1 a2 a3 a4 a5 a6 x:Option Nat×Obj}{l:Heap}:Take x (a0::a1::a2::a3::a4::a5::a6::x::l) (a0::a1::a2::a3::a4::a5::a6::l):=Take.tail Gg
theorem tk8 {a0 a1 a2 a3 a4 a5 a6 a7 x:Option Nat×Obj}{l:Heap}:Take x (a0::a1::a2::a3::a4::a5::a6::a7::x::l) (a0::a1::a2::a3::a4::a5::a6::a7::l):=Take.tail tk7
theorem tk9 {a0 a1 a2 a3 a4 a5 a6 a7 a8 x:Option Nat×Obj}{l:Heap}:Take x (a0::a1::a2::a3::a4::a5::a6::a7::a8::x::l) (a0::a1::a2::a3::a4::a5::a6::a7::a8::l):=Take.tail tk8
theorem Gone.refl (R:Heap):List.Perm R ([]++R):=List.Perm.refl R
section rules
variable {C : Cx} {ops : Array Oper} {Q : Exit → Act → World → Prop} {l : List Nat} {E : Env} {H R : Heap} {i d : Nat} {ty : TypeId} {pos : String} {af : Array Edge} {g : Option (Nat × Bool)}
theorem TO.nilCheck {x:Operand}{p:Addr}(q0_:ops[i]?=some ⟨some d,.nilCheck x,ty,pos,af,g⟩∧Zp ops E g=true∧Nat.ble (d+1) C.n=true∧ev E x=some (.pointer (some p)))
    (k:TO C ops Q l ((d,.pointer (some p))::E) H):TO C ops Q (i::l) E H:=have ⟨ho,hg,hd,hx⟩:=q0_;
  TO.val ho hg hd (by simp) (fun a w hf _=>by simp [execOp,hf.ev hx]) k
end rules
section rules
variable {C : Cx} {ops : Array Oper} {Q : Act → Prop} {l : List Nat} {E : Env} {H R : Heap} {i d : Nat} {ty : TypeId} {pos : String} {af : Array Edge} {g : Option (Nat × Bool)}
theorem TQ.nilCheck {x:Operand}{p:Addr}(q0_:ops[i]?=some ⟨some d,.nilCheck x,ty,pos,af,g⟩∧Zp ops E g=true∧Nat.ble (d+1) C.n=true∧ev E x=some (.pointer (some p)))
    (k:TQ C ops Q l ((d,.pointer (some p))::E) H):TQ C ops Q (i::l) E H:=have ⟨ho,hg,hd,hx⟩:=q0_;
  TQ.val ho hg hd (by simp) (fun a w hf _=>by simp [execOp,hf.ev hx]) k
end rules
section draw
variable {C : Cx} {ops : Array Oper} {Q : Exit → Act → World → Prop} {E : Env} {H : Heap}
theorem Z52 {A B Tl:Heap}(X Hx:Heap):List.Perm (X++((A++Tl)++(B++Hx))) (X++(A++(B++(Tl++Hx)))):=by
 refine List.Perm.append_left X ?_
 rw [List.append_assoc]
 refine List.Perm.append_left A ?_
 rw [←List.append_assoc,←List.append_assoc]
 exact List.Perm.append_right Hx List.perm_append_comm
theorem ObQ.tail {S:List Sp}{W:Env}{Hc:Heap}{i:Nat}(Tl:Heap)(h:ObQ C ops Q S W Hc i):ObQ C ops Q S W (Hc++Tl) i:=by
 intro vs es Es Hx hr a w hf hi
 refine Z3r (l2:=[]) (fun e a w hne hq=>?_) (fun a w hq=>?_) [i] a w (h vs es Es (Tl++Hx) hr a w hf (hi.perm (Z52 [] Hx)))
 ·cases e <;> first | exact absurd rfl hne | exact hq
 ·
  obtain ⟨v,e',h1,h2,h3⟩:=hq
  exact ⟨v,e',h1,h2,h3.perm (Z52 e' Hx).symm⟩
end draw
end Go.Acq
namespace Go.Acq
open Go Go.RowKit
section
variable {C : Cx} {ops : Array Oper} {Q : Exit → Act → World → Prop} {l : List Nat} {i d : Nat} {E : Env} {H : Heap} {ty : TypeId} {pos : String} {af : Array Edge} {g : Option (Nat × Bool)}
end
end Go.Acq
namespace Go.Acq
open Go
structure Chan where
  cap:Nat
  buf:List Int
  deriving DecidableEq
instance:Inhabited Chan:=⟨⟨0,[]⟩⟩
end Go.Acq
namespace Go.Acq
open Go Go.RowKit Go.Conc
section
variable {C : Cx} {Q : Exit → Act → World → Prop} {E E' : Env} {H H' R : Heap} {x y c : Code} {ops : Array Oper} {l : List Nat} {i d : Nat} {ty : TypeId} {pos : String} {af : Array Edge} {g : Option (Nat × Bool)}
theorem Z0p {t T':TypeId}{x:Operand}{b o k:Nat}{cs vs:List Value}{fr:Nat×Nat}(q0_:ops[i]?=some ⟨some d,.load t x,ty,pos,af,g⟩∧Zp ops E g=true∧Nat.ble (d+1) C.n=true∧ev E x=some (.pointer (some ⟨b,o,none⟩)))(hT:Ua C.P t k=true)(hm:(some b,Obj.cells cs.toArray T' fr)∈H)(q1_:(cs.drop o).take k=vs∧vs.length=k)
    (kk:TO C ops Q l ((d,.agg vs.toArray)::E) H):TO C ops Q (i::l) E H:=have ⟨ho,hg,hd,hx⟩:=q0_;have ⟨hv,hk⟩:=q1_;
  Z4f ho hg hd hx hT hk (fun w hi j v hj=>by
    rw [Addr.add_mid,hi.cell_own hm]
    subst hv
    rw [List.getElem?_take] at hj
    split at hj
    ·rw [List.getElem?_drop] at hj;simpa using hj
    ·cases hj) kk
end
end Go.Acq
namespace Go.Acq
open Go Go.RowKit
def eqFs (P:Program):List Field→List IntKind→Nat→Bool
  | [],[],_=>true
  | f::fs,k::ks,o=>f.name != "_"&&Nat.beq f.offset o&&(match P.underlying f.type with | some (.int q)=>decide (q=k) | _=>false)&&eqFs P fs ks (o+1)
  | _,_,_=>false
def eqsT (P:Program)(t:TypeId)(ks:List IntKind):Bool :=
  (match P.underlying t with | some (.struct fs)=>eqFs P fs.toList ks 0 | _=>false)&&!P.stoodInHeld t&&!P.eqGuardType P.depth t
theorem Zba {P:Program}{w:World}{n:Nat}{xs ys:Array Value}:∀ (fs:List Field) (ks:List IntKind) (o:Nat) (us ws:List Int),eqFs P fs ks o=true→us.length=ks.length→ws.length=ks.length →
    (∀ i,i<ks.length→xs[o+i]?=some (.int (ks.getD i .i64) (us.getD i 0))∧ys[o+i]?=some (.int (ks.getD i .i64) (ws.getD i 0)))→(Op.eqFields (n+1) xs ys fs).run P w=.ok (decide (us=ws)) w
  | [],[],_,[],[],_,_,_,_=>by simp [Op.eqFields]
  | f::fs,k::ks,o,a::us,b::ws,h,ha,hb,hx=>by
    simp only [eqFs,Bool.and_eq_true,bne_iff_ne,ne_eq] at h
    obtain ⟨⟨⟨h1,h2⟩,h3⟩,h4⟩:=h
    have h2:f.offset=o:=Nat.eq_of_beq_eq_true h2
    split at h3
    · rename_i q hq
      have h3:q=k:=of_decide_eq_true h3
      subst h3
      have h0:=hx 0 (by simp)
      simp only [Nat.add_zero,List.getD_cons_zero] at h0
      have ih:=Zba (w:=w) (n:=n) fs ks (o+1) us ws h4 (by simpa using ha) (by simpa using hb) (fun i hi=>by
        have:=hx (i+1) (by simpa using hi)
        simp only [List.getD_cons_succ] at this
        rwa [show o+1+i=o+(i+1) by omega])
      have hagg:∀ w,(isAgg f.type).run P w=.ok false w:=fun w=>by simp [isAgg,run_underlying hq]
      have hp:∀ (cs:Array Value) v,cs[f.offset]?=some v→∀ w,(part f.type cs f.offset).run P w=.ok v w:=fun cs v hv w=>by
        simp [part,hagg,hv]
      rw [←h2] at h0
      simp only [Op.eqFields,h1,not_false_eq_true,ne_eq,if_true]
      simp only [Sem.run_bind,hp _ _ h0.1,hp _ _ h0.2,Result.andThen_ok,run_equalIn_int w n f.type q q a b hq]
      by_cases hab:a=b
      · subst hab
        simp [ih]
      ·simp [hab]
    ·cases h3
section rules
variable {C : Cx} {ops : Array Oper} {Q : Exit → Act → World → Prop} {l : List Nat} {E : Env} {H R : Heap} {i d : Nat} {ty : TypeId} {pos : String} {af : Array Edge} {g : Option (Nat × Bool)}
theorem eqsT_run {P:Program}{t:TypeId}{ks:List IntKind}{us ws:List Int}(h:eqsT P t ks=true)(ha:us.length=ks.length)(hb:ws.length=ks.length)(w:World) :
    (Op.equal t (.agg ((ks.zip us).map fun p=>Value.int p.1 p.2).toArray) (.agg ((ks.zip ws).map fun p=>Value.int p.1 p.2).toArray)).run P w=.ok (decide (us=ws)) w:=by
  simp only [eqsT,Bool.and_eq_true,Bool.not_eq_true'] at h
  obtain ⟨⟨h1,h2⟩,h3⟩:=h
  split at h1
  · rename_i fs hfs
    have hf:P.fieldsOf t=fs:=by simp [Program.fieldsOf,hfs]
    have key:∀ (cs:List Int),cs.length=ks.length→∀ i,i<ks.length→(((ks.zip cs).map fun p=>Value.int p.1 p.2).toArray)[0+i]?=some (.int (ks.getD i .i64) (cs.getD i 0)):=fun cs hc i hi=>by
      have e1:ks[i]?=some (ks.getD i .i64):=by simp [List.getD_eq_getElem?_getD,hi]
      have e2:cs[i]?=some (cs.getD i 0):=by simp [List.getD_eq_getElem?_getD,hc,hi]
      rw [Nat.zero_add,List.getElem?_toArray,List.getElem?_map,List.zip,List.getElem?_zipWith,e1,e2]
      rfl
    show (Op.equalIn (9999+1) t _ _).run P w=_
    rw [run_equalIn_agg w 9999 t _ _ (by rw [hf];exact hfs) h2,hf]
    exact Zba (n:=9998) fs.toList ks 0 us ws h1 ha hb fun i hi=>⟨key us ha i hi,key ws hb i hi⟩
  ·cases h1
end rules
end Go.Acq
namespace Go.Acq
open Go Go.RowKit
section
variable {α : Type} {w0 w : World} {M M' : List Nat} {f : α → List Value} {s n c : Nat} {base : Option Addr} {xs ys : List α} {ob : Option Nat} {j : List Value} {H Hm R : Heap} {T' : TypeId} {fr : Nat × Nat}
end
section rules
variable {C : Cx} {ops : Array Oper} {Q : Exit → Act → World → Prop} {l : List Nat} {E : Env} {H R : Heap} {i d : Nat} {ty : TypeId} {pos : String} {af : Array Edge} {g : Option (Nat × Bool)}
theorem X.obQ2 {S:List Sp}{W Es B B':Env}{Hc Hx:Heap}{v v0:Value}{e' De:Heap}{vl:List Value}{H':Heap}(hs:Ys ops i=some d)(hr:Uy S i vl v e')(hH:Pick (e'++(Hc++(De++Hx))) H')(hB:B=B') :
    X C (fun e a w=>match e with
      | .normal=>∃ v e',Uy S i vl v e'∧Fits C.n C.D (Ju (Ys ops i) v (B++(W++Es))) a∧Inv C.w0 C.M w (e'++(Hc++(De++Hx)))
      | e=>Q e a w) .normal ((d,v)::(d,v0)::(B'++(W++Es))) H':=by
  subst hB
  exact fun _ _ hf hi=>⟨v,e',hr,by
    rw [hs]
    exact hf.weak (fun t u h=>by
      have h:find ((d,v)::(B++(W++Es))) t=some u:=h
      rw [Ks] at h ⊢
      split
      ·rename_i e;rw [if_pos e] at h;exact h
      ·rename_i e;rw [if_neg e] at h;rw [Ks,if_neg e];exact h),hi.pick hH⟩
end rules
end Go.Acq
namespace Go.Acq
def Je {α:Type}(z:α)(k:Int×Int):List ((Int×Int)×α)→α
  | []=>z
  | x::xs=>if k=x.1 then x.2 else Je z k xs
end Go.Acq
namespace Go.Acq
open Go Go.RowKit
section
variable {α : Type} {q : IntKind} {f : α → Value} {k : Int × Int} {z v : α}
end
section
variable {P : Program} {w : World} {kt i : TypeId} {q : IntKind}
end
section rules
variable {C : Cx} {ops : Array Oper} {Q : Exit → Act → World → Prop} {l : List Nat} {E : Env} {H R : Heap} {i d : Nat} {ty : TypeId} {pos : String} {af : Array Edge} {g : Option (Nat × Bool)}
variable {α : Type} {q : IntKind} {f : α → Value}
end rules
end Go.Acq
namespace Go.Acq
open Go
end Go.Acq
namespace Go.Acq
open Go Go.RowKit
section rules
variable {C : Cx} {ops : Array Oper} {Q : Exit → Act → World → Prop} {l : List Nat} {E : Env} {H R : Heap} {i d : Nat} {ty : TypeId} {pos : String} {af : Array Edge} {g : Option (Nat × Bool)}
end rules
end Go.Acq
namespace Go.Acq
open Go Go.RowKit
section rules
variable {C : Cx} {ops : Array Oper} {Q : Exit → Act → World → Prop} {l : List Nat} {E : Env} {H R : Heap} {i d : Nat} {ty : TypeId} {pos : String} {af : Array Edge} {g : Option (Nat × Bool)}
end rules
end Go.Acq
