/- Texts of this claim, one behind the other. -/
import Derived.WalkKit
import Derived.RangeFuncIn
import Derived.CallsIn
import Derived.Deep.AppendSrc
import Derived.Deep.MidRow
import Derived.Great.BuildSlice
import Derived.KernelRfl
import Derived.OrdersIn
import Derived.Maps.RangeRun
set_option linter.unusedVariables false
set_option linter.unusedSimpArgs false
namespace Go.Acq
open Go Go.RowKit
theorem Yt {α β:Type}{a:α}{b:β}:a=a∧b=b:=⟨rfl,rfl⟩
theorem Zu {α β γ:Type}{a:α}{b:β}{c:γ}:a=a∧b=b∧c=c:=⟨rfl,rfl,rfl⟩
theorem Za {α β γ δ:Type}{a:α}{b:β}{c:γ}{d:δ}:a=a∧b=b∧c=c∧d=d:=⟨rfl,rfl,rfl,rfl⟩
theorem Zf {α β γ δ ε:Type}{a:α}{b:β}{c:γ}{d:δ}{e:ε}:a=a∧b=b∧c=c∧d=d∧e=e:=⟨rfl,rfl,rfl,rfl,rfl⟩
theorem Zx {α β γ δ ε ζ:Type}{a:α}{b:β}{c:γ}{d:δ}{e:ε}{f:ζ}:a=a∧b=b∧c=c∧d=d∧e=e∧f=f:=⟨rfl,rfl,rfl,rfl,rfl,rfl⟩
theorem rr7 {α β γ δ ε ζ η:Type}{a:α}{b:β}{c:γ}{d:δ}{e:ε}{f:ζ}{g:η}:a=a∧b=b∧c=c∧d=d∧e=e∧f=f∧g=g:=⟨rfl,rfl,rfl,rfl,rfl,rfl,rfl⟩
theorem rr8 {α β γ δ ε ζ η θ:Type}{a:α}{b:β}{c:γ}{d:δ}{e:ε}{f:ζ}{g:η}{h:θ}:a=a∧b=b∧c=c∧d=d∧e=e∧f=f∧g=g∧h=h:=⟨rfl,rfl,rfl,rfl,rfl,rfl,rfl,rfl⟩
theorem rr9 {α β γ δ ε ζ η θ ι:Type}{a:α}{b:β}{c:γ}{d:δ}{e:ε}{f:ζ}{g:η}{h:θ}{i:ι}:a=a∧b=b∧c=c∧d=d∧e=e∧f=f∧g=g∧h=h∧i=i:=⟨rfl,rfl,rfl,rfl,rfl,rfl,rfl,rfl,rfl⟩
abbrev Env:=List (Nat×Value)
abbrev Heap:=List (Option Nat×Obj)
def find:Env→Nat→Option Value
  | [],_=>none
  | (d,v)::E,t=>cond (Nat.beq d t) (some v) (find E t)
def ev (E:Env):Operand→Option Value
  | .tmp t=>find E t
  | .const v=>some v
  | .global g=>some (.pointer (some ⟨g,0,none⟩))
  | .func f=>some (.func (.func f) #[] #[])
structure Fits (n:Nat)(D:List Deferred)(E:Env)(a:Act):Prop where
  size:a.tmps.size=n
  defers:a.defers=D
  get:∀ t v,find E t=some v→a.tmps.getD t undef=v
section fits
variable {n : Nat} {D : List Deferred} {E E' : Env} {a : Act} {x : Operand} {v : Value} {d : Nat}
theorem Fits.ev (h:Fits n D E a)(hx:ev E x=some v):a.eval x=v:=by
 cases x with
 | tmp t=>exact h.get t v hx
 | const u=>simpa [Acq.ev,Act.eval] using hx
 | global g=>simpa [Acq.ev,Act.eval] using hx
 | func f=>simpa [Acq.ev,Act.eval] using hx
theorem Kv (d t:Nat)(v:Value)(E:Env):find ((d,v)::E) t=if d=t then some v else find E t:=by
 simp only [find]
 by_cases h:d=t
 ·subst h;simp
 ·
  rw [if_neg h]
  have:Nat.beq d t=false:=by
   cases hb:Nat.beq d t
   ·rfl
   ·exact absurd (Nat.eq_of_beq_eq_true hb) h
  simp [this]
theorem Fits.put (h:Fits n D E a)(hd:Nat.ble (d+1) n=true)(v:Value):Fits n D ((d,v)::E) (a.put (some d) v):=by
 have hdn:d<n:=Nat.le_of_ble_eq_true hd
 refine ⟨by simpa [Act.put] using h.size,h.defers,fun t u hu=>?_⟩
 rw [Kv] at hu
 by_cases e:d=t
 ·
  subst e
  rw [if_pos rfl] at hu
  simp only [Act.put,Array.getD_eq_getD_getElem?]
  have:d<a.tmps.size:=by rw [h.size];exact hdn
  simp [this]
  simpa using hu
 ·
  rw [if_neg e] at hu
  have:=h.get t u hu
  simp only [Act.put,Array.getD_eq_getD_getElem?] at *
  simp [e,this]
theorem Fits.putNone (h:Fits n D E a)(v:Value):Fits n D E (a.put none v):=h
theorem Fits.weak (h:Fits n D E a)(hs:∀ t v,find E' t=some v→find E t=some v):Fits n D E' a:=⟨h.size,h.defers,fun t v hv=>h.get t v (hs t v hv)⟩
end fits
def AllF:Env→Env→Prop
  | [],_=>True
  | (t,v)::L,E=>find E t=some v∧AllF L E
theorem AllF.sub:∀ {L E:Env},AllF L E→∀ t v,find L t=some v→find E t=some v
 | [],_,_,t,v,h=>by simp [find] at h
 | (d,u)::L,E,⟨h1,h2⟩,t,v,h=>by
  rw [Kv] at h
  by_cases e:d=t
  ·subst e;rw [if_pos rfl] at h;rw [h1];exact h
  ·rw [if_neg e] at h;exact AllF.sub h2 t v h
def wo:List Nat→Env→Env
  | _,[]=>[]
  | D,(t,v)::E=>cond (D.any (Nat.beq t)) (wo D E) ((t,v)::wo (t::D) E)
theorem any_beq {t:Nat}:∀ {D:List Nat},D.any (Nat.beq t)=true↔t∈D
 | []=>by simp
 | d::D=>by
  simp only [List.any_cons,Bool.or_eq_true,List.mem_cons,any_beq]
  constructor
  ·
   rintro (h | h)
   ·exact .inl (Nat.eq_of_beq_eq_true h)
   ·exact .inr h
  ·
   rintro (rfl | h)
   ·exact .inl (by simp)
   ·exact .inr h
theorem Z4j:∀ (E:Env) (D:List Nat) (t:Nat) (v:Value),find (wo D E) t=some v→t∉D∧find E t=some v
 | [],D,t,v,h=>by simp [wo,find] at h
 | (d,u)::E,D,t,v,h=>by
  simp only [wo] at h
  cases hb:D.any (Nat.beq d) with
  | true =>
   rw [hb] at h
   obtain ⟨h1,h2⟩:=Z4j E D t v h
   refine ⟨h1,?_⟩
   rw [Kv,if_neg]
   ·exact h2
   ·rintro rfl;exact h1 (any_beq.1 hb)
  | false =>
   rw [hb] at h
   simp only [cond_false] at h
   rw [Kv] at h
   by_cases e:d=t
   ·
    subst e
    rw [if_pos rfl] at h
    refine ⟨fun hm=>?_,by rw [Kv,if_pos rfl];exact h⟩
    rw [any_beq.2 hm] at hb;cases hb
   ·
    rw [if_neg e] at h
    obtain ⟨h1,h2⟩:=Z4j E (d::D) t v h
    exact ⟨fun hm=>h1 (.tail _ hm),by rw [Kv,if_neg e];exact h2⟩
theorem Nv (L E:Env)(t:Nat):find (L++E) t=(find L t).or (find E t):=by
 induction L with
 | nil=>simp [find]
 | cons p L ih =>
  obtain ⟨d,v⟩:=p
  rw [List.cons_append,Kv,Kv]
  split
  ·simp
  ·exact ih
structure Inv (w0:World)(M:List Nat)(w:World)(H:Heap):Prop where
  os:w.os=w0.os
  tape:w.tape=w0.tape
  output:w.output=w0.output
  size:w0.heap.size≤w.heap.size
  keep:∀ b,b<w0.heap.size→b∉M→w.heap[b]?=w0.heap[b]?
  own:∀ b o,(some b,o)∈H→w.heap[b]?=some o
  low:∀ b o,(some b,o)∈H→w0.heap.size≤b∨b∈M
  apart:(H.filterMap (·.1)).Nodup
section inv
variable {w0 w w' w'' : World} {M : List Nat} {H H' N R : Heap} {b : Nat} {o o' : Obj}
theorem Inv.below (h:Inv w0 [] w H):Below w0.heap.size w0 w:=⟨h.os,h.tape,h.output,h.size,fun k hk=>h.keep k hk (by simp)⟩
theorem Inv.refl (w:World):Inv w [] w []:=⟨rfl,rfl,rfl,Nat.le_refl _,fun _ _ _=>rfl,by simp,by simp,by simp⟩
theorem Z14 {b:Nat}{o:Obj}{H:Heap}(h:(some b,o)∈H):b∈H.filterMap (·.1):=List.mem_filterMap.2 ⟨_,h,rfl⟩
theorem Z3d {b:Nat}{H:Heap}(h:b∈H.filterMap (·.1)):∃ o,(some b,o)∈H:=by
 obtain ⟨⟨x,o⟩,hm,hx⟩:=List.mem_filterMap.1 h
 simp only at hx
 subst hx
 exact ⟨o,hm⟩
theorem Inv.lt (h:Inv w0 M w H)(hp:(some b,o)∈H):b<w.heap.size:=(Array.getElem?_eq_some_iff.1 (h.own b o hp)).1
theorem Inv.ofHeap (h:Inv w0 M w H)(hh:w'.heap=w.heap)(h1:w'.os=w.os)(h2:w'.tape=w.tape)(h3:w'.output=w.output):Inv w0 M w' H :=
 ⟨h1.trans h.os,h2.trans h.tape,h3.trans h.output,by rw [hh];exact h.size,by rw [hh];exact h.keep,by rw [hh];exact h.own,h.low,h.apart⟩
theorem Inv.drew (h:Inv w0 M w H):Inv w0 M w.drew H:=h.ofHeap rfl rfl rfl rfl
theorem Inv.alloc (h:Inv w0 M w H)(o:Obj):Inv w0 M (w.alloc o) ((some w.heap.size,o)::H):=by
 have hsz:(w.alloc o).heap.size=w.heap.size+1:=World.size_alloc ..
 refine ⟨h.os,h.tape,h.output,by rw [hsz];have:=h.size;omega,fun b hb hm=>?_,fun b o' hp=>?_,fun b o' hp=>?_,?_⟩
 ·rw [Below.heap_alloc _ _ _ (by have:=h.size;omega)];exact h.keep b hb hm
 ·
  rcases List.mem_cons.1 hp with e | hp
  ·
   injection e with e1 e2
   injection e1 with e1
   subst e1;subst e2
   show (w.heap.push o')[w.heap.size]?=some o'
   simp
  ·rw [Below.heap_alloc _ _ _ (h.lt hp)];exact h.own b o' hp
 ·
  rcases List.mem_cons.1 hp with e | hp
  ·
   injection e with e1 e2
   injection e1 with e1
   subst e1
   exact .inl h.size
  ·exact h.low b o' hp
 ·
  simp only [List.filterMap_cons,List.nodup_cons]
  refine ⟨fun hm=>?_,h.apart⟩
  obtain ⟨o',hm⟩:=Z3d hm
  have:=h.lt hm
  omega
theorem Inv.addNone (h:Inv w0 M w H)(o:Obj):Inv w0 M w ((none,o)::H) :=
 ⟨h.os,h.tape,h.output,h.size,h.keep,fun b o' hp=>h.own b o' (by simpa using hp),fun b o' hp=>h.low b o' (by simpa using hp),by simpa using h.apart⟩
def Take (p:Option Nat×Obj)(H R:Heap):Prop:=List.Perm H (p::R)
theorem Take.head (p:Option Nat×Obj)(H:Heap):Take p (p::H) H:=List.Perm.refl _
theorem Jl {p q:Option Nat×Obj}(h:Take p H R):Take p (q::H) (q::R) :=
 (List.Perm.cons q h).trans (List.Perm.swap p q R)
theorem Take.mem {p:Option Nat×Obj}(h:Take p H R):p∈H:=(List.Perm.mem_iff h).2 (.head _)
def Pick (H' H:Heap):Prop:=∃ R ns:Heap,(∀ x,x∈ns→x.1=none)∧List.Perm (H++ns) (H'++R)
theorem Zg:Pick [] H:=⟨H,[],by simp,by simp⟩
theorem Yb (H:Heap):Pick H H:=⟨[],[],by simp,by simp⟩
theorem Zd {p:Option Nat×Obj}(h:Take p H R)(hp:Pick H' R):Pick (p::H') H:=by
 obtain ⟨S,ns,hn,hS⟩:=hp
 exact ⟨S,ns,hn,(List.Perm.append_right ns h).trans (List.Perm.cons p hS)⟩
theorem Pick.none {o:Obj}(hp:Pick H' H):Pick ((none,o)::H') H:=by
 obtain ⟨S,ns,hn,hS⟩:=hp
 refine ⟨S,(Option.none,o)::ns,fun x hx=>?_,?_⟩
 ·
  rcases List.mem_cons.1 hx with rfl | hx
  ·rfl
  ·exact hn x hx
 ·exact List.perm_middle.trans (List.Perm.cons _ hS)
theorem Zfc {S:Heap}(h:List.Perm H (H'++S)):Pick H' H:=⟨S,[],by simp,by simpa using h⟩
theorem Inv.perm (h:Inv w0 M w H)(hp:List.Perm H H'):Inv w0 M w H' :=
 ⟨h.os,h.tape,h.output,h.size,h.keep,fun b o hm=>h.own b o ((List.Perm.mem_iff hp).2 hm),fun b o hm=>h.low b o ((List.Perm.mem_iff hp).2 hm),(List.Perm.nodup_iff (hp.filterMap _)).1 h.apart⟩
theorem Inv.left (h:Inv w0 M w (H++R)):Inv w0 M w H :=
 ⟨h.os,h.tape,h.output,h.size,h.keep,fun b o hm=>h.own b o (List.mem_append_left _ hm),fun b o hm=>h.low b o (List.mem_append_left _ hm),by
  have:=h.apart
  rw [List.filterMap_append] at this
  exact (List.nodup_append.1 this).1⟩
theorem Inv.nones (h:Inv w0 M w H):∀ {ns:Heap},(∀ x,x∈ns→x.1=none)→Inv w0 M w (H++ns)
 | [],_=>by simpa using h
 | (x,o)::ns,hn=>by
  have h1:=hn (x,o) (.head _)
  simp only at h1
  subst h1
  exact ((Inv.nones h (ns:=ns) (fun y hy=>hn y (.tail _ hy))).addNone o).perm List.perm_middle.symm
theorem Inv.pick (h:Inv w0 M w H)(hp:Pick H' H):Inv w0 M w H':=by
 obtain ⟨R,ns,hn,hR⟩:=hp
 exact ((h.nones hn).perm hR).left
theorem Inv.upd (h:Inv w0 M w H)(ht:Take (some b,o) H R)(h1:w'.os=w.os)(h2:w'.tape=w.tape)(h3:w'.output=w.output)(hs:w'.heap.size=w.heap.size)
    (hb:w'.heap[b]?=some o')(ho:∀ k,k≠b→w'.heap[k]?=w.heap[k]?):Inv w0 M w' ((some b,o')::R):=by
  have g:=h.perm ht
  have ga:=g.apart
  simp only [List.filterMap_cons,List.nodup_cons] at ga
  refine ⟨h1.trans h.os,h2.trans h.tape,h3.trans h.output,by rw [hs];exact h.size,fun k hk hm=>?_,fun k p hp=>?_,fun k p hp=>?_,?_⟩
  · rw [ho k ?_]
    ·exact h.keep k hk hm
    · rintro rfl
      rcases g.low k o (.head _) with hl | hl
      ·omega
      ·exact hm hl
  · rcases List.mem_cons.1 hp with e | hp
    · injection e with e1 e2
      injection e1 with e1
      subst e1;subst e2
      exact hb
    · rw [ho k ?_]
      ·exact g.own k p (.tail _ hp)
      · intro e
        exact ga.1 (e▸Z14 hp)
  · rcases List.mem_cons.1 hp with e | hp
    · injection e with e1 e2
      injection e1 with e1
      subst e1
      exact g.low k o (.head _)
    ·exact g.low k p (.tail _ hp)
  ·simpa using ga
theorem Inv.join {M':List Nat}{Hm:Heap}(h:Inv w0 M w H)(hH:List.Perm H (Hm++R))(hM:∀ m,m∈M'→m∈Hm.filterMap (·.1))(g:Inv w M' w' N):Inv w0 M w' (N++R):=by
 have hp:=h.perm hH
 have ha:=hp.apart
 rw [List.filterMap_append] at ha
 obtain ⟨_,ha2,ha3⟩:=List.nodup_append.1 ha
 have hlowM:∀ m,m∈M'→w0.heap.size≤m∨m∈M:=fun m hm=>by
  obtain ⟨o,hpm⟩:=Z3d (hM m hm)
  exact hp.low m o (List.mem_append_left _ hpm)
 refine ⟨g.os.trans h.os,g.tape.trans h.tape,g.output.trans h.output,Nat.le_trans h.size g.size,fun k hk hm=>?_,fun k p hpm=>?_,fun k p hpm=>?_,?_⟩
 ·
  rw [g.keep k (Nat.lt_of_lt_of_le hk h.size) ?_]
  ·exact h.keep k hk hm
  ·
   intro hm'
   rcases hlowM k hm' with hl | hl
   ·omega
   ·exact hm hl
 ·
  rcases List.mem_append.1 hpm with hpm | hpm
  ·exact g.own k p hpm
  ·
   rw [g.keep k (hp.lt (List.mem_append_right _ hpm)) ?_]
   ·exact hp.own k p (List.mem_append_right _ hpm)
   ·
    intro hm'
    exact ha3 _ (hM _ hm') _ (Z14 hpm) rfl
 ·
  rcases List.mem_append.1 hpm with hpm | hpm
  ·
   rcases g.low k p hpm with hl | hl
   ·exact .inl (Nat.le_trans h.size hl)
   ·exact hlowM _ hl
  ·exact hp.low k p (List.mem_append_right _ hpm)
 ·
  rw [List.filterMap_append,List.nodup_append]
  refine ⟨g.apart,ha2,fun x hx y hy e=>?_⟩
  subst e
  obtain ⟨o1,hpN⟩:=Z3d hx
  obtain ⟨o2,hqR⟩:=Z3d hy
  have hlt:=hp.lt (List.mem_append_right Hm hqR)
  rcases g.low x o1 hpN with hl | hl
  ·omega
  ·exact ha3 _ (hM _ hl) _ hy rfl
theorem Inv.join0 (h:Inv w0 M w H)(g:Inv w [] w' N):Inv w0 M w' (N++H):=h.join (Hm:=[]) (List.Perm.refl _) (by simp) g
theorem Inv.cell_own (h:Inv w0 M w H){cs:Array Value}{T:TypeId}{fr:Nat×Nat}(hm:(some b,.cells cs T fr)∈H)(off:Nat):w.cell? ⟨b,off,none⟩=cs[off]?:=by
 have:=h.own _ _ hm
 simp [World.cell?,this]
theorem Inv.frozen_own (h:Inv w0 M w H){cs:Array Value}{T:TypeId}(hm:(some b,.cells cs T (0,0))∈H)(off:Nat):w.frozen? ⟨b,off,none⟩=false:=by
 have:=h.own _ _ hm
 simp [World.frozen?,this]
theorem Inv.cell_old (h:Inv w0 M w H){a:Addr}{v:Value}(hc:w0.cell? a=some v)(hm:a.block∉M):w.cell? a=some v:=by
 have hb:a.block<w0.heap.size:=by
  unfold World.cell? at hc
  split at hc
  ·
   rename_i he
   exact (Array.getElem?_eq_some_iff.1 he).1
  ·cases hc
 have:=h.keep a.block hb hm
 unfold World.cell? at *
 rw [this]
 exact hc
end inv
structure Cx where
  P:Program
  ρ:Option Nat
  n:Nat
  D:List Deferred
  w0:World
  M:List Nat
def FW (ρ:Option Nat):Fence:={ fn:=fun _=>True,depth:=none,alive:=false,round:=ρ }
def T (C:Cx)(c:Code)(Q:Exit→Act→World→Prop)(E:Env)(H:Heap):Prop :=
  ∀ a w,Fits C.n C.D E a→Inv C.w0 C.M w H→c.wpIn (FW C.ρ) 0 C.P Q a w
def TO (C:Cx)(ops:Array Oper)(Q:Exit→Act→World→Prop)(l:List Nat)(E:Env)(H:Heap):Prop :=
  ∀ a w,Fits C.n C.D E a→Inv C.w0 C.M w H→wpOpsIn (FW C.ρ) 0 C.P ops Q l a w
def X (C:Cx)(Q:Exit→Act→World→Prop)(e:Exit)(E:Env)(H:Heap):Prop :=
  ∀ a w,Fits C.n C.D E a→Inv C.w0 C.M w H→Q e a w
def Fnc (P:Program)(f:FuncId)(args:Array Value)(w:World)(M:List Nat)(Post:Value→Heap→Prop):Prop :=
  Calls P f args w (fun e w'=>∃ v N,Post v N∧e=.returned v∧Inv w M w' N)
def FncR (w:World)(M:List Nat)(Post:Value→Heap→Prop):Ending→World→Prop:=fun e w'=>∃ v N,Post v N∧e=.returned v∧Inv w M w' N
theorem callsIn_FW {ρ:Option Nat}{n:Nat}{P:Program}{f:FuncId}{args:Array Value}{w:World}{R:Ending→World→Prop}:CallsIn (FW ρ) n P f args w R↔Calls P f args w R:=by
 have:CallsIn (FW ρ) n P f args w R↔CallsIn Fence.wide n P f args w R:=Iff.rfl
 rw [this];exact callsIn_wide
section control
variable {C : Cx} {Q : Exit → Act → World → Prop} {E E' : Env} {H H' : Heap} {c x y : Code}
theorem T.weak (h:T C c Q E' H')(hE:∀ t v,find E' t=some v→find E t=some v)(hH:Pick H' H):T C c Q E H :=
 fun a w hf hi=>h a w (hf.weak hE) (hi.pick hH)
theorem T.mono {Q':Exit→Act→World→Prop}(h:T C c Q' E H)(hq:∀ e a w,Q' e a w→Q e a w):T C c Q E H :=
 fun a w hf hi=>wpIn_mono (h a w hf hi) hq
theorem T.skip (h:X C Q .normal E H):T C .skip Q E H:=fun a w hf hi=>wpIn_skip (h a w hf hi)
theorem T.ret (h:X C Q .ret E H):T C .ret Q E H:=fun a w hf hi=>wpIn_ret (h a w hf hi)
theorem T.exit {id:Nat}(h:X C Q (.exit id) E H):T C (.exit id) Q E H:=fun a w hf hi=>wpIn_exit (h a w hf hi)
theorem Zn (h:T C x (Exit.then (y.wpIn (FW C.ρ) 0 C.P Q) Q) E H):T C (.seq x y) Q E H:=fun a w hf hi=>wpIn_seq (h a w hf hi)
theorem T.block {id:Nat}(h:T C c (Exit.inBlock id Q) E H):T C (.block id c) Q E H:=fun a w hf hi=>wpIn_block (h a w hf hi)
theorem T.region {id:Nat}{ops:Array Oper}(h:TO C ops Q (List.range ops.size) E H):T C (.region id ops false) Q E H :=
 fun a w hf hi=>wpIn_region (h a w hf hi)
theorem T.cond {o:Operand}{b:Bool}(ho:ev E o=some (.bool b))(ht:b=true→T C x Q E H)(hf:b=false→T C y Q E H):T C (.cond o x y) Q E H :=
 fun a w hfit hi=>wpIn_cond_split (hfit.ev ho) (fun h=>ht h a w hfit hi) (fun h=>hf h a w hfit hi)
theorem Xk {o:Operand}{b:Bool}(ho:ev E o=some (.bool b))(hb:b=true)(ht:T C x Q E H):T C (.cond o x y) Q E H:=T.cond ho (fun _=>ht) (fun h=>by rw [hb] at h;cases h)
theorem Xs {o:Operand}{b:Bool}(ho:ev E o=some (.bool b))(hb:b=false)(hf:T C y Q E H):T C (.cond o x y) Q E H:=T.cond ho (fun h=>by rw [hb] at h;cases h) (fun _=>hf)
theorem Wg {o:Operand}{p:Prop}{hp:Decidable p}(ho:ev E o=some (.bool (@decide p hp)))(hb:p)(ht:T C x Q E H):T C (.cond o x y) Q E H:=Xk ho (decide_eq_true hb) ht
theorem Wd {o:Operand}{p:Prop}{hp:Decidable p}(ho:ev E o=some (.bool (@decide p hp)))(hb:¬p)(hf:T C y Q E H):T C (.cond o x y) Q E H:=Xs ho (decide_eq_false hb) hf
theorem Yk (h:T C y Q E H):X C (Exit.then (y.wpIn (FW C.ρ) 0 C.P Q) Q) .normal E H:=h
theorem Yg {K:Act→World→Prop}(h:X C Q .ret E H):X C (Exit.then K Q) .ret E H:=h
theorem Wh {K:Act→World→Prop}{id:Nat}(h:X C Q (.exit id) E H):X C (Exit.then K Q) (.exit id) E H:=h
theorem Vd {id:Nat}(h:X C Q .normal E H):X C (Exit.inBlock id Q) .normal E H:=h
theorem Wa {id:Nat}(h:X C Q .ret E H):X C (Exit.inBlock id Q) .ret E H:=h
theorem Ud {id:Nat}(h:X C Q .normal E H):X C (Exit.inBlock id Q) (.exit id) E H:=fun a w hf hi=>by
 simp only [Exit.inBlock,if_true];exact h a w hf hi
end control
end Go.Acq
namespace Go.Acq
open Go Go.RowKit
section
variable {C : Cx} {Q : Exit → Act → World → Prop} {E : Env} {H : Heap} {c x y : Code}
end
end Go.Acq
namespace Go.Acq
open Go Go.RowKit
def Wj (P:Program)(t:TypeId):Bool :=
  match P.underlying t with
  | some (.struct _) | some (.array _ _) | none=>false
  | _=>(P.info? t).map (·.size)==some 1
def Va (P:Program)(t:TypeId)(k:Nat):Bool :=
  match P.underlying t with
  | some (.struct _) | some (.array _ _)=>(P.info? t).map (·.size)==some k
  | _=>false
def Xc (P:Program)(t:TypeId):Option Nat:=(P.info? t).map (·.size)
def Kt (P:Program)(t:TypeId):Option Nat:=(P.info? t).map (·.bytes)
def Ws (P:Program)(t:TypeId):Option Value:=(P.info? t).bind (·.zero)
def Wm (P:Program)(t:TypeId):Option TypeId :=
  match P.underlying t with
  | some (.slice e)=>some e
  | _=>none
def Yp (P:Program)(s:TypeId)(f:Nat):Option Nat :=
  match P.underlying s with
  | some (.struct fs)=>(fs[f]?).bind fun g=>(P.info? g.type).bind fun i=>if i.size=0 then none else some g.offset
  | _=>none
def intT (P:Program)(t:TypeId):Option IntKind :=
  match P.underlying t with
  | some (.int k)=>some k
  | _=>none
section types
variable {P : Program} {t e s : TypeId} {k f o : Nat} {w : World}
theorem Gj (h:Wm P t=some e):P.underlying t=some (.slice e):=by
 unfold Wm at h
 split at h
 ·injection h with h;subst h;assumption
 ·cases h
theorem Zek {q:IntKind}(h:intT P t=some q):P.underlying t=some (.int q):=by
 unfold intT at h
 split at h
 ·injection h with h;subst h;assumption
 ·cases h
theorem Z5y (h:Xc P t=some k):∃ i,P.info? t=some i∧i.size=k:=by
 unfold Xc at h
 cases hi:P.info? t with
 | none=>simp [hi] at h
 | some i=>exact ⟨i,rfl,by simpa [hi] using h⟩
theorem Lq (h:Xc P t=some k):(sizeOf t).run P w=.ok k w:=by
 obtain ⟨i,hi,rfl⟩:=Z5y h
 simp [sizeOf,typeInfo,hi]
theorem Zm0 {z:Value}(h:Ws P t=some z):(zeroValue t).run P w=.ok z w:=by
 unfold Ws at h
 cases hi:P.info? t with
 | none=>simp [hi] at h
 | some i=>simp [hi] at h;simp [zeroValue,typeInfo,hi,h]
theorem Zhl (h:Wj P t=true):(isAgg t).run P w=.ok false w:=by
 unfold Wj at h
 cases hu:P.underlying t with
 | none=>simp [hu] at h
 | some d=>cases d <;> simp_all [isAgg,run_underlying hu]
theorem Zp9 (h:Wj P t=true):Xc P t=some 1:=by
 unfold Wj at h
 unfold Xc
 split at h <;> simp_all
theorem Zgm (h:Va P t k=true):(isAgg t).run P w=.ok true w:=by
 unfold Va at h
 cases hu:P.underlying t with
 | none=>simp [hu] at h
 | some d=>cases d <;> simp_all [isAgg,run_underlying hu]
theorem Zgz (h:Va P t k=true):Xc P t=some k:=by
 unfold Va at h
 unfold Xc
 split at h <;> simp_all
theorem Zff (h:Wj P t=true){a:Addr}{v:Value}(hc:w.cell? a=some v):(loadVar t a).run P w=.ok v w:=by
 simp [loadVar,Zhl h,hc]
theorem Zbi (h:Va P t k=true){a:Addr}{cs:List Value}(hk:cs.length=k)(hc:∀ j v,cs[j]?=some v→w.cell? (a.add j)=some v) :
    (loadVar t a).run P w=.ok (.agg cs.toArray) w:=by
  have hl:=run_loadCells_list (P:=P) w a cs hc
  rw [hk] at hl
  simp [loadVar,Zgm h,Lq (Zgz h),hl]
theorem Zcs (h:Yp P s f=some o)(b p:Nat):(Instr.fieldAt s (.pointer (some ⟨b,p,none⟩)) f).run P w=.ok (.pointer (some ⟨b,p+o,none⟩)) w:=by
 unfold Yp at h
 split at h
 ·
  rename_i fs hu
  cases hg:fs[f]? with
  | none=>simp [hg] at h
  | some g =>
   cases hi:P.info? g.type with
   | none=>simp [hg,hi] at h
   | some i =>
    simp only [hg,hi,Option.bind_some] at h
    by_cases hz:i.size=0
    ·simp [hz] at h
    ·
     simp [hz] at h
     subst h
     simp [Instr.fieldAt,run_underlying hu,hg,Instr.sureAddr,fieldPlace,sizeOf,typeInfo,hi,hz,Addr.add_mid]
 ·cases h
end types
theorem Inv.setRow {w0 w:World}{M:List Nat}{H R:Heap}{b:Nat}{cs cs':Array Value}{T:TypeId}{fr:Nat×Nat}(h:Inv w0 M w H)(ht:Take (some b,.cells cs T fr) H R) :
    Inv w0 M (w.setRow b cs') ((some b,.cells cs' T fr)::R):=by
  have hb:=h.own _ _ ht.mem
  refine h.upd ht rfl rfl rfl (by simp [World.setRow]) ?_ fun k hk=>?_
  ·simp only [World.setRow,Array.getElem?_modify,hb];simp
  · simp only [World.setRow, Array.getElem?_modify]
    rw [if_neg (by omega)]
section rules
variable {C : Cx} {ops : Array Oper} {Q : Exit → Act → World → Prop} {l : List Nat} {E : Env} {H R : Heap} {i d : Nat} {ty : TypeId} {Zo : String} {af : Array Edge} {g : Option (Nat × Bool)}
def Ya (ops:Array Oper)(E:Env):Option (Nat×Bool)→Bool
  | none=>true
  | some (j,want) =>
    match ((ops[j]?).bind (·.dst)).bind (find E) with
    | some (.bool b)=>b==want
    | _=>false
def gdN (ops:Array Oper)(E:Env):Option (Nat×Bool)→Bool
  | none=>false
  | some (j,want) =>
    match ((ops[j]?).bind (·.dst)).bind (find E) with
    | some (.bool b)=>b != want
    | _=>false
theorem Fits.yields {n:Nat}{D:List Deferred}{a:Act}(hf:Fits n D E a){j t:Nat}{b:Bool}(hj:(ops[j]?).bind (·.dst)=some t)(ht:find E t=some (.bool b)):yielded ops a.tmps j=some b:=by
 have h:=hf.get t _ ht
 unfold yielded
 rw [hj,Option.bind_some]
 have h2:a.tmps[t]?=some (.bool b):=by
  rw [Array.getD_eq_getD_getElem?] at h
  cases hq:a.tmps[t]? with
  | none=>rw [hq] at h;simp [undef] at h
  | some u=>rw [hq] at h;simpa using h
 rw [h2]
theorem Zao {n:Nat}{D:List Deferred}{a:Act}{o:Oper}(hf:Fits n D E a)(h:Ya ops E o.guard=true):Region.wanted o (yielded ops a.tmps)=true:=by
 unfold Region.wanted
 cases hg:o.guard with
 | none=>rfl
 | some jw =>
  obtain ⟨j,want⟩:=jw
  rw [hg] at h
  simp only [Ya] at h
  cases hj:(ops[j]?).bind (·.dst) with
  | none=>simp [hj] at h
  | some t =>
   rw [hj,Option.bind_some] at h
   cases ht:find E t with
   | none=>simp [ht] at h
   | some v =>
    rw [ht] at h
    cases v <;> simp at h
    subst h
    simp [hf.yields hj ht]
theorem Zg1 {n:Nat}{D:List Deferred}{a:Act}{o:Oper}(hf:Fits n D E a)(h:gdN ops E o.guard=true):Region.wanted o (yielded ops a.tmps)=false:=by
 unfold Region.wanted
 cases hg:o.guard with
 | none=>rw [hg] at h;simp [gdN] at h
 | some jw =>
  obtain ⟨j,want⟩:=jw
  rw [hg] at h
  simp only [gdN] at h
  cases hj:(ops[j]?).bind (·.dst) with
  | none=>simp [hj] at h
  | some t =>
   rw [hj,Option.bind_some] at h
   cases ht:find E t with
   | none=>simp [ht] at h
   | some v =>
    rw [ht] at h
    cases v <;> simp at h
    simp [hf.yields hj ht,h]
theorem Z0k {o:Oper}(ho:ops[i]?=some o)(hg:Ya ops E o.guard=true)(hnd:∀ c,o.op≠.defer c)
    (h:∀ a w,Fits C.n C.D E a→Inv C.w0 C.M w H→o.uponIn (FW C.ρ) 0 C.P a (wpOpsIn (FW C.ρ) 0 C.P ops Q l) Q ((execOp a.eval o).run C.P w)) :
    TO C ops Q (i::l) E H:=by
  intro a w hf hi
  have hw:Region.wanted o (yielded ops a.tmps)=true:=Zao hf hg
  simp only [wpOpsIn,ho,hw,if_true,Oper.wpIn]
  refine ⟨fun _ _=>trivial,?_⟩
  rw [Oper.semAt_eq _ _ _ hnd]
  exact h a w hf hi
theorem Zp {o:Oper}(q0_:ops[i]?=some o∧gdN ops E o.guard=true∧o.dst=some d∧Nat.ble (d+1) C.n=true)(k:TO C ops Q l ((d,undef)::E) H):TO C ops Q (i::l) E H:=by
 obtain ⟨ho,hg,hdst,hd⟩:=q0_
 intro a w hf hi
 have hw:Region.wanted o (yielded ops a.tmps)=false:=Zg1 hf hg
 simp only [wpOpsIn,ho,hw,Bool.false_eq_true,if_false]
 refine ⟨fun _ _=>trivial,?_⟩
 rw [hdst]
 exact k _ _ (hf.put hd _) hi
theorem Yn {t:Nat}{b b':Bool}(ht:find E t=some (.bool b))(hb:b=b')(k:TO C ops Q l ((t,.bool b')::E) H):TO C ops Q l E H:=by
 subst hb
 intro a w hf hi
 refine k a w ⟨hf.size,hf.defers,fun u v hu=>?_⟩ hi
 rw [Kv] at hu
 by_cases e:t=u
 ·subst e;rw [if_pos rfl] at hu;injection hu with hu;subst hu;exact hf.get t _ ht
 ·rw [if_neg e] at hu;exact hf.get u v hu
theorem Zm (h:X C Q .normal E H):TO C ops Q [] E H:=h
theorem TO.val {op:Op}{v:Value}(ho:ops[i]?=some ⟨some d,op,ty,Zo,af,g⟩)(hg:Ya ops E g=true)(hd:Nat.ble (d+1) C.n=true)(hnd:∀ c,op≠.defer c)
    (hr:∀ a w,Fits C.n C.D E a→Inv C.w0 C.M w H→(execOp a.eval ⟨some d,op,ty,Zo,af,g⟩).run C.P w=.ok (.value v) w)
    (k:TO C ops Q l ((d,v)::E) H):TO C ops Q (i::l) E H :=
  Z0k ho hg hnd fun a w hf hi=>by
    rw [hr a w hf hi]
    exact k _ _ (hf.put hd v) hi
theorem Ze {x:Operand}{v:Value}(q0_:ops[i]?=some ⟨some d,.move x,ty,Zo,af,g⟩∧Ya ops E g=true∧Nat.ble (d+1) C.n=true∧ev E x=some v)
    (k:TO C ops Q l ((d,v)::E) H):TO C ops Q (i::l) E H:=have ⟨ho,hg,hd,hx⟩:=q0_;
  TO.val ho hg hd (by simp) (fun a w hf _=>by simp [execOp,hf.ev hx]) k
theorem Ww {x:Operand}{v:Value}(q0_:ops[i]?=some ⟨some d,.assign x,ty,Zo,af,g⟩∧Ya ops E g=true∧Nat.ble (d+1) C.n=true∧ev E x=some v)
    (k:TO C ops Q l ((d,v)::E) H):TO C ops Q (i::l) E H:=have ⟨ho,hg,hd,hx⟩:=q0_;
  TO.val ho hg hd (by simp) (fun a w hf _=>by simp [execOp,hf.ev hx]) k
theorem Xr {c x y:Operand}{v:Value}(q0_:ops[i]?=some ⟨some d,.pick c x y,ty,Zo,af,g⟩∧Ya ops E g=true∧Nat.ble (d+1) C.n=true∧ev E c=some (.bool true)∧ev E x=some v)(k:TO C ops Q l ((d,v)::E) H):TO C ops Q (i::l) E H:=have ⟨ho,hg,hd,hc,hx⟩:=q0_;
  TO.val ho hg hd (by simp) (fun a w hf _=>by simp [execOp,hf.ev hc,hf.ev hx,asBool]) k
theorem Xp {c x y:Operand}{v:Value}(q0_:ops[i]?=some ⟨some d,.pick c x y,ty,Zo,af,g⟩∧Ya ops E g=true∧Nat.ble (d+1) C.n=true∧ev E c=some (.bool false)∧ev E y=some v)(k:TO C ops Q l ((d,v)::E) H):TO C ops Q (i::l) E H:=have ⟨ho,hg,hd,hc,hx⟩:=q0_;
  TO.val ho hg hd (by simp) (fun a w hf _=>by simp [execOp,hf.ev hc,hf.ev hx,asBool]) k
def Lb:BinOp→IntKind→Int→Int→Option Value
  | .add,k,a,b=>some (.int k (k.wrap (a+b)))
  | .sub,k,a,b=>some (.int k (k.wrap (a-b)))
  | .mul,k,a,b=>some (.int k (k.wrap (a*b)))
  | .eql,_,a,b=>some (.bool (decide (a=b)))
  | .neq,_,a,b=>some (.bool (decide (a≠b)))
  | .lss,_,a,b=>some (.bool (decide (a<b)))
  | .leq,_,a,b=>some (.bool (decide (a≤b)))
  | .gtr,_,a,b=>some (.bool (decide (b<a)))
  | .geq,_,a,b=>some (.bool (decide (b≤a)))
  | _,_,_,_=>none
theorem Zf4 {op:BinOp}{k:IntKind}{a b:Int}{v:Value}{t:TypeId}{P:Program}{w:World}(h:Lb op k a b=some v):(binOp op t (.int k a) (.int k b)).run P w=.ok v w:=by
 unfold Lb at h
 split at h <;> try (cases h;done)
 all_goals (injection h with h;subst h)
 ·simp [binOp,Op.intArith]
 ·simp [binOp,Op.intArith]
 ·simp [binOp,Op.intArith]
 ·simp only [binOp_eql];rw [Sem.run_pure];congr 2
 ·simp only [binOp_neq];rw [Sem.run_pure];congr 2;by_cases e:a=b <;> simp [e]
 ·simp [binOp,Op.intCmp]
 ·simp [binOp,Op.intCmp]
 ·simp [binOp,Op.intCmp]
 ·simp [binOp,Op.intCmp]
theorem Ye {op:BinOp}{t t2:TypeId}{x y:Operand}{k:IntKind}{p q:Int}{v:Value}
    (q0_:ops[i]?=some ⟨some d,.binOp op t x y t2,ty,Zo,af,g⟩∧Ya ops E g=true∧Nat.ble (d+1) C.n=true∧ev E x=some (.int k p)∧ev E y=some (.int k q)∧Lb op k p q=some v)(kk:TO C ops Q l ((d,v)::E) H):TO C ops Q (i::l) E H:=have ⟨ho,hg,hd,hx,hy,hv⟩:=q0_;
  TO.val ho hg hd (by simp) (fun a w hf _=>by simp [execOp,hf.ev hx,hf.ev hy,eqGuard_at_int,Zf4 hv]) kk
theorem Nf {a:Int}(h1:-9223372036854775808≤a)(h2:a≤9223372036854775807):IntKind.i64.wrap a=a:=by
 rw [IntKind.wrap_i64];omega
theorem TO.add {t t2:TypeId}{x y:Operand}{p q:Int}
    (ho:ops[i]?=some ⟨some d,.binOp .add t x y t2,ty,Zo,af,g⟩)(hg:Ya ops E g=true)(hd:Nat.ble (d+1) C.n=true)(hx:ev E x=some (.int .i64 p))(hy:ev E y=some (.int .i64 q))
    (h1:-9223372036854775808≤p+q)(h2:p+q≤9223372036854775807)(kk:TO C ops Q l ((d,.int .i64 (p+q))::E) H):TO C ops Q (i::l) E H :=
  Ye ⟨ho,hg,hd,hx,hy,(by simp only [Lb];rw [Nf h1 h2])⟩ kk
theorem TO.sub {t t2:TypeId}{x y:Operand}{p q:Int}
    (ho:ops[i]?=some ⟨some d,.binOp .sub t x y t2,ty,Zo,af,g⟩)(hg:Ya ops E g=true)(hd:Nat.ble (d+1) C.n=true)(hx:ev E x=some (.int .i64 p))(hy:ev E y=some (.int .i64 q))
    (h1:-9223372036854775808≤p-q)(h2:p-q≤9223372036854775807)(kk:TO C ops Q l ((d,.int .i64 (p-q))::E) H):TO C ops Q (i::l) E H :=
  Ye ⟨ho,hg,hd,hx,hy,(by simp only [Lb];rw [Nf h1 h2])⟩ kk
theorem TO.mul {t t2:TypeId}{x y:Operand}{p q:Int}
    (ho:ops[i]?=some ⟨some d,.binOp .mul t x y t2,ty,Zo,af,g⟩)(hg:Ya ops E g=true)(hd:Nat.ble (d+1) C.n=true)(hx:ev E x=some (.int .i64 p))(hy:ev E y=some (.int .i64 q))
    (h1:-9223372036854775808≤p*q)(h2:p*q≤9223372036854775807)(kk:TO C ops Q l ((d,.int .i64 (p*q))::E) H):TO C ops Q (i::l) E H :=
  Ye ⟨ho,hg,hd,hx,hy,(by simp only [Lb];rw [Nf h1 h2])⟩ kk
theorem TO.rem {t t2:TypeId}{x y:Operand}{k:IntKind}{p q:Int}
    (q0_:ops[i]?=some ⟨some d,.binOp .rem t x y t2,ty,Zo,af,g⟩∧Ya ops E g=true∧Nat.ble (d+1) C.n=true∧ev E x=some (.int k p)∧ev E y=some (.int k q))
    (h0:q≠0)(kk:TO C ops Q l ((d,.int k (p.tmod q))::E) H):TO C ops Q (i::l) E H:=have ⟨ho,hg,hd,hx,hy⟩:=q0_;
  TO.val ho hg hd (by simp) (fun a w hf _=>by simp [execOp,hf.ev hx,hf.ev hy,eqGuard_at_int,binOp,Op.intDiv,h0]) kk
theorem Zjx {P:Program}(w:World)(n:Nat){t e:TypeId}(base:Option Addr)(a c m c2:Nat)(ht:P.underlying t=some (.slice e)):(Op.equalIn (n+1) t (.slice base a c) (.slice none m c2)).run P w=.ok base.isNone w:=by
 cases base <;> simp [Op.equalIn,run_underlying ht]
theorem Z73 {P:Program}{w:World}{t:TypeId}{x y:Value}{r:Bool}(h:∀ n,(Op.equalIn (n+1) t x y).run P w=.ok r w):(Op.equal t x y).run P w=.ok r w:=h 9999
theorem Zdi {P:Program}{w:World}{t:TypeId}{x y:Value}{r:Bool}(h:(Op.equal t x y).run P w=.ok r w)(hb:binOp .eql t x y=(do pure (.bool (←Op.equal t x y)))) :
    (binOp .eql t x y).run P w=.ok (.bool r) w:=by rw [hb];simp [h]
theorem Zbt {P:Program}{w:World}{t:TypeId}{x y:Value}{r:Bool}(h:(Op.equal t x y).run P w=.ok r w)(hb:binOp .neq t x y=(do pure (.bool (!(←Op.equal t x y))))) :
    (binOp .neq t x y).run P w=.ok (.bool (!r)) w:=by rw [hb];simp [h]
theorem Zdo {t t2 e:TypeId}{x y:Operand}{base:Option Addr}{n c m c2:Nat}(q0_:ops[i]?=some ⟨some d,.binOp .eql t x y t2,ty,Zo,af,g⟩∧Ya ops E g=true∧Nat.ble (d+1) C.n=true∧ev E x=some (.slice base n c)∧ev E y=some (.slice none m c2))(ht:Wm C.P t=some e)(kk:TO C ops Q l ((d,.bool base.isNone)::E) H):TO C ops Q (i::l) E H:=have ⟨ho,hg,hd,hx,hy⟩:=q0_;
  TO.val ho hg hd (by simp) (fun a w hf _=>by
    have:=Zdi (Z73 fun q=>Zjx (P:=C.P) w q base n c m c2 (Gj ht)) rfl
    simp only [execOp,hf.ev hx,hf.ev hy,eqGuard_at_slice]
    simp [this]) kk
theorem TO.not {t:TypeId}{x:Operand}{b:Bool}(q0_:ops[i]?=some ⟨some d,.unOp .not t x,ty,Zo,af,g⟩∧Ya ops E g=true∧Nat.ble (d+1) C.n=true∧ev E x=some (.bool b))(kk:TO C ops Q l ((d,.bool (!b))::E) H):TO C ops Q (i::l) E H:=have ⟨ho,hg,hd,hx⟩:=q0_;
  TO.val ho hg hd (by simp) (fun a w hf _=>by simp [execOp,hf.ev hx,Op.unary]) kk
theorem TO.neg {t:TypeId}{x:Operand}{k:IntKind}{p:Int}(ho:ops[i]?=some ⟨some d,.unOp .neg t x,ty,Zo,af,g⟩)(hg:Ya ops E g=true)(hd:Nat.ble (d+1) C.n=true)
    (hx:ev E x=some (.int k p))(kk:TO C ops Q l ((d,.int k (k.wrap (-p)))::E) H):TO C ops Q (i::l) E H :=
  TO.val ho hg hd (by simp) (fun a w hf _=>by simp [execOp,hf.ev hx,Op.unary,Op.intArith]) kk
theorem TO.conv {s t:TypeId}{x:Operand}{k q:IntKind}{p:Int}(ho:ops[i]?=some ⟨some d,.convert s t x,ty,Zo,af,g⟩)(hg:Ya ops E g=true)(hd:Nat.ble (d+1) C.n=true)
    (hx:ev E x=some (.int k p))(hs:(C.P.underlying s).isSome=true)(ht:intT C.P t=some q)(kk:TO C ops Q l ((d,.int q (q.wrap p))::E) H):TO C ops Q (i::l) E H :=
  TO.val ho hg hd (by simp) (fun a w hf _=>by
    have hu:=Zek ht
    cases hs':C.P.underlying s with
    | none=>simp [hs'] at hs
    | some ds=>simp [execOp,hf.ev hx,convert,run_underlying hs',run_underlying hu,Conv.intToInt]) kk
theorem Zg7 {s t:TypeId}{x:Operand}{k q:IntKind}{p:Int}(q0_:ops[i]?=some ⟨some d,.convert s t x,ty,Zo,af,g⟩∧Ya ops E g=true∧Nat.ble (d+1) C.n=true∧ev E x=some (.int k p))(hs:(C.P.underlying s).isSome=true)(ht:intT C.P t=some q)(hw:q.wrap p=p)(kk:TO C ops Q l ((d,.int q p)::E) H):TO C ops Q (i::l) E H:=have ⟨ho,hg,hd,hx⟩:=q0_;
  TO.conv ho hg hd hx hs ht (by rw [hw];exact kk)
theorem TO.extract {x:Operand}{n:Nat}{vs:Array Value}{v:Value}(q0_:ops[i]?=some ⟨some d,.extract x n,ty,Zo,af,g⟩∧Ya ops E g=true∧Nat.ble (d+1) C.n=true∧ev E x=some (.tuple vs)∧vs[n]?=some v)(kk:TO C ops Q l ((d,v)::E) H):TO C ops Q (i::l) E H:=have ⟨ho,hg,hd,hx,hv⟩:=q0_;
  TO.val ho hg hd (by simp) (fun a w hf _=>by simp [execOp,hf.ev hx,Instr.extract,hv]) kk
def Ku (E:Env):List Operand→Option (List Value)
  | []=>some []
  | x::xs=>match ev E x,Ku E xs with
    | some v,some vs=>some (v::vs)
    | _,_=>none
theorem Ln {n:Nat}{D:List Deferred}{a:Act}(hfit:Fits n D E a):∀ {xs:List Operand} {ys:List Value},Ku E xs=some ys→xs.map a.eval=ys
 | [],ys,h=>by simp [Ku] at h;subst h;rfl
 | x::xs,ys,h=>by
  simp only [Ku] at h
  cases hx:ev E x with
  | none=>simp [hx] at h
  | some v =>
   cases hxs:Ku E xs with
   | none=>simp [hx,hxs] at h
   | some vs=>simp [hx,hxs] at h;subst h;simp [hfit.ev hx,Ln hfit hxs]
def Nl (E:Env):List (Nat×Operand)→Option (List (Nat×Value))
  | []=>some []
  | (j,x)::xs=>match ev E x,Nl E xs with
    | some v,some vs=>some ((j,v)::vs)
    | _,_=>none
theorem Z72 {n:Nat}{D:List Deferred}{a:Act}(hfit:Fits n D E a):∀ {xs:List (Nat×Operand)} {ys:List (Nat×Value)},Nl E xs=some ys→xs.map (fun p=>(p.1,a.eval p.2))=ys
 | [],ys,h=>by simp [Nl] at h;subst h;rfl
 | (j,x)::xs,ys,h=>by
  simp only [Nl] at h
  cases hx:ev E x with
  | none=>simp [hx] at h
  | some v =>
   cases hxs:Nl E xs with
   | none=>simp [hx,hxs] at h
   | some vs=>simp [hx,hxs] at h;subst h;simp [hfit.ev hx,Z72 hfit hxs]
theorem TO.makeFunc {f:Fn}{fs cs:Array Operand}{vs us:List Value}(q0_:ops[i]?=some ⟨some d,.makeFunc f fs cs,ty,Zo,af,g⟩∧Ya ops E g=true∧Nat.ble (d+1) C.n=true∧Ku E fs.toList=some vs∧Ku E cs.toList=some us)(kk:TO C ops Q l ((d,.func f vs.toArray us.toArray)::E) H):TO C ops Q (i::l) E H:=have ⟨ho,hg,hd,hf,hc⟩:=q0_;
  TO.val ho hg hd (by simp) (fun a w hfit _=>by
    have e1:fs.map a.eval=vs.toArray:=by apply Array.ext';simpa using Ln hfit hf
    have e2:cs.map a.eval=us.toArray:=by apply Array.ext';simpa using Ln hfit hc
    simp [execOp,Instr.makeFunc,e1,e2]) kk
theorem TO.fieldAddr {s:TypeId}{x:Operand}{f o b p:Nat}(q0_:ops[i]?=some ⟨some d,.fieldAddr s x f,ty,Zo,af,g⟩∧Ya ops E g=true∧Nat.ble (d+1) C.n=true∧ev E x=some (.pointer (some ⟨b,p,none⟩)))(hT:Yp C.P s f=some o)(kk:TO C ops Q l ((d,.pointer (some ⟨b,p+o,none⟩))::E) H):TO C ops Q (i::l) E H:=have ⟨ho,hg,hd,hx⟩:=q0_;
  TO.val ho hg hd (by simp) (fun a w hf _=>by simp [execOp,hf.ev hx,Zcs hT]) kk
theorem Zl {s:TypeId}{x:Operand}{f o b:Nat}(q0_:ops[i]?=some ⟨some d,.fieldAddr s x f,ty,Zo,af,g⟩∧Ya ops E g=true∧Nat.ble (d+1) C.n=true∧ev E x=some (.pointer (some ⟨b,0,none⟩)))(hT:Yp C.P s f=some o)(kk:TO C ops Q l ((d,.pointer (some ⟨b,o,none⟩))::E) H):TO C ops Q (i::l) E H:=have ⟨ho,hg,hd,hx⟩:=q0_;
  TO.fieldAddr ⟨ho,hg,hd,hx⟩ hT (by rw [Nat.zero_add];exact kk)
theorem Z32 {op:Op}{o:Obj}(v:Nat→Value)(ho:ops[i]?=some ⟨some d,op,ty,Zo,af,g⟩)(hg:Ya ops E g=true)(hd:Nat.ble (d+1) C.n=true)(hnd:∀ c,op≠.defer c)
    (hr:∀ a w,Fits C.n C.D E a→Inv C.w0 C.M w H→(execOp a.eval ⟨some d,op,ty,Zo,af,g⟩).run C.P w=.ok (.value (v w.heap.size)) (w.alloc o))
    (k:∀ b,TO C ops Q l ((d,v b)::E) ((some b,o)::H)):TO C ops Q (i::l) E H :=
  Z0k ho hg hnd fun a w hf hi=>by
    rw [hr a w hf hi]
    exact k _ _ _ (hf.put hd _) (hi.alloc o)
theorem TO.box {t:TypeId}{x:Operand}{v:Value}(q0_:ops[i]?=some ⟨some d,.box t x,ty,Zo,af,g⟩∧Ya ops E g=true∧Nat.ble (d+1) C.n=true∧ev E x=some v)
    (k:∀ b,TO C ops Q l ((d,.pointer (some ⟨b,0,none⟩))::E) ((some b,.cells v.cells t (0,0))::H)):TO C ops Q (i::l) E H:=have ⟨ho,hg,hd,hx⟩:=q0_;
  Z32 (fun b=>.pointer (some ⟨b,0,none⟩)) ho hg hd (by simp) (fun a w hf _=>by simp [execOp,hf.ev hx,Instr.box,newVar,newRow]) k
theorem Wy {t:TypeId}{x:Operand}{cs:Array Value}(q0_:ops[i]?=some ⟨some d,.box t x,ty,Zo,af,g⟩∧Ya ops E g=true∧Nat.ble (d+1) C.n=true∧ev E x=some (.agg cs))
    (k:∀ b,TO C ops Q l ((d,.pointer (some ⟨b,0,none⟩))::E) ((some b,.cells cs t (0,0))::H)):TO C ops Q (i::l) E H:=have ⟨ho,hg,hd,hx⟩:=q0_;TO.box ⟨ho,hg,hd,hx⟩ k
theorem TO.alloc {t:TypeId}{z:Value}(ho:ops[i]?=some ⟨some d,.alloc t,ty,Zo,af,g⟩)(hg:Ya ops E g=true)(hd:Nat.ble (d+1) C.n=true)(hz:Ws C.P t=some z)
    (k:∀ b,TO C ops Q l ((d,.pointer (some ⟨b,0,none⟩))::E) ((some b,.cells z.cells t (0,0))::H)):TO C ops Q (i::l) E H :=
  Z32 (fun b=>.pointer (some ⟨b,0,none⟩)) ho hg hd (by simp) (fun a w hf _=>by simp [execOp,Instr.alloc,Zm0 hz,newVar,newRow]) k
theorem Wk {t:TypeId}{cs:Array Value}(q0_:ops[i]?=some ⟨some d,.alloc t,ty,Zo,af,g⟩∧Ya ops E g=true∧Nat.ble (d+1) C.n=true)(hz:Ws C.P t=some (.agg cs))
    (k:∀ b,TO C ops Q l ((d,.pointer (some ⟨b,0,none⟩))::E) ((some b,.cells cs t (0,0))::H)):TO C ops Q (i::l) E H:=have ⟨ho,hg,hd⟩:=q0_;TO.alloc ho hg hd hz k
theorem TO.build {t:TypeId}{ps:Array (Nat×Operand)}{vs:List (Nat×Value)}{cs:Array Value}(ho:ops[i]?=some ⟨some d,.build t ps,ty,Zo,af,g⟩)(hg:Ya ops E g=true)(hd:Nat.ble (d+1) C.n=true)
    (hx:Nl E ps.toList=some vs)(hb:C.P.built t vs=some cs)
    (kk:TO C ops Q l ((d,.agg cs)::E) H):TO C ops Q (i::l) E H :=
  TO.val ho hg hd (by simp) (fun a w hf _=>by
    have e1:(ps.map (fun p=>(p.1,a.eval p.2))).toList=vs:=by simpa using Z72 hf hx
    have:=run_build (P:=C.P) w t (ps.map (fun p=>(p.1,a.eval p.2))) cs (by rw [e1];exact hb)
    simp [execOp,this]) kk
theorem Zpb {t e:TypeId}{x y:Operand}{cs:List Value}{k:IntKind}{p:Int}{n s:Nat}{vs:List Value}(ho:ops[i]?=some ⟨some d,.index t x y,ty,Zo,af,g⟩)(hg:Ya ops E g=true)(hd:Nat.ble (d+1) C.n=true)
    (hx:ev E x=some (.agg cs.toArray))(hy:ev E y=some (.int k p))(hT:C.P.underlying t=some (.array n e))(hs:Va C.P e s=true)(h0:0≤p)(h1:p<n)(hv:(cs.drop (p.toNat*s)).take s=vs)
    (kk:TO C ops Q l ((d,.agg vs.toArray)::E) H):TO C ops Q (i::l) E H :=
  TO.val ho hg hd (by simp) (fun a w hf _=>by
    simp [execOp,hf.ev hx,hf.ev hy,Instr.index,asIntOf,run_underlying hT,h0,h1,Lq (Zgz hs),part,Zgm hs,hv]) kk
def setCells:List Value→Nat→List Value→List Value
  | z,_,[]=>z
  | z,o,v::vs=>setCells (z.set o v) (o+1) vs
def Yq (offs:List Nat):List Value→List (Nat×Value)→List Value
  | z,[]=>z
  | z,(j,v)::ps=>Yq offs (setCells z (offs.getD j 0) v.cells.toList) ps
theorem Yx {t:TypeId}{ps:Array (Nat×Operand)}{vs:List (Nat×Value)}{cs:List Value}(z:List Value)(offs:List Nat)(q0_:ops[i]?=some ⟨some d,.build t ps,ty,Zo,af,g⟩∧Ya ops E g=true∧Nat.ble (d+1) C.n=true∧Nl E ps.toList=some vs)(_hcs:Yq offs z vs=cs)(hb:C.P.built t vs=some cs.toArray)
    (kk:TO C ops Q l ((d,.agg cs.toArray)::E) H):TO C ops Q (i::l) E H:=have ⟨ho,hg,hd,hx⟩:=q0_;TO.build ho hg hd hx hb kk
end rules
end Go.Acq
namespace Go.Acq
open Go Go.RowKit
section rules
variable {C : Cx} {ops : Array Oper} {Q : Exit → Act → World → Prop} {l : List Nat} {E : Env} {H R : Heap} {i d : Nat} {ty : TypeId} {Zo : String} {af : Array Edge} {g : Option (Nat × Bool)}
theorem Zeu {id:Nat}{ll:List Nat}(hl:List.range ops.size=ll)(h:TO C ops Q ll E H):T C (.region id ops false) Q E H:=T.region (by rw [hl];exact h)
theorem TO.load {t:TypeId}{x:Operand}{ad:Addr}{v:Value}(ho:ops[i]?=some ⟨some d,.load t x,ty,Zo,af,g⟩)(hg:Ya ops E g=true)(hd:Nat.ble (d+1) C.n=true)
    (hx:ev E x=some (.pointer (some ad)))(hT:Wj C.P t=true)(hc:∀ w,Inv C.w0 C.M w H→w.cell? ad=some v)
    (kk:TO C ops Q l ((d,v)::E) H):TO C ops Q (i::l) E H :=
  TO.val ho hg hd (by simp) (fun a w hf hi=>by simp [execOp,hf.ev hx,Instr.loadAt,Instr.sureAddr,Zff hT (hc w hi)]) kk
theorem Zr {t T':TypeId}{x:Operand}{b o:Nat}{cs:Array Value}{fr:Nat×Nat}{v:Value}(q0_:ops[i]?=some ⟨some d,.load t x,ty,Zo,af,g⟩∧Ya ops E g=true∧Nat.ble (d+1) C.n=true∧ev E x=some (.pointer (some ⟨b,o,none⟩)))(hT:Wj C.P t=true)(hm:(some b,Obj.cells cs T' fr)∈H)(hv:cs[o]?=some v)
    (kk:TO C ops Q l ((d,v)::E) H):TO C ops Q (i::l) E H:=have ⟨ho,hg,hd,hx⟩:=q0_;
  TO.load ho hg hd hx hT (fun w hi=>by rw [hi.cell_own hm];exact hv) kk
theorem Z31 {t:TypeId}{x:Operand}{ad:Addr}{k:Nat}{cs:List Value}(ho:ops[i]?=some ⟨some d,.load t x,ty,Zo,af,g⟩)(hg:Ya ops E g=true)(hd:Nat.ble (d+1) C.n=true)
    (hx:ev E x=some (.pointer (some ad)))(hT:Va C.P t k=true)(hk:cs.length=k)(hc:∀ w,Inv C.w0 C.M w H→∀ j v,cs[j]?=some v→w.cell? (ad.add j)=some v)
    (kk:TO C ops Q l ((d,.agg cs.toArray)::E) H):TO C ops Q (i::l) E H :=
  TO.val ho hg hd (by simp) (fun a w hf hi=>by simp [execOp,hf.ev hx,Instr.loadAt,Instr.sureAddr,Zbi hT hk (hc w hi)]) kk
theorem Wf {t T':TypeId}{x:Operand}{b k:Nat}{cs:List Value}{fr:Nat×Nat}(q0_:ops[i]?=some ⟨some d,.load t x,ty,Zo,af,g⟩∧Ya ops E g=true∧Nat.ble (d+1) C.n=true∧ev E x=some (.pointer (some ⟨b,0,none⟩)))(hT:Va C.P t k=true)(hm:(some b,Obj.cells cs.toArray T' fr)∈H)(hk:cs.length=k)
    (kk:TO C ops Q l ((d,.agg cs.toArray)::E) H):TO C ops Q (i::l) E H:=have ⟨ho,hg,hd,hx⟩:=q0_;
  Z31 ho hg hd hx hT hk (fun w hi j v hv=>by rw [Addr.add_mid,Nat.zero_add,hi.cell_own hm];simpa using hv) kk
theorem Z63 {t T':TypeId}{x y:Operand}{b o:Nat}{cs cs':Array Value}{v:Value}{vs:List Value}(ho:ops[i]?=some ⟨none,.store t x y,ty,Zo,af,g⟩)(hg:Ya ops E g=true)
    (hx:ev E x=some (.pointer (some ⟨b,o,none⟩)))(hy:ev E y=some v)(ht:Take (some b,.cells cs T' (0,0)) H R)
    (hv:v.cells.toList=vs)(hs:Xc C.P t=some vs.length)(h1:∀ u,u∈vs→u.oneCell'=true)(hfit:o+vs.length≤cs.size)
    (hcs:(cs.toList.take o++vs++cs.toList.drop (o+vs.length)).toArray=cs')
    (kk:TO C ops Q l E ((some b,.cells cs' T' (0,0))::R)):TO C ops Q (i::l) E H :=
  Z0k ho hg (by simp) fun a w hf hi=>by
    have hb:=hi.own _ _ ht.mem
    have hst:=run_storeCells_at C.P b o T' vs 0 cs w hb (by simpa using hfit) h1
    simp only [Nat.add_zero] at hst
    rw [hcs] at hst
    have hsz:v.cells.size=vs.length:=by rw [←hv,Array.length_toList]
    have:(execOp a.eval ⟨none,.store t x y,ty,Zo,af,g⟩).run C.P w=.ok .skip (w.setRow b cs'):=by
      simp [execOp,hf.ev hx,hf.ev hy,Instr.storeAt,Instr.sureAddr,storeVar,Lq hs,hsz,hv,hst]
    rw [this]
    exact kk _ _ (hf.putNone _) (hi.setRow ht)
theorem Zmc {α:Type}(xs:List α)(o:Nat)(v:α)(h:o<xs.length):xs.take o++[v]++xs.drop (o+1)=xs.set o v:=by
 rw [List.set_eq_take_append_cons_drop,if_pos h];simp
theorem Zkg {t T':TypeId}{x y:Operand}{b o:Nat}{cs:Array Value}{v:Value}(ho:ops[i]?=some ⟨none,.store t x y,ty,Zo,af,g⟩)(hg:Ya ops E g=true)
    (hx:ev E x=some (.pointer (some ⟨b,o,none⟩)))(hy:ev E y=some v)(ht:Take (some b,.cells cs T' (0,0)) H R)
    (hs:Xc C.P t=some 1)(h1:v.oneCell'=true)(hfit:Nat.ble (o+1) cs.size=true)
    (kk:TO C ops Q l E ((some b,.cells (cs.setIfInBounds o v) T' (0,0))::R)):TO C ops Q (i::l) E H:=by
  have hfit':o<cs.size:=Nat.le_of_ble_eq_true hfit
  have hc:v.cells=#[v]:=by cases v <;> first | rfl | cases h1
  refine Z63 (vs:=[v]) ho hg hx hy ht (by rw [hc]) hs (fun u hu=>by simp at hu;subst hu;exact h1) (by simp;omega) ?_ kk
  apply Array.ext'
  simp only [List.length_singleton]
  rw [Zmc cs.toList o v (by simpa using hfit')]
  simp
theorem Zo9 {t T':TypeId}{x y:Operand}{b o:Nat}{cs:List Value}{v:Value}(ho:ops[i]?=some ⟨none,.store t x y,ty,Zo,af,g⟩)(hg:Ya ops E g=true)
    (hx:ev E x=some (.pointer (some ⟨b,o,none⟩)))(hy:ev E y=some v)(ht:Take (some b,.cells cs.toArray T' (0,0)) H R)
    (hs:Xc C.P t=some 1)(h1:v.oneCell'=true)(hfit:Nat.ble (o+1) cs.length=true)
    (kk:TO C ops Q l E ((some b,.cells (cs.set o v).toArray T' (0,0))::R)):TO C ops Q (i::l) E H :=
  Zkg ho hg hx hy ht hs h1 (by simpa using hfit) (by simpa using kk)
theorem Yl {t T':TypeId}{x y:Operand}{b o:Nat}{cs cs':List Value}{v:Value}(q0_:ops[i]?=some ⟨none,.store t x y,ty,Zo,af,g⟩∧Ya ops E g=true∧ev E x=some (.pointer (some ⟨b,o,none⟩))∧ev E y=some v)(ht:Take (some b,.cells cs.toArray T' (0,0)) H R)
    (hs:Xc C.P t=some 1)(q1_:v.oneCell'=true∧Nat.ble (o+1) cs.length=true∧cs.set o v=cs')
    (kk:TO C ops Q l E ((some b,.cells cs'.toArray T' (0,0))::R)):TO C ops Q (i::l) E H:=have ⟨ho,hg,hx,hy⟩:=q0_;have ⟨h1,hfit,hcs⟩:=q1_;
  Zo9 ho hg hx hy ht hs h1 hfit (by rw [hcs];exact kk)
theorem Wb {t T':TypeId}{x y:Operand}{b k:Nat}{cs vs:List Value}(q0_:ops[i]?=some ⟨none,.store t x y,ty,Zo,af,g⟩∧Ya ops E g=true∧ev E x=some (.pointer (some ⟨b,0,none⟩))∧ev E y=some (.agg vs.toArray))(ht:Take (some b,.cells cs.toArray T' (0,0)) H R)
    (hs:Xc C.P t=some k)(q1_:vs.length=k∧cs.length=k∧vs.all (·.oneCell')=true)
    (kk:TO C ops Q l E ((some b,.cells vs.toArray T' (0,0))::R)):TO C ops Q (i::l) E H:=have ⟨ho,hg,hx,hy⟩:=q0_;have ⟨hk,hl,h1⟩:=q1_;
  Z63 (vs:=vs) ho hg hx hy ht (by simp [Value.cells]) (by rw [hk];exact hs) (fun u hu=>List.all_eq_true.1 h1 u hu) (by simp;omega) (by
    simp [List.drop_eq_nil_of_le (show cs.length≤vs.length by omega)]) kk
abbrev arr {α:Type}(f:α→List Value)(xs:List α)(j:List Value):List Value:=xs.flatMap f++j
abbrev intC (k:IntKind)(x:Int):List Value:=[.int k x]
abbrev boolC (b:Bool):List Value:=[.bool b]
theorem Nm {α:Type}{f:α→List Value}{s:Nat}(hf:∀ x,(f x).length=s):∀ xs:List α,(xs.flatMap f).length=xs.length*s
 | []=>by simp
 | x::xs=>by rw [List.flatMap_cons,List.length_append,hf,Nm hf xs,List.length_cons,Nat.add_mul];omega
theorem Zbo {α:Type}{f:α→List Value}{s:Nat}(hf:∀ x,(f x).length=s)(dflt:α):∀ (xs:List α) (o c:Nat),o<xs.length→c<s→(xs.flatMap f)[o*s+c]?=(f (xs.getD o dflt))[c]?
 | [],o,c,h,_=>by simp at h
 | x::xs,0,c,_,hc=>by
  rw [List.flatMap_cons,Nat.zero_mul,Nat.zero_add,List.getElem?_append_left (by rw [hf];exact hc)]
  rfl
 | x::xs,o+1,c,h,hc=>by
  rw [List.flatMap_cons,List.getElem?_append_right (by rw [hf,Nat.add_mul];omega),hf]
  have:(o+1)*s+c-s=o*s+c:=by rw [Nat.add_mul];omega
  rw [this,Zbo hf dflt xs o c (by simpa using h) hc]
  rfl
theorem Z1l {α:Type}{f:α→List Value}{s:Nat}(hf:∀ x,(f x).length=s)(dflt:α)(xs:List α)(j:List Value)(o c:Nat)(h:o<xs.length)(hc:c<s) :
    (arr f xs j)[o*s+c]?=(f (xs.getD o dflt))[c]?:=by
  unfold arr
  rw [List.getElem?_append_left,Zbo hf dflt xs o c h hc]
  rw [Nm hf]
  have:(o+1)*s≤xs.length*s:=Nat.mul_le_mul_right s h
  rw [Nat.add_mul] at this
  omega
theorem Z7e {α:Type}{f:α→List Value}{s:Nat}(hf:∀ x,(f x).length=s)(v:α)(j:List Value):∀ (xs:List α) (o:Nat),o<xs.length →
    (arr f xs j).take (o*s)++f v++(arr f xs j).drop (o*s+(f v).length)=arr f (xs.set o v) j
  | [],o,h=>by simp at h
  | x::xs,0,_=>by
    simp only [arr,List.flatMap_cons,Nat.zero_mul,List.take_zero,List.nil_append,Nat.zero_add,List.set_cons_zero,List.append_assoc]
    rw [hf,←hf x,List.drop_left]
  | x::xs,o+1,h=>by
    have ih:=Z7e hf v j xs o (by simpa using h)
    simp only [arr,List.flatMap_cons,List.append_assoc,List.set_cons_succ] at ih ⊢
    rw [←ih]
    have e:(o+1)*s=(f x).length+o*s:=by rw [hf,Nat.add_mul];omega
    rw [e,List.take_length_add_append,Nat.add_assoc,List.drop_length_add_append]
    simp [List.append_assoc]
theorem TO.ldI {t T':TypeId}{x:Operand}{b o:Nat}{k:IntKind}{xs:List Int}{j:List Value}{fr:Nat×Nat}(ho:ops[i]?=some ⟨some d,.load t x,ty,Zo,af,g⟩)(hg:Ya ops E g=true)(hd:Nat.ble (d+1) C.n=true)
    (hx:ev E x=some (.pointer (some ⟨b,o,none⟩)))(hT:Wj C.P t=true)(hm:(some b,Obj.cells (arr (intC k) xs j).toArray T' fr)∈H)(hv:o<xs.length)
    (kk:TO C ops Q l ((d,.int k (xs.getD o 0))::E) H):TO C ops Q (i::l) E H :=
  Zr ⟨ho,hg,hd,hx⟩ hT hm (by
    have:=Z1l (f:=intC k) (s:=1) (fun _=>rfl) 0 xs j o 0 hv (by omega)
    simpa using this) kk
theorem TO.ldS {α:Type}{f:α→List Value}{s:Nat}{t T':TypeId}{x:Operand}{b o:Nat}{xs:List α}{j:List Value}{fr:Nat×Nat}(dflt:α)(hf:∀ x,(f x).length=s)
    (ho:ops[i]?=some ⟨some d,.load t x,ty,Zo,af,g⟩)(hg:Ya ops E g=true)(hd:Nat.ble (d+1) C.n=true)
    (hx:ev E x=some (.pointer (some ⟨b,o*s,none⟩)))(hT:Va C.P t s=true)(hm:(some b,Obj.cells (arr f xs j).toArray T' fr)∈H)(hv:o<xs.length)
    (kk:TO C ops Q l ((d,.agg (f (xs.getD o dflt)).toArray)::E) H):TO C ops Q (i::l) E H :=
  Z31 ho hg hd hx hT (hf _) (fun w hi c v hc=>by
    rw [Addr.add_mid,hi.cell_own hm]
    have hcs:c<s:=by rw [←hf (xs.getD o dflt)];exact (List.getElem?_eq_some_iff.1 hc).1
    have:=Z1l hf dflt xs j o c hv hcs
    rw [List.getElem?_toArray,this]
    exact hc) kk
theorem TO.stI {t T':TypeId}{x y:Operand}{b o:Nat}{k:IntKind}{v:Int}{xs:List Int}{j:List Value}(ho:ops[i]?=some ⟨none,.store t x y,ty,Zo,af,g⟩)(hg:Ya ops E g=true)
    (hx:ev E x=some (.pointer (some ⟨b,o,none⟩)))(hy:ev E y=some (.int k v))(ht:Take (some b,.cells (arr (intC k) xs j).toArray T' (0,0)) H R)
    (hs:Xc C.P t=some 1)(hv:o<xs.length)
    (kk:TO C ops Q l E ((some b,.cells (arr (intC k) (xs.set o v) j).toArray T' (0,0))::R)):TO C ops Q (i::l) E H:=by
  refine Z63 (vs:=[.int k v]) ho hg hx hy ht rfl hs (fun u hu=>by simp at hu;subst hu;rfl) (by simp [Nm (f:=intC k) (s:=1) (fun _=>rfl)];omega) ?_ kk
  have:=Z7e (f:=intC k) (s:=1) (fun _=>rfl) v j xs o hv
  simpa using this
theorem TO.stB {t T':TypeId}{x y:Operand}{b o:Nat}{v:Bool}{xs:List Bool}{j:List Value}(ho:ops[i]?=some ⟨none,.store t x y,ty,Zo,af,g⟩)(hg:Ya ops E g=true)
    (hx:ev E x=some (.pointer (some ⟨b,o,none⟩)))(hy:ev E y=some (.bool v))(ht:Take (some b,.cells (arr boolC xs j).toArray T' (0,0)) H R)
    (hs:Xc C.P t=some 1)(hv:o<xs.length)
    (kk:TO C ops Q l E ((some b,.cells (arr boolC (xs.set o v) j).toArray T' (0,0))::R)):TO C ops Q (i::l) E H:=by
  refine Z63 (vs:=[.bool v]) ho hg hx hy ht rfl hs (fun u hu=>by simp at hu;subst hu;rfl) (by simp [Nm (f:=boolC) (s:=1) (fun _=>rfl)];omega) ?_ kk
  have:=Z7e (f:=boolC) (s:=1) (fun _=>rfl) v j xs o hv
  simpa using this
def ea (base:Option Addr)(n:Nat):Addr:=(base.getD ⟨0,0,none⟩).add n
theorem Zev {t e:TypeId}{x y:Operand}{base:Option Addr}{n c s:Nat}{k:IntKind}{p:Int}(ho:ops[i]?=some ⟨some d,.indexAddr t x y,ty,Zo,af,g⟩)(hg:Ya ops E g=true)(hd:Nat.ble (d+1) C.n=true)
    (hx:ev E x=some (.slice base n c))(hy:ev E y=some (.int k p))(ht:Wm C.P t=some e)(hs:Xc C.P e=some s)(hb:base=none→n=0)(h0:0≤p)(h1:p<n)
    (kk:TO C ops Q l ((d,.pointer (some (ea base (p.toNat*s))))::E) H):TO C ops Q (i::l) E H :=
  TO.val ho hg hd (by simp) (fun a w hf hi=>by
    cases base with
    | none=>exact absurd h1 (by simp [hb rfl];omega)
    | some b =>
      have hu:=Gj ht
      simp [execOp,hf.ev hx,hf.ev hy,Instr.indexAt,asIntOf,run_underlying hu,h0,h1,Lq hs,ea]) kk
theorem TO.index {t e:TypeId}{x y:Operand}{b o n c s:Nat}{k:IntKind}{p:Int}(ho:ops[i]?=some ⟨some d,.indexAddr t x y,ty,Zo,af,g⟩)(hg:Ya ops E g=true)(hd:Nat.ble (d+1) C.n=true)
    (hx:ev E x=some (.slice (some ⟨b,o,none⟩) n c))(hy:ev E y=some (.int k p))(ht:Wm C.P t=some e)(hs:Xc C.P e=some s)(h0:0≤p)(h1:p<n)
    (kk:TO C ops Q l ((d,.pointer (some ⟨b,o+p.toNat*s,none⟩))::E) H):TO C ops Q (i::l) E H :=
  Zev ho hg hd hx hy ht hs (by simp) h0 h1 (by simpa [ea,Addr.add_mid] using kk)
theorem Zf5 {t e:TypeId}{x y:Operand}{b n c s:Nat}{k:IntKind}{p:Int}(ho:ops[i]?=some ⟨some d,.indexAddr t x y,ty,Zo,af,g⟩)(hg:Ya ops E g=true)(hd:Nat.ble (d+1) C.n=true)
    (hx:ev E x=some (.slice (some ⟨b,0,none⟩) n c))(hy:ev E y=some (.int k p))(ht:Wm C.P t=some e)(hs:Xc C.P e=some s)(h0:0≤p)(h1:p<n)
    (kk:TO C ops Q l ((d,.pointer (some ⟨b,p.toNat*s,none⟩))::E) H):TO C ops Q (i::l) E H :=
  TO.index ho hg hd hx hy ht hs h0 h1 (by rw [Nat.zero_add];exact kk)
theorem Zey {t e:TypeId}{x y:Operand}{b n c:Nat}{k:IntKind}{p:Int}(ho:ops[i]?=some ⟨some d,.indexAddr t x y,ty,Zo,af,g⟩)(hg:Ya ops E g=true)(hd:Nat.ble (d+1) C.n=true)
    (hx:ev E x=some (.slice (some ⟨b,0,none⟩) n c))(hy:ev E y=some (.int k p))(ht:Wm C.P t=some e)(hs:Xc C.P e=some 1)(h0:0≤p)(h1:p<n)
    (kk:TO C ops Q l ((d,.pointer (some ⟨b,p.toNat,none⟩))::E) H):TO C ops Q (i::l) E H :=
  Zf5 ho hg hd hx hy ht hs h0 h1 (by rw [Nat.mul_one];exact kk)
theorem Zkw {t e:TypeId}{x y:Operand}{base:Option Addr}{n c s:Nat}{k:IntKind}{p:Int}(ho:ops[i]?=some ⟨some d,.slice t x none (some y) none,ty,Zo,af,g⟩)(hg:Ya ops E g=true)(hd:Nat.ble (d+1) C.n=true)
    (hx:ev E x=some (.slice base n c))(hy:ev E y=some (.int k p))(ht:Wm C.P t=some e)(hs:Xc C.P e=some s)(h0:0≤p)(h1:p≤c)
    (kk:TO C ops Q l ((d,.slice base p.toNat c)::E) H):TO C ops Q (i::l) E H :=
  TO.val ho hg hd (by simp) (fun a w hf hi=>by
    have hu:=Gj ht
    have hb:∀ b:Option Addr,Option.map (fun x=>x.add 0) b=b:=fun b=>by cases b <;> simp [Addr.add]
    simp [execOp,hf.ev hx,hf.ev hy,Instr.sliceAt,Instr.slice,Instr.sliceBounds,Instr.sliceBound,asIntOf,run_underlying hu,h0,h1,Lq hs,hb]) kk
structure RO {α:Type}(w:World)(f:α→List Value)(s:Nat)(base:Option Addr)(n:Nat)(xs:List α):Prop where
  len:xs.length=n
  nil:base=none→n=0
  wide:∀ x,(f x).length=s
  cell:∀ o c,o<xs.length→c<s→∀ x,xs[o]?=some x→w.cell? (ea base (o*s+c))=(f x)[c]?
section ro
variable {α : Type} {w w0 : World} {f : α → List Value} {s n : Nat} {base : Option Addr} {xs : List α} {M : List Nat}
theorem RO.at (h:RO w f s base n xs)(dflt:α){o c:Nat}(ho:o<xs.length)(hc:c<s):w.cell? (ea base (o*s+c))=(f (xs.getD o dflt))[c]? :=
 h.cell o c ho hc _ (by rw [List.getElem?_eq_getElem ho,List.getD_eq_getElem?_getD,List.getElem?_eq_getElem ho];rfl)
theorem Zfo (w:World)(hf:∀ x,(f x).length=s):RO w f s none 0 ([]:List α):=⟨rfl,fun _=>rfl,hf,fun o c h=>by simp at h⟩
theorem Inv.ro (hi:Inv w0 M w H)(hf:∀ x,(f x).length=s){b:Nat}{T':TypeId}{fr:Nat×Nat}{j:List Value}(hm:(some b,Obj.cells (arr f xs j).toArray T' fr)∈H):RO w f s (some ⟨b,0,none⟩) xs.length xs :=
 ⟨rfl,by simp,hf,fun o c ho hc x hx=>by
  rw [show ea (some ⟨b,0,none⟩) (o*s+c)=⟨b,o*s+c,none⟩ by simp [ea,Addr.add_mid],hi.cell_own hm,List.getElem?_toArray,Z1l hf x xs j o c ho hc]
  rw [List.getD_eq_getElem?_getD,hx];rfl⟩
theorem RO.take (h:RO w f s base n xs){m:Nat}(hm:m≤n):RO w f s base m (xs.take m) :=
 ⟨by rw [List.length_take,h.len];omega,fun hb=>by have:=h.nil hb;omega,h.wide,fun o c ho hc x hx=>by
  have:o<m:=by rw [List.length_take] at ho;omega
  rw [List.getElem?_take_of_lt this] at hx
  exact h.cell o c (by rw [List.length_take] at ho;omega) hc x hx⟩
end ro
theorem ea_add (base:Option Addr)(n m:Nat):(ea base n).add m=ea base (n+m):=by
 unfold ea Addr.add
 by_cases h1:n=0
 ·subst h1;simp
 ·
  by_cases h2:m=0
  ·subst h2;simp
  ·
   rw [if_neg h2,if_neg h1,if_neg (show n+m≠0 by omega)]
   simp [Nat.add_assoc]
theorem Zpx (z:Value)(n:Nat):madeCells #[z] n=(List.replicate n z).toArray:=by
 unfold madeCells
 apply Array.ext'
 simp only [Array.toList_map]
 rw [List.eq_replicate_iff]
 refine ⟨by simp,fun u hu=>?_⟩
 simp only [List.mem_map] at hu
 obtain ⟨q,_,rfl⟩:=hu
 simp [Nat.mod_one]
theorem TO.makeSlice {t e:TypeId}{x y:Operand}{k k':IntKind}{p:Int}{z:Value}{by':Nat}(ho:ops[i]?=some ⟨some d,.makeSlice t x y,ty,Zo,af,g⟩)(hg:Ya ops E g=true)(hd:Nat.ble (d+1) C.n=true)
    (hx:ev E x=some (.int k p))(hy:ev E y=some (.int k' p))(ht:Wm C.P t=some e)(hs:Xc C.P e=some 1)(hz:Ws C.P e=some z)(hz1:z.cells=#[z])(hb:Kt C.P e=some by')
    (h0:0≤p)(hroom:by'*p.toNat≤281474976710656)(h63:p≤9223372036854775807)
    (kk:∀ b,TO C ops Q l ((d,.slice (some ⟨b,0,none⟩) p.toNat p.toNat)::E) ((some b,.cells (List.replicate p.toNat z).toArray e (0,0))::H)):TO C ops Q (i::l) E H:=by
  obtain ⟨ti,hti,hsz⟩:=Z5y hs
  have hz':ti.zero=some z:=by simpa [Ws,hti] using hz
  have hb':ti.bytes=by':=by simpa [Kt,hti] using hb
  refine Z32 (fun b=>.slice (some ⟨b,0,none⟩) p.toNat p.toNat) ho hg hd (by simp) (fun a w hf hi=>?_) kk
  have hr:=run_make (P:=C.P) w t e ti z (Gj ht) hti hz' k k' p p h0 (Int.le_refl _) (by
    rw [hb']
    have:(p.toNat:Int)=p:=Int.toNat_of_nonneg h0
    have h2:((by'*p.toNat:Nat):Int)≤281474976710656:=by omega
    rw [Int.natCast_mul,this] at h2
    exact h2) h63
  rw [hsz,Nat.mul_one,hz1,Zpx] at hr
  simp [execOp,hf.ev hx,hf.ev hy,hr]
theorem Zlk (n:Nat)(k:IntKind):(List.replicate n (Value.int k 0))=arr (intC k) (List.replicate n 0) []:=by
 induction n with
 | zero=>rfl
 | succ n ih=>simp only [List.replicate_succ,arr,List.flatMap_cons,List.append_nil,intC,List.singleton_append] at *;rw [←ih]
theorem Zl1 (n:Nat):(List.replicate n (Value.bool false))=arr boolC (List.replicate n false) []:=by
 induction n with
 | zero=>rfl
 | succ n ih=>simp only [List.replicate_succ,arr,List.flatMap_cons,List.append_nil,boolC,List.singleton_append] at *;rw [←ih]
theorem TO.makeI {t e:TypeId}{x y:Operand}{k k' q:IntKind}{p:Int}{by':Nat}(ho:ops[i]?=some ⟨some d,.makeSlice t x y,ty,Zo,af,g⟩)(hg:Ya ops E g=true)(hd:Nat.ble (d+1) C.n=true)
    (hx:ev E x=some (.int k p))(hy:ev E y=some (.int k' p))(ht:Wm C.P t=some e)(hs:Xc C.P e=some 1)(hz:Ws C.P e=some (.int q 0))(hb:Kt C.P e=some by')
    (h0:0≤p)(hroom:by'*p.toNat≤281474976710656)(h63:p≤9223372036854775807)
    (kk:∀ b,TO C ops Q l ((d,.slice (some ⟨b,0,none⟩) p.toNat p.toNat)::E) ((some b,.cells (arr (intC q) (List.replicate p.toNat 0) []).toArray e (0,0))::H)):TO C ops Q (i::l) E H :=
  TO.makeSlice ho hg hd hx hy ht hs hz rfl hb h0 hroom h63 (fun b=>by rw [Zlk];exact kk b)
theorem TO.makeB {t e:TypeId}{x y:Operand}{k k':IntKind}{p:Int}{by':Nat}(ho:ops[i]?=some ⟨some d,.makeSlice t x y,ty,Zo,af,g⟩)(hg:Ya ops E g=true)(hd:Nat.ble (d+1) C.n=true)
    (hx:ev E x=some (.int k p))(hy:ev E y=some (.int k' p))(ht:Wm C.P t=some e)(hs:Xc C.P e=some 1)(hz:Ws C.P e=some (.bool false))(hb:Kt C.P e=some by')
    (h0:0≤p)(hroom:by'*p.toNat≤281474976710656)(h63:p≤9223372036854775807)
    (kk:∀ b,TO C ops Q l ((d,.slice (some ⟨b,0,none⟩) p.toNat p.toNat)::E) ((some b,.cells (arr boolC (List.replicate p.toNat false) []).toArray e (0,0))::H)):TO C ops Q (i::l) E H :=
  TO.makeSlice ho hg hd hx hy ht hs hz rfl hb h0 hroom h63 (fun b=>by rw [Zl1];exact kk b)
theorem TO.buildSlice {t e:TypeId}{n:Nat}{ps:Array (Nat×Operand)}{vs:List (Nat×Value)}{cs:Array Value}{z:Value}{s:Nat}(ho:ops[i]?=some ⟨some d,.buildSlice t n ps,ty,Zo,af,g⟩)(hg:Ya ops E g=true)(hd:Nat.ble (d+1) C.n=true)
    (hx:Nl E ps.toList=some vs)(ht:Wm C.P t=some e)(hs:Xc C.P e=some s)(hz:Ws C.P e=some z)(h24:Nat.ble (n*s) (2^24)=true)(hp:Nat.ble 1 (n*s)=true)
    (hfill:Instr.fill (fun i=>some (i*s,s)) ((Array.range (n*s)).map (z.cells[·%z.cells.size]!)) vs=some cs)
    (kk:∀ b,TO C ops Q l ((d,.slice (some ⟨b,0,none⟩) n n)::E) ((some b,.cells cs e (0,0))::H)):TO C ops Q (i::l) E H:=by
  obtain ⟨ti,hti,hsz⟩:=Z5y hs
  have hz':ti.zero=some z:=by simpa [Ws,hti] using hz
  refine Z32 (fun b=>.slice (some ⟨b,0,none⟩) n n) ho hg hd (by simp) (fun a w hf hi=>?_) kk
  have e1:(ps.map (fun p=>(p.1,a.eval p.2))).toList=vs:=by simpa using Z72 hf hx
  have h24':=Nat.le_of_ble_eq_true h24
  have hp':=Nat.le_of_ble_eq_true hp
  have hr:=run_buildSlice (P:=C.P) w t e n (ps.map (fun p=>(p.1,a.eval p.2))) cs ti z (Gj ht) hti hz' (by rw [hsz];omega) (by rw [hsz];omega) (by rw [e1,hsz];exact hfill)
  simp [execOp,hr]
theorem Ju {t e:TypeId}{n:Nat}{ps:Array (Nat×Operand)}{vs:List (Nat×Value)}{cs:List Value}{z:Value}{s:Nat}(zs:List Value)(offs:List Nat)(q0_:ops[i]?=some ⟨some d,.buildSlice t n ps,ty,Zo,af,g⟩∧Ya ops E g=true∧Nat.ble (d+1) C.n=true∧Nl E ps.toList=some vs)(ht:Wm C.P t=some e)(hs:Xc C.P e=some s)(hz:Ws C.P e=some z)(q1_:Nat.ble (n*s) (2^24)=true∧Nat.ble 1 (n*s)=true)
    (_hcs:Yq offs zs vs=cs)
    (hfill:Instr.fill (fun i=>some (i*s,s)) ((Array.range (n*s)).map (z.cells[·%z.cells.size]!)) vs=some cs.toArray)
    (kk:∀ b,TO C ops Q l ((d,.slice (some ⟨b,0,none⟩) n n)::E) ((some b,.cells cs.toArray e (0,0))::H)):TO C ops Q (i::l) E H:=have ⟨ho,hg,hd,hx⟩:=q0_;have ⟨h24,hp⟩:=q1_;
  TO.buildSlice ho hg hd hx ht hs hz h24 hp hfill kk
theorem Zes {t e:TypeId}{s:Nat}(q0_:ops[i]?=some ⟨some d,.buildSlice t 0 #[],ty,Zo,af,g⟩∧Ya ops E g=true∧Nat.ble (d+1) C.n=true)
    (ht:Wm C.P t=some e)(hs:Xc C.P e=some s)
    (kk:∀ b,TO C ops Q l ((d,.slice (some ⟨b,0,none⟩) 0 0)::E) ((some b,.cells #[] e (0,0))::H)):TO C ops Q (i::l) E H:=by
  obtain ⟨ho,hg,hd⟩:=q0_
  refine Z32 (fun b=>.slice (some ⟨b,0,none⟩) 0 0) ho hg hd (by simp) (fun a w hf hi=>?_) kk
  simp [execOp,Instr.buildSlice,run_underlying (Gj ht),Lq hs,Instr.fill,newRow,Array.range_zero']
theorem TO.len {t:TypeId}{at':Array TypeId}{x:Operand}{e:TypeId}{base:Option Addr}{n c:Nat}
    (ho:ops[i]?=some ⟨some d,.call ⟨.builtin .len,#[x],at'⟩,ty,Zo,af,g⟩)(hg:Ya ops E g=true)(hd:Nat.ble (d+1) C.n=true)(hat:at'[0]?=some t)
    (hx:ev E x=some (.slice base n c))(ht:Wm C.P t=some e)(kk:TO C ops Q l ((d,.int .i64 n)::E) H):TO C ops Q (i::l) E H :=
  TO.val ho hg hd (by simp) (fun a w hf _=>by
    simp [execOp,resolve,invoke,builtin,hf.ev hx,Builtin.len_,hat,run_underlying (Gj ht),goInt]) kk
theorem TO.min2 {at':Array TypeId}{x y:Operand}{k:IntKind}{p q:Int}
    (q0_:ops[i]?=some ⟨some d,.call ⟨.builtin .min,#[x,y],at'⟩,ty,Zo,af,g⟩∧Ya ops E g=true∧Nat.ble (d+1) C.n=true∧ev E x=some (.int k p)∧ev E y=some (.int k q))(kk:TO C ops Q l ((d,.int k (min p q))::E) H):TO C ops Q (i::l) E H:=have ⟨ho,hg,hd,hx,hy⟩:=q0_;
  TO.val ho hg hd (by simp) (fun a w hf _=>by
    have:(if q<p then q else p)=min p q:=by rw [Int.min_def];split <;> split <;> omega
    simp [execOp,resolve,invoke,builtin,hf.ev hx,hf.ev hy,Builtin.min_,Builtin.min2,this]) kk
theorem Zan {o:Oper}{f:FuncId}{args:Array Value}{M:List Nat}{Hm:Heap}{Post:Value→Heap→Prop}
    (ho:ops[i]?=some o)(hg:Ya ops E o.guard=true)(hdst:o.dst=some d)(hnd:∀ c,o.op≠.defer c)(hd:Nat.ble (d+1) C.n=true)
    (hrun:∀ a w,Fits C.n C.D E a→Inv C.w0 C.M w H→(execOp a.eval o).run C.P w=.ok (.enter f args) w)
    (hH:List.Perm H (Hm++R))(hM:∀ m,m∈M→m∈Hm.filterMap (·.1))
    (hc:∀ w,Inv C.w0 C.M w H→Fnc C.P f args w M Post)
    (kk:∀ v N,Post v N→TO C ops Q l ((d,v)::E) (N++R)):TO C ops Q (i::l) E H :=
  Z0k ho hg hnd fun a w hf hi=>by
    rw [hrun a w hf hi]
    refine ⟨by simp [FW],?_⟩
    refine callsIn_FW.2 (Calls.mono (hc w hi) ?_)
    rintro e w' ⟨v,N,hP,rfl,hN⟩
    show wpOpsIn _ _ _ _ _ _ _ _
    rw [hdst]
    exact kk v N hP _ _ (hf.put hd v) (hi.join hH hM hN)
def Yc (P:Program)(f:FuncId):Bool :=
  match P.funcs[f]? with
  | some fn=>fn.body.isSome&&!(fn.name== "runtime.NumGoroutine")
  | none=>false
theorem Z3o {P:Program}{f:FuncId}(h:Yc P f=true)(args:Array Value)(w:World):(callFunc f args).run P w=.ok (.enter f args) w:=by
 unfold Yc at h
 cases hf:P.funcs[f]? with
 | none=>simp [hf] at h
 | some fn =>
  simp only [hf,Bool.and_eq_true,Bool.not_eq_true'] at h
  have h2:¬fn.body=none:=by cases hb:fn.body <;> simp_all
  have h3:¬fn.name= "runtime.NumGoroutine":=by simpa using h.2
  simp [callFunc,hf,h3,h2]
theorem TO.call {f:FuncId}{xs:Array Operand}{at':Array TypeId}{vs:List Value}{Post:Value→Heap→Prop}
    (ho:ops[i]?=some ⟨some d,.call ⟨.value (.func f),xs,at'⟩,ty,Zo,af,g⟩)(hg:Ya ops E g=true)(hd:Nat.ble (d+1) C.n=true)(hF:Yc C.P f=true)
    (hx:Ku E xs.toList=some vs)
    (hc:∀ w,Inv C.w0 C.M w H→Fnc C.P f vs.toArray w [] Post)
    (kk:∀ v N,Post v N→TO C ops Q l ((d,v)::E) (N++H)):TO C ops Q (i::l) E H :=
  Zan (Hm:=[]) (R:=H) ho hg rfl (by simp) hd (fun a w hf hi=>by
    have e1:xs.map a.eval=vs.toArray:=by apply Array.ext';simpa using Ln hf hx
    simp [execOp,resolve,Deferred.ofValue,invoke,Act.eval,e1,Z3o hF]) (List.Perm.refl _) (by simp) hc kk
theorem TO.callV {f:FuncId}{x:Operand}{xs:Array Operand}{at':Array TypeId}{vs:List Value}{fs cs:Array Value}{Post:Value→Heap→Prop}
    (ho:ops[i]?=some ⟨some d,.call ⟨.value x,xs,at'⟩,ty,Zo,af,g⟩)(hg:Ya ops E g=true)(hd:Nat.ble (d+1) C.n=true)(hF:Yc C.P f=true)
    (hfv:ev E x=some (.func (.func f) fs cs))(hx:Ku E xs.toList=some vs)
    (hc:∀ w,Inv C.w0 C.M w H→Fnc C.P f (fs++vs.toArray++cs) w [] Post)
    (kk:∀ v N,Post v N→TO C ops Q l ((d,v)::E) (N++H)):TO C ops Q (i::l) E H :=
  Zan (Hm:=[]) (R:=H) ho hg rfl (by simp) hd (fun a w hf hi=>by
    have e1:xs.map a.eval=vs.toArray:=by apply Array.ext';simpa using Ln hf hx
    simp [execOp,resolve,Deferred.ofValue,invoke,hf.ev hfv,e1,Z3o hF]) (List.Perm.refl _) (by simp) hc kk
theorem Zi1 {f:FuncId}{x:Operand}{xs:Array Operand}{at':Array TypeId}{vs:List Value}{fs cs:Array Value}{M:List Nat}{Hm:Heap}{Post:Value→Heap→Prop}
    (ho:ops[i]?=some ⟨some d,.call ⟨.value x,xs,at'⟩,ty,Zo,af,g⟩)(hg:Ya ops E g=true)(hd:Nat.ble (d+1) C.n=true)(hF:Yc C.P f=true)
    (hfv:ev E x=some (.func (.func f) fs cs))(hx:Ku E xs.toList=some vs)
    (hH:List.Perm H (Hm++R))(hM:∀ m,m∈M→m∈Hm.filterMap (·.1))
    (hc:∀ w,Inv C.w0 C.M w H→Fnc C.P f (fs++vs.toArray++cs) w M Post)
    (kk:∀ v N,Post v N→TO C ops Q l ((d,v)::E) (N++R)):TO C ops Q (i::l) E H :=
  Zan ho hg rfl (by simp) hd (fun a w hf hi=>by
    have e1:xs.map a.eval=vs.toArray:=by apply Array.ext';simpa using Ln hf hx
    simp [execOp,resolve,Deferred.ofValue,invoke,hf.ev hfv,e1,Z3o hF]) hH hM hc kk
end rules
section ends
variable {C : Cx} {E : Env} {H N : Heap}
def Z6e (tmps:Array Value):ResultVar→Sem Value
  | .tmp t=>pure (tmps.getD t undef)
  | .cell x t=>do loadVar t (←asAddr (tmps.getD x undef))
theorem Zqn (fn:Func)(tmps:Array Value):results fn tmps=(do
    let vs ←fn.results.mapM (Z6e tmps)
    pure (if h:vs.size=1 then vs[0] else .tuple vs)):=by
  unfold results
  congr 2
def Res (C:Cx)(E:Env)(H:Heap)(r:ResultVar)(v:Value):Prop:=∀ a w,Fits C.n C.D E a→Inv C.w0 C.M w H→(Z6e a.tmps r).run C.P w=.ok v w
theorem Res.tmp {t:Nat}{v:Value}(h:find E t=some v):Res C E H (.tmp t) v:=fun a w hf _=>by simp only [Z6e,hf.get t v h];rfl
theorem Um {x k:Nat}{t T':TypeId}{b:Nat}{cs:List Value}{fr:Nat×Nat}(h:find E x=some (.pointer (some ⟨b,0,none⟩)))(hT:Va C.P t k=true)(hm:(some b,Obj.cells cs.toArray T' fr)∈H)(hk:cs.length=k) :
    Res C E H (.cell x t) (.agg cs.toArray):=fun a w hf hi=>by
  have:=Zbi (P:=C.P) (w:=w) hT hk (a:=⟨b,0,none⟩) (fun j v hv=>by rw [Addr.add_mid,Nat.zero_add,hi.cell_own hm];simpa using hv)
  simp only [Z6e,hf.get x _ h,asAddr,Sem.run_bind,Sem.run_pure,Result.andThen_ok,this]
def packV:List Value→Value
  | [u]=>u
  | vs=>.tuple vs.toArray
theorem X.ret {fn:Func}{rs:List ResultVar}{vs:List Value}{v:Value}{w0:World}{M:List Nat}{Post:Value→Heap→Prop}(hw:C.w0=w0)(hMM:C.M=M)(hD:C.D=[])(hfn:fn.results.toList=rs)
    (hr:∀ (j:Nat) r u,rs[j]?=some r→vs[j]?=some u→Res C E H r u)(q0_:rs.length=vs.length∧v=packV vs)
    (hN:Pick N H)(hP:Post v N):X C (bodyPost C.P fn (FncR w0 M Post)) .ret E H:=by
  obtain ⟨hl,hv⟩:=q0_
  intro a w hf hi
  refine ⟨hf.defers.trans hD,v,?_,v,N,hP,rfl,by rw [←hw,←hMM];exact hi.pick hN⟩
  have key:∀ (rs:List ResultVar) (vs:List Value),rs.length=vs.length→(∀ (j:Nat) r u,rs[j]?=some r→vs[j]?=some u→Res C E H r u) →
      (rs.mapM (Z6e a.tmps)).run C.P w=.ok vs w:=by
    intro rs
    induction rs with
    | nil=>intro vs hl _;cases vs <;> simp_all
    | cons r rs ih =>
      intro vs hl h
      cases vs with
      | nil=>simp at hl
      | cons u vs =>
        have h0:=h 0 r u rfl rfl a w hf hi
        have h1:=ih vs (by simpa using hl) (fun j r' u' hj hu=>h (j+1) r' u' (by simpa using hj) (by simpa using hu))
        simp only [List.mapM_cons,Sem.run_bind,h0,Result.andThen_ok,h1,Sem.run_pure]
  have:=key rs vs hl hr
  rw [Zqn,←Array.toArray_toList (xs:=fn.results),hfn,List.mapM_toArray]
  simp only [Sem.run_bind,Sem.run_map,this,Result.andThen_ok,Sem.run_pure]
  rw [hv]
  cases vs with
  | nil=>simp [packV]
  | cons u vs =>
    cases vs with
    | nil=>simp [packV]
    | cons u' vs=>simp [packV]
theorem Zw {fn:Func}{r:ResultVar}{v:Value}{w0:World}{M:List Nat}{Post:Value→Heap→Prop}(q0_:C.w0=w0∧C.M=M∧C.D=[]∧fn.results.toList=[r])(hr:Res C E H r v)(hN:Pick N H)(hP:Post v N) :
    X C (bodyPost C.P fn (FncR w0 M Post)) .ret E H:=have ⟨hw,hMM,hD,hfn⟩:=q0_;
  X.ret (vs:=[v]) hw hMM hD hfn (fun j r' u h1 h2=>by
    cases j with
    | zero=>simp at h1 h2;subst h1;subst h2;exact hr
    | succ j=>simp at h1) Yt hN hP
theorem Kq {fn:Func}{r r':ResultVar}{v v':Value}{w0:World}{M:List Nat}{Post:Value→Heap→Prop}(q0_:C.w0=w0∧C.M=M∧C.D=[]∧fn.results.toList=[r,r'])(hr:Res C E H r v)(hr':Res C E H r' v')(hN:Pick N H)(hP:Post (.tuple #[v,v']) N) :
    X C (bodyPost C.P fn (FncR w0 M Post)) .ret E H:=have ⟨hw,hMM,hD,hfn⟩:=q0_;
  X.ret (vs:=[v,v']) hw hMM hD hfn (fun j r'' u h1 h2=>by
    match j with
    | 0=>simp at h1 h2;subst h1;subst h2;exact hr
    | 1=>simp at h1 h2;subst h1;subst h2;exact hr'
    | j+2=>simp at h1) Yt hN hP
def Z4i:Nat→List Value→Env
  | _,[]=>[]
  | k,v::vs=>(k,v)::Z4i (k+1) vs
theorem Zfj:∀ (vs:List Value) (k t:Nat) (v:Value),find (Z4i k vs) t=some v→k≤t∧vs[t-k]?=some v
 | [],k,t,v,h=>by simp [Z4i,find] at h
 | u::vs,k,t,v,h=>by
  simp only [Z4i] at h
  rw [Kv] at h
  by_cases e:k=t
  ·subst e;rw [if_pos rfl] at h;simpa using h
  ·
   rw [if_neg e] at h
   obtain ⟨h1,h2⟩:=Zfj vs (k+1) t v h
   refine ⟨by omega,?_⟩
   have:t-k=(t-(k+1))+1:=by omega
   rw [this];simpa using h2
theorem Zy {P:Program}{f:FuncId}{fn:Func}{c:Code}{vs:List Value}{w:World}{M:List Nat}{H:Heap}{Post:Value→Heap→Prop}
    (hf:P.funcs[f]?=some fn)(hb:fn.body=some c)(hn:Nat.ble vs.length fn.ntmps=true)(hi:Inv w M w H)
    (h:T ⟨P,none,fn.ntmps,[],w,M⟩ c (bodyPost P fn (FncR w M Post)) (Z4i 0 vs) H):Fnc P f vs.toArray w M Post:=by
  have hn':=Nat.le_of_ble_eq_true hn
  refine callsIn_FW (ρ:=none) (n:=0) |>.1 (callsIn_of_wp hf hb trivial ?_ rfl)
  refine h _ w ⟨by simp;omega,rfl,fun t v hv=>?_⟩ hi
  obtain ⟨_,h2⟩:=Zfj vs 0 t v hv
  rw [Nat.sub_zero] at h2
  have hlt:=(List.getElem?_eq_some_iff.1 h2).1
  simp only [Array.getD_eq_getD_getElem?]
  rw [Array.getElem?_append_left (by simpa using hlt)]
  simp [h2]
end ends
end Go.Acq
namespace Go.Acq
open Go Go.RowKit
def Ni (ops:Array Oper):Bool:=(List.range ops.size).all fun i=>match ops[i]? with
  | some o=>o.after.all fun e=>!Region.binds .any e||Nat.blt e.on i
  | none=>false
section any
variable {F : Fence} {P : Program} {ops : Array Oper} {Q : Exit → Act → World → Prop}
theorem Zoa {listed:Array Bool}(hb:Ni ops=true)(h:Region.ready .any ops listed=[]):∀ i,i<ops.size→listed.getD i true=true:=by
 intro i
 induction i using Nat.strongRecOn with
 | _ i ih =>
  intro hi
  cases hl:listed.getD i true with
  | true=>rfl
  | false =>
   exfalso
   have hb':=List.all_eq_true.1 hb i (List.mem_range.2 hi)
   have ho:ops[i]?=some ops[i]:=Array.getElem?_eq_getElem hi
   rw [ho] at hb'
   have:i∈Region.ready .any ops listed:=by
    rw [mem_ready]
    refine ⟨hl,ops[i],ho,?_⟩
    intro e he hbe
    have h2:=Array.all_eq_true_iff_forall_mem.1 hb' e he
    rw [hbe] at h2
    have hlt:e.on<i:=by simpa using h2
    have:=ih e.on hlt (by omega)
    have hsz:listed.getD e.on false=true:=by
     rw [Array.getD_eq_getD_getElem?] at this hl ⊢
     cases hq:listed[e.on]? with
     | some b=>rw [hq] at this;simpa using this
     | none =>
      have h3:listed[i]?=none:=by
       rw [Array.getElem?_eq_none_iff] at hq ⊢
       omega
      rw [h3] at hl;simp at hl
    exact hsz
   rw [h] at this
   cases this
theorem Zde (J:(Nat→Bool)→Act→World→Prop)(hb:Ni ops=true)
    (hstep:∀ (done:Nat→Bool) i o a w,ops[i]?=some o→done i=false→(∀ e,e∈o.after→Region.binds .any e=true→done e.on=true)→J done a w →
      wpOpIn F 0 P ops Q i (fun a' w'=>J (fun m=>if m=i then true else done m) a' w') a w)
    (hend:∀ (done:Nat→Bool) a w,(∀ i,i<ops.size→done i=true)→J done a w→Q .normal a w) :
    ∀ (fuel:Nat) (listed:Array Bool) a w,listed.size=ops.size→((List.range ops.size).filter (fun i=>!listed.getD i true)).length≤fuel→J (fun m=>listed.getD m false) a w →
      wpAnyIn F 0 P .any ops Q fuel listed a w:=by
  have hfin:∀ (listed:Array Bool) a w,listed.size=ops.size→Region.ready .any ops listed=[]→J (fun m=>listed.getD m false) a w→Q .normal a w:=by
    intro listed a w hs hr hJ
    refine hend _ a w (fun i hi=>?_) hJ
    have:=Zoa hb hr i hi
    rw [Array.getD_eq_getD_getElem?] at this ⊢
    rw [Array.getElem?_eq_getElem (by omega)] at this ⊢
    simpa using this
  intro fuel
  induction fuel with
  | zero =>
    intro listed a w hs hf hJ
    have hr:Region.ready .any ops listed=[]:=by
      cases hq:Region.ready .any ops listed with
      | nil=>rfl
      | cons i l =>
        exfalso
        have hm:i∈Region.ready .any ops listed:=by rw [hq];exact .head _
        obtain ⟨hl,o,ho,_⟩:=mem_ready.1 hm
        have hi:i<ops.size:=(Array.getElem?_eq_some_iff.1 ho).1
        have:i∈(List.range ops.size).filter (fun i=>!listed.getD i true):=List.mem_filter.2 ⟨List.mem_range.2 hi,by simp [hl]⟩
        have:=List.length_pos_of_mem this
        omega
    exact ⟨hr,hfin listed a w hs hr hJ⟩
  | succ fuel ih =>
    intro listed a w hs hf hJ
    refine ⟨fun hr=>hfin listed a w hs hr hJ,fun i hm=>?_⟩
    obtain ⟨hl,o,ho,hafter⟩:=mem_ready.1 hm
    have hi:i<ops.size:=(Array.getElem?_eq_some_iff.1 ho).1
    have hli:listed[i]?=some false:=by
      rw [Array.getD_eq_getD_getElem?] at hl
      cases hq:listed[i]? with
      | none=>rw [hq] at hl;simp at hl
      | some b=>rw [hq] at hl;simp at hl;rw [hl]
    have hd:(fun m=>listed.getD m false) i=false:=by
      show listed.getD i false=false
      rw [Array.getD_eq_getD_getElem?,hli];rfl
    refine wpOpIn_mono (fun a' w' hJ'=>ih _ a' w' (by simp [hs]) ?_ ?_) (hstep _ i o a w ho hd hafter hJ)
    · have hsub : (List.range ops.size).filter (fun j => !(listed.setIfInBounds i true).getD j true) = ((List.range ops.size).filter (fun j => !listed.getD j true)).filter (fun j => decide (j ≠ i)) := by
        rw [List.filter_filter]
        apply List.filter_congr
        intro j hj
        have hjs:j<ops.size:=List.mem_range.1 hj
        simp only [Array.getD_eq_getD_getElem?,Array.getElem?_setIfInBounds]
        by_cases e:i=j
        ·subst e;simp [hs,hjs]
        · rw [if_neg e]
          have:decide (j≠i)=true:=by simpa using fun h=>e h.symm
          rw [this];simp
      rw [hsub]
      have hmem:i∈(List.range ops.size).filter (fun j=>!listed.getD j true):=List.mem_filter.2 ⟨List.mem_range.2 hi,by simp [hl]⟩
      have:(((List.range ops.size).filter (fun j=>!listed.getD j true)).filter (fun j=>decide (j≠i))).length<((List.range ops.size).filter (fun j=>!listed.getD j true)).length:=by
        rw [List.length_filter_lt_length_iff_exists]
        exact ⟨i,hmem,by simp⟩
      omega
    · have : (fun m => (listed.setIfInBounds i true).getD m false) = (fun m => if m = i then true else listed.getD m false) := by
        funext m
        simp only [Array.getD_eq_getD_getElem?,Array.getElem?_setIfInBounds]
        by_cases e:i=m
        · subst e
          have:i<listed.size:=by omega
          simp [this]
        ·rw [if_neg e,if_neg (fun h=>e h.symm)]
      rw [this];exact hJ'
end any
def Vh (ops:Array Oper):Nat→Nat→Nat→Bool
  | 0,_,_=>false
  | f+1,i,j=>match ops[i]? with
    | some o=>(o.after.toList.any fun e=>Region.binds .any e&&Nat.beq e.on j)||(o.after.toList.any fun e=>Region.binds .any e&&Vh ops f e.on j)
    | none=>false
def Z1e (ops:Array Oper)(m:Nat):Bool:=(List.range ops.size).all fun i=>Nat.blt i m||(List.range i).all fun j=>Vh ops ops.size i j
section phase
variable {F : Fence} {P : Program} {ops : Array Oper} {Q : Exit → Act → World → Prop}
def Ja (ops:Array Oper)(done:Nat→Bool):Prop:=∀ (i:Nat) (o:Oper),ops[i]?=some o→done i=true→∀ e,e∈o.after→Region.binds .any e=true→done e.on=true
theorem Nw {done:Nat→Bool}(hc:Ja ops done):∀ (f i j:Nat),Vh ops f i j=true→(∀ (o:Oper),ops[i]?=some o→∀ e,e∈o.after→Region.binds .any e=true→done e.on=true)→done j=true
 | 0,i,j,h,_=>by simp [Vh] at h
 | f+1,i,j,h,hd=>by
  unfold Vh at h
  cases ho:ops[i]? with
  | none=>rw [ho] at h;simp at h
  | some o =>
   rw [ho] at h
   simp only [Bool.or_eq_true,List.any_eq_true] at h
   rcases h with h | h
   ·
    obtain ⟨e,he,h2⟩:=h
    simp only [Bool.and_eq_true] at h2
    rw [←Nat.eq_of_beq_eq_true h2.2]
    exact hd o ho e (by simpa using he) h2.1
   ·
    obtain ⟨e,he,h2⟩:=h
    simp only [Bool.and_eq_true] at h2
    have hde:=hd o ho e (by simpa using he) h2.1
    exact Nw hc f e.on j h2.2 (fun o' ho' e' he' hb'=>hc e.on o' ho' hde e' he' hb')
theorem Zcf {id:Nat}{m:Nat}(Jp:(Nat→Bool)→Act→World→Prop)(hm:P.follows .mixedOrders=true)(hb:Ni ops=true)(ht:Z1e ops m=true)(hms:m≤ops.size)
    (hstep:∀ (done:Nat→Bool) i o a w,i<m→ops[i]?=some o→done i=false→Ja ops done→(∀ e,e∈o.after→Region.binds .any e=true→done e.on=true)→(∀ j,m≤j→done j=false)→Jp done a w →
      wpOpIn F 0 P ops Q i (fun a' w'=>Jp (fun q=>if q=i then true else done q) a' w') a w)
    (hend:∀ (done:Nat→Bool) a w,(∀ i,i<m→done i=true)→Jp done a w→wpOpsIn F 0 P ops Q (List.range' m (ops.size-m)) a w)
    {a:Act}{w:World}(h0:Jp (fun _=>false) a { w with drawn:=w.drawn+1 }):(Code.region id ops true).wpIn F 0 P Q a w:=by
  have hafter:∀ (done:Nat→Bool) (i:Nat) (o:Oper),Ja ops done→ops[i]?=some o→m≤i→(∀ e,e∈o.after→Region.binds .any e=true→done e.on=true)→∀ j,j<i→done j=true:=by
    intro done i o hc ho hmi hd j hj
    have hi:i<ops.size:=(Array.getElem?_eq_some_iff.1 ho).1
    have h1:=List.all_eq_true.1 ht i (List.mem_range.2 hi)
    simp only [Bool.or_eq_true] at h1
    rcases h1 with h1 | h1
    · have : i < m := by simpa using h1
      omega
    ·exact Nw hc _ i j (List.all_eq_true.1 h1 j (List.mem_range.2 hj)) (fun o' ho'=>by rw [ho] at ho';injection ho' with ho';subst ho';exact hd)
  have hclosed:∀ (done:Nat→Bool) (i:Nat) (o:Oper),Ja ops done→ops[i]?=some o→(∀ e,e∈o.after→Region.binds .any e=true→done e.on=true)→Ja ops (fun q=>if q=i then true else done q):=by
    intro done i o hc ho hd j o' ho' hj e he hbe
    show (if e.on=i then true else done e.on)=true
    by_cases hei:e.on=i
    ·rw [if_pos hei]
    · rw [if_neg hei]
      by_cases hji:j=i
      ·subst hji;rw [ho] at ho';injection ho' with ho';subst ho';exact hd e he hbe
      · have hj' : done j = true := by simpa [hji] using hj
        exact hc j o' ho' hj' e he hbe
  refine wpIn_region_any hm (Zde (J:=fun done a w=>Ja ops done∧(((∃ i,i<m∧done i=false)∧(∀ j,m≤j→done j=false)∧Jp done a w)∨(∃ q,m≤q∧q≤ops.size∧(∀ j,j<q→done j=true)∧(∀ j,q≤j→done j=false)∧wpOpsIn F 0 P ops Q (List.range' q (ops.size-q)) a w)))
    hb ?_ ?_ ops.size (Array.replicate ops.size false) a _ (by simp) ?_ ?_)
  · rintro done i o a w ho hdi hd ⟨hc, hJ⟩
    have hi:i<ops.size:=(Array.getElem?_eq_some_iff.1 ho).1
    rcases hJ with ⟨⟨i0,hi0,hdi0⟩,htail,hJp⟩ | ⟨q,hmq,hqs,hlow,hhigh,hw⟩
    · have him : i < m := by
        rcases Nat.lt_or_ge i m with h | h
        ·exact h
        · have := hafter done i o hc ho h hd i0 (by omega)
          rw [hdi0] at this;cases this
      refine wpOpIn_mono (fun a' w' hJ'=>⟨hclosed done i o hc ho hd,?_⟩) (hstep done i o a w him ho hdi hc hd htail hJp)
      rcases Classical.em (∃ j,j<m∧(if j=i then true else done j)=false) with hex | hno
      ·exact .inl ⟨hex,fun j hj=>by show (if j=i then true else done j)=false;rw [if_neg (by omega)];exact htail j hj,hJ'⟩
      · have hall : ∀ j, j < m → (if j = i then true else done j) = true := fun j hj => by
          cases hq:(if j=i then true else done j) with
          | true=>rfl
          | false=>exact absurd ⟨j,hj,hq⟩ hno
        exact .inr ⟨m,Nat.le_refl _,hms,hall,fun j hj=>by show (if j=i then true else done j)=false;rw [if_neg (by omega)];exact htail j hj,hend _ a' w' hall hJ'⟩
    · have hiq : i = q := by
        rcases Nat.lt_trichotomy i q with h | h | h
        ·rw [hlow i h] at hdi;cases hdi
        ·exact h
        · have := hafter done i o hc ho (by omega) hd q h
          rw [hhigh q (Nat.le_refl _)] at this;cases this
      subst hiq
      have hsz:ops.size-i=(ops.size-(i+1))+1:=by omega
      rw [hsz,List.range'_succ,wpOpsIn_cons] at hw
      refine wpOpIn_mono (fun a' w' hw'=>⟨hclosed done i o hc ho hd,.inr ⟨i+1,by omega,by omega,fun j hj=>?_,fun j hj=>?_,hw'⟩⟩) hw
      · show (if j = i then true else done j) = true
        by_cases e:j=i
        ·rw [if_pos e]
        ·rw [if_neg e];exact hlow j (by omega)
      · show (if j = i then true else done j) = false
        rw [if_neg (by omega)];exact hhigh j (by omega)
  · rintro done a w hall ⟨hc, hJ⟩
    rcases hJ with ⟨⟨i0,hi0,hdi0⟩,_,_⟩ | ⟨q,hmq,hqs,hlow,hhigh,hw⟩
    ·rw [hall i0 (by omega)] at hdi0;cases hdi0
    · have hq : q = ops.size := by
        rcases Nat.lt_or_ge q ops.size with h | h
        ·have:=hall q h;rw [hhigh q (Nat.le_refl _)] at this;cases this
        ·omega
      subst hq
      simpa [wpOpsIn] using hw
  · have : ((List.range ops.size).filter (fun i => !(Array.replicate ops.size false).getD i true)).length ≤ (List.range ops.size).length := List.length_filter_le _ _
    simpa using this
  · have hf : (fun q => (Array.replicate ops.size false).getD q false) = fun _ => false := by
      funext q
      simp only [Array.getD_eq_getD_getElem?,Array.getElem?_replicate]
      split <;> rfl
    show Ja ops (fun q=>(Array.replicate ops.size false).getD q false)∧_
    rw [hf]
    refine ⟨fun i o _ h=>by simp at h,?_⟩
    rcases Nat.eq_zero_or_pos m with h | h
    · subst h
      exact .inr ⟨0,Nat.le_refl _,Nat.zero_le _,fun j hj=>by omega,fun _ _=>rfl,hend _ _ _ (fun i hi=>by omega) h0⟩
    ·exact .inl ⟨⟨0,h,rfl⟩,fun _ _=>rfl,h0⟩
end phase
section quiet
variable {C : Cx} {ops : Array Oper} {Q : Exit → Act → World → Prop} {E : Env} {H : Heap}
def Le (ops:Array Oper)(L:Env)(i:Nat):Env :=
  match ops[i]? with
  | some o=>o.after.toList.filterMap fun e=>cond (Region.binds .any e) (L[e.on]?) none
  | none=>[]
def Ob (C:Cx)(ops:Array Oper)(Q:Exit→Act→World→Prop)(L W:Env)(H:Heap)(i:Nat):Prop :=
  ∀ Es:Env,TO C ops (fun e a w=>match e with
    | .normal=>∃ p,L[i]?=some p∧Fits C.n C.D (p::(Le ops L i++(W++Es))) a∧Inv C.w0 C.M w H
    | e=>Q e a w) [i] (Le ops L i++(W++Es)) H
def Obs (C:Cx)(ops:Array Oper)(Q:Exit→Act→World→Prop)(L W:Env)(H:Heap):List Nat→Prop
  | []=>True
  | i::l=>Ob C ops Q L W H i∧Obs C ops Q L W H l
theorem Obs.get {L W:Env}:∀ {l:List Nat},Obs C ops Q L W H l→∀ i,i∈l→Ob C ops Q L W H i
 | [],_,i,h=>by cases h
 | j::l,⟨h1,h2⟩,i,h=>by
  rcases List.mem_cons.1 h with rfl | h
  ·exact h1
  ·exact Obs.get h2 i h
def Rd:List Nat→Bool
  | []=>true
  | x::xs=>!(xs.any (Nat.beq x))&&Rd xs
theorem Zab:∀ {l:List Nat},Rd l=true→l.Nodup
 | [],_=>by simp
 | x::xs,h=>by
  simp only [Rd,Bool.and_eq_true,Bool.not_eq_true'] at h
  refine List.nodup_cons.2 ⟨fun hm=>?_,Zab h.2⟩
  rw [any_beq.2 hm] at h;cases h.1
theorem Z5d:∀ {L:Env} {t:Nat} {v:Value},find L t=some v→(t,v)∈L
 | [],_,_,h=>by simp [find] at h
 | (d,u)::L,t,v,h=>by
  rw [Kv] at h
  by_cases e:d=t
  ·subst e;rw [if_pos rfl] at h;injection h with h;subst h;exact .head _
  ·rw [if_neg e] at h;exact .tail _ (Z5d h)
theorem Zer {id:Nat}(L:Env)(hm:C.P.follows .mixedOrders=true)(hb:Ni ops=true)(ht:Z1e ops L.length=true)(hL:L.map (fun p=>some p.1)=(ops.toList.take L.length).map (·.dst))(hn:Rd (L.map (·.1))=true)
    (obs:Obs C ops Q L (wo (L.map (·.1)) E) H (List.range L.length))(k:TO C ops Q (List.range' L.length (ops.size-L.length)) (L++wo (L.map (·.1)) E) H):T C (.region id ops true) Q E H:=by
  intro a w hf hi
  have hlen:L.length≤ops.size:=by
    have:=congrArg List.length hL
    simp only [List.length_map,List.length_take,Array.length_toList] at this
    omega
  have hnd:=Zab hn
  have hdst:∀ (i:Nat) (o:Oper),i<L.length→ops[i]?=some o→∃ p:Nat×Value,L[i]?=some p∧o.dst=some p.1:=by
    intro i o hil ho
    refine ⟨L[i]'hil,List.getElem?_eq_getElem hil,?_⟩
    have h1:=congrArg (fun l:List (Option Nat)=>l[i]?) hL
    simp only [List.getElem?_map,List.getElem?_take_of_lt hil] at h1
    rw [List.getElem?_eq_getElem hil,show ops.toList[i]?=some o by simpa using ho] at h1
    simpa using h1.symm
  refine Zcf (m:=L.length) (Jp:=fun done a w=>(∃ Es,Fits C.n C.D Es a∧(∀ j p,done j=true→L[j]?=some p→find Es p.1=some p.2)∧(∀ t v,find (wo (L.map (·.1)) E) t=some v→find Es t=some v))∧Inv C.w0 C.M w H)
    hm hb ht hlen ?_ ?_ ⟨⟨E,hf,fun j p h _=>absurd h (by simp),fun t v h=>(Z4j E _ t v h).2⟩,hi.ofHeap rfl rfl rfl rfl⟩
  · rintro done i o a w hil ho hdi _ hafter _ ⟨⟨Es, hfit, hd, hw⟩, hinv⟩
    obtain ⟨p,hp,hod⟩:=hdst i o hil ho
    have hob:=obs.get i (List.mem_range.2 hil) Es
    have hsub:∀ t v,find (Le ops L i++(wo (L.map (·.1)) E++Es)) t=some v→find Es t=some v:=by
      intro t v h
      rw [Nv,Nv] at h
      cases h1:find (Le ops L i) t with
      | some u =>
        rw [h1] at h
        simp at h;subst h
        have hmem:=Z5d h1
        unfold Le at hmem
        rw [ho] at hmem
        simp only [List.mem_filterMap] at hmem
        obtain ⟨e,he,hx⟩:=hmem
        cases hbe:Region.binds .any e with
        | false=>rw [hbe] at hx;simp at hx
        | true =>
          rw [hbe] at hx
          simp only [cond_true] at hx
          exact hd e.on (t,u) (hafter e (by simpa using he) hbe) hx
      | none =>
        rw [h1] at h
        simp only [Option.none_or] at h
        cases h2:find (wo (L.map (·.1)) E) t with
        | some u=>rw [h2] at h;simp at h;subst h;exact hw t u h2
        | none=>rw [h2] at h;simpa using h
    have hsub2:∀ t v,find Es t=some v→find (Le ops L i++(wo (L.map (·.1)) E++Es)) t=some v:=by
      intro t v h
      cases h1:find (Le ops L i++(wo (L.map (·.1)) E++Es)) t with
      | some u=>rw [←hsub t u h1,h]
      | none =>
        rw [Nv,Nv,h] at h1
        cases h2:find (Le ops L i) t <;> cases h3:find (wo (L.map (·.1)) E) t <;> simp [h2,h3] at h1
    have hh:=hob a w (hfit.weak hsub) hinv
    have hh':wpOpIn (FW C.ρ) 0 C.P ops Q i (fun a' w'=>∃ p,L[i]?=some p∧Fits C.n C.D (p::(Le ops L i++(wo (L.map (·.1)) E++Es))) a'∧Inv C.w0 C.M w' H) a w:=by
      rw [wpOpsIn_cons] at hh
      unfold wpOpIn at hh ⊢
      rw [ho] at hh ⊢
      simp only at hh ⊢
      split
      · rename_i hwt
        simp only [hwt,if_true] at hh
        refine ⟨hh.1,?_⟩
        have h2:=hh.2
        generalize (o.semAt (FW C.ρ).round a.eval).run C.P w=r at h2 ⊢
        cases r with
        | ok x w'=>cases x <;> exact h2
        | halt x w'=>cases x <;> exact h2
      · rename_i hwt
        simp only [hwt,if_false,Bool.false_eq_true] at hh
        exact hh
    refine wpOpIn_mono ?_ hh'
    rintro a' w' ⟨p',hp',hfit',hinv'⟩
    rw [hp] at hp';injection hp' with hp';subst hp'
    refine ⟨⟨p::(Le ops L i++(wo (L.map (·.1)) E++Es)),hfit',fun j q hj hq=>?_,fun t v h=>?_⟩,hinv'⟩
    · obtain ⟨pd, pv⟩ := p
      rw [Kv]
      by_cases e:j=i
      ·subst e;rw [hp] at hq;injection hq with hq;subst hq;rw [if_pos rfl]
      · have hne : pd ≠ q.1 := by
          intro e2
          have hii:=List.getElem?_eq_some_iff.1 hp
          have hjj:=List.getElem?_eq_some_iff.1 hq
          have h1:(L.map (·.1))[i]?=some pd:=by rw [List.getElem?_map,hp];rfl
          have h2:(L.map (·.1))[j]?=some pd:=by rw [List.getElem?_map,hq,e2];rfl
          have:=(List.getElem?_inj (by simpa using hjj.1) hnd).1 (h2.trans h1.symm)
          exact e this
        rw [if_neg hne]
        have hj':done j=true:=by simpa [e] using hj
        exact hsub2 _ _ (hd j q hj' hq)
    · obtain ⟨pd, pv⟩ := p
      rw [Kv,if_neg]
      ·exact hsub2 t v (hw t v h)
      · rintro rfl
        exact (Z4j E _ _ _ h).1 (by
          have:(pd,pv)∈L:=List.mem_of_getElem? hp
          exact List.mem_map_of_mem (f:=(·.1)) this)
  · rintro done a w hall ⟨⟨Es, hfit, hd, hw⟩, hinv⟩
    refine k a w (hfit.weak fun t v h=>?_) hinv
    rw [Nv] at h
    cases h1:find L t with
    | some u =>
      rw [h1] at h;simp at h;subst h
      obtain ⟨j,hj⟩:=List.getElem?_of_mem (Z5d h1)
      have hjl:=(List.getElem?_eq_some_iff.1 hj).1
      exact hd j (t,u) (hall j (by omega)) hj
    | none=>rw [h1] at h;exact hw t v (by simpa using h)
theorem Kr {L W:Env}{i d:Nat}{v:Value}{Es:Env}{B:Env}{H':Heap}(hL:L[i]?=some (d,v))(hH:Pick H H') :
    X C (fun e a w=>match e with
      | .normal=>∃ p,L[i]?=some p∧Fits C.n C.D (p::(B++(W++Es))) a∧Inv C.w0 C.M w H
      | e=>Q e a w) .normal ((d,v)::(B++(W++Es))) H':=fun _ _ hf hi=>⟨_,hL,hf,hi.pick hH⟩
end quiet
end Go.Acq
namespace Go.Acq
open Go Go.RowKit
abbrev sb (ob:Option Nat):Option Addr:=ob.map fun b=>⟨b,0,none⟩
section
variable {α : Type} {w w0 : World} {f : α → List Value} {s n : Nat} {base : Option Addr} {xs : List α} {M : List Nat} {H : Heap}
theorem Inv.roO (hi:Inv w0 M w H)(hf:∀ x,(f x).length=s){ob:Option Nat}{T':TypeId}{fr:Nat×Nat}{j:List Value}(hm:(ob,Obj.cells (arr f xs j).toArray T' fr)∈H)(hn:xs.length=n)(h0:ob=none→n=0):RO w f s (sb ob) n xs:=by
 cases ob with
 | none =>
  have:=h0 rfl
  have hx:xs=[]:=List.eq_nil_of_length_eq_zero (by omega)
  subst hx
  exact ⟨hn,fun _=>this,hf,fun o c h=>by simp at h⟩
 | some b=>rw [←hn];exact hi.ro hf hm
theorem RO.cells (h:RO w f s base n xs):∀ (j:Nat) u,(xs.flatMap f)[j]?=some u→w.cell? (ea base j)=some u:=by
 intro j u hj
 have hlt:j<(xs.flatMap f).length:=(List.getElem?_eq_some_iff.1 hj).1
 rw [Nm h.wide] at hlt
 have hs:0<s:=by
  rcases Nat.eq_zero_or_pos s with e | e
  ·subst e;simp at hlt
  ·exact e
 have ho:j / s<xs.length:=Nat.div_lt_of_lt_mul (by rw [Nat.mul_comm];exact hlt)
 have hc:j%s<s:=Nat.mod_lt _ hs
 have hjd:j / s*s+j%s=j:=by rw [Nat.mul_comm];exact Nat.div_add_mod j s
 have hx:xs[j / s]?=some xs[j / s]:=List.getElem?_eq_getElem ho
 have h1:=h.cell (j / s) (j%s) ho hc _ hx
 rw [hjd] at h1
 rw [h1]
 have h2:=Zbo h.wide xs[j / s] xs (j / s) (j%s) ho hc
 rw [hjd,hj,List.getD_eq_getElem?_getD,hx] at h2
 exact h2.symm
theorem RO.src {P:Program}{t e':TypeId}(h:RO w f s base n xs)(hk:P.underlying t=some (.slice e'))(h1:∀ x,(f x).all (·.oneCell')=true)(c:Nat):Src P s t (.slice base n c) n (xs.flatMap f) w:=by
 have hall:∀ u,u∈xs.flatMap f→u.oneCell'=true:=by
  intro u hu
  obtain ⟨x,_,hx⟩:=List.mem_flatMap.1 hu
  exact List.all_eq_true.1 (h1 x) u hx
 cases base with
 | none =>
  have hn:=h.nil rfl
  have hx:xs=[]:=List.eq_nil_of_length_eq_zero (by rw [h.len];exact hn)
  subst hx;subst hn
  exact Src.ofNil w hk c
 | some a =>
  refine Src.ofSlice w hk a n c _ (by rw [Nm h.wide,h.len]) (fun j u hj=>?_) hall
  have:=h.cells j u hj
  simpa [ea] using this
theorem RO.drew (h:RO w f s base n xs):RO w.drew f s base n xs:=⟨h.len,h.nil,h.wide,fun o c ho hc x hx=>h.cell o c ho hc x hx⟩
theorem RO.first {P:Program}(h:RO w f s base n xs)(c:Nat):(Builtin.firstCells s n (.slice base n c)).run P w=.ok (xs.flatMap f).toArray w:=by
 cases base with
 | none =>
  have hn:=h.nil rfl
  have hx:xs=[]:=List.eq_nil_of_length_eq_zero (by rw [h.len];exact hn)
  subst hx;subst hn
  exact run_firstCells_none w s 0 0 c
 | some a=>exact run_firstCells_some w s n a n c _ (by rw [Nm h.wide,h.len]) (fun j u hj=>by have:=h.cells j u hj;simpa [ea] using this)
end
section rules
variable {C : Cx} {ops : Array Oper} {Q : Exit → Act → World → Prop} {l : List Nat} {E : Env} {H R : Heap} {i d : Nat} {ty : TypeId} {Zo : String} {af : Array Edge} {g : Option (Nat × Bool)}
theorem Zmm {P:Program}{w:World}{b o:Nat}{T':TypeId}{cs:Array Value}{vs:List Value}(hb:w.heap[b]?=some (.cells cs T' (0,0)))(hfit:o+vs.length≤cs.size)(h1:∀ u,u∈vs→u.oneCell'=true) :
    w.setCells b o vs=w.setRow b (cs.toList.take o++vs++cs.toList.drop (o+vs.length)).toArray:=by
  have h2:=run_storeCells_at P b o T' vs 0 cs w hb (by simpa using hfit) h1
  have h3:=run_storeCells_cells (P:=P) b o vs 0 w (fun j hj=>by
    simp only [Nat.add_zero,World.cell?,hb]
    simp;omega) (fun j hj=>by simp [World.frozen?,hb]) h1
  simp only [Nat.add_zero] at h2 h3
  rw [h2] at h3
  injection h3 with _ h3
  exact h3.symm
structure ElemT (P:Program)(t e:TypeId)(s by':Nat)(z:Value):Prop where
  slice:Wm P t=some e
  size:Xc P e=some s
  bytes:Kt P e=some by'
  zero:Ws P e=some z
  zsize:z.cells.size=s
theorem TO.append {α:Type}{f:α→List Value}{s by':Nat}{z:Value}{t e:TypeId}{x y:Operand}{ob:Option Nat}{base:Option Addr}{n c m cy:Nat}{xs ys:List α}{j:List Value}
    (hf:∀ x,(f x).length=s)(h1:∀ x,(f x).all (·.oneCell')=true)(hT:ElemT C.P t e s by' z)
    (ho:ops[i]?=some ⟨some d,.call ⟨.builtin .append,#[x,y],#[t,t]⟩,ty,Zo,af,g⟩)(hg:Ya ops E g=true)(hd:Nat.ble (d+1) C.n=true)
    (hx:ev E x=some (.slice (sb ob) n c))(hy:ev E y=some (.slice base m cy))
    (ht:Take (ob,.cells (arr f xs j).toArray e (0,0)) H R)(hn:xs.length=n)(hnc:n≤c)(hj:j.length=(c-n)*s)(h0:ob=none→c=0)
    (hsrc:∀ w,Inv C.w0 C.M w H→RO w f s base m ys)(hroom:(n+m)*by'≤140737488355328)(hmax:n+m≤4611686018427387904)
    (kk:∀ (ob':Option Nat) (c':Nat) (j':List Value),n+m≤c'→j'.length=(c'-(n+m))*s→(ob'=none→c'=0)→TO C ops Q l ((d,.slice (sb ob') (n+m) c')::E) ((ob',.cells (arr f (xs++ys) j').toArray e (0,0))::R)) :
    TO C ops Q (i::l) E H:=by
  refine Z0k ho hg (by simp) fun a w hfit hi=>?_
  obtain ⟨ti,hti,hsz⟩:=Z5y hT.size
  have hu:=Gj hT.slice
  have hz':ti.zero=some z:=by have:=hT.zero;simpa [Ws,hti] using this
  have hb':ti.bytes=by':=by have:=hT.bytes;simpa [Kt,hti] using this
  have hs:=hsrc w hi
  have hro:=hi.roO hf ht.mem hn (fun e=>by have:=h0 e;omega)
  have hexec:(execOp a.eval ⟨some d,.call ⟨.builtin .append,#[x,y],#[t,t]⟩,ty,Zo,af,g⟩).run C.P w=((Builtin.append_ #[t,t] ty #[.slice (sb ob) n c,.slice base m cy]).run C.P w).andThen fun v w'=>.ok (.value v) w':=by
    simp [execOp,resolve,invoke,builtin,hfit.ev hx,hfit.ev hy]
  rw [hexec]
  by_cases hr:n+m≤c
  · cases ob with
    | none =>
      have:=h0 rfl
      subst this
      have hm0:m=0:=by omega
      subst hm0
      have hys:ys=[]:=List.eq_nil_of_length_eq_zero hs.len
      subst hys
      have:(Builtin.append_ #[t,t] ty #[.slice none n 0,.slice base 0 cy]).run C.P w=.ok (.slice none n 0) w:=by
        have hl:=(hs.src hu h1 cy).len w
        have hc:=(hs.src hu h1 cy).cells
        have hn0:n=0:=by omega
        subst hn0
        simp only [List.flatMap_nil] at hc
        simp [Builtin.append_,run_underlying hu,sizeOf,typeInfo,hti,hl,hsz,hc]
      simp only [sb,Option.map_none,this,Result.andThen_ok]
      refine kk none 0 j (by omega) (by omega) (fun _=>rfl) _ _ (hfit.put hd _) ?_
      rw [List.append_nil]
      exact hi.perm ht
    | some b =>
      have hb:=hi.own b _ ht.mem
      have hlen:(arr f xs j).length=c*s:=by
        simp only [arr,List.length_append,Nm hf,hj,hn]
        rw [←Nat.add_mul];congr 1;omega
      have hnews:(ys.flatMap f).length=m*s:=by rw [Nm hf,hs.len]
      have hfit2:n*s+(ys.flatMap f).length≤(arr f xs j).toArray.size:=by
        rw [hnews,List.size_toArray,hlen,←Nat.add_mul];exact Nat.mul_le_mul_right s hr
      have hall:=(hs.src hu h1 cy).one
      have hcell:∀ q,q<(ys.flatMap f).length→(w.cell? ⟨b,0+n*ti.size+q,none⟩).isSome=true:=fun q hq=>by
        rw [hsz,Nat.zero_add,hi.cell_own ht.mem,Array.getElem?_eq_getElem (by omega)];rfl
      have hr2:=run_append_room_src (P:=C.P) w t t ty e ti hu hti b 0 n c (.slice base m cy) m (ys.flatMap f) (by rw [hsz];exact hs.src hu h1 cy) hr hcell (fun q _=>hi.frozen_own ht.mem _)
      rw [hsz,Nat.zero_add,Zmm (P:=C.P) hb hfit2 hall] at hr2
      simp only [sb,Option.map_some,hr2,Result.andThen_ok]
      refine kk (some b) c (j.drop (m*s)) hr ?_ (by simp) _ _ (hfit.put hd _) ?_
      ·rw [List.length_drop,hj,←Nat.sub_mul];congr 1;omega
      · have : ((arr f xs j).toArray.toList.take (n * s) ++ ys.flatMap f ++ (arr f xs j).toArray.toList.drop (n * s + (ys.flatMap f).length)).toArray = (arr f (xs ++ ys) (j.drop (m * s))).toArray := by
          have e1:(xs.flatMap f).length=n*s:=by rw [Nm hf,hn]
          simp only [arr,List.flatMap_append]
          rw [hnews]
          congr 1
          rw [←e1,List.take_left',List.drop_append]
          ·simp [e1,List.append_assoc,List.drop_eq_nil_of_le (show (xs.flatMap f).length≤n*s+m*s by omega)]
          ·rfl
        rw [←this]
        exact hi.setRow ht
  · have hold : (Builtin.firstCells ti.size n (.slice (sb ob) n c)).run C.P w.drew = .ok (xs.flatMap f).toArray w.drew := by rw [hsz]; exact hro.drew.first c
    have hg2:=run_append_grow_src (P:=C.P) w t t ty e ti z hu hti hz' (sb ob) n c (xs.flatMap f) hold (.slice base m cy) m (ys.flatMap f) (by rw [hsz];exact hs.src hu h1 cy) (by omega) (by omega) (by
      rw [hb'];exact growslice_fits (by omega) hroom)
    simp only [hg2,Result.andThen_ok]
    have hcap:n+m≤grownCap w (n+m) c e:=by unfold grownCap Question.cut;simp only;omega
    refine kk (some w.heap.size) (grownCap w (n+m) c e) (Builtin.zeroCells z.cells (grownCap w (n+m) c e-(n+m))).toList hcap (by rw [Array.length_toList,size_zeroCells,hT.zsize]) (by simp) _ _ (hfit.put hd _) ?_
    have e2:((xs.flatMap f++ys.flatMap f).toArray++Builtin.zeroCells z.cells (grownCap w (n+m) c e-(n+m)))=(arr f (xs++ys) (Builtin.zeroCells z.cells (grownCap w (n+m) c e-(n+m))).toList).toArray:=by
      simp only [arr,List.flatMap_append]
      apply Array.ext'
      simp [List.append_assoc]
    rw [e2]
    have h3:=(hi.perm ht).drew.alloc (Obj.cells (arr f (xs++ys) (Builtin.zeroCells z.cells (grownCap w (n+m) c e-(n+m))).toList).toArray e (0,0))
    exact h3.pick (Zfc (S:=[(ob,.cells (arr f xs j).toArray e (0,0))]) (by
      refine List.Perm.cons _ ?_
      exact (List.perm_append_comm (l₁:=[(ob,Obj.cells (arr f xs j).toArray e (0,0))]) (l₂:=R))))
end rules
end Go.Acq
namespace Go.Acq
open Go Go.RowKit
structure Arc where
  fr:Int
  to:Int
  cap:Int
  deriving DecidableEq
instance:Inhabited Arc:=⟨⟨0,0,0⟩⟩
def Xj (a:Arc):List Value:=[.int .i64 a.fr,.int .i64 a.to,.int .i64 a.cap]
theorem arcC_len (a:Arc):(Xj a).length=3:=rfl
def Has (w:World)(b:Nat)(cs:List Value):Prop:=∀ (j:Nat) v,cs[j]?=some v→w.cell? ⟨b,j,none⟩=some v
section
variable {w w0 : World} {M : List Nat} {H : Heap} {b : Nat} {cs : List Value}
theorem Inv.has (hi:Inv w0 M w H){T':TypeId}{fr:Nat×Nat}(hm:(some b,Obj.cells cs.toArray T' fr)∈H):Has w b cs:=fun j v hj=>by rw [hi.cell_own hm];simpa using hj
end
section rules
variable {C : Cx} {ops : Array Oper} {Q : Exit → Act → World → Prop} {l : List Nat} {E : Env} {H R : Heap} {i d : Nat} {ty : TypeId} {Zo : String} {af : Array Edge} {g : Option (Nat × Bool)}
end rules
theorem Zgx (x:Int){n:Int}(h:0<n):-n<x.tmod n:=by
 have h1:=Int.tmod_lt_of_pos (-x) h
 rw [Int.neg_tmod] at h1;omega
theorem Z6g {α:Type}{xs:List α}{k:Nat}(h:k<xs.length)(d:α):xs.getD k d∈xs:=by
 rw [List.getD_eq_getElem?_getD,List.getElem?_eq_getElem h];exact List.getElem_mem h
def Nc (x n:Int):Int:=if n<1 then 0 else (x.tmod n+n).tmod n
theorem Z5v {x n:Int}(h:1≤n):0≤Nc x n∧Nc x n<n:=by
 unfold Nc
 rw [if_neg (by omega)]
 have h1:=Int.tmod_lt_of_pos x (show 0<n by omega)
 have h2:=Zgx x (show 0<n by omega)
 have h3:=Int.tmod_lt_of_pos (x.tmod n+n) (show 0<n by omega)
 have h4:=Int.tmod_nonneg n (show 0≤x.tmod n+n by omega)
 omega
def Kp:Int→List Arc→Option Int
  | left,[]=>some left
  | left,a::as=>if a.cap<0∨left<a.cap then none else Kp (left-a.cap) as
theorem Zpj {left:Int}{as:List Arc}{k:Nat}(hk:k<as.length):Kp left (as.drop k)=if (as.getD k default).cap<0∨left<(as.getD k default).cap then none else Kp (left-(as.getD k default).cap) (as.drop (k+1)):=by
 rw [List.drop_eq_getElem_cons hk,Kp,List.getD_eq_getElem?_getD,List.getElem?_eq_getElem hk];rfl
def Kb (N v:Int):Bool:=decide (0≤v∧v<N)
def Gb (N:Int)(a:Arc):Bool:=Kb N a.fr&&Kb N a.to
def Nz (a:Arc):Bool:=decide (0≤a.cap)
def Rb (N S T:Int)(as:List Arc):Int :=
  if ¬(2≤N∧N≤4096) then 10 else if ¬((as.length:Int)≤16384) then 11 else if ¬(Kb N S=true∧Kb N T=true∧S≠T) then 12
  else if as.all (Gb N)=false then 13 else if as.all Nz=false then 14 else if (Kp 4611686018427387904 as).isNone then 15 else 0
def chk (N S T:Int)(n:Nat)(al:List Arc)(k:Nat):Prop :=
  (0<k→2≤N∧N≤4096)∧(1<k→(n:Int)≤16384)∧(2<k→Kb N S=true∧Kb N T=true∧S≠T)∧(3<k→al.all (Gb N)=true)∧(4<k→al.all Nz=true)∧(5<k→(Kp 4611686018427387904 al).isSome=true)
section
variable {N S T : Int} {n : Nat} {al : List Arc}
end
end Go.Acq
namespace Go.Acq
open Go
def Km {α:Type}[Inhabited α](ws:List α)(k:Int):Option α:=if 0≤k∧k<(ws.length:Int) then some (ws.getD k.toNat default) else none
def Rc (k:IntKind)(x:Int):Int:=k.wrap (-x)
end Go.Acq
namespace Go.Acq
open Go
abbrev i64ok (x:Int):Prop:=-9223372036854775808≤x∧x≤9223372036854775807
abbrev inb (i:Int)(n:Nat):Prop:=0≤i∧i<(n:Int)
abbrev mkok (p:Int):Prop:=0≤p∧p≤4294967296
abbrev apok (n by':Nat):Prop:=n*by'≤140737488355328∧n≤4611686018427387904
def gd {α:Type}(c:Prop)[Decidable c](m:Option α):Option α:=if c then m else none
theorem Yh {α:Type}{c:Prop}[Decidable c]{m:Option α}{o:α}(h:gd c m=some o):c∧m=some o:=by
 unfold gd at h;split at h
 ·exact ⟨by assumption,h⟩
 ·cases h
theorem Xb {α:Type}{c:Prop}[Decidable c]{m:Option α}(h:c):gd c m=m:=if_pos h
theorem Zk {α β:Type}{m:Option α}{k:α→Option β}{o:β}(h:Option.bind m k=some o):∃ a,m=some a∧k a=some o:=by
 cases m with
 | none=>cases h
 | some a=>exact ⟨a,rfl,h⟩
theorem Zv {α:Type}{c:Prop}[Decidable c]{a b:Option α}{o:α}(h:(if c then a else b)=some o):(c∧a=some o)∨(¬c∧b=some o):=by
 split at h
 ·exact .inl ⟨by assumption,h⟩
 ·exact .inr ⟨by assumption,h⟩
def Xz {S O:Type}(step:S→Option (S⊕O)):Nat→S→Option O
  | 0,_=>none
  | n+1,s=>match step s with
    | none=>none
    | some (.inl s')=>Xz step n s'
    | some (.inr o)=>some o
def Xo:Nat:=18446744073709551616
def Z87 {S O:Type}(step:S→Option (S⊕O))(n:Nat)(o:O):S⊕O→Prop
  | .inl s=>Xz step n s=some o
  | .inr p=>p=o
theorem Uw {S O:Type}{step:S→Option (S⊕O)}{n:Nat}{s:S}{o:O}(h:Xz step n s=some o):∃ n' r,n=n'+1∧step s=some r∧Z87 step n' o r:=by
 cases n with
 | zero=>cases h
 | succ n =>
  simp only [Xz] at h
  cases hs:step s with
  | none=>rw [hs] at h;cases h
  | some r =>
   rw [hs] at h
   cases r with
   | inl s'=>exact ⟨n,_,rfl,rfl,h⟩
   | inr p=>exact ⟨n,_,rfl,rfl,by simpa [Z87] using h⟩
theorem Vy {S O:Type}{step:S→Option (S⊕O)}{n:Nat}{o:O}{s:S}{r:S⊕O}(h:some (.inl s)=some r)(c:Z87 step n o r):Xz step n s=some o:=by
 injection h with h;subst h;exact c
theorem ret1 {α:Type}{a b:α}(h:some a=some b):b=a:=by injection h with h;exact h.symm
theorem ret2 {α β:Type}{a a':α}{b b':β}(h:some (a,b)=some (a',b')):a'=a∧b'=b:=by injection h with h;injection h with h1 h2;exact ⟨h1.symm,h2.symm⟩
theorem ret3 {α β γ:Type}{a a':α}{b b':β}{c c':γ}(h:some (a,b,c)=some (a',b',c')):a'=a∧b'=b∧c'=c:=by
 injection h with h;injection h with h1 h;injection h with h2 h3;exact ⟨h1.symm,h2.symm,h3.symm⟩
def Ok {α:Type}(m:Option α)(Q:α→Prop):Prop:=∃ a,m=some a∧Q a
theorem Ok.some {α:Type}{a:α}{Q:α→Prop}:Ok (Option.some a) Q↔Q a:=⟨fun ⟨b,h,hq⟩=>by injection h with h;subst h;exact hq,fun h=>⟨a,rfl,h⟩⟩
theorem Ok.gd {α:Type}{c:Prop}[Decidable c]{m:Option α}{Q:α→Prop}:Ok (Acq.gd c m) Q↔c∧Ok m Q:=by
 constructor
 ·rintro ⟨a,h,hq⟩;obtain ⟨h1,h2⟩:=Yh h;exact ⟨h1,a,h2,hq⟩
 ·rintro ⟨h1,a,h2,hq⟩;exact ⟨a,by rw [Xb h1];exact h2,hq⟩
theorem Ok.bind {α β:Type}{m:Option α}{k:α→Option β}{Q:β→Prop}:Ok (Option.bind m k) Q↔Ok m fun a=>Ok (k a) Q:=by
 constructor
 ·rintro ⟨b,h,hq⟩;obtain ⟨a,h1,h2⟩:=Zk h;exact ⟨a,h1,b,h2,hq⟩
 ·rintro ⟨a,h1,b,h2,hq⟩;exact ⟨b,by rw [h1];exact h2,hq⟩
theorem Ok.ite {α:Type}{c:Prop}[Decidable c]{a b:Option α}{Q:α→Prop}:Ok (if c then a else b) Q↔(c→Ok a Q)∧(¬c→Ok b Q):=by
 by_cases h:c <;> simp [h]
theorem Ok.mono {α:Type}{m:Option α}{Q R:α→Prop}(h:Ok m Q)(hq:∀ a,Q a→R a):Ok m R:=by
 obtain ⟨a,h1,h2⟩:=h;exact ⟨a,h1,hq a h2⟩
theorem Zax {S O:Type}{step:S→Option (S⊕O)}{n:Nat}{s0:S}{Q:O→Prop}(I:S→Prop)(μ:S→Nat)(h0:I s0)(hn:μ s0<n)
    (hstep:∀ s,I s→Ok (step s) fun r=>match r with | .inl s'=>I s'∧μ s'<μ s | .inr o=>Q o):Ok (Xz step n s0) Q:=by
  induction n generalizing s0 with
  | zero=>omega
  | succ n ih =>
    obtain ⟨r,h1,h2⟩:=hstep s0 h0
    simp only [Xz]
    rw [h1]
    cases r with
    | inl s'=>exact ih h2.1 (by have:=h2.2;omega)
    | inr o=>exact ⟨o,rfl,h2⟩
end Go.Acq
namespace Go.Acq
theorem Wt {S O:Type}{step:S→Option (S⊕O)}{n:Nat}{o p:O}{r:S⊕O}(h:some (.inr p)=some r)(c:Z87 step n o r):o=p:=by
 injection h with h;subst h;exact Eq.symm c
end Go.Acq
namespace Go.Acq
end Go.Acq
namespace Go.Acq
end Go.Acq
namespace Go.Acq
theorem Zfq {α:Type}{ys:List α}{m:Nat}(g:ys.length=m):ys.length=0+m:=by rw [g,Nat.zero_add]
end Go.Acq
namespace Go.Acq
abbrev u8ok (x:Int):Prop:=0≤x∧x≤255
end Go.Acq
namespace Go.Acq
theorem Jj {S O:Type}{step:S→Option (S⊕O)}{n:Nat}{s0:S}{Q:O→Prop}(I:S→Prop)(μ:S→Nat)(h0:I s0)(hn:μ s0<n)
    (hstep:∀ s,I s→∀ P:S⊕O→Prop,(∀ s',I s'→μ s'<μ s→P (.inl s'))→(∀ o,Q o→P (.inr o))→Ok (step s) P):Ok (Xz step n s0) Q :=
  Zax I μ h0 hn fun s hs=>hstep s hs _ (fun s' h1 h2=>⟨h1,h2⟩) (fun o h=>h)
end Go.Acq
namespace Go.Acq
end Go.Acq
namespace Go.Acq
open Go
def addW (k:IntKind)(x y:Int):Int:=k.wrap (x+y)
end Go.Acq
namespace Go.Acq
open Go
def band (k:IntKind)(x y:Int):Int:=k.wrap ((BitVec.ofInt k.bits x &&& BitVec.ofInt k.bits y).toNat)
end Go.Acq
namespace Go.Acq
open Go Go.RowKit
structure Sp where
  deps:List Nat
  eff:Bool
  eats:List Nat
  rel:List Value→Value→Heap→Prop
def relV (u:Value):List Value→Value→Heap→Prop:=fun _ v e=>v=u∧e=[]
def Gf:List Value→Value→Heap→Prop:=fun _ _ e=>e=[]
def Wo (S:List Sp)(i:Nat):List Nat:=match S[i]? with | some s=>s.deps | none=>[]
def Vc (S:List Sp)(i:Nat):Bool:=match S[i]? with | some s=>s.eff | none=>false
def Gp (S:List Sp)(i:Nat):List Nat:=match S[i]? with | some s=>s.eats | none=>[]
def Z3h (S:List Sp)(done:Nat→Bool)(j:Nat):Bool:=(List.range S.length).any fun q=>done q&&(Gp S q).any (Nat.beq j)
def Kc (S:List Sp)(done:Nat→Bool)(j:Nat):Bool:=done j&&!Z3h S done j
def Lv (S:List Sp)(j:Nat):Bool:=(List.range S.length).any fun q=>(Gp S q).any (Nat.beq j)
def Z0w (S:List Sp)(i:Nat):List Nat:=(Wo S i).filter fun j=>!(Gp S i).any (Nat.beq j)
def Gs (S:List Sp)(i:Nat):List Value→Value→Heap→Prop:=match S[i]? with | some s=>s.rel | none=>fun _ _ _=>False
def Xi (ops:Array Oper)(i:Nat):Option Nat:=(ops[i]?).bind (·.dst)
def Uq (ops:Array Oper)(vs:Nat→Value):List Nat→Env
  | []=>[]
  | j::l=>match Xi ops j with
    | some d=>(d,vs j)::Uq ops vs l
    | none=>Uq ops vs l
def Uc (es:Nat→Heap):List Nat→Heap
  | []=>[]
  | j::l=>es j++Uc es l
def Ll (S:List Sp)(vs:Nat→Value)(es:Nat→Heap):List Nat→Prop
  | []=>True
  | j::l=>Gs S j ((Wo S j).map vs) (vs j) (es j)∧Ll S vs es l
def Lf (d:Option Nat)(v:Value)(E:Env):Env:=match d with | some d=>(d,v)::E | none=>E
def Jf (ops:Array Oper):List Nat→List Nat
  | []=>[]
  | j::l=>match Xi ops j with
    | some d=>d::Jf ops l
    | none=>Jf ops l
def Gd (S:List Sp)(i:Nat):Nat:=((List.range i).filter (Vc S)).length
def Z5r (ops:Array Oper)(S:List Sp)(hd:List (List Nat)):Bool :=
  ((List.range S.length).all fun i =>
    ((Wo S i).all fun j=>Nat.blt j S.length&&Vh ops ops.size i j)&&Rd (Wo S i) &&
    ((Gp S i).all fun j=>Nat.blt j i&&(Wo S i).any (Nat.beq j)&&((List.range S.length).all fun q=>Nat.beq q i||(!(Gp S q).any (Nat.beq j)&&(!(Wo S q).any (Nat.beq j)||Vh ops ops.size i q))))&&(!Vc S i||(Gp S i).isEmpty) &&
    (!Vc S i||(((List.range i).all fun j=>!Vc S j||Vh ops ops.size i j) &&
      ((hd.getD (Gd S i+1) []).all fun j=>Nat.beq j i||(Nat.blt j S.length&&Vh ops ops.size i j))))) &&
  (hd.getD 0 []).isEmpty
section
variable {C : Cx} {ops : Array Oper} {Q : Exit → Act → World → Prop} {E : Env} {H : Heap}
def ObQ (C:Cx)(ops:Array Oper)(Q:Exit→Act→World→Prop)(S:List Sp)(W:Env)(Hc:Heap)(i:Nat):Prop :=
  ∀ (vs:Nat→Value) (es:Nat→Heap) (Es:Env) (Hx:Heap),Ll S vs es (Wo S i) →
    TO C ops (fun e a w=>match e with
      | .normal=>∃ v e',Gs S i ((Wo S i).map vs) v e'∧Fits C.n C.D (Lf (Xi ops i) v (Uq ops vs (Wo S i)++(W++Es))) a∧Inv C.w0 C.M w (e'++(Hc++(Uc es (Z0w S i)++Hx)))
      | e=>Q e a w) [i] (Uq ops vs (Wo S i)++(W++Es)) (Hc++(Uc es (Wo S i)++Hx))
def ObE (C:Cx)(ops:Array Oper)(Q:Exit→Act→World→Prop)(S:List Sp)(HR:Nat→List Value→Heap→Prop)(hd:List (List Nat))(W:Env)(Hc:Heap)(i:Nat):Prop :=
  ∀ (vs:Nat→Value) (es:Nat→Heap) (Es:Env) (Hx hb:Heap),Ll S vs es (Wo S i)→HR (Gd S i) ((hd.getD (Gd S i) []).map vs) hb →
    TO C ops (fun e a w=>match e with
      | .normal=>∃ v hb',Gs S i ((Wo S i).map vs) v []∧HR (Gd S i+1) ((hd.getD (Gd S i+1) []).map (fun j=>cond (Nat.beq j i) v (vs j))) hb' ∧
          Fits C.n C.D (Lf (Xi ops i) v (Uq ops vs (Wo S i)++(W++Es))) a∧Inv C.w0 C.M w (hb'++(Hc++(Uc es (Wo S i)++Hx)))
      | e=>Q e a w) [i] (Uq ops vs (Wo S i)++(W++Es)) (hb++(Hc++(Uc es (Wo S i)++Hx)))
def ObsG (C:Cx)(ops:Array Oper)(Q:Exit→Act→World→Prop)(S:List Sp)(HR:Nat→List Value→Heap→Prop)(hd:List (List Nat))(W:Env)(Hc:Heap):List Nat→Prop
  | []=>True
  | i::l=>(cond (Vc S i) (ObE C ops Q S HR hd W Hc i) (ObQ C ops Q S W Hc i))∧ObsG C ops Q S HR hd W Hc l
theorem Z7u {vs:Nat→Value}{t:Nat}{v:Value}:∀ {l:List Nat},(t,v)∈Uq ops vs l→∃ j,j∈l∧Xi ops j=some t∧v=vs j
 | [],h=>by simp [Uq] at h
 | j::l,h=>by
  simp only [Uq] at h
  cases hs:Xi ops j with
  | none=>rw [hs] at h;obtain ⟨q,h1,h2⟩:=Z7u h;exact ⟨q,.tail _ h1,h2⟩
  | some d =>
   rw [hs] at h
   rcases List.mem_cons.1 h with h | h
   ·injection h with h1 h2;subst h1;subst h2;exact ⟨j,.head _,hs,rfl⟩
   ·obtain ⟨q,h1,h2⟩:=Z7u h;exact ⟨q,.tail _ h1,h2⟩
theorem mem_slotsG {d:Nat}:∀ {l:List Nat},d∈Jf ops l↔∃ j,j∈l∧Xi ops j=some d
 | []=>by simp [Jf]
 | j::l=>by
  simp only [Jf]
  cases hs:Xi ops j with
  | none =>
   rw [mem_slotsG (l:=l)]
   constructor
   ·rintro ⟨q,h1,h2⟩;exact ⟨q,.tail _ h1,h2⟩
   ·
    rintro ⟨q,h1,h2⟩
    rcases List.mem_cons.1 h1 with e | e
    ·subst e;rw [hs] at h2;cases h2
    ·exact ⟨q,e,h2⟩
  | some u =>
   simp only [List.mem_cons,mem_slotsG (l:=l)]
   constructor
   ·
    rintro (h | ⟨q,h1,h2⟩)
    ·subst h;exact ⟨j,.inl rfl,hs⟩
    ·exact ⟨q,.inr h1,h2⟩
   ·
    rintro ⟨q,h1 | h1,h2⟩
    ·subst h1;rw [hs] at h2;injection h2 with h2;exact .inl h2.symm
    ·exact .inr ⟨q,h1,h2⟩
theorem Zcr:∀ {l:List Nat},(Jf ops l).Nodup→∀ i j d,i∈l→j∈l→Xi ops i=some d→Xi ops j=some d→i=j
 | [],_,i,j,d,hi,_,_,_=>by cases hi
 | q::l,hn,i,j,d,hi,hj,h1,h2=>by
  simp only [Jf] at hn
  cases hs:Xi ops q with
  | none =>
   rw [hs] at hn
   have hi':i∈l:=by rcases List.mem_cons.1 hi with e | e;(subst e;rw [hs] at h1;cases h1);exact e
   have hj':j∈l:=by rcases List.mem_cons.1 hj with e | e;(subst e;rw [hs] at h2;cases h2);exact e
   exact Zcr hn i j d hi' hj' h1 h2
  | some u =>
   rw [hs] at hn
   simp only [List.nodup_cons] at hn
   rcases List.mem_cons.1 hi with e | hi' <;> rcases List.mem_cons.1 hj with e' | hj'
   ·rw [e,e']
   ·subst e;rw [hs] at h1;injection h1 with h1;subst h1;exact absurd (mem_slotsG.2 ⟨j,hj',h2⟩) hn.1
   ·subst e';rw [hs] at h2;injection h2 with h2;subst h2;exact absurd (mem_slotsG.2 ⟨i,hi',h1⟩) hn.1
   ·exact Zcr hn.2 i j d hi' hj' h1 h2
theorem Zd5 {S:List Sp}{vs:Nat→Value}{es:Nat→Heap}:∀ {l:List Nat},(∀ j,j∈l→Gs S j ((Wo S j).map vs) (vs j) (es j))→Ll S vs es l
 | [],_=>trivial
 | j::l,h=>⟨h j (.head _),Zd5 fun q hq=>h q (.tail _ hq)⟩
def We (es:Nat→Heap)(done:Nat→Bool)(l:List Nat):Heap:=l.flatMap fun j=>if done j then es j else []
theorem Zdy:∀ (D l:List Nat),D.Nodup→(∀ j,j∈D→j∈l)→∃ r,List.Perm l (D++r)
 | [],l,_,_=>⟨l,List.Perm.refl _⟩
 | j::D,l,hn,hs=>by
  simp only [List.nodup_cons] at hn
  have hp:=List.perm_cons_erase (hs j (.head _))
  obtain ⟨r,hr⟩:=Zdy D (l.erase j) hn.2 (fun q hq=>by
   have hql:=hs q (.tail _ hq)
   have hne:q≠j:=by rintro rfl;exact hn.1 hq
   exact (List.mem_erase_of_ne hne).2 hql)
  exact ⟨r,hp.trans (List.Perm.cons j hr)⟩
theorem Zf2 {es:Nat→Heap}{done:Nat→Bool}:∀ {D:List Nat},(∀ j,j∈D→done j=true)→We es done D=Uc es D
 | [],_=>rfl
 | j::D,h=>by
  have ih:=Zf2 (es:=es) (D:=D) (fun q hq=>h q (.tail _ hq))
  unfold We at ih ⊢
  rw [List.flatMap_cons,Uc,if_pos (h j (.head _)),ih]
theorem Zdk {es:Nat→Heap}{done:Nat→Bool}{i:Nat}(e':Heap)(hdi:done i=false):∀ {l:List Nat},l.Nodup→i∈l →
    List.Perm (We (fun j=>if j=i then e' else es j) (fun q=>if q=i then true else done q) l) (e'++We es done l)
  | [],_,h=>by cases h
  | j::l,hn,hm=>by
    simp only [List.nodup_cons] at hn
    have hcongr:∀ l:List Nat,i∉l→We (fun j=>if j=i then e' else es j) (fun q=>if q=i then true else done q) l=We es done l:=by
      intro l hl
      unfold We
      induction l with
      | nil=>rfl
      | cons q l ih =>
        have hq:q≠i:=by rintro rfl;exact hl (.head _)
        rw [List.flatMap_cons,List.flatMap_cons,ih (fun h=>hl (.tail _ h))]
        simp [hq]
    by_cases hji:j=i
    · subst hji
      have h1:We (fun q=>if q=j then e' else es q) (fun q=>if q=j then true else done q) (j::l)=e'++We es done l:=by
        have:=hcongr l hn.1
        unfold We at this ⊢
        rw [List.flatMap_cons,this];simp
      have h2:We es done (j::l)=We es done l:=by
        unfold We;rw [List.flatMap_cons,hdi];simp
      rw [h1,h2]
    · have hm' : i ∈ l := by rcases List.mem_cons.1 hm with e | e; (exact absurd e.symm hji); exact e
      have ih:=Zdk (es:=es) e' hdi hn.2 hm'
      have h1:We (fun q=>if q=i then e' else es q) (fun q=>if q=i then true else done q) (j::l)=(if done j then es j else [])++We (fun q=>if q=i then e' else es q) (fun q=>if q=i then true else done q) l:=by
        unfold We;rw [List.flatMap_cons];simp [hji]
      have h2:We es done (j::l)=(if done j then es j else [])++We es done l:=by
        unfold We;rw [List.flatMap_cons]
      rw [h1,h2]
      refine (List.Perm.append_left _ ih).trans ?_
      rw [←List.append_assoc,←List.append_assoc]
      exact List.Perm.append_right _ List.perm_append_comm
theorem done_eat {es:Nat→Heap}{live live':Nat→Bool}{i:Nat}(e':Heap){D ea:List Nat}{l:List Nat}(hl:l.Nodup)(hil:i∈l)(hiD:i∉D)(hD:D.Nodup)(hDl:∀ j,j∈D→j∈l∧live j=true)
    (hli:live i=false)(hli':live' i=true)(h1:∀ j,j≠i→live' j=(live j&&!ea.any (Nat.beq j)))(hea:∀ j,j∈ea→j∈D) :
    ∃ Hx,List.Perm (We es live l) (Uc es D++Hx)∧List.Perm (We (fun j=>if j=i then e' else es j) live' l) (e'++(Uc es (D.filter fun j=>!ea.any (Nat.beq j))++Hx)):=by
  obtain ⟨r,hr⟩:=Zdy D l hD (fun j hj=>(hDl j hj).1)
  have hnd:(D++r).Nodup:=(List.Perm.nodup_iff hr).1 hl
  have hdis:=(List.nodup_append.1 hnd).2.2
  have hrn:=(List.nodup_append.1 hnd).2.1
  have hir:i∈r:=by
    rcases List.mem_append.1 ((List.Perm.mem_iff hr).1 hil) with h | h
    ·exact absurd h hiD
    ·exact h
  refine ⟨We es live r,?_,?_⟩
  · have h2 : List.Perm (We es live l) (We es live (D ++ r)) := hr.flatMap_right _
    rw [show We es live (D++r)=We es live D++We es live r by simp [We],Zf2 (fun j hj=>(hDl j hj).2)] at h2
    exact h2
  · have h2 : List.Perm (We (fun j => if j = i then e' else es j) live' l) (We (fun j => if j = i then e' else es j) live' (D ++ r)) := hr.flatMap_right _
    rw [show We (fun j=>if j=i then e' else es j) live' (D++r)=We (fun j=>if j=i then e' else es j) live' D++We (fun j=>if j=i then e' else es j) live' r by simp [We]] at h2
    have hDe:∀ D:List Nat,i∉D→(∀ j,j∈D→live j=true)→We (fun j=>if j=i then e' else es j) live' D=Uc es (D.filter fun j=>!ea.any (Nat.beq j)):=by
      intro D
      induction D with
      | nil=>intro _ _;rfl
      | cons j D ih =>
        intro hi hj
        have hji:j≠i:=by rintro rfl;exact hi (.head _)
        have ih:=ih (fun h=>hi (.tail _ h)) (fun q hq=>hj q (.tail _ hq))
        unfold We at ih ⊢
        rw [List.flatMap_cons,ih,h1 j hji,hj j (.head _),Bool.true_and,List.filter_cons]
        simp only [if_neg hji]
        cases (!ea.any (Nat.beq j)) <;> simp [Uc]
    rw [hDe D hiD (fun j hj=>(hDl j hj).2)] at h2
    have hre:We (fun j=>if j=i then e' else es j) live' r=We (fun j=>if j=i then e' else es j) (fun q=>if q=i then true else live q) r:=by
      have key:∀ r:List Nat,(∀ j,j∈r→j∉ea)→We (fun j=>if j=i then e' else es j) live' r=We (fun j=>if j=i then e' else es j) (fun q=>if q=i then true else live q) r:=by
        intro r
        induction r with
        | nil=>intro _;rfl
        | cons j r ih =>
          intro hj
          have ih:=ih fun q hq=>hj q (.tail _ hq)
          unfold We at ih ⊢
          rw [List.flatMap_cons,List.flatMap_cons,ih]
          congr 1
          by_cases e:j=i
          ·subst e;simp [hli']
          · have : ea.any (Nat.beq j) = false := by
              rw [Bool.eq_false_iff]
              intro h
              exact hj j (.head _) (any_beq.1 h)
            simp [e,h1 j e,this]
      exact key r fun j hj h=>hdis j (hea j h) j hj rfl
    rw [hre] at h2
    have h3:=Zdk (es:=es) (done:=live) e' hli hrn hir
    refine h2.trans ((List.Perm.append_left _ h3).trans ?_)
    rw [←List.append_assoc,←List.append_assoc]
    exact List.Perm.append_right _ List.perm_append_comm
theorem wpOp_Q {ρ:Option Nat}{P:Program}{i:Nat}{K:Act→World→Prop}{a:Act}{w:World}
    (h:wpOpsIn (FW ρ) 0 P ops (fun e a w=>match e with | .normal=>K a w | e=>Q e a w) [i] a w):wpOpIn (FW ρ) 0 P ops Q i K a w:=by
  rw [wpOpsIn_cons] at h
  unfold wpOpIn at h ⊢
  cases ho:ops[i]? with
  | none=>rw [ho] at h;exact h
  | some o =>
    rw [ho] at h
    simp only at h ⊢
    split
    · rename_i hwt
      simp only [hwt,if_true] at h
      refine ⟨h.1,?_⟩
      have h2:=h.2
      generalize (o.semAt (FW ρ).round a.eval).run P w=r at h2 ⊢
      cases r with
      | ok x w'=>cases x <;> exact h2
      | halt x w'=>cases x <;> exact h2
    · rename_i hwt
      simp only [hwt,if_false,Bool.false_eq_true] at h
      exact h
def rdH:List (Nat×Nat×Heap)→Nat→Heap
  | [],_=>[]
  | (j,_,R)::l,i=>cond (Nat.beq j i) R (rdH l i)
def rdK:List (Nat×Nat×Heap)→Nat→Option Nat
  | [],_=>none
  | (j,k,_)::l,i=>cond (Nat.beq j i) (some k) (rdK l i)
def RdOk (HR:Nat→List Value→Heap→Prop):List (Nat×Nat×Heap)→Prop
  | []=>True
  | (_,k,R)::l=>(∀ r,Nat.ble r k=true→∀ vl hb,HR r vl hb→∃ rest,List.Perm hb (R++rest))∧RdOk HR l
def goodR (ops:Array Oper)(S:List Sp)(rd:List (Nat×Nat×Heap)):Bool :=
  rd.all fun p=>(List.range S.length).any fun q=>Vc S q&&Nat.beq (Gd S q) p.2.1&&Vh ops ops.size q p.1
theorem RdOk.get {HR:Nat→List Value→Heap→Prop}:∀ {rd:List (Nat×Nat×Heap)},RdOk HR rd→∀ i r vl hb,(∀ k,rdK rd i=some k→r≤k)→HR r vl hb→∃ rest,List.Perm hb (rdH rd i++rest)
 | [],_,i,r,vl,hb,_,_=>⟨hb,List.Perm.refl _⟩
 | (j,k,R)::l,⟨h1,h2⟩,i,r,vl,hb,hk,hh=>by
  simp only [rdH]
  cases hb':Nat.beq j i with
  | true =>
   exact h1 r (Nat.ble_eq_true_of_le (hk k (by simp only [rdK,hb',cond_true]))) vl hb hh
  | false=>exact RdOk.get h2 i r vl hb (fun k' h=>hk k' (by simp only [rdK,hb',cond_false];exact h)) hh
theorem goodR.get {ops:Array Oper}{S:List Sp}:∀ {rd:List (Nat×Nat×Heap)},goodR ops S rd=true→∀ i k,rdK rd i=some k→∃ q,q<S.length∧Vc S q=true∧Gd S q=k∧Vh ops ops.size q i=true
 | [],_,i,k,h=>by cases h
 | (j,k',R)::l,hg,i,k,h=>by
  simp only [goodR,List.all_cons,Bool.and_eq_true] at hg
  simp only [rdK] at h
  cases hb':Nat.beq j i with
  | true =>
   rw [hb'] at h
   injection h with h
   subst h
   have:=Nat.eq_of_beq_eq_true hb'
   subst this
   obtain ⟨q,hq,h2⟩:=List.any_eq_true.1 hg.1
   simp only [Bool.and_eq_true] at h2
   exact ⟨q,List.mem_range.1 hq,h2.1.1,Nat.eq_of_beq_eq_true h2.1.2,h2.2⟩
  | false=>rw [hb'] at h;exact goodR.get hg.2 i k h
def ObE2 (C:Cx)(ops:Array Oper)(Q:Exit→Act→World→Prop)(S:List Sp)(HR:Nat→List Value→Heap→Prop)(hd:List (List Nat))(W:Env)(Hc:Heap)(i:Nat):Prop :=
  ∀ (vs:Nat→Value) (es:Nat→Heap) (Es:Env) (Hx hb:Heap),Ll S vs es (Wo S i)→HR (Gd S i) ((hd.getD (Gd S i) []).map vs) hb →
    TO C ops (fun e a w=>match e with
      | .normal=>∃ v hb' e',Gs S i ((Wo S i).map vs) v e'∧HR (Gd S i+1) ((hd.getD (Gd S i+1) []).map (fun j=>cond (Nat.beq j i) v (vs j))) hb' ∧
          Fits C.n C.D (Lf (Xi ops i) v (Uq ops vs (Wo S i)++(W++Es))) a∧Inv C.w0 C.M w (hb'++(Hc++(e'++(Uc es (Wo S i)++Hx))))
      | e=>Q e a w) [i] (Uq ops vs (Wo S i)++(W++Es)) (hb++(Hc++(Uc es (Wo S i)++Hx)))
def ObsG3 (C:Cx)(ops:Array Oper)(Q:Exit→Act→World→Prop)(S:List Sp)(HR:Nat→List Value→Heap→Prop)(hd:List (List Nat))(rd:List (Nat×Nat×Heap))(W:Env)(Hc:Heap):List Nat→Prop
  | []=>True
  | i::l=>(cond (Vc S i) (ObE2 C ops Q S HR hd W Hc i) (ObQ C ops Q S W (rdH rd i++Hc) i))∧ObsG3 C ops Q S HR hd rd W Hc l
theorem ObsG3.get {S:List Sp}{HR:Nat→List Value→Heap→Prop}{hd:List (List Nat)}{rd:List (Nat×Nat×Heap)}{W:Env}{Hc:Heap}:∀ {l:List Nat},ObsG3 C ops Q S HR hd rd W Hc l→∀ i,i∈l→(cond (Vc S i) (ObE2 C ops Q S HR hd W Hc i) (ObQ C ops Q S W (rdH rd i++Hc) i))
 | [],_,i,h=>by cases h
 | j::l,⟨h1,h2⟩,i,h=>by
  rcases List.mem_cons.1 h with rfl | h
  ·exact h1
  ·exact ObsG3.get h2 i h
theorem T.drawG3 {id:Nat}(S:List Sp)(HR:Nat→List Value→Heap→Prop)(hd:List (List Nat))(rd:List (Nat×Nat×Heap))(hb0 Hc:Heap)
    (hm:C.P.follows .mixedOrders=true)(hb:Ni ops=true)(ht:Z1e ops S.length=true)(hgood:Z5r ops S hd=true)(hms:Nat.ble S.length ops.size=true)
    (hn:Rd (Jf ops (List.range S.length))=true)(hgr:goodR ops S rd=true)(hro:RdOk HR rd)(h0:HR 0 [] hb0)(hH:Pick (hb0++Hc) H)
    (obs:ObsG3 C ops Q S HR hd rd (wo (Jf ops (List.range S.length)) E) Hc (List.range S.length))
    (k:∀ (vs:Nat→Value) (es:Nat→Heap) (hb:Heap),Ll S vs es (List.range S.length)→HR ((List.range S.length).filter (Vc S)).length ((hd.getD ((List.range S.length).filter (Vc S)).length []).map vs) hb →
      TO C ops Q (List.range' S.length (ops.size-S.length)) (Uq ops vs (List.range S.length)++wo (Jf ops (List.range S.length)) E) (hb++(Hc++Uc es ((List.range S.length).filter fun j=>!Lv S j)))) :
    T C (.region id ops true) Q E H:=by
  intro a w hf hi
  have hms':=Nat.le_of_ble_eq_true hms
  have hnd:=Zab hn
  simp only [Z5r,Bool.and_eq_true] at hgood
  obtain ⟨hg,hd0⟩:=hgood
  have hg':∀ i,i<S.length→_:=fun i hi=>List.all_eq_true.1 hg i (List.mem_range.2 hi)
  have hd0':hd.getD 0 []=[]:=by simpa using hd0
  let W:=wo (Jf ops (List.range S.length)) E
  have hW:∀ t v,find W t=some v→find E t=some v∧∀ j,j<S.length→Xi ops j≠some t:=fun t v h=>by
    obtain ⟨h1,h2⟩:=Z4j E _ t v h
    exact ⟨h2,fun j hj hs=>h1 (mem_slotsG.2 ⟨j,List.mem_range.2 hj,hs⟩)⟩
  let rk:(Nat→Bool)→Nat:=fun done=>((List.range S.length).filter (fun i=>Vc S i&&done i)).length
  refine Zcf (m:=S.length) (Jp:=fun done a w=>∃ (vs:Nat→Value) (es:Nat→Heap) (hb:Heap) (Es:Env),
      Fits C.n C.D Es a∧(∀ j d,j<S.length→done j=true→Xi ops j=some d→find Es d=some (vs j))∧(∀ t v,find W t=some v→find Es t=some v) ∧
      (∀ j,j<S.length→done j=true→Gs S j ((Wo S j).map vs) (vs j) (es j))∧(∀ j,j∈hd.getD (rk done) []→j<S.length∧done j=true) ∧
      HR (rk done) ((hd.getD (rk done) []).map vs) hb∧Inv C.w0 C.M w (hb++(Hc++We es (Kc S done) (List.range S.length))))
    hm hb ht hms' ?_ ?_ ?_
  · rintro done i o a w hil ho hdi hcl hafter _ ⟨vs, es, hb, Es, hfit, hfacts, hbase, hrels, hhd, hHR, hinv⟩
    have hgi:=hg' i hil
    simp only [Bool.and_eq_true] at hgi
    obtain ⟨⟨⟨⟨hdeps,hdnd⟩,heat⟩,heate⟩,heffs⟩:=hgi
    have hdone:∀ j,Vh ops ops.size i j=true→done j=true:=fun j hj=>Nw hcl _ i j hj (fun o' ho'=>by rw [ho] at ho';injection ho' with ho';subst ho';exact hafter)
    have hdd:∀ j,j∈Wo S i→j<S.length∧done j=true:=fun j hj=>by
      have:=List.all_eq_true.1 hdeps j hj
      simp only [Bool.and_eq_true] at this
      exact ⟨by simpa using this.1,hdone j this.2⟩
    have hreld:Ll S vs es (Wo S i):=Zd5 fun j hj=>hrels j (hdd j hj).1 (hdd j hj).2
    have heat':∀ q,q<S.length→∀ j,j∈Gp S q→j<q∧j∈Wo S q∧∀ p,p<S.length→p≠q→j∉Gp S p∧(j∈Wo S p→Vh ops ops.size q p=true):=by
      intro q hq j hj
      have h1:=hg' q hq
      simp only [Bool.and_eq_true] at h1
      have h2:=List.all_eq_true.1 h1.1.1.2 j hj
      simp only [Bool.and_eq_true] at h2
      refine ⟨by simpa using h2.1.1,any_beq.1 h2.1.2,fun p hp hpq=>?_⟩
      have h3:=List.all_eq_true.1 h2.2 p (List.mem_range.2 hp)
      simp only [Bool.or_eq_true,Bool.and_eq_true,Bool.not_eq_true'] at h3
      rcases h3 with h3 | ⟨h3,h4⟩
      ·exact absurd (Nat.eq_of_beq_eq_true h3) hpq
      · refine ⟨fun hm => (by rw [any_beq.2 hm] at h3; cases h3), fun hm => ?_⟩
        rcases h4 with h4 | h4
        ·rw [any_beq.2 hm] at h4;cases h4
        ·exact h4
    have hcl':∀ q,q<S.length→done q=true→∀ p,Vh ops ops.size q p=true→done p=true:=fun q hq hdq p hqp =>
      Nw hcl _ q p hqp (fun o' ho'=>hcl q o' ho' hdq)
    have hlive:∀ j,j∈Wo S i→Kc S done j=true:=by
      intro j hj
      unfold Kc
      rw [(hdd j hj).2,Bool.true_and,Bool.not_eq_true',Bool.eq_false_iff]
      intro he
      obtain ⟨q,hq,h2⟩:=List.any_eq_true.1 he
      simp only [Bool.and_eq_true] at h2
      have hqS:=List.mem_range.1 hq
      have hqi:q≠i:=by rintro rfl;rw [hdi] at h2;cases h2.1
      have h3:=((heat' q hqS j (any_beq.1 h2.2)).2.2 i hil (fun e=>hqi e.symm)).2 hj
      have:=hcl' q hqS h2.1 i h3
      rw [hdi] at this;cases this
    have hiD:i∉Wo S i:=fun hm=>by
      have:=(hdd i hm).2
      rw [hdi] at this;cases this
    have hstepL:∀ j,j≠i→Kc S (fun q=>if q=i then true else done q) j=(Kc S done j&&!(Gp S i).any (Nat.beq j)):=by
      intro j hji
      unfold Kc
      simp only [if_neg hji]
      have:Z3h S (fun q=>if q=i then true else done q) j=(Z3h S done j||(Gp S i).any (Nat.beq j)):=by
        rw [Bool.eq_iff_iff]
        simp only [Z3h,List.any_eq_true,Bool.or_eq_true,Bool.and_eq_true]
        constructor
        · rintro ⟨q, hq, h1, h2⟩
          by_cases e:q=i
          ·subst e;exact .inr h2
          ·rw [if_neg e] at h1;exact .inl ⟨q,hq,h1,h2⟩
        · rintro (⟨q, hq, h1, h2⟩ | h2)
          ·exact ⟨q,hq,by rw [h1];simp,h2⟩
          ·exact ⟨i,List.mem_range.2 hil,by simp,h2⟩
      rw [this]
      cases done j <;> cases Z3h S done j <;> cases (Gp S i).any (Nat.beq j) <;> rfl
    have hlivei:Kc S (fun q=>if q=i then true else done q) i=true:=by
      unfold Kc
      simp only [if_true]
      rw [Bool.true_and,Bool.not_eq_true',Bool.eq_false_iff]
      intro he
      obtain ⟨q,hq,h2⟩:=List.any_eq_true.1 he
      simp only [Bool.and_eq_true] at h2
      have hqS:=List.mem_range.1 hq
      obtain ⟨h3,h4,h5⟩:=heat' q hqS i (any_beq.1 h2.2)
      by_cases e:q=i
      ·subst e;omega
      · have hdq : done q = true := by have := h2.1; rwa [if_neg e] at this
        have h6:=hg' q hqS
        simp only [Bool.and_eq_true] at h6
        have h7:=List.all_eq_true.1 h6.1.1.1.1 i h4
        simp only [Bool.and_eq_true] at h7
        have:=hcl' q hqS hdq i h7.2
        rw [hdi] at this;cases this
    have hpermE:∀ e':Heap,∃ Hx,List.Perm (We es (Kc S done) (List.range S.length)) (Uc es (Wo S i)++Hx) ∧
        List.Perm (We (fun j=>if j=i then e' else es j) (Kc S (fun q=>if q=i then true else done q)) (List.range S.length)) (e'++(Uc es (Z0w S i)++Hx)):=fun e' =>
      done_eat e' List.nodup_range (List.mem_range.2 hil) hiD (Zab hdnd) (fun j hj=>⟨List.mem_range.2 (hdd j hj).1,hlive j hj⟩) (by unfold Kc;rw [hdi];rfl) hlivei hstepL (fun j hj=>(heat' i hil j hj).2.1)
    obtain ⟨Hx,hHx,hHx'⟩:∃ Hx,List.Perm (We es (Kc S done) (List.range S.length)) (Uc es (Wo S i)++Hx) ∧
        ∀ e':Heap,List.Perm (We (fun j=>if j=i then e' else es j) (Kc S (fun q=>if q=i then true else done q)) (List.range S.length)) (e'++(Uc es (Z0w S i)++Hx)):=by
      obtain ⟨Hx,h1,_⟩:=hpermE []
      refine ⟨Hx,h1,fun e'=>?_⟩
      obtain ⟨Hy,h2,h3⟩:=hpermE e'
      exact h3.trans (List.Perm.append_left _ (List.Perm.append_left _ ((List.perm_append_left_iff _).1 (h2.symm.trans h1))))
    have hsub:∀ t v,find (Uq ops vs (Wo S i)++(W++Es)) t=some v→find Es t=some v:=by
      intro t v h
      rw [Nv,Nv] at h
      cases h1:find (Uq ops vs (Wo S i)) t with
      | some u =>
        rw [h1] at h;simp at h;subst h
        obtain ⟨j,hj,hs,rfl⟩:=Z7u (Z5d h1)
        exact hfacts j t (hdd j hj).1 (hdd j hj).2 hs
      | none =>
        rw [h1] at h
        simp only [Option.none_or] at h
        cases h2:find W t with
        | some u=>rw [h2] at h;simp at h;subst h;exact hbase t u h2
        | none=>rw [h2] at h;simpa using h
    have hsub2:∀ t v,find Es t=some v→find (Uq ops vs (Wo S i)++(W++Es)) t=some v:=by
      intro t v h
      cases h1:find (Uq ops vs (Wo S i)++(W++Es)) t with
      | some u=>rw [←hsub t u h1,h]
      | none =>
        rw [Nv,Nv,h] at h1
        cases h2:find (Uq ops vs (Wo S i)) t <;> cases h3:find W t <;> simp [h2,h3] at h1
    have hslot:Xi ops i=o.dst:=by simp [Xi,ho]
    have hfin:∀ (v:Value) (e' hb':Heap) (a':Act) (w':World),Gs S i ((Wo S i).map vs) v e'→(∀ j,j∈hd.getD (rk (fun q=>if q=i then true else done q)) []→j<S.length∧(if j=i then true else done j)=true) →
        HR (rk (fun q=>if q=i then true else done q)) ((hd.getD (rk (fun q=>if q=i then true else done q)) []).map (fun j=>if j=i then v else vs j)) hb' →
        Fits C.n C.D (Lf (Xi ops i) v (Uq ops vs (Wo S i)++(W++Es))) a'→Inv C.w0 C.M w' (hb'++(Hc++(e'++(Uc es (Z0w S i)++Hx)))) →
        ∃ (vs:Nat→Value) (es:Nat→Heap) (hb:Heap) (Es:Env),Fits C.n C.D Es a'∧(∀ j d,j<S.length→(if j=i then true else done j)=true→Xi ops j=some d→find Es d=some (vs j))∧(∀ t v,find W t=some v→find Es t=some v) ∧
          (∀ j,j<S.length→(if j=i then true else done j)=true→Gs S j ((Wo S j).map vs) (vs j) (es j))∧(∀ j,j∈hd.getD (rk (fun q=>if q=i then true else done q)) []→j<S.length∧(if j=i then true else done j)=true) ∧
          HR (rk (fun q=>if q=i then true else done q)) ((hd.getD (rk (fun q=>if q=i then true else done q)) []).map vs) hb∧Inv C.w0 C.M w' (hb++(Hc++We es (Kc S (fun q=>if q=i then true else done q)) (List.range S.length))):=by
      intro v e' hb' a' w' hrel hhd' hHR' hfit' hinv'
      refine ⟨fun j=>if j=i then v else vs j,fun j=>if j=i then e' else es j,hb',Lf (Xi ops i) v (Uq ops vs (Wo S i)++(W++Es)),hfit',fun j d hj hdj hs=>?_,fun t u h=>?_,fun j hj hdj=>?_,hhd',hHR',?_⟩
      · show find _ d = some (if j = i then v else vs j)
        by_cases e:j=i
        ·subst e;rw [hs,if_pos rfl];simp [Lf,Kv]
        · rw [if_neg e]
          have hdj':done j=true:=by simpa [e] using hdj
          have h1:=hsub2 _ _ (hfacts j d hj hdj' hs)
          cases hsi:Xi ops i with
          | none=>exact h1
          | some di =>
            simp only [Lf,Kv]
            rw [if_neg]
            ·exact h1
            · rintro rfl
              exact e (Zcr hnd j i di (List.mem_range.2 hj) (List.mem_range.2 hil) hs hsi)
      · have h1 := hsub2 _ _ (hbase t u h)
        cases hsi:Xi ops i with
        | none=>exact h1
        | some di =>
          simp only [Lf,Kv]
          rw [if_neg]
          ·exact h1
          · rintro rfl
            exact (hW _ _ h).2 i hil hsi
      · have hmapdeps : ∀ q, q < S.length → (if q = i then true else done q) = true → (Wo S q).map (fun j => if j = i then v else vs j) = (Wo S q).map vs := by
          intro q hq hdq
          apply List.map_congr_left
          intro r hr
          have hrq:=hg' q hq
          simp only [Bool.and_eq_true] at hrq
          have hrr:=List.all_eq_true.1 hrq.1.1.1.1 r hr
          simp only [Bool.and_eq_true] at hrr
          have hne:r≠i:=by
            rintro rfl
            by_cases e:q=r
            · subst e
              have:=hdone q hrr.2
              rw [hdi] at this;cases this
            · have hdq' : done q = true := by simpa [e] using hdq
              have:done r=true:=by
                obtain ⟨oq,hoq⟩:∃ oq,ops[q]?=some oq:=⟨ops[q]'(by omega),Array.getElem?_eq_getElem (by omega)⟩
                exact Nw hcl _ q r hrr.2 (fun o' ho'=>hcl q o' ho' hdq')
              rw [hdi] at this;cases this
          rw [if_neg hne]
        rw [hmapdeps j hj hdj]
        by_cases e:j=i
        ·subst e;simpa using hrel
        · simp only [if_neg e]
          exact hrels j hj (by simpa [e] using hdj)
      ·exact hinv'.perm (List.Perm.append_left _ (List.Perm.append_left _ (hHx' e').symm))
    have hrk:Vc S i=false→rk (fun q=>if q=i then true else done q)=rk done:=by
      intro he
      show ((List.range S.length).filter _).length=_
      congr 1
      apply List.filter_congr
      intro j _
      by_cases e:j=i
      ·subst e;simp [he]
      ·simp [e]
    cases he:Vc S i with
    | false =>
      have hob:=obs.get i (List.mem_range.2 hil)
      rw [he] at hob
      simp only [cond_false] at hob
      have hrkle:∀ k,rdK rd i=some k→rk done≤k:=by
        intro k hk
        obtain ⟨q,hq,heq,hrq,hreach⟩:=goodR.get hgr i k hk
        subst hrq
        have hdq:done q=false:=by
          cases hdq:done q with
          | false=>rfl
          | true=>have:=hcl' q hq hdq i hreach;rw [hdi] at this;cases this
        show ((List.range S.length).filter (fun i=>Vc S i&&done i)).length≤((List.range q).filter (Vc S)).length
        have hsplit:List.range S.length=List.range q++List.range' q (S.length-q):=by
          rw [List.range_eq_range',List.range_eq_range']
          have:=List.range'_append_1 (s:=0) (m:=q) (n:=S.length-q)
          rw [Nat.zero_add] at this
          rw [this]
          congr 1;omega
        have h2:(List.range' q (S.length-q)).filter (fun j=>Vc S j&&done j)=[]:=by
          rw [List.filter_eq_nil_iff]
          intro j hj
          have hjr:=List.mem_range'_1.1 hj
          cases hej:Vc S j with
          | false=>simp
          | true =>
            cases hdj:done j with
            | false=>simp
            | true =>
              exfalso
              by_cases e:j=q
              ·subst e;rw [hdq] at hdj;cases hdj
              · have hgj := hg' j (by omega)
                simp only [Bool.and_eq_true] at hgj
                have h3:=hgj.2
                rw [hej] at h3
                simp only [Bool.not_true,Bool.false_or,Bool.and_eq_true] at h3
                have h4:=List.all_eq_true.1 h3.1 q (List.mem_range.2 (by omega))
                rw [heq] at h4
                simp only [Bool.not_true,Bool.false_or] at h4
                have:=hcl' j (by omega) hdj q h4
                rw [hdq] at this;cases this
        rw [hsplit,List.filter_append,h2,List.append_nil]
        have:∀ l:List Nat,(l.filter (fun i=>Vc S i&&done i)).length≤(l.filter (Vc S)).length:=by
          intro l
          induction l with
          | nil=>simp
          | cons x l ih =>
            rw [List.filter_cons,List.filter_cons]
            cases h1:Vc S x <;> cases h2:done x <;> simp <;> omega
        exact this _
      obtain ⟨rest,hrest⟩:=hro.get i (rk done) _ hb hrkle hHR
      have hh:=hob vs es Es (Hx++rest) hreld a w (hfit.weak hsub) (hinv.perm (by
        refine (List.Perm.append hrest (List.Perm.append_left Hc hHx)).trans ?_
        rw [List.append_assoc,List.append_assoc]
        refine List.Perm.append_left _ ?_
        refine List.perm_append_comm.trans ?_
        rw [List.append_assoc,List.append_assoc]))
      refine wpOpIn_mono ?_ (wpOp_Q hh)
      rintro a' w' ⟨v,e',hrel,hfit',hinv'⟩
      refine hfin v e' hb a' w' hrel ?_ ?_ hfit' (hinv'.perm ?_)
      · rw [hrk he]
        intro j hj
        obtain ⟨h1,h2⟩:=hhd j hj
        exact ⟨h1,by rw [h2];simp⟩
      · rw [hrk he]
        have:(hd.getD (rk done) []).map (fun j=>if j=i then v else vs j)=(hd.getD (rk done) []).map vs:=by
          apply List.map_congr_left
          intro j hj
          rw [if_neg]
          rintro rfl
          have:=(hhd j hj).2
          rw [hdi] at this;cases this
        rw [this]
        exact hHR
      · -- e' ++ ((R ++ Hc) ++ (ents ++ (Hx ++ rest)))  ~  hb ++ (Hc ++ (e' ++ (ents ++ Hx)))
        generalize Uc es (Z0w S i)=A
        refine List.Perm.trans ?_ (List.Perm.append_right _ hrest.symm)
        generalize rdH rd i=R
        have e1:e'++((R++Hc)++(A++(Hx++rest)))=((e'++(R++Hc))++(A++Hx))++rest:=by simp only [List.append_assoc]
        have e2:(R++rest)++(Hc++(e'++(A++Hx)))=R++(rest++(Hc++(e'++(A++Hx)))):=by simp only [List.append_assoc]
        rw [e1,e2]
        have p1:List.Perm (e'++(R++Hc)) (R++(Hc++e')):=by
          refine List.perm_append_comm.trans ?_
          rw [List.append_assoc]
        refine (List.Perm.append_right rest (List.Perm.append_right (A++Hx) p1)).trans ?_
        have e3:((R++(Hc++e'))++(A++Hx))++rest=R++((Hc++(e'++(A++Hx)))++rest):=by simp only [List.append_assoc]
        rw [e3]
        exact List.Perm.append_left R List.perm_append_comm
    | true =>
      have hob:=obs.get i (List.mem_range.2 hil)
      rw [he] at hob
      simp only [cond_true] at hob
      rw [he] at heffs
      simp only [Bool.not_true,Bool.false_or,Bool.and_eq_true] at heffs
      obtain ⟨hchain,hnext⟩:=heffs
      have hrki:rk done=Gd S i:=by
        show ((List.range S.length).filter _).length=((List.range i).filter (Vc S)).length
        have hsplit:List.range S.length=List.range i++List.range' i (S.length-i):=by
          rw [List.range_eq_range',List.range_eq_range']
          have:=List.range'_append_1 (s:=0) (m:=i) (n:=S.length-i)
          rw [Nat.zero_add] at this
          rw [this]
          congr 1;omega
        rw [hsplit,List.filter_append]
        have h1:(List.range i).filter (fun j=>Vc S j&&done j)=(List.range i).filter (Vc S):=by
          apply List.filter_congr
          intro j hj
          have:=List.all_eq_true.1 hchain j hj
          simp only [Bool.or_eq_true,Bool.not_eq_true'] at this
          rcases this with h | h
          ·simp [h]
          ·simp [hdone j h]
        have h2:(List.range' i (S.length-i)).filter (fun j=>Vc S j&&done j)=[]:=by
          rw [List.filter_eq_nil_iff]
          intro j hj
          have hjr:=List.mem_range'_1.1 hj
          cases hej:Vc S j with
          | false=>simp
          | true =>
            cases hdj:done j with
            | false=>simp
            | true =>
              exfalso
              by_cases e:j=i
              ·subst e;rw [hdi] at hdj;cases hdj
              · have hgj := hg' j (by omega)
                simp only [Bool.and_eq_true] at hgj
                have h3:=hgj.2
                rw [hej] at h3
                simp only [Bool.not_true,Bool.false_or,Bool.and_eq_true] at h3
                have h4:=List.all_eq_true.1 h3.1 i (List.mem_range.2 (by omega))
                rw [he] at h4
                simp only [Bool.not_true,Bool.false_or] at h4
                have:done i=true:=Nw hcl _ j i h4 (fun o' ho'=>hcl j o' ho' hdj)
                rw [hdi] at this;cases this
        rw [h1,h2,List.append_nil]
      have hrki':rk (fun q=>if q=i then true else done q)=Gd S i+1:=by
        rw [←hrki]
        show ((List.range S.length).filter _).length=((List.range S.length).filter _).length+1
        have:∀ l:List Nat,l.Nodup→i∈l→(l.filter (fun j=>Vc S j&&(if j=i then true else done j))).length=(l.filter (fun j=>Vc S j&&done j)).length+1:=by
          intro l
          induction l with
          | nil=>intro _ h;cases h
          | cons j l ih =>
            intro hn hm
            simp only [List.nodup_cons] at hn
            by_cases e:j=i
            · subst e
              have hc:l.filter (fun q=>Vc S q&&(if q=j then true else done q))=l.filter (fun q=>Vc S q&&done q):=by
                apply List.filter_congr
                intro q hq
                have:q≠j:=by rintro rfl;exact hn.1 hq
                simp [this]
              rw [List.filter_cons_of_pos (by simp [he]),List.filter_cons_of_neg (by simp [hdi]),hc,List.length_cons]
            · have hm' : i ∈ l := by rcases List.mem_cons.1 hm with h | h; (exact absurd h.symm e); exact h
              have:=ih hn.2 hm'
              simp only [List.filter_cons,e,if_false]
              split
              ·simp only [List.length_cons];omega
              ·exact this
        exact this _ List.nodup_range (List.mem_range.2 hil)
      rw [hrki] at hHR
      have hh:=hob vs es Es Hx hb hreld hHR a w (hfit.weak hsub) (hinv.perm (List.Perm.append_left _ (List.Perm.append_left _ hHx)))
      refine wpOpIn_mono ?_ (wpOp_Q hh)
      rintro a' w' ⟨v,hb',e',hrel,hHR',hfit',hinv'⟩
      have hrest:Z0w S i=Wo S i:=by
        have h0:Gp S i=[]:=by
          rw [he] at heate;simpa using heate
        unfold Z0w;rw [h0];simp
      refine hfin v e' hb' a' w' hrel ?_ ?_ hfit' (by rw [hrest];exact hinv')
      · rw [hrki']
        intro j hj
        have:=List.all_eq_true.1 hnext j hj
        simp only [Bool.or_eq_true,Bool.and_eq_true] at this
        rcases this with h | ⟨h1,h2⟩
        ·have:=Nat.eq_of_beq_eq_true h;subst this;exact ⟨hil,by simp⟩
        ·exact ⟨by simpa using h1,by rw [hdone j h2];simp⟩
      · rw [hrki']
        have:(fun j=>_root_.cond (Nat.beq j i) v (vs j))=(fun j=>if j=i then v else vs j):=by
          funext j
          by_cases e:j=i
          · subst e
            have:Nat.beq j j=true:=by simp
            rw [this,if_pos rfl];rfl
          · rw [if_neg e]
            have:Nat.beq j i=false:=by
              cases hb:Nat.beq j i
              ·rfl
              ·exact absurd (Nat.eq_of_beq_eq_true hb) e
            rw [this];rfl
        rw [←this]
        exact hHR'
  · rintro done a w hall ⟨vs, es, hb, Es, hfit, hfacts, hbase, hrels, hhd, hHR, hinv⟩
    have hrk:rk done=((List.range S.length).filter (Vc S)).length:=by
      show ((List.range S.length).filter _).length=_
      congr 1
      apply List.filter_congr
      intro j hj
      simp [hall j (List.mem_range.1 hj)]
    rw [hrk] at hHR
    refine k vs es hb (Zd5 fun j hj=>hrels j (List.mem_range.1 hj) (hall j (List.mem_range.1 hj))) hHR a w (hfit.weak fun t v h=>?_) ?_
    · rw [Nv] at h
      cases h1:find (Uq ops vs (List.range S.length)) t with
      | some u =>
        rw [h1] at h;simp at h;subst h
        obtain ⟨j,hj,hs,rfl⟩:=Z7u (Z5d h1)
        have hj':=List.mem_range.1 hj
        exact hfacts j t hj' (hall j hj') hs
      | none=>rw [h1] at h;exact hbase t v (by simpa using h)
    · have h1 : We es (Kc S done) (List.range S.length) = Uc es ((List.range S.length).filter fun j => !Lv S j) := by
        have key:∀ l:List Nat,(∀ j,j∈l→j<S.length)→We es (Kc S done) l=Uc es (l.filter fun j=>!Lv S j):=by
          intro l
          induction l with
          | nil=>intro _;rfl
          | cons j l ih =>
            intro h
            have ih:=ih fun q hq=>h q (.tail _ hq)
            have hj:Kc S done j=!Lv S j:=by
              unfold Kc Z3h Lv
              rw [hall j (h j (.head _)),Bool.true_and]
              congr 1
              rw [Bool.eq_iff_iff]
              simp only [List.any_eq_true,Bool.and_eq_true]
              constructor
              ·rintro ⟨q,hq,_,h2⟩;exact ⟨q,hq,h2⟩
              ·rintro ⟨q,hq,h2⟩;exact ⟨q,hq,hall q (List.mem_range.1 hq),h2⟩
            unfold We at ih ⊢
            rw [List.flatMap_cons,ih,hj,List.filter_cons]
            cases (!Lv S j) <;> simp [Uc]
        exact key _ fun j hj=>List.mem_range.1 hj
      rw [←h1]
      exact hinv
  · have hrk0 : rk (fun _ => false) = 0 := by
      show ((List.range S.length).filter _).length=0
      simp
    refine ⟨fun _=>undef,fun _=>[],hb0,E,hf,fun j d _ h=>by simp at h,fun t v h=>(hW t v h).1,fun j _ h=>by simp at h,?_,?_,?_⟩
    ·rw [hrk0,hd0'];intro j hj;cases hj
    ·rw [hrk0,hd0'];exact h0
    · have : We (fun _ => []) (Kc S fun _ => false) (List.range S.length) = [] := by simp [We]
      rw [this,List.append_nil]
      exact (hi.pick hH).ofHeap rfl rfl rfl rfl
theorem Zp3 {ρ:Option Nat}{P:Program}{Q':Exit→Act→World→Prop}{i:Nat}{K K':Act→World→Prop}{a:Act}{w:World}(hq:∀ e a w,e≠.normal→Q' e a w→Q e a w)(hk:∀ a w,K' a w→K a w)
    (h:wpOpIn (FW ρ) 0 P ops Q' i K' a w):wpOpIn (FW ρ) 0 P ops Q i K a w:=by
  refine wpOpIn_mono hk ?_
  unfold wpOpIn at h ⊢
  cases ho:ops[i]? with
  | none=>rw [ho] at h;exact h
  | some o =>
    rw [ho] at h
    simp only at h ⊢
    split
    · rename_i hwt
      simp only [hwt,if_true] at h
      refine ⟨h.1,?_⟩
      have h2:=h.2
      generalize (o.semAt (FW ρ).round a.eval).run P w=r at h2 ⊢
      cases r with
      | ok x w' =>
        cases x with
        | enter f args=>exact ⟨h2.1,CallsIn.mono h2.2 (fun e w' hh=>by cases e with
          | returned v=>exact hh
          | panicked c=>exact hq _ _ _ (by simp) hh
          | outgrown=>obtain ⟨a0,w0,h0⟩:=hh;exact ⟨a0,w0,hq _ _ _ (by simp) h0⟩)⟩
        | row _=>exact h2
        | round l f tmps assign body=>exact ⟨h2.1,RoundIn.mono h2.2 (fun e w' hh=>by cases e with
          | returned v=>exact hh
          | panicked c=>exact hq _ _ _ (by simp) hh
          | outgrown=>obtain ⟨a0,w0,h0⟩:=hh;exact ⟨a0,w0,hq _ _ _ (by simp) h0⟩)⟩
        | _=>exact h2
      | halt x w'=>cases x <;> first | exact h2 | exact hq _ _ _ (by simp) h2
    · rename_i hwt
      simp only [hwt,if_false,Bool.false_eq_true] at h
      exact h
theorem Z4k {ρ:Option Nat}{P:Program}{Q':Exit→Act→World→Prop}{l2:List Nat}(hq:∀ e a w,e≠.normal→Q' e a w→Q e a w)(hn:∀ a w,Q' .normal a w→wpOpsIn (FW ρ) 0 P ops Q l2 a w):∀ (l1:List Nat) (a:Act) (w:World),wpOpsIn (FW ρ) 0 P ops Q' l1 a w→wpOpsIn (FW ρ) 0 P ops Q (l1++l2) a w
 | [],a,w,h=>hn a w h
 | i::l1,a,w,h=>by
  rw [List.cons_append,wpOpsIn_cons]
  rw [wpOpsIn_cons] at h
  exact Zp3 hq (fun a w=>Z4k hq hn l1 a w) h
theorem ObE.to2 {S:List Sp}{HR:Nat→List Value→Heap→Prop}{hd:List (List Nat)}{W:Env}{Hc:Heap}{i:Nat}(h:ObE C ops Q S HR hd W Hc i):ObE2 C ops Q S HR hd W Hc i:=by
 intro vs es Es Hx hb hr hh a w hf hi
 refine Z4k (l2:=[]) (fun e a w hne hq=>?_) (fun a w hq=>?_) [i] a w (h vs es Es Hx hb hr hh a w hf hi)
 ·cases e <;> first | exact absurd rfl hne | exact hq
 ·
  obtain ⟨v,hb',h1,h2,h3,h4⟩:=hq
  exact ⟨v,hb',[],h1,h2,h3,h4⟩
theorem Zex {S:List Sp}{HR:Nat→List Value→Heap→Prop}{hd:List (List Nat)}{W:Env}{Hc:Heap}:∀ {l:List Nat},ObsG C ops Q S HR hd W Hc l→ObsG3 C ops Q S HR hd [] W Hc l
 | [],_=>trivial
 | i::_,⟨h1,h2⟩=>⟨by
  cases he:Vc S i with
  | true=>rw [he] at h1;exact ObE.to2 h1
  | false=>rw [he] at h1;exact h1,Zex h2⟩
theorem T.drawG {id:Nat}(S:List Sp)(HR:Nat→List Value→Heap→Prop)(hd:List (List Nat))(hb0 Hc:Heap)
    (hm:C.P.follows .mixedOrders=true)(hb:Ni ops=true)(ht:Z1e ops S.length=true)(hgood:Z5r ops S hd=true)(hms:Nat.ble S.length ops.size=true)
    (hn:Rd (Jf ops (List.range S.length))=true)(h0:HR 0 [] hb0)(hH:Pick (hb0++Hc) H)
    (obs:ObsG C ops Q S HR hd (wo (Jf ops (List.range S.length)) E) Hc (List.range S.length))
    (k:∀ (vs:Nat→Value) (es:Nat→Heap) (hb:Heap),Ll S vs es (List.range S.length)→HR ((List.range S.length).filter (Vc S)).length ((hd.getD ((List.range S.length).filter (Vc S)).length []).map vs) hb →
      TO C ops Q (List.range' S.length (ops.size-S.length)) (Uq ops vs (List.range S.length)++wo (Jf ops (List.range S.length)) E) (hb++(Hc++Uc es ((List.range S.length).filter fun j=>!Lv S j)))) :
    T C (.region id ops true) Q E H:=T.drawG3 S HR hd [] hb0 Hc hm hb ht hgood hms hn rfl trivial h0 hH (Zex obs) k
theorem Lg {id:Nat}(S:List Sp)(sl:List Nat)(m:Nat)(HR:Nat→List Value→Heap→Prop)(hd:List (List Nat))(hb0 Hc:Heap)
    (hm:C.P.follows .mixedOrders=true)(hsm:S.length=m)(hsl:Jf ops (List.range m)=sl)(hb:Ni ops=true)(ht:Z1e ops m=true)(hgood:Z5r ops S hd=true)(hms:Nat.ble m ops.size=true)
    (hn:Rd sl=true)(h0:HR 0 [] hb0)(hH:Pick (hb0++Hc) H)
    (obs:ObsG C ops Q S HR hd (wo sl E) Hc (List.range m))
    (k:∀ (vs:Nat→Value) (es:Nat→Heap) (hb:Heap),Ll S vs es (List.range m)→HR ((List.range m).filter (Vc S)).length ((hd.getD ((List.range m).filter (Vc S)).length []).map vs) hb →
      TO C ops Q (List.range' m (ops.size-m)) (Uq ops vs (List.range m)++wo sl E) (hb++(Hc++Uc es ((List.range m).filter fun j=>!Lv S j)))) :
    T C (.region id ops true) Q E H:=by
  subst hsm;subst hsl
  exact T.drawG S HR hd hb0 Hc hm hb ht hgood hms hn h0 hH obs k
def HRk (l:List Heap):Nat→List Value→Heap→Prop:=fun k _ hb=>hb=l.getD k []
theorem Yf {l:List Nat}{D D':Env}{W:Env}(h:D'=D)(k:TO C ops Q l (D++W) H):TO C ops Q l (D'++W) H:=by rw [h];exact k
theorem Ux {l:List Nat}{H':Heap}(h:H'=H)(k:TO C ops Q l E H):TO C ops Q l E H':=by rw [h];exact k
theorem Yj {S:List Sp}{W Es B B':Env}{Hc Hx:Heap}{i d:Nat}{v:Value}{e' De:Heap}{vl:List Value}{H':Heap}(hs:Xi ops i=some d)(hr:Gs S i vl v e')(hH:Pick (e'++(Hc++(De++Hx))) H')(hB:B=B') :
    X C (fun e a w=>match e with
      | .normal=>∃ v e',Gs S i vl v e'∧Fits C.n C.D (Lf (Xi ops i) v (B++(W++Es))) a∧Inv C.w0 C.M w (e'++(Hc++(De++Hx)))
      | e=>Q e a w) .normal ((d,v)::(B'++(W++Es))) H':=by
  subst hB
  exact fun _ _ hf hi=>⟨v,e',hr,by rw [hs];exact hf,hi.pick hH⟩
theorem Gh {S:List Sp}{HR:Nat→List Value→Heap→Prop}{W Es B B':Env}{Hc Hx:Heap}{i k:Nat}{vl:List Value}{F:Value→List Value}{De hb' H':Heap}(hs:Xi ops i=none)(hr:Gs S i vl undef [])(hh:HR k (F undef) hb')
    (hH:Pick (hb'++(Hc++(De++Hx))) H')(hB:B=B') :
    X C (fun e a w=>match e with
      | .normal=>∃ v hb',Gs S i vl v []∧HR k (F v) hb'∧Fits C.n C.D (Lf (Xi ops i) v (B++(W++Es))) a∧Inv C.w0 C.M w (hb'++(Hc++(De++Hx)))
      | e=>Q e a w) .normal (B'++(W++Es)) H':=by
  subst hB
  exact fun _ _ hf hi=>⟨undef,hb',hr,hh,by rw [hs];exact hf,hi.pick hH⟩
end
end Go.Acq
namespace Go.Acq
open Go Go.RowKit
theorem Inv.self {w0 w:World}{M M':List Nat}{H Hm:Heap}(h:Inv w0 M w H)(hp:Pick Hm H)(hM:Hm.filterMap (·.1)=M'):Inv w M' w Hm:=by
 have g:=h.pick hp
 refine ⟨rfl,rfl,rfl,Nat.le_refl _,fun _ _ _=>rfl,g.own,fun b o hm=>?_,g.apart⟩
 subst hM
 first | exact Or.inr (Z14 hm) | exact fun _=>Z14 hm | exact Or.inl (Z14 hm)
theorem Zh {p:Option Nat×Obj}{H R S Hm:Heap}(h:Take p H R)(g:List.Perm R (Hm++S)):List.Perm H ((p::Hm)++S) :=
 h.trans (List.Perm.cons p g)
def HRv (l:List (List Value→Heap)):Nat→List Value→Heap→Prop:=fun k vl hb=>hb=(l.getD k fun _=>[]) vl
end Go.Acq
namespace Go.Acq
open Go Go.RowKit
section control
variable {C : Cx} {Q : Exit → Act → World → Prop} {E E' : Env} {H H' : Heap} {c x y : Code}
theorem Zi0 {t:Nat}{v:Value}{L E:Env}(h:find E t=some v)(h2:AllF L E):AllF ((t,v)::L) E:=⟨h,h2⟩
theorem Up {E:Env}:AllF [] E:=trivial
theorem Fits.all {n:Nat}{D:List Deferred}{L E:Env}{a:Act}(h:Fits n D E a)(hL:AllF L E):Fits n D L a:=h.weak hL.sub
theorem T.weakE (h:T C c Q E' H')(hE:AllF E' E)(hH:Pick H' H):T C c Q E H:=h.weak hE.sub hH
theorem Z37 {α:Type}(φ:α→Prop)(L:α→Env)(Hs:α→Heap)(μ:α→Nat)(s0:α)(h0:φ s0)(hE:AllF (L s0) E)(hH:Pick (Hs s0) H)
    (round:∀ s,φ s→T C c (Exit.then (fun a w=>∃ s',φ s'∧μ s'<μ s∧Fits C.n C.D (L s') a∧Inv C.w0 C.M w (Hs s')) Q) (L s) (Hs s)):T C (.loop c) Q E H:=by
  refine T.weakE (E':=L s0) (H':=Hs s0) ?_ hE hH
  intro a w hf hi b k cs hro hb hr
  have key:∀ j s a w,μ s=j→φ s→Fits C.n C.D (L s) a→Inv C.w0 C.M w (Hs s) →
      ∃ e a' w',Q e a' w'∧ArrivesIn (Machine.fenced C.P (FW C.ρ)) C.P (lone (b.atR a (.code c::.inLoop c::k)) cs w) b k cs e a' w':=by
    intro j
    induction j using Nat.strongRecOn with
    | _ j ih =>
      intro s a w hj hφ hfit hinv
      obtain ⟨e,a₁,w₁,hq,harr⟩:=round s hφ a w hfit hinv b (.inLoop c::k) cs hro hb hr
      cases e with
      | normal =>
        obtain ⟨s',hφ',hlt,hfit',hinv'⟩:=hq
        obtain ⟨e₂,a₂,w₂,hq₂,harr₂⟩:=ih (μ s') (hj▸hlt) s' a₁ w₁ rfl hφ' hfit' hinv'
        exact ⟨e₂,a₂,w₂,hq₂,.of_steps (StepsIn.trans harr (.one (fenced_calm hb hr rfl) stepR_inLoop)) harr₂⟩
      | exit id=>exact ⟨_,a₁,w₁,hq,.pass (x:=.inLoop c) rfl (fun _ _=>.inl (by simp)) harr⟩
      | goto l=>exact ⟨_,a₁,w₁,hq,.pass (x:=.inLoop c) rfl (fun _ _=>.inl (by simp)) harr⟩
      | ret=>exact ⟨_,a₁,w₁,hq,.pass (x:=.inLoop c) rfl (fun _ _=>.inl (by simp)) harr⟩
      | panic ch=>exact ⟨_,a₁,w₁,hq,.pass (x:=.inLoop c) rfl (fun _ _=>.inl (by simp)) harr⟩
      | outgrown=>exact ⟨_,a₁,w₁,hq,.pass (x:=.inLoop c) rfl (fun _ _=>.inl (by simp)) harr⟩
  obtain ⟨e,a',w',hq,harr⟩:=key _ s0 a w rfl h0 hf hi
  exact ⟨e,a',w',hq,.of_steps (.one (fenced_calm hb hr rfl) stepR_loop) harr⟩
end control
structure RS {α:Type}(w:World)(M:List Nat)(f:α→List Value)(s:Nat)(base:Option Addr)(n c:Nat)(xs:List α):Prop where
  ro:RO w f s base n xs
  far:∀ a,base=some a→0<n→a.block∉M
  cap:n≤c
structure HB (w:World)(M:List Nat)(b:Nat)(cs:List Value):Prop where
  has:Has w b cs
  far:b∉M
section
variable {α : Type} {w w0 : World} {M M' : List Nat} {f : α → List Value} {s n c : Nat} {base : Option Addr} {xs : List α} {H Hm R : Heap}
theorem RS.len (h:RS w M f s base n c xs):xs.length=n:=h.ro.len
theorem RO.monoM (h:RO w0 f s base n xs)(hfar:∀ a,base=some a→0<n→a.block∉M)(hi:Inv w0 M w H):RO w f s base n xs :=
 ⟨h.len,h.nil,h.wide,fun o q ho hq x hx=>by
  have h1:=h.cell o q ho hq x hx
  have hcl:q<(f x).length:=by rw [h.wide];exact hq
  have hn:0<n:=by have:=h.len;omega
  cases base with
  | none=>have:=h.nil rfl;omega
  | some a =>
   have hb:(ea (some a) (o*s+q)).block=a.block:=by
    simp only [ea,Option.getD_some,Addr.add];split <;> rfl
   rw [List.getElem?_eq_getElem hcl] at h1 ⊢
   exact hi.cell_old h1 (by rw [hb];exact hfar a rfl hn)⟩
theorem RS.mono (h:RS w0 M f s base n c xs)(hi:Inv w0 M w H):RS w [] f s base n c xs:=⟨h.ro.monoM h.far hi,fun _ _ _=>by simp,h.cap⟩
theorem RO.block_lt (h:RO w f s base n xs)(hs:0<s)(hn:0<n){a:Addr}(ha:base=some a):a.block<w.heap.size:=by
 subst ha
 have h0:0<xs.length:=by rw [h.len];exact hn
 have h1:=h.cell 0 0 h0 hs xs[0] (List.getElem?_eq_getElem h0)
 have hcl:0<(f xs[0]).length:=by rw [h.wide];exact hs
 rw [List.getElem?_eq_getElem hcl] at h1
 simp only [Nat.zero_mul,Nat.add_zero,ea,Option.getD_some,Addr.add,if_true] at h1
 unfold World.cell? at h1
 split at h1
 ·rename_i he;exact (Array.getElem?_eq_some_iff.1 he).1
 ·cases h1
theorem RS.monoM (h:RS w0 M f s base n c xs)(hs:0<s)(hi:Inv w0 M w H)(hp:List.Perm H (Hm++R))(hM:Hm.filterMap (·.1)=M'):RS w M' f s base n c xs :=
 ⟨h.ro.monoM h.far hi,fun a ha hn hm=>by
  have hlt:=h.ro.block_lt hs hn ha
  subst hM
  obtain ⟨o,ho⟩:=Z3d hm
  rcases hi.low a.block o ((List.Perm.mem_iff hp).2 (List.mem_append_left _ ho)) with hl | hl
  ·omega
  ·exact h.far a ha hn hl,h.cap⟩
theorem Inv.rs (hi:Inv w0 M w H)(hf:∀ x,(f x).length=s){ob:Option Nat}{T':TypeId}{fr:Nat×Nat}{j:List Value}(hm:(ob,Obj.cells (arr f xs j).toArray T' fr)∈H)(hn:xs.length=n)(hc:n≤c)(h0:ob=none→c=0) :
    RS w [] f s (sb ob) n c xs:=⟨hi.roO hf hm hn (fun e=>by have:=h0 e;omega),fun _ _ _=>by simp,hc⟩
theorem Inv.rsM (hi:Inv w0 M w H)(hf:∀ x,(f x).length=s){ob:Option Nat}{T':TypeId}{fr:Nat×Nat}{j:List Value}(hp:List.Perm H (Hm++R))(hM:Hm.filterMap (·.1)=M')
    (hm:(ob,Obj.cells (arr f xs j).toArray T' fr)∈R)(hn:xs.length=n)(hc:n≤c)(h0:ob=none→c=0):RS w M' f s (sb ob) n c xs :=
  ⟨hi.roO hf ((List.Perm.mem_iff hp).2 (List.mem_append_right _ hm)) hn (fun e=>by have:=h0 e;omega),fun a ha _ hmM=>by
    cases ob with
    | none=>cases ha
    | some b =>
      simp only [sb,Option.map_some,Option.some.injEq] at ha
      subst ha
      subst hM
      have ha:=(hi.perm hp).apart
      rw [List.filterMap_append] at ha
      exact (List.nodup_append.1 ha).2.2 _ hmM _ (Z14 hm) rfl,hc⟩
theorem HB.mono {b:Nat}{cs:List Value}(h:HB w0 M b cs)(hi:Inv w0 M w H):HB w [] b cs:=⟨fun j v hj=>hi.cell_old (h.has j v hj) h.far,by simp⟩
theorem Inv.hb (hi:Inv w0 M w H){b:Nat}{cs:List Value}{T':TypeId}{fr:Nat×Nat}(hm:(some b,Obj.cells cs.toArray T' fr)∈H):HB w [] b cs:=⟨hi.has hm,by simp⟩
theorem Inv.hbM (hi:Inv w0 M w H){b:Nat}{cs:List Value}{T':TypeId}{fr:Nat×Nat}(hp:List.Perm H (Hm++R))(hM:Hm.filterMap (·.1)=M')(hm:(some b,Obj.cells cs.toArray T' fr)∈R):HB w M' b cs :=
 ⟨hi.has ((List.Perm.mem_iff hp).2 (List.mem_append_right _ hm)),fun hmM=>by
  subst hM
  have ha:=(hi.perm hp).apart
  rw [List.filterMap_append] at ha
  exact (List.nodup_append.1 ha).2.2 _ hmM _ (Z14 hm) rfl⟩
end
theorem Gm {ob:Option Nat}{n c:Nat}{i:Int}{α:Type}{xs:List α}(h0:ob=none→c=0)(hc:n≤c)(hn:xs.length=n)(g:inb i xs.length):∃ b,ob=some b:=by
 cases ob with
 | none=>have:=h0 rfl;obtain ⟨g1,g2⟩:=g;omega
 | some b=>exact ⟨b,rfl⟩
theorem Vx {b c:Nat}:(some b:Option Nat)=none→c=0:=fun e=>by cases e
theorem Vm (c s:Nat):([]:List Value).length=(c-c)*s:=by simp
theorem Z0u {α:Type}{xs ys:List α}{n m:Nat}(h:xs.length=n)(g:ys.length=m):(xs++ys).length=n+m:=by rw [List.length_append,h,g]
theorem Kx {i:Int}{n:Nat}(g:inb i n):i.toNat<n:=by obtain ⟨g1,g2⟩:=g;omega
section rules
variable {C : Cx} {ops : Array Oper} {Q : Exit → Act → World → Prop} {l : List Nat} {E : Env} {H R : Heap} {i d : Nat} {ty : TypeId} {Zo : String} {af : Array Edge} {g : Option (Nat × Bool)}
theorem Vq {α:Type}{t:TypeId}{at':Array TypeId}{x:Operand}{e:TypeId}{base:Option Addr}{n c:Nat}{xs:List α}(hn:xs.length=n)
    (q0_:ops[i]?=some ⟨some d,.call ⟨.builtin .len,#[x],at'⟩,ty,Zo,af,g⟩∧Ya ops E g=true∧Nat.ble (d+1) C.n=true∧at'[0]?=some t∧ev E x=some (.slice base n c))(ht:Wm C.P t=some e)(kk:TO C ops Q l ((d,.int .i64 (xs.length:Int))::E) H):TO C ops Q (i::l) E H:=have ⟨ho,hg,hd,hat,hx⟩:=q0_;
  TO.len ho hg hd hat hx ht (by rw [←hn];exact kk)
theorem Gq {α:Type}{f:α→List Value}{M:List Nat}{w:World}{xs:List α}{t e:TypeId}{x y:Operand}{base:Option Addr}{n c s:Nat}{k:IntKind}{p:Int}(hr:RS w M f s base n c xs)(hp:inb p xs.length)
    (q0_:ops[i]?=some ⟨some d,.indexAddr t x y,ty,Zo,af,g⟩∧Ya ops E g=true∧Nat.ble (d+1) C.n=true∧ev E x=some (.slice base n c)∧ev E y=some (.int k p))(ht:Wm C.P t=some e)(hs:Xc C.P e=some s)
    (kk:TO C ops Q l ((d,.pointer (some (ea base (p.toNat*s))))::E) H):TO C ops Q (i::l) E H:=have ⟨ho,hg,hd,hx,hy⟩:=q0_;
  Zev ho hg hd hx hy ht hs hr.ro.nil hp.1 (by have:=hp.2;rw [hr.len] at this;exact this) kk
theorem TO.ix0 {α:Type}{xs:List α}{t e:TypeId}{x y:Operand}{b n c s:Nat}{k:IntKind}{p:Int}(hn:xs.length=n)(hp:inb p xs.length)
    (ho:ops[i]?=some ⟨some d,.indexAddr t x y,ty,Zo,af,g⟩)(hg:Ya ops E g=true)(hd:Nat.ble (d+1) C.n=true)
    (hx:ev E x=some (.slice (some ⟨b,0,none⟩) n c))(hy:ev E y=some (.int k p))(ht:Wm C.P t=some e)(hs:Xc C.P e=some s)
    (kk:TO C ops Q l ((d,.pointer (some ⟨b,p.toNat*s,none⟩))::E) H):TO C ops Q (i::l) E H :=
  Zf5 ho hg hd hx hy ht hs hp.1 (by have:=hp.2;rw [hn] at this;exact this) kk
theorem Js {α:Type}{xs:List α}{t e:TypeId}{x y:Operand}{b n c:Nat}{k:IntKind}{p:Int}(hn:xs.length=n)(hp:inb p xs.length)
    (q0_:ops[i]?=some ⟨some d,.indexAddr t x y,ty,Zo,af,g⟩∧Ya ops E g=true∧Nat.ble (d+1) C.n=true∧ev E x=some (.slice (some ⟨b,0,none⟩) n c)∧ev E y=some (.int k p))(ht:Wm C.P t=some e)(hs:Xc C.P e=some 1)
    (kk:TO C ops Q l ((d,.pointer (some ⟨b,p.toNat,none⟩))::E) H):TO C ops Q (i::l) E H:=have ⟨ho,hg,hd,hx,hy⟩:=q0_;
  Zey ho hg hd hx hy ht hs hp.1 (by have:=hp.2;rw [hn] at this;exact this) kk
theorem Zkq {P:Program}{s:TypeId}{f o:Nat}{w:World}(h:Yp P s f=some o)(a:Addr):(Instr.fieldAt s (.pointer (some a)) f).run P w=.ok (.pointer (some (a.add o))) w:=by
 unfold Yp at h
 split at h
 ·
  rename_i fs hu
  cases hg:fs[f]? with
  | none=>simp [hg] at h
  | some g =>
   cases hi:P.info? g.type with
   | none=>simp [hg,hi] at h
   | some i =>
    simp only [hg,hi,Option.bind_some] at h
    by_cases hz:i.size=0
    ·simp [hz] at h
    ·
     simp [hz] at h
     subst h
     simp [Instr.fieldAt,run_underlying hu,hg,Instr.sureAddr,fieldPlace,sizeOf,typeInfo,hi,hz]
 ·cases h
theorem Z7m {s:TypeId}{x:Operand}{f o n:Nat}{base:Option Addr}(q0_:ops[i]?=some ⟨some d,.fieldAddr s x f,ty,Zo,af,g⟩∧Ya ops E g=true∧Nat.ble (d+1) C.n=true∧ev E x=some (.pointer (some (ea base n))))(hT:Yp C.P s f=some o)(kk:TO C ops Q l ((d,.pointer (some (ea base (n+o))))::E) H):TO C ops Q (i::l) E H:=have ⟨ho,hg,hd,hx⟩:=q0_;
  TO.val ho hg hd (by simp) (fun a w hf _=>by simp [execOp,hf.ev hx,Zkq hT,ea_add]) kk
theorem Zg6 {t:TypeId}{x:Operand}{base:Option Addr}{n c:Nat}{k:IntKind}{p:Int}{xs:List Int}(hr:RS C.w0 C.M (intC k) 1 base n c xs)(hp:inb p xs.length)(q0_:ops[i]?=some ⟨some d,.load t x,ty,Zo,af,g⟩∧Ya ops E g=true∧Nat.ble (d+1) C.n=true∧ev E x=some (.pointer (some (ea base (p.toNat*1)))))(hT:Wj C.P t=true)
    (kk:TO C ops Q l ((d,.int k (xs.getD p.toNat 0))::E) H):TO C ops Q (i::l) E H:=have ⟨ho,hg,hd,hx⟩:=q0_;
  TO.load ho hg hd hx hT (fun w hi=>by
    have:=(hr.ro.monoM hr.far hi).at 0 (o:=p.toNat) (c:=0) (Kx hp) (by omega)
    simpa using this) kk
theorem Z3c {α:Type}{f:α→List Value}{s:Nat}{t:TypeId}{x:Operand}{base:Option Addr}{n c:Nat}{p:Int}{xs:List α}{cs:List Value}(dflt:α)(hr:RS C.w0 C.M f s base n c xs)(hp:inb p xs.length)(q0_:ops[i]?=some ⟨some d,.load t x,ty,Zo,af,g⟩∧Ya ops E g=true∧Nat.ble (d+1) C.n=true∧ev E x=some (.pointer (some (ea base (p.toNat*s))))∧f (xs.getD p.toNat dflt)=cs)(hT:Va C.P t s=true)
    (kk:TO C ops Q l ((d,.agg cs.toArray)::E) H):TO C ops Q (i::l) E H:=have ⟨ho,hg,hd,hx,hcs⟩:=q0_;
  Z31 ho hg hd hx hT (by rw [←hcs];exact hr.ro.wide _) (fun w hi q v hq=>by
    subst hcs
    have hqs:q<s:=by rw [←hr.ro.wide (xs.getD p.toNat dflt)];exact (List.getElem?_eq_some_iff.1 hq).1
    have:=(hr.ro.monoM hr.far hi).at dflt (o:=p.toNat) (c:=q) (Kx hp) hqs
    rw [ea_add]
    exact this.trans hq) kk
theorem Z0n {t T':TypeId}{x:Operand}{b:Nat}{k:IntKind}{p:Int}{xs:List Int}{j:List Value}{fr:Nat×Nat}(hp:inb p xs.length)(q0_:ops[i]?=some ⟨some d,.load t x,ty,Zo,af,g⟩∧Ya ops E g=true∧Nat.ble (d+1) C.n=true∧ev E x=some (.pointer (some ⟨b,p.toNat,none⟩)))(hT:Wj C.P t=true)(hm:(some b,Obj.cells (arr (intC k) xs j).toArray T' fr)∈H)
    (kk:TO C ops Q l ((d,.int k (xs.getD p.toNat 0))::E) H):TO C ops Q (i::l) E H:=have ⟨ho,hg,hd,hx⟩:=q0_;TO.ldI ho hg hd hx hT hm (Kx hp) kk
theorem TO.ldSO {α:Type}{f:α→List Value}{s:Nat}{t T':TypeId}{x:Operand}{b:Nat}{p:Int}{xs:List α}{j:List Value}{fr:Nat×Nat}{cs:List Value}(dflt:α)(hf:∀ x,(f x).length=s)(hp:inb p xs.length)(hcs:f (xs.getD p.toNat dflt)=cs)
    (ho:ops[i]?=some ⟨some d,.load t x,ty,Zo,af,g⟩)(hg:Ya ops E g=true)(hd:Nat.ble (d+1) C.n=true)
    (hx:ev E x=some (.pointer (some ⟨b,p.toNat*s,none⟩)))(hT:Va C.P t s=true)(hm:(some b,Obj.cells (arr f xs j).toArray T' fr)∈H)
    (kk:TO C ops Q l ((d,.agg cs.toArray)::E) H):TO C ops Q (i::l) E H:=TO.ldS dflt hf ho hg hd hx hT hm (Kx hp) (by rw [hcs];exact kk)
theorem TO.ldFO {α:Type}{f:α→List Value}{s:Nat}{t T':TypeId}{x:Operand}{b q:Nat}{p:Int}{xs:List α}{j:List Value}{fr:Nat×Nat}{v:Value}(dflt:α)(hf:∀ x,(f x).length=s)(hp:inb p xs.length)(hv:(f (xs.getD p.toNat dflt))[q]?=some v)
    (ho:ops[i]?=some ⟨some d,.load t x,ty,Zo,af,g⟩)(hg:Ya ops E g=true)(hd:Nat.ble (d+1) C.n=true)
    (hx:ev E x=some (.pointer (some ⟨b,p.toNat*s+q,none⟩)))(hT:Wj C.P t=true)(hm:(some b,Obj.cells (arr f xs j).toArray T' fr)∈H)
    (kk:TO C ops Q l ((d,v)::E) H):TO C ops Q (i::l) E H :=
  Zr ⟨ho,hg,hd,hx⟩ hT hm (by
    have hqs:q<s:=by rw [←hf (xs.getD p.toNat dflt)];exact (List.getElem?_eq_some_iff.1 hv).1
    have:=Z1l hf dflt xs j p.toNat q (Kx hp) hqs
    rw [List.getElem?_toArray,this];exact hv) kk
theorem Z07 {t T':TypeId}{x y:Operand}{b:Nat}{k:IntKind}{p v:Int}{xs:List Int}{j:List Value}(hp:inb p xs.length)(q0_:ops[i]?=some ⟨none,.store t x y,ty,Zo,af,g⟩∧Ya ops E g=true∧ev E x=some (.pointer (some ⟨b,p.toNat,none⟩))∧ev E y=some (.int k v))(ht:Take (some b,.cells (arr (intC k) xs j).toArray T' (0,0)) H R)(hs:Xc C.P t=some 1)
    (kk:TO C ops Q l E ((some b,.cells (arr (intC k) (xs.set p.toNat v) j).toArray T' (0,0))::R)):TO C ops Q (i::l) E H:=have ⟨ho,hg,hx,hy⟩:=q0_;TO.stI ho hg hx hy ht hs (Kx hp) kk
theorem TO.stBO {t T':TypeId}{x y:Operand}{b:Nat}{p:Int}{v:Bool}{xs:List Bool}{j:List Value}(hp:inb p xs.length)(ho:ops[i]?=some ⟨none,.store t x y,ty,Zo,af,g⟩)(hg:Ya ops E g=true)
    (hx:ev E x=some (.pointer (some ⟨b,p.toNat,none⟩)))(hy:ev E y=some (.bool v))(ht:Take (some b,.cells (arr boolC xs j).toArray T' (0,0)) H R)(hs:Xc C.P t=some 1)
    (kk:TO C ops Q l E ((some b,.cells (arr boolC (xs.set p.toNat v) j).toArray T' (0,0))::R)):TO C ops Q (i::l) E H:=TO.stB ho hg hx hy ht hs (Kx hp) kk
where hf_set_len {α : Type} {f : α → List Value} {s : Nat} {x : α} {q : Nat} {v : Value} (hf : ∀ x, (f x).length = s) : ((f x).set q v).length = s := by rw [List.length_set, hf]
theorem Xl {t t2:TypeId}{x y:Operand}{p q:Int}(h:i64ok (p+q))(q0_:ops[i]?=some ⟨some d,.binOp .add t x y t2,ty,Zo,af,g⟩∧Ya ops E g=true∧Nat.ble (d+1) C.n=true∧ev E x=some (.int .i64 p)∧ev E y=some (.int .i64 q))
    (kk:TO C ops Q l ((d,.int .i64 (p+q))::E) H):TO C ops Q (i::l) E H:=have ⟨ho,hg,hd,hx,hy⟩:=q0_;TO.add ho hg hd hx hy h.1 h.2 kk
theorem Z0j {t t2:TypeId}{x y:Operand}{p q:Int}(h:i64ok (p-q))(q0_:ops[i]?=some ⟨some d,.binOp .sub t x y t2,ty,Zo,af,g⟩∧Ya ops E g=true∧Nat.ble (d+1) C.n=true∧ev E x=some (.int .i64 p)∧ev E y=some (.int .i64 q))
    (kk:TO C ops Q l ((d,.int .i64 (p-q))::E) H):TO C ops Q (i::l) E H:=have ⟨ho,hg,hd,hx,hy⟩:=q0_;TO.sub ho hg hd hx hy h.1 h.2 kk
theorem Zgg {t t2:TypeId}{x y:Operand}{p q:Int}(h:i64ok (p*q))(q0_:ops[i]?=some ⟨some d,.binOp .mul t x y t2,ty,Zo,af,g⟩∧Ya ops E g=true∧Nat.ble (d+1) C.n=true∧ev E x=some (.int .i64 p)∧ev E y=some (.int .i64 q))
    (kk:TO C ops Q l ((d,.int .i64 (p*q))::E) H):TO C ops Q (i::l) E H:=have ⟨ho,hg,hd,hx,hy⟩:=q0_;TO.mul ho hg hd hx hy h.1 h.2 kk
theorem TO.negG {t:TypeId}{x:Operand}{p:Int}(h:i64ok (-p))(q0_:ops[i]?=some ⟨some d,.unOp .neg t x,ty,Zo,af,g⟩∧Ya ops E g=true∧Nat.ble (d+1) C.n=true∧ev E x=some (.int .i64 p))(kk:TO C ops Q l ((d,.int .i64 (-p))::E) H):TO C ops Q (i::l) E H:=have ⟨ho,hg,hd,hx⟩:=q0_;TO.neg ho hg hd hx (by rw [Nf h.1 h.2];exact kk)
theorem Z3s {t e:TypeId}{x y:Operand}{k k' q:IntKind}{p:Int}{by':Nat}(h:mkok p)(q0_:ops[i]?=some ⟨some d,.makeSlice t x y,ty,Zo,af,g⟩∧Ya ops E g=true∧Nat.ble (d+1) C.n=true∧ev E x=some (.int k p)∧ev E y=some (.int k' p))(ht:Wm C.P t=some e)(hs:Xc C.P e=some 1)(hz:Ws C.P e=some (.int q 0))(hb:Kt C.P e=some by')(hby:Nat.ble by' 8=true)
    (kk:∀ b,TO C ops Q l ((d,.slice (some ⟨b,0,none⟩) p.toNat p.toNat)::E) ((some b,.cells (arr (intC q) (List.replicate p.toNat 0) []).toArray e (0,0))::H)):TO C ops Q (i::l) E H:=have ⟨ho,hg,hd,hx,hy⟩:=q0_;
  TO.makeI ho hg hd hx hy ht hs hz hb h.1 (by
    have:=Nat.le_of_ble_eq_true hby
    have h2:p.toNat≤4294967296:=by have:=h.2;omega
    have:=Nat.mul_le_mul this h2;omega) (by have:=h.2;omega) kk
theorem TO.mkB {t e:TypeId}{x y:Operand}{k k':IntKind}{p:Int}{by':Nat}(h:mkok p)(q0_:ops[i]?=some ⟨some d,.makeSlice t x y,ty,Zo,af,g⟩∧Ya ops E g=true∧Nat.ble (d+1) C.n=true∧ev E x=some (.int k p)∧ev E y=some (.int k' p))(ht:Wm C.P t=some e)(hs:Xc C.P e=some 1)(hz:Ws C.P e=some (.bool false))(hb:Kt C.P e=some by')(hby:Nat.ble by' 8=true)
    (kk:∀ b,TO C ops Q l ((d,.slice (some ⟨b,0,none⟩) p.toNat p.toNat)::E) ((some b,.cells (arr boolC (List.replicate p.toNat false) []).toArray e (0,0))::H)):TO C ops Q (i::l) E H:=have ⟨ho,hg,hd,hx,hy⟩:=q0_;
  TO.makeB ho hg hd hx hy ht hs hz hb h.1 (by
    have:=Nat.le_of_ble_eq_true hby
    have h2:p.toNat≤4294967296:=by have:=h.2;omega
    have:=Nat.mul_le_mul this h2;omega) (by have:=h.2;omega) kk
theorem Z06 {α:Type}{f:α→List Value}{s by':Nat}{z:Value}{t e:TypeId}{x y:Operand}{ob:Option Nat}{base:Option Addr}{n c m cy:Nat}{xs ys:List α}{j:List Value}
    (hf:∀ x,(f x).length=s)(h1:∀ x,(f x).all (·.oneCell')=true)(hT:ElemT C.P t e s by' z)(hk:apok (xs++ys).length by')
    (q0_:ops[i]?=some ⟨some d,.call ⟨.builtin .append,#[x,y],#[t,t]⟩,ty,Zo,af,g⟩∧Ya ops E g=true∧Nat.ble (d+1) C.n=true∧ev E x=some (.slice (sb ob) n c)∧ev E y=some (.slice base m cy))
    (ht:Take (ob,.cells (arr f xs j).toArray e (0,0)) H R)(hn:xs.length=n)(hnc:n≤c)(hj:j.length=(c-n)*s)(h0:ob=none→c=0)
    (hsrc:∀ w,Inv C.w0 C.M w H→RS w [] f s base m cy ys)
    (kk:∀ (ob':Option Nat) (c':Nat) (j':List Value),n+m≤c'→j'.length=(c'-(n+m))*s→(ob'=none→c'=0)→TO C ops Q l ((d,.slice (sb ob') (n+m) c')::E) ((ob',.cells (arr f (xs++ys) j').toArray e (0,0))::R)) :
    TO C ops Q (i::l) E H:=by
  obtain ⟨ho,hg,hd,hx,hy⟩:=q0_
  by_cases hm:ys.length=m
  · have hl : (xs ++ ys).length = n + m := Z0u hn hm
    rw [hl] at hk
    exact TO.append hf h1 hT ho hg hd hx hy ht hn hnc hj h0 (fun w hi=>(hsrc w hi).ro) hk.1 hk.2 kk
  · intro a w _ hi
    exact absurd (hsrc w hi).len hm
theorem Yd {f:FuncId}{xs:Array Operand}{at':Array TypeId}{vs:List Value}{Post:Value→Heap→Prop}(hF:Yc C.P f=true)
    (q0_:ops[i]?=some ⟨some d,.call ⟨.value (.func f),xs,at'⟩,ty,Zo,af,g⟩∧Ya ops E g=true∧Nat.ble (d+1) C.n=true∧Ku E xs.toList=some vs)
    (hc:∀ w,Inv C.w0 C.M w H→Fnc C.P f vs.toArray w [] Post)
    (kk:∀ v N,Post v N→TO C ops Q l ((d,v)::E) (N++H)):TO C ops Q (i::l) E H:=have ⟨ho,hg,hd,hx⟩:=q0_;TO.call ho hg hd hF hx hc kk
end rules
end Go.Acq
namespace Go.Acq
open Go Go.RowKit
section rules
variable {C : Cx} {ops : Array Oper} {Q : Exit → Act → World → Prop} {l : List Nat} {E : Env} {H R : Heap} {i d : Nat} {ty : TypeId} {Zo : String} {af : Array Edge} {g : Option (Nat × Bool)}
theorem Wz {t:TypeId}{x:Operand}{b o:Nat}{cs:List Value}{v:Value}(hc:HB C.w0 C.M b cs)(q0_:ops[i]?=some ⟨some d,.load t x,ty,Zo,af,g⟩∧Ya ops E g=true∧Nat.ble (d+1) C.n=true∧ev E x=some (.pointer (some ⟨b,o,none⟩))∧cs[o]?=some v)(hT:Wj C.P t=true)
    (kk:TO C ops Q l ((d,v)::E) H):TO C ops Q (i::l) E H:=have ⟨ho,hg,hd,hx,hv⟩:=q0_;TO.load ho hg hd hx hT (fun w hi=>hi.cell_old (hc.has o v hv) hc.far) kk
theorem Zhi {t:TypeId}{x:Operand}{b k:Nat}{cs:List Value}(hc:HB C.w0 C.M b cs)(q0_:ops[i]?=some ⟨some d,.load t x,ty,Zo,af,g⟩∧Ya ops E g=true∧Nat.ble (d+1) C.n=true∧ev E x=some (.pointer (some ⟨b,0,none⟩))∧cs.length=k)(hT:Va C.P t k=true)
    (kk:TO C ops Q l ((d,.agg cs.toArray)::E) H):TO C ops Q (i::l) E H:=have ⟨ho,hg,hd,hx,hk⟩:=q0_;
  Z31 ho hg hd hx hT hk (fun w hi j v hv=>by rw [Addr.add_mid,Nat.zero_add];exact hi.cell_old (hc.has j v hv) hc.far) kk
theorem Ys {f:FuncId}{xs:Array Operand}{at':Array TypeId}{vs:List Value}{M:List Nat}{Hm:Heap}{Post:Value→Heap→Prop}(hF:Yc C.P f=true)
    (q0_:ops[i]?=some ⟨some d,.call ⟨.value (.func f),xs,at'⟩,ty,Zo,af,g⟩∧Ya ops E g=true∧Nat.ble (d+1) C.n=true∧Ku E xs.toList=some vs)(hH:List.Perm H (Hm++R))(hM:Hm.filterMap (·.1)=M)
    (hc:∀ w,Inv C.w0 C.M w H→Fnc C.P f vs.toArray w M Post)
    (kk:∀ v N,Post v N→TO C ops Q l ((d,v)::E) (N++R)):TO C ops Q (i::l) E H:=have ⟨ho,hg,hd,hx⟩:=q0_;
  Zan (Hm:=Hm) (R:=R) ho hg rfl (by simp) hd (fun a w hf hi=>by
    have e1:xs.map a.eval=vs.toArray:=by apply Array.ext';simpa using Ln hf hx
    simp [execOp,resolve,Deferred.ofValue,invoke,Act.eval,e1,Z3o hF]) hH (fun m h=>by rw [hM];exact h) hc kk
theorem Jt {f:FuncId}{x:Operand}{xs:Array Operand}{at':Array TypeId}{vs:List Value}{fs cs:Array Value}{Post:Value→Heap→Prop}(hF:Yc C.P f=true)
    (q0_:ops[i]?=some ⟨some d,.call ⟨.value x,xs,at'⟩,ty,Zo,af,g⟩∧Ya ops E g=true∧Nat.ble (d+1) C.n=true∧ev E x=some (.func (.func f) fs cs)∧Ku E xs.toList=some vs)
    (hc:∀ w,Inv C.w0 C.M w H→Fnc C.P f (fs++vs.toArray++cs) w [] Post)
    (kk:∀ v N,Post v N→TO C ops Q l ((d,v)::E) (N++H)):TO C ops Q (i::l) E H:=have ⟨ho,hg,hd,hfv,hx⟩:=q0_;TO.callV ho hg hd hF hfv hx hc kk
theorem Xu {f:FuncId}{x:Operand}{xs:Array Operand}{at':Array TypeId}{vs:List Value}{fs cs:Array Value}{M:List Nat}{Hm:Heap}{Post:Value→Heap→Prop}(hF:Yc C.P f=true)
    (q0_:ops[i]?=some ⟨some d,.call ⟨.value x,xs,at'⟩,ty,Zo,af,g⟩∧Ya ops E g=true∧Nat.ble (d+1) C.n=true∧ev E x=some (.func (.func f) fs cs)∧Ku E xs.toList=some vs)(hH:List.Perm H (Hm++R))(hM:Hm.filterMap (·.1)=M)
    (hc:∀ w,Inv C.w0 C.M w H→Fnc C.P f (fs++vs.toArray++cs) w M Post)
    (kk:∀ v N,Post v N→TO C ops Q l ((d,v)::E) (N++R)):TO C ops Q (i::l) E H:=have ⟨ho,hg,hd,hfv,hx⟩:=q0_;Zi1 ho hg hd hF hfv hx hH (fun m h=>by rw [hM];exact h) hc kk
end rules
section ends
variable {C : Cx} {E : Env} {H N : Heap}
theorem Yv {fn:Func}{w0:World}{M:List Nat}{Post:Value→Heap→Prop}(q0_:C.w0=w0∧C.M=M∧C.D=[]∧fn.results.toList=[])(hN:Pick N H)(hP:Post (.tuple #[]) N) :
    X C (bodyPost C.P fn (FncR w0 M Post)) .ret E H:=have ⟨hw,hMM,hD,hfn⟩:=q0_;
  X.ret (vs:=[]) hw hMM hD hfn (fun j r' u h1 h2=>by simp at h1) Yt hN hP
theorem X.ret3 {fn:Func}{r r' r'':ResultVar}{v v' v'':Value}{w0:World}{M:List Nat}{Post:Value→Heap→Prop}(q0_:C.w0=w0∧C.M=M∧C.D=[]∧fn.results.toList=[r,r',r''])(hr:Res C E H r v)(hr':Res C E H r' v')(hr'':Res C E H r'' v'')(hN:Pick N H)(hP:Post (.tuple #[v,v',v'']) N) :
    X C (bodyPost C.P fn (FncR w0 M Post)) .ret E H:=have ⟨hw,hMM,hD,hfn⟩:=q0_;
  X.ret (vs:=[v,v',v'']) hw hMM hD hfn (fun j q u h1 h2=>by
    match j with
    | 0=>simp at h1 h2;subst h1;subst h2;exact hr
    | 1=>simp at h1 h2;subst h1;subst h2;exact hr'
    | 2=>simp at h1 h2;subst h1;subst h2;exact hr''
    | j+3=>simp at h1) Yt hN hP
end ends
end Go.Acq
namespace Go.Acq
open Go Go.RowKit
section
variable {C : Cx} {ops : Array Oper} {Q : Exit → Act → World → Prop} {l : List Nat} {E : Env} {H : Heap} {c : Code}
theorem TO.addNone (o:Obj)(k:TO C ops Q l E ((Option.none,o)::H)):TO C ops Q l E H:=fun a w hf hi=>k a w hf (hi.addNone o)
end
end Go.Acq
namespace Go.Acq
open Go Go.RowKit
section control
variable {C : Cx} {Q : Exit → Act → World → Prop} {E : Env} {H : Heap} {c : Code}
def RAt (C:Cx)(c:Code)(Q:Exit→Act→World→Prop)(a:Act)(w:World):Prop :=
  ∀ (b:Frame) (k:List Item) (cs:List Frame),b.roundOf=(FW C.ρ).round→(FW C.ρ).fn b.fn→(FW C.ρ).room (cs.length+1+0) →
    ∃ e a' w',Q e a' w'∧ArrivesIn (Machine.fenced C.P (FW C.ρ)) C.P (lone (b.atR a (.code c::.inLoop c::k)) cs w) b k cs e a' w'
def RT (C:Cx)(c:Code)(Q:Exit→Act→World→Prop)(E:Env)(H:Heap):Prop:=∀ a w,Fits C.n C.D E a→Inv C.w0 C.M w H→RAt C c Q a w
theorem T.loopU (h:RT C c Q E H):T C (.loop c) Q E H:=by
 intro a w hf hi b k cs hro hb hr
 obtain ⟨e,a',w',hq,harr⟩:=h a w hf hi b k cs hro hb hr
 exact ⟨e,a',w',hq,.of_steps (.one (fenced_calm hb hr rfl) stepR_loop) harr⟩
theorem RT.round (h:T C c (Exit.then (RAt C c Q) Q) E H):RT C c Q E H:=by
 intro a w hf hi b k cs hro hb hr
 obtain ⟨e,a₁,w₁,hq,harr⟩:=h a w hf hi b (.inLoop c::k) cs hro hb hr
 cases e with
 | normal =>
  obtain ⟨e₂,a₂,w₂,hq₂,harr₂⟩:=hq b k cs hro hb hr
  exact ⟨e₂,a₂,w₂,hq₂,.of_steps (StepsIn.trans harr (.one (fenced_calm hb hr rfl) stepR_inLoop)) harr₂⟩
 | exit id=>exact ⟨_,a₁,w₁,hq,.pass (x:=.inLoop c) rfl (fun _ _=>.inl (by simp)) harr⟩
 | goto l=>exact ⟨_,a₁,w₁,hq,.pass (x:=.inLoop c) rfl (fun _ _=>.inl (by simp)) harr⟩
 | ret=>exact ⟨_,a₁,w₁,hq,.pass (x:=.inLoop c) rfl (fun _ _=>.inl (by simp)) harr⟩
 | panic ch=>exact ⟨_,a₁,w₁,hq,.pass (x:=.inLoop c) rfl (fun _ _=>.inl (by simp)) harr⟩
 | outgrown=>exact ⟨_,a₁,w₁,hq,.pass (x:=.inLoop c) rfl (fun _ _=>.inl (by simp)) harr⟩
theorem X.round (h:RT C c Q E H):X C (Exit.then (RAt C c Q) Q) .normal E H:=h
end control
section
variable {α : Type} {w : World} {M : List Nat} {f : α → List Value} {s n c : Nat} {base : Option Addr} {xs : List α}
theorem RS.take (h:RS w M f s base n c xs){p:Int}(hp:0≤p∧p≤(xs.length:Int)):RS w M f s base p.toNat c (xs.take p.toNat):=by
 have hl:=h.len
 have hm:p.toNat≤n:=by omega
 exact ⟨h.ro.take hm,fun a ha h0=>h.far a ha (by omega),Nat.le_trans hm h.cap⟩
end
section rules
variable {C : Cx} {ops : Array Oper} {Q : Exit → Act → World → Prop} {l : List Nat} {E : Env} {H R : Heap} {i d : Nat} {ty : TypeId} {Zo : String} {af : Array Edge} {g : Option (Nat × Bool)}
theorem TO.slH {α:Type}{xs:List α}{t e:TypeId}{x y:Operand}{base:Option Addr}{n c s:Nat}{k:IntKind}{p:Int}(hn:xs.length=n)(hc:n≤c)(hp:0≤p∧p≤(xs.length:Int))
    (q0_:ops[i]?=some ⟨some d,.slice t x none (some y) none,ty,Zo,af,g⟩∧Ya ops E g=true∧Nat.ble (d+1) C.n=true∧ev E x=some (.slice base n c)∧ev E y=some (.int k p))(ht:Wm C.P t=some e)(hs:Xc C.P e=some s)
    (kk:TO C ops Q l ((d,.slice base p.toNat c)::E) H):TO C ops Q (i::l) E H:=have ⟨ho,hg,hd,hx,hy⟩:=q0_;
  Zkw ho hg hd hx hy ht hs hp.1 (by have:=hp.2;omega) kk
theorem Z2u {t e:TypeId}{x y:Operand}{cs vs:List Value}{k:IntKind}{p:Int}{n s:Nat}(q0_:ops[i]?=some ⟨some d,.index t x y,ty,Zo,af,g⟩∧Ya ops E g=true∧Nat.ble (d+1) C.n=true∧ev E x=some (.agg cs.toArray)∧ev E y=some (.int k p))(hT:C.P.underlying t=some (.array n e))(hs:Va C.P e s=true)(h0:0≤p∧p<(n:Int))(hv:(cs.drop (p.toNat*s)).take s=vs)
    (kk:TO C ops Q l ((d,.agg vs.toArray)::E) H):TO C ops Q (i::l) E H:=have ⟨ho,hg,hd,hx,hy⟩:=q0_;Zpb ho hg hd hx hy hT hs h0.1 h0.2 hv kk
theorem Zku {α:Type}{f:α→List Value}{s:Nat}(z:α)(hf:(f z).length=s)(hs:0<s)(n:Nat):madeCells (f z).toArray (n*s)=(arr f (List.replicate n z) []).toArray:=by
 unfold madeCells
 apply Array.ext'
 simp only [Array.toList_map,Array.toList_range,List.size_toArray,hf,arr,List.append_nil]
 apply List.ext_getElem?
 intro i
 rw [List.getElem?_map]
 by_cases hi:i<n*s
 ·
  rw [List.getElem?_range hi]
  have h1:i / s<(List.replicate n z).length:=by rw [List.length_replicate];exact Nat.div_lt_of_lt_mul (by rw [Nat.mul_comm];exact hi)
  have h2:i%s<s:=Nat.mod_lt _ hs
  have hq:∀ (xs:List α) (o c:Nat),(∀ x,x∈xs→(f x).length=s)→o<xs.length→c<s→(xs.flatMap f)[o*s+c]?=(f (xs.getD o z))[c]?:=by
   intro xs
   induction xs with
   | nil=>intro o c _ h;simp at h
   | cons x xs ih =>
    intro o c hl h hc
    have hx:=hl x (.head _)
    cases o with
    | zero=>rw [List.flatMap_cons,Nat.zero_mul,Nat.zero_add,List.getElem?_append_left (by rw [hx];exact hc)];rfl
    | succ o =>
     rw [List.flatMap_cons,List.getElem?_append_right (by rw [hx,Nat.add_mul];omega),hx]
     have:(o+1)*s+c-s=o*s+c:=by rw [Nat.add_mul];omega
     rw [this,ih o c (fun y hy=>hl y (.tail _ hy)) (by simpa using h) hc];rfl
  have h3:=hq (List.replicate n z) (i / s) (i%s) (fun x hx=>by rw [List.eq_of_mem_replicate hx];exact hf) h1 h2
  have h4:i / s*s+i%s=i:=by rw [Nat.mul_comm];exact Nat.div_add_mod i s
  rw [h4] at h3
  rw [h3]
  have h5:(List.replicate n z).getD (i / s) z=z:=by rw [List.getD_eq_getElem?_getD,List.getElem?_replicate];split <;> simp
  rw [h5]
  have h6:i%s<(f z).length:=by rw [hf];exact h2
  simp [h6]
 ·
  rw [List.getElem?_eq_none (by simp;omega),List.getElem?_eq_none]
  ·rfl
  ·
   have:((List.replicate n z).flatMap f).length=n*s:=by
    clear hi
    induction n with
    | zero=>simp
    | succ n ih=>rw [List.replicate_succ,List.flatMap_cons,List.length_append,ih,hf,Nat.add_mul];omega
   omega
theorem TO.mkS {α:Type}{f:α→List Value}{t e:TypeId}{x y:Operand}{k k':IntKind}{p:Int}{z:Value}{zc:α}{by' s:Nat}(h:mkok p)(q0_:ops[i]?=some ⟨some d,.makeSlice t x y,ty,Zo,af,g⟩∧Ya ops E g=true∧Nat.ble (d+1) C.n=true∧ev E x=some (.int k p)∧ev E y=some (.int k' p)∧(f zc).length=s∧Nat.ble 1 s=true∧z.cells=(f zc).toArray)(ht:Wm C.P t=some e)(hs:Xc C.P e=some s)(hz:Ws C.P e=some z)(hb:Kt C.P e=some by')(hby:Nat.ble by' 1024=true)
    (kk:∀ b,TO C ops Q l ((d,.slice (some ⟨b,0,none⟩) p.toNat p.toNat)::E) ((some b,.cells (arr f (List.replicate p.toNat zc) []).toArray e (0,0))::H)):TO C ops Q (i::l) E H:=by
  obtain ⟨ho,hg,hd,hx,hy,hf,hs0,hzc⟩:=q0_
  obtain ⟨ti,hti,hsz⟩:=Z5y hs
  have hz':ti.zero=some z:=by simpa [Ws,hti] using hz
  have hb':ti.bytes=by':=by simpa [Kt,hti] using hb
  have hby':=Nat.le_of_ble_eq_true hby
  have h0:=h.1
  have h1:=h.2
  refine Z32 (fun b=>.slice (some ⟨b,0,none⟩) p.toNat p.toNat) ho hg hd (by simp) (fun a w hfit hi=>?_) kk
  have hr:=run_make (P:=C.P) w t e ti z (Gj ht) hti hz' k k' p p h0 (Int.le_refl _) (by
    rw [hb']
    have h2:(by':Int)*p≤1024*4294967296:=Int.mul_le_mul (by omega) h1 h0 (by omega)
    omega) (by omega)
  rw [hsz,hzc,Zku zc hf (Nat.le_of_ble_eq_true hs0)] at hr
  simp [execOp,hfit.ev hx,hfit.ev hy,hr]
theorem Z1d {op:BinOp}{t t2:TypeId}{x y:Operand}{k:IntKind}{p q:Int}{c:Prop}{hc:Decidable c}{b:Bool}
    (q0_:ops[i]?=some ⟨some d,.binOp op t x y t2,ty,Zo,af,g⟩∧Ya ops E g=true∧Nat.ble (d+1) C.n=true∧ev E x=some (.int k p)∧ev E y=some (.int k q)∧Lb op k p q=some (.bool (@decide c hc)))(h:@decide c hc=b)(kk:TO C ops Q l ((d,.bool b)::E) H):TO C ops Q (i::l) E H:=have ⟨ho,hg,hd,hx,hy,hv⟩:=q0_;
  Ye ⟨ho,hg,hd,hx,hy,hv⟩ (by rw [h];exact kk)
theorem Z3e {t t2:TypeId}{x y:Operand}{p q r:Int}(h:p+q=r∧i64ok r)
    (q0_:ops[i]?=some ⟨some d,.binOp .add t x y t2,ty,Zo,af,g⟩∧Ya ops E g=true∧Nat.ble (d+1) C.n=true∧ev E x=some (.int .i64 p)∧ev E y=some (.int .i64 q))
    (kk:TO C ops Q l ((d,.int .i64 r)::E) H):TO C ops Q (i::l) E H:=have ⟨ho,hg,hd,hx,hy⟩:=q0_;Xl (by rw [h.1];exact h.2) ⟨ho,hg,hd,hx,hy⟩ (by rw [h.1];exact kk)
end rules
end Go.Acq
namespace Go.Acq
open Go Go.RowKit
end Go.Acq
namespace Go.Acq
open Go Go.RowKit
section rules
variable {C : Cx} {ops : Array Oper} {Q : Exit → Act → World → Prop} {l : List Nat} {E : Env} {H R : Heap} {i d : Nat} {ty : TypeId} {Zo : String} {af : Array Edge} {g : Option (Nat × Bool)}
end rules
end Go.Acq
namespace Go.Acq
open Go Go.RowKit
theorem Gr (b k:Nat):ea (some ⟨b,0,none⟩) k=⟨b,k,none⟩:=by simp [ea,Addr.add_mid]
section rules
variable {C : Cx} {ops : Array Oper} {Q : Exit → Act → World → Prop} {l : List Nat} {E : Env} {H R : Heap} {i d : Nat} {ty : TypeId} {Zo : String} {af : Array Edge} {g : Option (Nat × Bool)}
theorem Un {α:Type}{xs:List α}{t e:TypeId}{x y:Operand}{ob:Option Nat}{n c s:Nat}{k:IntKind}{p:Int}(hz:ob=none→c=0)(hc:n≤c)(hn:xs.length=n)(hp:inb p xs.length)
    (q0_:ops[i]?=some ⟨some d,.indexAddr t x y,ty,Zo,af,g⟩∧Ya ops E g=true∧Nat.ble (d+1) C.n=true∧ev E x=some (.slice (sb ob) n c)∧ev E y=some (.int k p))(ht:Wm C.P t=some e)(hs:Xc C.P e=some s)
    (kk:TO C ops Q l ((d,.pointer (some (ea (sb ob) (p.toNat*s))))::E) H):TO C ops Q (i::l) E H:=by
  obtain ⟨ho,hg,hd,hx,hy⟩:=q0_
  obtain ⟨b,rfl⟩:=Gm hz hc hn hp
  exact TO.ix0 hn hp ho hg hd hx hy ht hs (by rw [←Gr];exact kk)
theorem Lr {t T':TypeId}{x:Operand}{ob:Option Nat}{n c:Nat}{k:IntKind}{p:Int}{xs:List Int}{j:List Value}{fr:Nat×Nat}(hz:ob=none→c=0)(hc:n≤c)(hn:xs.length=n)(hp:inb p xs.length)(q0_:ops[i]?=some ⟨some d,.load t x,ty,Zo,af,g⟩∧Ya ops E g=true∧Nat.ble (d+1) C.n=true∧ev E x=some (.pointer (some (ea (sb ob) (p.toNat*1)))))(hT:Wj C.P t=true)(hm:(ob,Obj.cells (arr (intC k) xs j).toArray T' fr)∈H)
    (kk:TO C ops Q l ((d,.int k (xs.getD p.toNat 0))::E) H):TO C ops Q (i::l) E H:=by
  obtain ⟨ho,hg,hd,hx⟩:=q0_
  obtain ⟨b,rfl⟩:=Gm hz hc hn hp
  exact Z0n hp ⟨ho,hg,hd,(by rw [←Gr,←Nat.mul_one p.toNat];exact hx)⟩ hT hm kk
theorem Z1x {α:Type}{f:α→List Value}{s:Nat}{t T':TypeId}{x:Operand}{ob:Option Nat}{n c:Nat}{p:Int}{xs:List α}{j:List Value}{fr:Nat×Nat}{cs:List Value}(dflt:α)(hf:∀ x,(f x).length=s)(hz:ob=none→c=0)(hc:n≤c)(hn:xs.length=n)(hp:inb p xs.length)(q0_:ops[i]?=some ⟨some d,.load t x,ty,Zo,af,g⟩∧Ya ops E g=true∧Nat.ble (d+1) C.n=true∧ev E x=some (.pointer (some (ea (sb ob) (p.toNat*s))))∧f (xs.getD p.toNat dflt)=cs)(hT:Va C.P t s=true)(hm:(ob,Obj.cells (arr f xs j).toArray T' fr)∈H)
    (kk:TO C ops Q l ((d,.agg cs.toArray)::E) H):TO C ops Q (i::l) E H:=by
  obtain ⟨ho,hg,hd,hx,hcs⟩:=q0_
  obtain ⟨b,rfl⟩:=Gm hz hc hn hp
  exact TO.ldSO dflt hf hp hcs ho hg hd (by rw [←Gr];exact hx) hT hm kk
theorem Z8s {t T':TypeId}{x y:Operand}{ob:Option Nat}{n c:Nat}{k:IntKind}{p v:Int}{xs:List Int}{j:List Value}(hz:ob=none→c=0)(hc:n≤c)(hn:xs.length=n)(hp:inb p xs.length)(q0_:ops[i]?=some ⟨none,.store t x y,ty,Zo,af,g⟩∧Ya ops E g=true∧ev E x=some (.pointer (some (ea (sb ob) (p.toNat*1))))∧ev E y=some (.int k v))(ht:Take (ob,.cells (arr (intC k) xs j).toArray T' (0,0)) H R)(hs:Xc C.P t=some 1)
    (kk:TO C ops Q l E ((ob,.cells (arr (intC k) (xs.set p.toNat v) j).toArray T' (0,0))::R)):TO C ops Q (i::l) E H:=by
  obtain ⟨ho,hg,hx,hy⟩:=q0_
  obtain ⟨b,rfl⟩:=Gm hz hc hn hp
  exact Z07 hp ⟨ho,hg,(by rw [←Gr,←Nat.mul_one p.toNat];exact hx),hy⟩ ht hs kk
theorem TO.stBV {t T':TypeId}{x y:Operand}{ob:Option Nat}{n c:Nat}{p:Int}{v:Bool}{xs:List Bool}{j:List Value}(hz:ob=none→c=0)(hc:n≤c)(hn:xs.length=n)(hp:inb p xs.length)(q0_:ops[i]?=some ⟨none,.store t x y,ty,Zo,af,g⟩∧Ya ops E g=true∧ev E x=some (.pointer (some (ea (sb ob) (p.toNat*1))))∧ev E y=some (.bool v))(ht:Take (ob,.cells (arr boolC xs j).toArray T' (0,0)) H R)(hs:Xc C.P t=some 1)
    (kk:TO C ops Q l E ((ob,.cells (arr boolC (xs.set p.toNat v) j).toArray T' (0,0))::R)):TO C ops Q (i::l) E H:=by
  obtain ⟨ho,hg,hx,hy⟩:=q0_
  obtain ⟨b,rfl⟩:=Gm hz hc hn hp
  exact TO.stBO hp ho hg (by rw [←Gr,←Nat.mul_one p.toNat];exact hx) hy ht hs kk
end rules
end Go.Acq
namespace Go.Acq
open Go Go.RowKit
section
variable {C : Cx} {Q : Exit → Act → World → Prop} {E : Env} {H : Heap} {c x y : Code}
theorem Vz {α0:Type}(φ:α0→Prop)(L:α0→Env)(Hs:α0→Heap)(hx:T C x (Exit.then (fun ac w=>∃ (b0:α0),φ b0∧Fits C.n C.D (L b0) ac∧Inv C.w0 C.M w (Hs b0)) Q) E H)
    (hy:∀ (b0:α0),φ b0→T C y Q (L b0) (Hs b0)):T C x (Exit.then (y.wpIn (FW C.ρ) 0 C.P Q) Q) E H:=T.mono hx (fun e ac w h=>by
  cases e with
  | normal=>obtain ⟨b0,h1,h2,h3⟩:=h;exact hy b0 h1 ac w h2 h3
  | _=>exact h)
theorem Vb {α0:Type}{φ:α0→Prop}{L:α0→Env}{Hs:α0→Heap}(b0:α0)(hφ:φ b0)(hL:AllF (L b0) E)(hH:Pick (Hs b0) H) :
    X C (Exit.then (fun ac w=>∃ (b0:α0),φ b0∧Fits C.n C.D (L b0) ac∧Inv C.w0 C.M w (Hs b0)) Q) .normal E H:=fun _ _ hf hi=>⟨b0,hφ,hf.all hL,hi.pick hH⟩
theorem Z4u {α0 α1:Type}(φ:α0→α1→Prop)(L:α0→α1→Env)(Hs:α0→α1→Heap)(μ:α0→α1→Nat)(a0:α0)(a1:α1)(h0:φ a0 a1)(hE:AllF (L a0 a1) E)(hH:Pick (Hs a0 a1) H)
    (round:∀ (a0:α0) (a1:α1),φ a0 a1→T C c (Exit.then (fun ac w=>∃ (b0:α0) (b1:α1),φ b0 b1∧μ b0 b1<μ a0 a1∧Fits C.n C.D (L b0 b1) ac∧Inv C.w0 C.M w (Hs b0 b1)) Q) (L a0 a1) (Hs a0 a1)):T C (.loop c) Q E H :=
  Z37 (α:=α0×α1) (fun s=>φ s.1 s.2) (fun s=>L s.1 s.2) (fun s=>Hs s.1 s.2) (fun s=>μ s.1 s.2) (a0,a1) h0 hE hH (fun s hs=>T.mono (round s.1 s.2 hs) (fun e ac w h=>by
    cases e with
    | normal=>obtain ⟨b0,b1,h1,h2,h3,h4⟩:=h;exact ⟨⟨b0,b1⟩,h1,h2,h3,h4⟩
    | _=>exact h))
theorem Z30 {α0 α1:Type}{φ:α0→α1→Prop}{L:α0→α1→Env}{Hs:α0→α1→Heap}{μ:α0→α1→Nat}{m:Nat}(b0:α0)(b1:α1)(hφ:φ b0 b1)(hμ:μ b0 b1<m)(hL:AllF (L b0 b1) E)(hH:Pick (Hs b0 b1) H) :
    X C (Exit.then (fun ac w=>∃ (b0:α0) (b1:α1),φ b0 b1∧μ b0 b1<m∧Fits C.n C.D (L b0 b1) ac∧Inv C.w0 C.M w (Hs b0 b1)) Q) .normal E H:=fun _ _ hf hi=>⟨b0,b1,hφ,hμ,hf.all hL,hi.pick hH⟩
theorem Zbx {α0 α1:Type}(φ:α0→α1→Prop)(L:α0→α1→Env)(Hs:α0→α1→Heap)(hx:T C x (Exit.then (fun ac w=>∃ (b0:α0) (b1:α1),φ b0 b1∧Fits C.n C.D (L b0 b1) ac∧Inv C.w0 C.M w (Hs b0 b1)) Q) E H)
    (hy:∀ (b0:α0) (b1:α1),φ b0 b1→T C y Q (L b0 b1) (Hs b0 b1)):T C x (Exit.then (y.wpIn (FW C.ρ) 0 C.P Q) Q) E H:=T.mono hx (fun e ac w h=>by
  cases e with
  | normal=>obtain ⟨b0,b1,h1,h2,h3⟩:=h;exact hy b0 b1 h1 ac w h2 h3
  | _=>exact h)
theorem Z9j {α0 α1:Type}{φ:α0→α1→Prop}{L:α0→α1→Env}{Hs:α0→α1→Heap}(b0:α0)(b1:α1)(hφ:φ b0 b1)(hL:AllF (L b0 b1) E)(hH:Pick (Hs b0 b1) H) :
    X C (Exit.then (fun ac w=>∃ (b0:α0) (b1:α1),φ b0 b1∧Fits C.n C.D (L b0 b1) ac∧Inv C.w0 C.M w (Hs b0 b1)) Q) .normal E H:=fun _ _ hf hi=>⟨b0,b1,hφ,hf.all hL,hi.pick hH⟩
theorem Z02 {α0 α1 α2:Type}(φ:α0→α1→α2→Prop)(L:α0→α1→α2→Env)(Hs:α0→α1→α2→Heap)(μ:α0→α1→α2→Nat)(a0:α0)(a1:α1)(a2:α2)(h0:φ a0 a1 a2)(hE:AllF (L a0 a1 a2) E)(hH:Pick (Hs a0 a1 a2) H)
    (round:∀ (a0:α0) (a1:α1) (a2:α2),φ a0 a1 a2→T C c (Exit.then (fun ac w=>∃ (b0:α0) (b1:α1) (b2:α2),φ b0 b1 b2∧μ b0 b1 b2<μ a0 a1 a2∧Fits C.n C.D (L b0 b1 b2) ac∧Inv C.w0 C.M w (Hs b0 b1 b2)) Q) (L a0 a1 a2) (Hs a0 a1 a2)):T C (.loop c) Q E H :=
  Z37 (α:=α0×α1×α2) (fun s=>φ s.1 s.2.1 s.2.2) (fun s=>L s.1 s.2.1 s.2.2) (fun s=>Hs s.1 s.2.1 s.2.2) (fun s=>μ s.1 s.2.1 s.2.2) (a0,a1,a2) h0 hE hH (fun s hs=>T.mono (round s.1 s.2.1 s.2.2 hs) (fun e ac w h=>by
    cases e with
    | normal=>obtain ⟨b0,b1,b2,h1,h2,h3,h4⟩:=h;exact ⟨⟨b0,b1,b2⟩,h1,h2,h3,h4⟩
    | _=>exact h))
theorem Rk {α0 α1 α2:Type}{φ:α0→α1→α2→Prop}{L:α0→α1→α2→Env}{Hs:α0→α1→α2→Heap}{μ:α0→α1→α2→Nat}{m:Nat}(b0:α0)(b1:α1)(b2:α2)(hφ:φ b0 b1 b2)(hμ:μ b0 b1 b2<m)(hL:AllF (L b0 b1 b2) E)(hH:Pick (Hs b0 b1 b2) H) :
    X C (Exit.then (fun ac w=>∃ (b0:α0) (b1:α1) (b2:α2),φ b0 b1 b2∧μ b0 b1 b2<m∧Fits C.n C.D (L b0 b1 b2) ac∧Inv C.w0 C.M w (Hs b0 b1 b2)) Q) .normal E H:=fun _ _ hf hi=>⟨b0,b1,b2,hφ,hμ,hf.all hL,hi.pick hH⟩
theorem Zdn {α0 α1 α2 α3:Type}(φ:α0→α1→α2→α3→Prop)(L:α0→α1→α2→α3→Env)(Hs:α0→α1→α2→α3→Heap)(μ:α0→α1→α2→α3→Nat)(a0:α0)(a1:α1)(a2:α2)(a3:α3)(h0:φ a0 a1 a2 a3)(hE:AllF (L a0 a1 a2 a3) E)(hH:Pick (Hs a0 a1 a2 a3) H)
    (round:∀ (a0:α0) (a1:α1) (a2:α2) (a3:α3),φ a0 a1 a2 a3→T C c (Exit.then (fun ac w=>∃ (b0:α0) (b1:α1) (b2:α2) (b3:α3),φ b0 b1 b2 b3∧μ b0 b1 b2 b3<μ a0 a1 a2 a3∧Fits C.n C.D (L b0 b1 b2 b3) ac∧Inv C.w0 C.M w (Hs b0 b1 b2 b3)) Q) (L a0 a1 a2 a3) (Hs a0 a1 a2 a3)):T C (.loop c) Q E H :=
  Z37 (α:=α0×α1×α2×α3) (fun s=>φ s.1 s.2.1 s.2.2.1 s.2.2.2) (fun s=>L s.1 s.2.1 s.2.2.1 s.2.2.2) (fun s=>Hs s.1 s.2.1 s.2.2.1 s.2.2.2) (fun s=>μ s.1 s.2.1 s.2.2.1 s.2.2.2) (a0,a1,a2,a3) h0 hE hH (fun s hs=>T.mono (round s.1 s.2.1 s.2.2.1 s.2.2.2 hs) (fun e ac w h=>by
    cases e with
    | normal=>obtain ⟨b0,b1,b2,b3,h1,h2,h3,h4⟩:=h;exact ⟨⟨b0,b1,b2,b3⟩,h1,h2,h3,h4⟩
    | _=>exact h))
theorem Zcu {α0 α1 α2 α3:Type}{φ:α0→α1→α2→α3→Prop}{L:α0→α1→α2→α3→Env}{Hs:α0→α1→α2→α3→Heap}{μ:α0→α1→α2→α3→Nat}{m:Nat}(b0:α0)(b1:α1)(b2:α2)(b3:α3)(hφ:φ b0 b1 b2 b3)(hμ:μ b0 b1 b2 b3<m)(hL:AllF (L b0 b1 b2 b3) E)(hH:Pick (Hs b0 b1 b2 b3) H) :
    X C (Exit.then (fun ac w=>∃ (b0:α0) (b1:α1) (b2:α2) (b3:α3),φ b0 b1 b2 b3∧μ b0 b1 b2 b3<m∧Fits C.n C.D (L b0 b1 b2 b3) ac∧Inv C.w0 C.M w (Hs b0 b1 b2 b3)) Q) .normal E H:=fun _ _ hf hi=>⟨b0,b1,b2,b3,hφ,hμ,hf.all hL,hi.pick hH⟩
theorem Z6x {α0 α1 α2 α3 α4:Type}(φ:α0→α1→α2→α3→α4→Prop)(L:α0→α1→α2→α3→α4→Env)(Hs:α0→α1→α2→α3→α4→Heap)(hx:T C x (Exit.then (fun ac w=>∃ (b0:α0) (b1:α1) (b2:α2) (b3:α3) (b4:α4),φ b0 b1 b2 b3 b4∧Fits C.n C.D (L b0 b1 b2 b3 b4) ac∧Inv C.w0 C.M w (Hs b0 b1 b2 b3 b4)) Q) E H)
    (hy:∀ (b0:α0) (b1:α1) (b2:α2) (b3:α3) (b4:α4),φ b0 b1 b2 b3 b4→T C y Q (L b0 b1 b2 b3 b4) (Hs b0 b1 b2 b3 b4)):T C x (Exit.then (y.wpIn (FW C.ρ) 0 C.P Q) Q) E H:=T.mono hx (fun e ac w h=>by
  cases e with
  | normal=>obtain ⟨b0,b1,b2,b3,b4,h1,h2,h3⟩:=h;exact hy b0 b1 b2 b3 b4 h1 ac w h2 h3
  | _=>exact h)
theorem Z36 {α0 α1 α2 α3 α4:Type}{φ:α0→α1→α2→α3→α4→Prop}{L:α0→α1→α2→α3→α4→Env}{Hs:α0→α1→α2→α3→α4→Heap}(b0:α0)(b1:α1)(b2:α2)(b3:α3)(b4:α4)(hφ:φ b0 b1 b2 b3 b4)(hL:AllF (L b0 b1 b2 b3 b4) E)(hH:Pick (Hs b0 b1 b2 b3 b4) H) :
    X C (Exit.then (fun ac w=>∃ (b0:α0) (b1:α1) (b2:α2) (b3:α3) (b4:α4),φ b0 b1 b2 b3 b4∧Fits C.n C.D (L b0 b1 b2 b3 b4) ac∧Inv C.w0 C.M w (Hs b0 b1 b2 b3 b4)) Q) .normal E H:=fun _ _ hf hi=>⟨b0,b1,b2,b3,b4,hφ,hf.all hL,hi.pick hH⟩
theorem Zdj {α0 α1 α2 α3 α4 α5:Type}(φ:α0→α1→α2→α3→α4→α5→Prop)(L:α0→α1→α2→α3→α4→α5→Env)(Hs:α0→α1→α2→α3→α4→α5→Heap)(hx:T C x (Exit.then (fun ac w=>∃ (b0:α0) (b1:α1) (b2:α2) (b3:α3) (b4:α4) (b5:α5),φ b0 b1 b2 b3 b4 b5∧Fits C.n C.D (L b0 b1 b2 b3 b4 b5) ac∧Inv C.w0 C.M w (Hs b0 b1 b2 b3 b4 b5)) Q) E H)
    (hy:∀ (b0:α0) (b1:α1) (b2:α2) (b3:α3) (b4:α4) (b5:α5),φ b0 b1 b2 b3 b4 b5→T C y Q (L b0 b1 b2 b3 b4 b5) (Hs b0 b1 b2 b3 b4 b5)):T C x (Exit.then (y.wpIn (FW C.ρ) 0 C.P Q) Q) E H:=T.mono hx (fun e ac w h=>by
  cases e with
  | normal=>obtain ⟨b0,b1,b2,b3,b4,b5,h1,h2,h3⟩:=h;exact hy b0 b1 b2 b3 b4 b5 h1 ac w h2 h3
  | _=>exact h)
theorem Zeo {α0 α1 α2 α3 α4 α5:Type}{φ:α0→α1→α2→α3→α4→α5→Prop}{L:α0→α1→α2→α3→α4→α5→Env}{Hs:α0→α1→α2→α3→α4→α5→Heap}(b0:α0)(b1:α1)(b2:α2)(b3:α3)(b4:α4)(b5:α5)(hφ:φ b0 b1 b2 b3 b4 b5)(hL:AllF (L b0 b1 b2 b3 b4 b5) E)(hH:Pick (Hs b0 b1 b2 b3 b4 b5) H) :
    X C (Exit.then (fun ac w=>∃ (b0:α0) (b1:α1) (b2:α2) (b3:α3) (b4:α4) (b5:α5),φ b0 b1 b2 b3 b4 b5∧Fits C.n C.D (L b0 b1 b2 b3 b4 b5) ac∧Inv C.w0 C.M w (Hs b0 b1 b2 b3 b4 b5)) Q) .normal E H:=fun _ _ hf hi=>⟨b0,b1,b2,b3,b4,b5,hφ,hf.all hL,hi.pick hH⟩
theorem Zga {α0 α1 α2 α3 α4 α5 α6:Type}(φ:α0→α1→α2→α3→α4→α5→α6→Prop)(L:α0→α1→α2→α3→α4→α5→α6→Env)(Hs:α0→α1→α2→α3→α4→α5→α6→Heap)(μ:α0→α1→α2→α3→α4→α5→α6→Nat)(a0:α0)(a1:α1)(a2:α2)(a3:α3)(a4:α4)(a5:α5)(a6:α6)(h0:φ a0 a1 a2 a3 a4 a5 a6)(hE:AllF (L a0 a1 a2 a3 a4 a5 a6) E)(hH:Pick (Hs a0 a1 a2 a3 a4 a5 a6) H)
    (round:∀ (a0:α0) (a1:α1) (a2:α2) (a3:α3) (a4:α4) (a5:α5) (a6:α6),φ a0 a1 a2 a3 a4 a5 a6→T C c (Exit.then (fun ac w=>∃ (b0:α0) (b1:α1) (b2:α2) (b3:α3) (b4:α4) (b5:α5) (b6:α6),φ b0 b1 b2 b3 b4 b5 b6∧μ b0 b1 b2 b3 b4 b5 b6<μ a0 a1 a2 a3 a4 a5 a6∧Fits C.n C.D (L b0 b1 b2 b3 b4 b5 b6) ac∧Inv C.w0 C.M w (Hs b0 b1 b2 b3 b4 b5 b6)) Q) (L a0 a1 a2 a3 a4 a5 a6) (Hs a0 a1 a2 a3 a4 a5 a6)):T C (.loop c) Q E H :=
  Z37 (α:=α0×α1×α2×α3×α4×α5×α6) (fun s=>φ s.1 s.2.1 s.2.2.1 s.2.2.2.1 s.2.2.2.2.1 s.2.2.2.2.2.1 s.2.2.2.2.2.2) (fun s=>L s.1 s.2.1 s.2.2.1 s.2.2.2.1 s.2.2.2.2.1 s.2.2.2.2.2.1 s.2.2.2.2.2.2) (fun s=>Hs s.1 s.2.1 s.2.2.1 s.2.2.2.1 s.2.2.2.2.1 s.2.2.2.2.2.1 s.2.2.2.2.2.2) (fun s=>μ s.1 s.2.1 s.2.2.1 s.2.2.2.1 s.2.2.2.2.1 s.2.2.2.2.2.1 s.2.2.2.2.2.2) (a0,a1,a2,a3,a4,a5,a6) h0 hE hH (fun s hs=>T.mono (round s.1 s.2.1 s.2.2.1 s.2.2.2.1 s.2.2.2.2.1 s.2.2.2.2.2.1 s.2.2.2.2.2.2 hs) (fun e ac w h=>by
    cases e with
    | normal=>obtain ⟨b0,b1,b2,b3,b4,b5,b6,h1,h2,h3,h4⟩:=h;exact ⟨⟨b0,b1,b2,b3,b4,b5,b6⟩,h1,h2,h3,h4⟩
    | _=>exact h))
theorem Zdz {α0 α1 α2 α3 α4 α5 α6:Type}{φ:α0→α1→α2→α3→α4→α5→α6→Prop}{L:α0→α1→α2→α3→α4→α5→α6→Env}{Hs:α0→α1→α2→α3→α4→α5→α6→Heap}{μ:α0→α1→α2→α3→α4→α5→α6→Nat}{m:Nat}(b0:α0)(b1:α1)(b2:α2)(b3:α3)(b4:α4)(b5:α5)(b6:α6)(hφ:φ b0 b1 b2 b3 b4 b5 b6)(hμ:μ b0 b1 b2 b3 b4 b5 b6<m)(hL:AllF (L b0 b1 b2 b3 b4 b5 b6) E)(hH:Pick (Hs b0 b1 b2 b3 b4 b5 b6) H) :
    X C (Exit.then (fun ac w=>∃ (b0:α0) (b1:α1) (b2:α2) (b3:α3) (b4:α4) (b5:α5) (b6:α6),φ b0 b1 b2 b3 b4 b5 b6∧μ b0 b1 b2 b3 b4 b5 b6<m∧Fits C.n C.D (L b0 b1 b2 b3 b4 b5 b6) ac∧Inv C.w0 C.M w (Hs b0 b1 b2 b3 b4 b5 b6)) Q) .normal E H:=fun _ _ hf hi=>⟨b0,b1,b2,b3,b4,b5,b6,hφ,hμ,hf.all hL,hi.pick hH⟩
theorem Zhy {α0 α1 α2 α3 α4 α5 α6:Type}(φ:α0→α1→α2→α3→α4→α5→α6→Prop)(L:α0→α1→α2→α3→α4→α5→α6→Env)(Hs:α0→α1→α2→α3→α4→α5→α6→Heap)(hx:T C x (Exit.then (fun ac w=>∃ (b0:α0) (b1:α1) (b2:α2) (b3:α3) (b4:α4) (b5:α5) (b6:α6),φ b0 b1 b2 b3 b4 b5 b6∧Fits C.n C.D (L b0 b1 b2 b3 b4 b5 b6) ac∧Inv C.w0 C.M w (Hs b0 b1 b2 b3 b4 b5 b6)) Q) E H)
    (hy:∀ (b0:α0) (b1:α1) (b2:α2) (b3:α3) (b4:α4) (b5:α5) (b6:α6),φ b0 b1 b2 b3 b4 b5 b6→T C y Q (L b0 b1 b2 b3 b4 b5 b6) (Hs b0 b1 b2 b3 b4 b5 b6)):T C x (Exit.then (y.wpIn (FW C.ρ) 0 C.P Q) Q) E H:=T.mono hx (fun e ac w h=>by
  cases e with
  | normal=>obtain ⟨b0,b1,b2,b3,b4,b5,b6,h1,h2,h3⟩:=h;exact hy b0 b1 b2 b3 b4 b5 b6 h1 ac w h2 h3
  | _=>exact h)
theorem Zfi {α0 α1 α2 α3 α4 α5 α6:Type}{φ:α0→α1→α2→α3→α4→α5→α6→Prop}{L:α0→α1→α2→α3→α4→α5→α6→Env}{Hs:α0→α1→α2→α3→α4→α5→α6→Heap}(b0:α0)(b1:α1)(b2:α2)(b3:α3)(b4:α4)(b5:α5)(b6:α6)(hφ:φ b0 b1 b2 b3 b4 b5 b6)(hL:AllF (L b0 b1 b2 b3 b4 b5 b6) E)(hH:Pick (Hs b0 b1 b2 b3 b4 b5 b6) H) :
    X C (Exit.then (fun ac w=>∃ (b0:α0) (b1:α1) (b2:α2) (b3:α3) (b4:α4) (b5:α5) (b6:α6),φ b0 b1 b2 b3 b4 b5 b6∧Fits C.n C.D (L b0 b1 b2 b3 b4 b5 b6) ac∧Inv C.w0 C.M w (Hs b0 b1 b2 b3 b4 b5 b6)) Q) .normal E H:=fun _ _ hf hi=>⟨b0,b1,b2,b3,b4,b5,b6,hφ,hf.all hL,hi.pick hH⟩
theorem Zci {α0 α1 α2 α3 α4 α5 α6 α7:Type}(φ:α0→α1→α2→α3→α4→α5→α6→α7→Prop)(L:α0→α1→α2→α3→α4→α5→α6→α7→Env)(Hs:α0→α1→α2→α3→α4→α5→α6→α7→Heap)(μ:α0→α1→α2→α3→α4→α5→α6→α7→Nat)(a0:α0)(a1:α1)(a2:α2)(a3:α3)(a4:α4)(a5:α5)(a6:α6)(a7:α7)(h0:φ a0 a1 a2 a3 a4 a5 a6 a7)(hE:AllF (L a0 a1 a2 a3 a4 a5 a6 a7) E)(hH:Pick (Hs a0 a1 a2 a3 a4 a5 a6 a7) H)
    (round:∀ (a0:α0) (a1:α1) (a2:α2) (a3:α3) (a4:α4) (a5:α5) (a6:α6) (a7:α7),φ a0 a1 a2 a3 a4 a5 a6 a7→T C c (Exit.then (fun ac w=>∃ (b0:α0) (b1:α1) (b2:α2) (b3:α3) (b4:α4) (b5:α5) (b6:α6) (b7:α7),φ b0 b1 b2 b3 b4 b5 b6 b7∧μ b0 b1 b2 b3 b4 b5 b6 b7<μ a0 a1 a2 a3 a4 a5 a6 a7∧Fits C.n C.D (L b0 b1 b2 b3 b4 b5 b6 b7) ac∧Inv C.w0 C.M w (Hs b0 b1 b2 b3 b4 b5 b6 b7)) Q) (L a0 a1 a2 a3 a4 a5 a6 a7) (Hs a0 a1 a2 a3 a4 a5 a6 a7)):T C (.loop c) Q E H :=
  Z37 (α:=α0×α1×α2×α3×α4×α5×α6×α7) (fun s=>φ s.1 s.2.1 s.2.2.1 s.2.2.2.1 s.2.2.2.2.1 s.2.2.2.2.2.1 s.2.2.2.2.2.2.1 s.2.2.2.2.2.2.2) (fun s=>L s.1 s.2.1 s.2.2.1 s.2.2.2.1 s.2.2.2.2.1 s.2.2.2.2.2.1 s.2.2.2.2.2.2.1 s.2.2.2.2.2.2.2) (fun s=>Hs s.1 s.2.1 s.2.2.1 s.2.2.2.1 s.2.2.2.2.1 s.2.2.2.2.2.1 s.2.2.2.2.2.2.1 s.2.2.2.2.2.2.2) (fun s=>μ s.1 s.2.1 s.2.2.1 s.2.2.2.1 s.2.2.2.2.1 s.2.2.2.2.2.1 s.2.2.2.2.2.2.1 s.2.2.2.2.2.2.2) (a0,a1,a2,a3,a4,a5,a6,a7) h0 hE hH (fun s hs=>T.mono (round s.1 s.2.1 s.2.2.1 s.2.2.2.1 s.2.2.2.2.1 s.2.2.2.2.2.1 s.2.2.2.2.2.2.1 s.2.2.2.2.2.2.2 hs) (fun e ac w h=>by
    cases e with
    | normal=>obtain ⟨b0,b1,b2,b3,b4,b5,b6,b7,h1,h2,h3,h4⟩:=h;exact ⟨⟨b0,b1,b2,b3,b4,b5,b6,b7⟩,h1,h2,h3,h4⟩
    | _=>exact h))
theorem Z5n {α0 α1 α2 α3 α4 α5 α6 α7:Type}{φ:α0→α1→α2→α3→α4→α5→α6→α7→Prop}{L:α0→α1→α2→α3→α4→α5→α6→α7→Env}{Hs:α0→α1→α2→α3→α4→α5→α6→α7→Heap}{μ:α0→α1→α2→α3→α4→α5→α6→α7→Nat}{m:Nat}(b0:α0)(b1:α1)(b2:α2)(b3:α3)(b4:α4)(b5:α5)(b6:α6)(b7:α7)(hφ:φ b0 b1 b2 b3 b4 b5 b6 b7)(hμ:μ b0 b1 b2 b3 b4 b5 b6 b7<m)(hL:AllF (L b0 b1 b2 b3 b4 b5 b6 b7) E)(hH:Pick (Hs b0 b1 b2 b3 b4 b5 b6 b7) H) :
    X C (Exit.then (fun ac w=>∃ (b0:α0) (b1:α1) (b2:α2) (b3:α3) (b4:α4) (b5:α5) (b6:α6) (b7:α7),φ b0 b1 b2 b3 b4 b5 b6 b7∧μ b0 b1 b2 b3 b4 b5 b6 b7<m∧Fits C.n C.D (L b0 b1 b2 b3 b4 b5 b6 b7) ac∧Inv C.w0 C.M w (Hs b0 b1 b2 b3 b4 b5 b6 b7)) Q) .normal E H:=fun _ _ hf hi=>⟨b0,b1,b2,b3,b4,b5,b6,b7,hφ,hμ,hf.all hL,hi.pick hH⟩
theorem T.loopE9 {α0 α1 α2 α3 α4 α5 α6 α7 α8:Type}(φ:α0→α1→α2→α3→α4→α5→α6→α7→α8→Prop)(L:α0→α1→α2→α3→α4→α5→α6→α7→α8→Env)(Hs:α0→α1→α2→α3→α4→α5→α6→α7→α8→Heap)(μ:α0→α1→α2→α3→α4→α5→α6→α7→α8→Nat)(a0:α0)(a1:α1)(a2:α2)(a3:α3)(a4:α4)(a5:α5)(a6:α6)(a7:α7)(a8:α8)(h0:φ a0 a1 a2 a3 a4 a5 a6 a7 a8)(hE:AllF (L a0 a1 a2 a3 a4 a5 a6 a7 a8) E)(hH:Pick (Hs a0 a1 a2 a3 a4 a5 a6 a7 a8) H)
    (round:∀ (a0:α0) (a1:α1) (a2:α2) (a3:α3) (a4:α4) (a5:α5) (a6:α6) (a7:α7) (a8:α8),φ a0 a1 a2 a3 a4 a5 a6 a7 a8→T C c (Exit.then (fun ac w=>∃ (b0:α0) (b1:α1) (b2:α2) (b3:α3) (b4:α4) (b5:α5) (b6:α6) (b7:α7) (b8:α8),φ b0 b1 b2 b3 b4 b5 b6 b7 b8∧μ b0 b1 b2 b3 b4 b5 b6 b7 b8<μ a0 a1 a2 a3 a4 a5 a6 a7 a8∧Fits C.n C.D (L b0 b1 b2 b3 b4 b5 b6 b7 b8) ac∧Inv C.w0 C.M w (Hs b0 b1 b2 b3 b4 b5 b6 b7 b8)) Q) (L a0 a1 a2 a3 a4 a5 a6 a7 a8) (Hs a0 a1 a2 a3 a4 a5 a6 a7 a8)):T C (.loop c) Q E H :=
  Z37 (α:=α0×α1×α2×α3×α4×α5×α6×α7×α8) (fun s=>φ s.1 s.2.1 s.2.2.1 s.2.2.2.1 s.2.2.2.2.1 s.2.2.2.2.2.1 s.2.2.2.2.2.2.1 s.2.2.2.2.2.2.2.1 s.2.2.2.2.2.2.2.2) (fun s=>L s.1 s.2.1 s.2.2.1 s.2.2.2.1 s.2.2.2.2.1 s.2.2.2.2.2.1 s.2.2.2.2.2.2.1 s.2.2.2.2.2.2.2.1 s.2.2.2.2.2.2.2.2) (fun s=>Hs s.1 s.2.1 s.2.2.1 s.2.2.2.1 s.2.2.2.2.1 s.2.2.2.2.2.1 s.2.2.2.2.2.2.1 s.2.2.2.2.2.2.2.1 s.2.2.2.2.2.2.2.2) (fun s=>μ s.1 s.2.1 s.2.2.1 s.2.2.2.1 s.2.2.2.2.1 s.2.2.2.2.2.1 s.2.2.2.2.2.2.1 s.2.2.2.2.2.2.2.1 s.2.2.2.2.2.2.2.2) (a0,a1,a2,a3,a4,a5,a6,a7,a8) h0 hE hH (fun s hs=>T.mono (round s.1 s.2.1 s.2.2.1 s.2.2.2.1 s.2.2.2.2.1 s.2.2.2.2.2.1 s.2.2.2.2.2.2.1 s.2.2.2.2.2.2.2.1 s.2.2.2.2.2.2.2.2 hs) (fun e ac w h=>by
    cases e with
    | normal=>obtain ⟨b0,b1,b2,b3,b4,b5,b6,b7,b8,h1,h2,h3,h4⟩:=h;exact ⟨⟨b0,b1,b2,b3,b4,b5,b6,b7,b8⟩,h1,h2,h3,h4⟩
    | _=>exact h))
theorem Zfa {α0 α1 α2 α3 α4 α5 α6 α7 α8:Type}{φ:α0→α1→α2→α3→α4→α5→α6→α7→α8→Prop}{L:α0→α1→α2→α3→α4→α5→α6→α7→α8→Env}{Hs:α0→α1→α2→α3→α4→α5→α6→α7→α8→Heap}{μ:α0→α1→α2→α3→α4→α5→α6→α7→α8→Nat}{m:Nat}(b0:α0)(b1:α1)(b2:α2)(b3:α3)(b4:α4)(b5:α5)(b6:α6)(b7:α7)(b8:α8)(hφ:φ b0 b1 b2 b3 b4 b5 b6 b7 b8)(hμ:μ b0 b1 b2 b3 b4 b5 b6 b7 b8<m)(hL:AllF (L b0 b1 b2 b3 b4 b5 b6 b7 b8) E)(hH:Pick (Hs b0 b1 b2 b3 b4 b5 b6 b7 b8) H) :
    X C (Exit.then (fun ac w=>∃ (b0:α0) (b1:α1) (b2:α2) (b3:α3) (b4:α4) (b5:α5) (b6:α6) (b7:α7) (b8:α8),φ b0 b1 b2 b3 b4 b5 b6 b7 b8∧μ b0 b1 b2 b3 b4 b5 b6 b7 b8<m∧Fits C.n C.D (L b0 b1 b2 b3 b4 b5 b6 b7 b8) ac∧Inv C.w0 C.M w (Hs b0 b1 b2 b3 b4 b5 b6 b7 b8)) Q) .normal E H:=fun _ _ hf hi=>⟨b0,b1,b2,b3,b4,b5,b6,b7,b8,hφ,hμ,hf.all hL,hi.pick hH⟩
end
end Go.Acq
namespace Go.Acq
open Go Go.RowKit
section rules
variable {C : Cx} {ops : Array Oper} {Q : Exit → Act → World → Prop} {l : List Nat} {E : Env} {H R : Heap} {i d : Nat}
def gdU (ops:Array Oper)(E:Env):Option (Nat×Bool)→Bool
  | none=>false
  | some (j,_) =>
    match ((ops[j]?).bind (·.dst)).bind (find E) with
    | some (.tuple _)=>true
    | _=>false
theorem Zjv {n:Nat}{D:List Deferred}{a:Act}{o:Oper}(hf:Fits n D E a)(h:gdU ops E o.guard=true):Region.wanted o (yielded ops a.tmps)=false:=by
 unfold Region.wanted
 cases hg:o.guard with
 | none=>rw [hg] at h;simp [gdU] at h
 | some jw =>
  obtain ⟨j,want⟩:=jw
  rw [hg] at h
  simp only [gdU] at h
  cases hj:(ops[j]?).bind (·.dst) with
  | none=>simp [hj] at h
  | some t =>
   rw [hj,Option.bind_some] at h
   cases ht:find E t with
   | none=>simp [ht] at h
   | some v =>
    rw [ht] at h
    cases v with
    | tuple xs =>
     have h3:=hf.get t _ ht
     have:yielded ops a.tmps j=none:=by
      unfold yielded
      rw [hj,Option.bind_some]
      rw [Array.getD_eq_getD_getElem?] at h3
      cases hq:a.tmps[t]? with
      | none=>rfl
      | some u =>
       rw [hq] at h3
       have h4:u=.tuple xs:=by simpa using h3
       rw [h4]
     simp [this]
    | _=>simp at h
theorem Jn {o:Oper}(q0_:ops[i]?=some o∧gdU ops E o.guard=true∧o.dst=some d∧Nat.ble (d+1) C.n=true)(k:TO C ops Q l ((d,undef)::E) H):TO C ops Q (i::l) E H:=by
 obtain ⟨ho,hg,hdst,hd⟩:=q0_
 intro a w hf hi
 have hw:Region.wanted o (yielded ops a.tmps)=false:=Zjv hf hg
 simp only [wpOpsIn,ho,hw,Bool.false_eq_true,if_false]
 refine ⟨fun _ _=>trivial,?_⟩
 rw [hdst]
 exact k _ _ (hf.put hd _) hi
end rules
end Go.Acq
namespace Go.Acq
open Go Go.RowKit
section
variable {α : Type} {q : IntKind} {f : α → Value} {k : Int} {z v : α}
end
section rules
variable {C : Cx} {ops : Array Oper} {Q : Exit → Act → World → Prop} {l : List Nat} {E : Env} {H R : Heap} {i d : Nat} {ty : TypeId} {Zo : String} {af : Array Edge} {g : Option (Nat × Bool)}
variable {α : Type} {q : IntKind} {f : α → Value}
end rules
end Go.Acq
namespace Go.Acq
open Go
structure Net where
  N:Int
  S:Int
  T:Int
  Arcs:List Arc
  deriving DecidableEq
instance:Inhabited Net:=⟨⟨default,default,default,default⟩⟩
structure Csr where
  N:Int
  S:Int
  T:Int
  First:List Int
  Head:List Int
  Rev:List Int
  Cap:List Int
  Arc:List Int
  Back:List Bool
  deriving DecidableEq
instance:Inhabited Csr:=⟨⟨default,default,default,default,default,default,default,default,default⟩⟩
def Ru (x0 n1:Int):Option (Int) :=
  if n1<1 then
  (some 0)
  else
  gd (n1≠0) <|
  gd (i64ok ((x0.tmod n1)+n1)) <|
  gd (n1≠0) <|
  some (((x0.tmod n1)+n1).tmod n1)
def Z1s (n0:Net)(a1 r6:Int)(a0:List Arc)(a2 c38:Int):Option ((List Arc×Int)⊕(List Arc)) :=
  Option.bind (Ru (((n0.Arcs.take (min (n0.Arcs.length:Int) a1).toNat).getD a2.toNat default).fr) (2+r6)) fun a3 =>
  Option.bind (Ru (((n0.Arcs.take (min (n0.Arcs.length:Int) a1).toNat).getD a2.toNat default).to) (2+r6)) fun a4 =>
  gd (apok (a0++([(Arc.mk a3 a4 (c38.tmod 1125899906842624))])).length 24) <|
  gd (i64ok (a2+1)) <|
  some (.inl ((a0++([(Arc.mk a3 a4 (c38.tmod 1125899906842624))])),(a2+1)))
def Z5g (n0:Net)(a0 r6:Int)(a1:List Arc)(a2:Int):Option ((List Arc×Int)⊕(List Arc)) :=
  if a2<((n0.Arcs.take (min (n0.Arcs.length:Int) a0).toNat).length:Int) then
  (gd (inb a2 (n0.Arcs.take (min (n0.Arcs.length:Int) a0).toNat).length) <|
  if (((n0.Arcs.take (min (n0.Arcs.length:Int) a0).toNat).getD a2.toNat default).cap)<0 then
  (gd (i64ok ((((n0.Arcs.take (min (n0.Arcs.length:Int) a0).toNat).getD a2.toNat default).cap)+1)) <|
  gd (i64ok (-((((n0.Arcs.take (min (n0.Arcs.length:Int) a0).toNat).getD a2.toNat default).cap)+1))) <|
  Z1s n0 a0 r6 a1 a2 (-((((n0.Arcs.take (min (n0.Arcs.length:Int) a0).toNat).getD a2.toNat default).cap)+1)))
  else
  Z1s n0 a0 r6 a1 a2 (((n0.Arcs.take (min (n0.Arcs.length:Int) a0).toNat).getD a2.toNat default).cap))
  else
  some (.inr a1)
def Z7c (r6 a1 a2:Int)(a0:List Arc):Option (Net) :=
  some (Net.mk (2+r6) a1 a2 a0)
def Z3u (n0:Net)(a0 r6 a1 a2:Int):Option (Net) :=
  gd (0≤(min (n0.Arcs.length:Int) a0)∧(min (n0.Arcs.length:Int) a0)≤(n0.Arcs.length:Int)) <|
  Option.bind (Xz (fun s=>Z5g n0 a0 r6 s.1 s.2) Xo ([],0)) fun p2_0_0=>Z7c r6 a1 a2 p2_0_0
def Z4o (n0:Net)(a0 a1:Int):Option (Net) :=
  gd (i64ok (a0-1)) <|
  Option.bind (Ru n0.N (a0-1)) fun r6 =>
  gd (i64ok (2+r6)) <|
  Option.bind (Ru n0.S (2+r6)) fun a2 =>
  Option.bind (Ru n0.T (2+r6)) fun a3 =>
  if a2=a3 then
  (gd (i64ok (a2+1)) <|
  gd ((2+r6)≠0) <|
  Z3u n0 a1 r6 a2 ((a2+1).tmod (2+r6)))
  else
  Z3u n0 a1 r6 a2 a3
def Z8h  : Option (Unit) :=
  some ()
def Z88  : Option (Unit) :=
  some ()
def Z8p  : Option (Unit) :=
  Option.bind Z8h fun _ =>
  Option.bind Z88 fun _ =>
  some ()
def Z9c (n0:Net):Option (Bool) :=
  if 2≤n0.N then
  (some (decide (n0.N≤4096)))
  else
  some false
def Za1 (n0:Net):Option (Bool) :=
  some (decide ((n0.Arcs.length:Int)≤16384))
def Z0p (n0:Net)(v1:Int):Option (Bool) :=
  if 0≤v1 then
  (some (decide (v1<n0.N)))
  else
  some false
def Zar (n0:Net):Option (Bool) :=
  Option.bind (Z0p n0 n0.S) fun r3 =>
  if r3=true then
  (Option.bind (Z0p n0 n0.T) fun r6 =>
  if r6=true then
  (some (decide (n0.S≠n0.T)))
  else
  some false)
  else
  some false
def Z6m (n0:Net)(a1:Arc):Option (Bool) :=
  Option.bind (Z0p n0 a1.fr) fun r5 =>
  if r5=true then
  (Option.bind (Z0p n0 a1.to) fun r8 =>
  some r8)
  else
  some false
def Z83 (a0:Arc)(c2:Net):Option (Bool) :=
  Option.bind (Z6m c2 a0) fun r3 =>
  some (!r3)
def Z43 (s0:List Arc)(a0:Net)(x1:Int):Option ((Int)⊕(Int⊕Unit)) :=
  if x1<(s0.length:Int) then
  (gd (inb x1 s0.length) <|
  Option.bind (Z83 (s0.getD x1.toNat default) a0) fun r4 =>
  if r4=true then
  (some (.inr (.inl x1)))
  else
  gd (i64ok (x1+1)) <|
  some (.inl (x1+1)))
  else
  some (.inr (.inr ()))
def Zd0  : Option (Int) :=
  some (-1)
def Za6 (s0:List Arc)(a0:Net):Option (Int) :=
  Option.bind (Xz (fun s=>Z43 s0 a0 s) Xo 0) fun o=>match o with | .inl p1_0_0=>(some p1_0_0) | .inr ()=>Zd0
def Z8q (s0:List Arc)(a0:Net):Option (Bool) :=
  Option.bind (Za6 s0 a0) fun r1 =>
  some (decide (0≤r1))
def Z5o (n0:Net):Option (Bool) :=
  Option.bind (Z8q n0.Arcs n0) fun r3 =>
  some (!r3)
def Z91 (n0:Net)(a1:Arc):Option (Bool) :=
  some (decide (0≤a1.cap))
def Z6w (a0:Arc)(c2:Net):Option (Bool) :=
  Option.bind (Z91 c2 a0) fun r3 =>
  some (!r3)
def Z61 (s0:List Arc)(a0:Net)(x1:Int):Option ((Int)⊕(Int⊕Unit)) :=
  if x1<(s0.length:Int) then
  (gd (inb x1 s0.length) <|
  Option.bind (Z6w (s0.getD x1.toNat default) a0) fun r4 =>
  if r4=true then
  (some (.inr (.inl x1)))
  else
  gd (i64ok (x1+1)) <|
  some (.inl (x1+1)))
  else
  some (.inr (.inr ()))
def Zcj  : Option (Int) :=
  some (-1)
def Za2 (s0:List Arc)(a0:Net):Option (Int) :=
  Option.bind (Xz (fun s=>Z61 s0 a0 s) Xo 0) fun o=>match o with | .inl p1_0_0=>(some p1_0_0) | .inr ()=>Zcj
def Z7l (s0:List Arc)(a0:Net):Option (Bool) :=
  Option.bind (Za2 s0 a0) fun r1 =>
  some (decide (0≤r1))
def Z4q (n0:Net):Option (Bool) :=
  Option.bind (Z7l n0.Arcs n0) fun r3 =>
  some (!r3)
def Z48 (n0:Net)(a0 x4:Int)(a1:Bool):Option ((Int×Int)⊕((Int×Bool)⊕Int)) :=
  if a1=true then
  (some (.inr (.inl (0,false))))
  else
  gd (i64ok (a0-((n0.Arcs.getD x4.toNat default).cap))) <|
  gd (i64ok (x4+1)) <|
  some (.inl ((a0-((n0.Arcs.getD x4.toNat default).cap)),(x4+1)))
def Z4l (n0:Net)(a0 x4:Int):Option ((Int×Int)⊕((Int×Bool)⊕Int)) :=
  if x4<(n0.Arcs.length:Int) then
  (gd (inb x4 n0.Arcs.length) <|
  if ((n0.Arcs.getD x4.toNat default).cap)<0 then
  (Z48 n0 a0 x4 true)
  else
  Z48 n0 a0 x4 (decide (a0<((n0.Arcs.getD x4.toNat default).cap))))
  else
  some (.inr (.inr a0))
def Z6n (a0:Int):Option (Int×Bool) :=
  gd (i64ok (4611686018427387904-a0)) <|
  some ((4611686018427387904-a0),true)
def Z68 (n0:Net):Option (Int×Bool) :=
  Option.bind (Xz (fun s=>Z4l n0 s.1 s.2) Xo (4611686018427387904,0)) fun o=>match o with | .inl (p1_0_0,p1_0_1)=>(some (p1_0_0,p1_0_1)) | .inr p1_1_0=>(Z6n p1_1_0)
def Z8x (n0:Net):Option (Bool) :=
  Option.bind (Z68 n0) fun (r3,r4) =>
  some r4
def Z9y  : Option (Int) :=
  some 0
def Z41 (n0:Net):Option (Int) :=
  Option.bind Z8p fun _ =>
  Option.bind (Z9c n0) fun a0 =>
  if (!a0)=true then
  (some 10)
  else
  Option.bind (Za1 n0) fun a1 =>
  if (!a1)=true then
  (some 11)
  else
  Option.bind (Zar n0) fun a2 =>
  if (!a2)=true then
  (some 12)
  else
  Option.bind (Z5o n0) fun a3 =>
  if (!a3)=true then
  (some 13)
  else
  Option.bind (Z4q n0) fun a4 =>
  if (!a4)=true then
  (some 14)
  else
  Option.bind (Z8x n0) fun a5 =>
  if (!a5)=true then
  (some 15)
  else
  Z9y
def Z58 (n0:Net)(a0:List Int)(x9:Int):Option ((List Int×Int)⊕(List Int)) :=
  if x9<(n0.Arcs.length:Int) then
  (gd (inb x9 n0.Arcs.length) <|
  if ((n0.Arcs.getD x9.toNat default).fr)≠((n0.Arcs.getD x9.toNat default).to) then
  (gd (i64ok (((n0.Arcs.getD x9.toNat default).fr)+1)) <|
  gd (inb (((n0.Arcs.getD x9.toNat default).fr)+1) a0.length) <|
  gd (i64ok ((a0.getD (((n0.Arcs.getD x9.toNat default).fr)+1).toNat 0)+1)) <|
  gd (inb (((n0.Arcs.getD x9.toNat default).fr)+1) a0.length) <|
  gd (i64ok (((n0.Arcs.getD x9.toNat default).to)+1)) <|
  gd (inb (((n0.Arcs.getD x9.toNat default).to)+1) (a0.set (((n0.Arcs.getD x9.toNat default).fr)+1).toNat ((a0.getD (((n0.Arcs.getD x9.toNat default).fr)+1).toNat 0)+1)).length) <|
  gd (i64ok (((a0.set (((n0.Arcs.getD x9.toNat default).fr)+1).toNat ((a0.getD (((n0.Arcs.getD x9.toNat default).fr)+1).toNat 0)+1)).getD (((n0.Arcs.getD x9.toNat default).to)+1).toNat 0)+1)) <|
  gd (inb (((n0.Arcs.getD x9.toNat default).to)+1) (a0.set (((n0.Arcs.getD x9.toNat default).fr)+1).toNat ((a0.getD (((n0.Arcs.getD x9.toNat default).fr)+1).toNat 0)+1)).length) <|
  gd (i64ok (x9+1)) <|
  some (.inl (((a0.set (((n0.Arcs.getD x9.toNat default).fr)+1).toNat ((a0.getD (((n0.Arcs.getD x9.toNat default).fr)+1).toNat 0)+1)).set (((n0.Arcs.getD x9.toNat default).to)+1).toNat (((a0.set (((n0.Arcs.getD x9.toNat default).fr)+1).toNat ((a0.getD (((n0.Arcs.getD x9.toNat default).fr)+1).toNat 0)+1)).getD (((n0.Arcs.getD x9.toNat default).to)+1).toNat 0)+1)),(x9+1))))
  else
  gd (i64ok (x9+1)) <|
  some (.inl (a0,(x9+1))))
  else
  some (.inr a0)
def Z3w (n0:Net)(a0:List Int)(a1:Int):Option ((List Int×Int)⊕(List Int)) :=
  if a1<n0.N then
  (gd (i64ok (a1+1)) <|
  gd (inb (a1+1) a0.length) <|
  gd (inb a1 a0.length) <|
  gd (i64ok ((a0.getD (a1+1).toNat 0)+(a0.getD a1.toNat 0))) <|
  gd (inb (a1+1) a0.length) <|
  gd (i64ok (a1+1)) <|
  some (.inl ((a0.set (a1+1).toNat ((a0.getD (a1+1).toNat 0)+(a0.getD a1.toNat 0))),(a1+1))))
  else
  some (.inr a0)
def Z7n (a0:List Int):Option (List Int) :=
  some a0
def Zau (n0:Net)(a0:List Int):Option (List Int) :=
  Option.bind (Xz (fun s=>Z3w n0 s.1 s.2) Xo (a0,0)) fun p3_0_0=>Z7n p3_0_0
def Z5f (n0:Net):Option (List Int) :=
  gd (i64ok (n0.N+1)) <|
  gd (mkok (n0.N+1)) <|
  Option.bind (Xz (fun s=>Z58 n0 s.1 s.2) Xo ((List.replicate ((n0.N+1).toNat) (0:Int)),0)) fun p1_0_0=>Zau n0 p1_0_0
def Z9o (s0:List Int):Option (List Int) :=
  gd (apok s0.length 8) <|
  some s0
def Z4r (a0 a4 a1 a3:Int)(a2:Bool)(c5:List Int)(c6:Csr):Option (Int×List Int×Csr) :=
  gd (inb a0 c5.length) <|
  gd (inb a0 c5.length) <|
  gd (i64ok ((c5.getD a0.toNat 0)+1)) <|
  gd (inb a0 c5.length) <|
  gd (inb (c5.getD a0.toNat 0) c6.Head.length) <|
  gd (inb (c5.getD a0.toNat 0) c6.Cap.length) <|
  gd (inb (c5.getD a0.toNat 0) c6.Arc.length) <|
  gd (inb (c5.getD a0.toNat 0) c6.Back.length) <|
  some ((c5.getD a0.toNat 0),(c5.set a0.toNat ((c5.getD a0.toNat 0)+1)),(Csr.mk c6.N c6.S c6.T c6.First (c6.Head.set (c5.getD a0.toNat 0).toNat a4) c6.Rev (c6.Cap.set (c5.getD a0.toNat 0).toNat a1) (c6.Arc.set (c5.getD a0.toNat 0).toNat a3) (c6.Back.set (c5.getD a0.toNat 0).toNat a2)))
def Z6f (n0:Net)(r8 a2 a0 a3 a4:List Int)(a5:List Bool)(a6:List Int)(a1:Int):Option ((List Int×List Int×List Int×List Int×List Bool×List Int×Int)⊕(List Int×List Int×List Int×List Int×List Bool)) :=
  if a1<(n0.Arcs.length:Int) then
  (gd (inb a1 n0.Arcs.length) <|
  if ((n0.Arcs.getD a1.toNat default).fr)=((n0.Arcs.getD a1.toNat default).to) then
  (gd (i64ok (a1+1)) <|
  some (.inl (a2,a0,a3,a4,a5,a6,(a1+1))))
  else
  Option.bind (Z4r ((n0.Arcs.getD a1.toNat default).fr) ((n0.Arcs.getD a1.toNat default).to) ((n0.Arcs.getD a1.toNat default).cap) a1 false a6 (Csr.mk n0.N n0.S n0.T r8 a2 a0 a3 a4 a5)) fun (a7,b1,a8) =>
  Option.bind (Z4r ((n0.Arcs.getD a1.toNat default).to) ((n0.Arcs.getD a1.toNat default).fr) 0 a1 true b1 (Csr.mk n0.N n0.S n0.T r8 a8.Head a0 a8.Cap a8.Arc a8.Back)) fun (a9,b5,b0) =>
  gd (inb a7 a0.length) <|
  gd (inb a9 (a0.set a7.toNat a9).length) <|
  gd (i64ok (a1+1)) <|
  some (.inl (b0.Head,((a0.set a7.toNat a9).set a9.toNat a7),b0.Cap,b0.Arc,b0.Back,b5,(a1+1))))
  else
  some (.inr (a2,a0,a3,a4,a5))
def Zaj (n0:Net)(r8 a0 a1 a2 a3:List Int)(a4:List Bool):Option (Csr×Int) :=
  some ((Csr.mk n0.N n0.S n0.T r8 a0 a1 a2 a3 a4),0)
def Z5z (n0:Net):Option (Csr×Int) :=
  Option.bind (Z41 n0) fun r5 =>
  if r5≠0 then
  (some ((Csr.mk 0 0 0 ([]) ([]) ([]) ([]) ([]) ([])),r5))
  else
  Option.bind (Z5f n0) fun r8 =>
  gd (inb n0.N r8.length) <|
  gd (mkok (r8.getD n0.N.toNat 0)) <|
  gd (mkok (r8.getD n0.N.toNat 0)) <|
  gd (mkok (r8.getD n0.N.toNat 0)) <|
  gd (mkok (r8.getD n0.N.toNat 0)) <|
  gd (mkok (r8.getD n0.N.toNat 0)) <|
  Option.bind (Z9o r8) fun a0 =>
  Option.bind (Xz (fun s=>Z6f n0 r8 s.1 s.2.1 s.2.2.1 s.2.2.2.1 s.2.2.2.2.1 s.2.2.2.2.2.1 s.2.2.2.2.2.2) Xo ((List.replicate ((r8.getD n0.N.toNat 0).toNat) (0:Int)),(List.replicate ((r8.getD n0.N.toNat 0).toNat) (0:Int)),(List.replicate ((r8.getD n0.N.toNat 0).toNat) (0:Int)),(List.replicate ((r8.getD n0.N.toNat 0).toNat) (0:Int)),(List.replicate ((r8.getD n0.N.toNat 0).toNat) (false:Bool)),a0,0)) fun (p1_0_0,p1_0_1,p1_0_2,p1_0_3,p1_0_4)=>Zaj n0 r8 p1_0_0 p1_0_1 p1_0_2 p1_0_3 p1_0_4
def Z7x (a0 b1:List Int)(x2:Int):Option ((Int)⊕(Bool⊕Unit)) :=
  if x2<(a0.length:Int) then
  (gd (inb x2 a0.length) <|
  gd (inb x2 b1.length) <|
  if (a0.getD x2.toNat 0)≠(b1.getD x2.toNat 0) then
  (some (.inr (.inl false)))
  else
  gd (i64ok (x2+1)) <|
  some (.inl (x2+1)))
  else
  some (.inr (.inr ()))
def Zc8  : Option (Bool) :=
  some true
def Zc7 (a0 b1:List Int):Option (Bool) :=
  if (a0.length:Int)≠(b1.length:Int) then
  (some false)
  else
  Option.bind (Xz (fun s=>Z7x a0 b1 s) Xo 0) fun o=>match o with | .inl p1_0_0=>(some p1_0_0) | .inr ()=>Zc8
end Go.Acq
namespace Go.Acq
open Go
structure Hop where
  Arc:Int
  Back:Bool
  deriving DecidableEq
instance:Inhabited Hop:=⟨⟨default,default⟩⟩
end Go.Acq
namespace Go.Acq
open Go
end Go.Acq
