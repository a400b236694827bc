/- Texts of this claim, one behind the other. -/
import Derived.Test.YtddknfpolkkbjaaGreatDoorA1
import Derived.Shelf.Spec.SlicesInsertGrow
import Derived.Laws.LoneSync
import Derived.Laws.BytesString
import Derived.Laws.IdiomStrings
import Derived.Laws.Strings
import Derived.Lib.FieldsP
import Derived.Lib.ItoaNum
import Derived.Lib.ParseIntB
import Derived.Shelf.GgClosure.StringsIndexFunc
import Derived.Shelf.Strings.FieldsFuncGrows
import Derived.Shelf.Strings.FuncGrows
import Derived.Shelf.Strconv.ErrVarParseInt
import Derived.Shelf.Strconv.Itoa4
import Derived.Lib.Bytes2
import Derived.Handed
import Derived.SizedLaws
import Derived.Shelf.Vars
import Derived.Stop.LaidErr
import Derived.Lib.LaidTab
import Derived.LaidLaws
import Derived.Shelf.Bytes.SlIndexAt
import Derived.Shelf.Bytes.BufferK
import Derived.Shelf.Bytes.Bytes
import Derived.Shelf.Strings.Count
import Derived.Shelf.Strings.Split
import Derived.Shelf.Strings.Replace
import Derived.Shelf.Strings.Prefix
import Derived.Shelf.Strings.OnBuilder
import Derived.Laws.Panics
import Derived.RecoverIn
import Derived.RangeFuncLeaves
import Derived.Shelf.Strings.SlTrimAscii
import Derived.Shelf.Strings.LastIndex
import Derived.Shelf.Strings.Repeat
import Derived.Shelf.Bytes.GrowNilAt
import Derived.Laws.CopyRow
set_option linter.unusedVariables false
set_option linter.unusedSimpArgs false
namespace Go.Acq
open Go Go.RowKit
section
variable {C : Cx} {ops : Array Oper} {Q : Exit → Act → World → Prop} {E : Env} {H : Heap}
def ObsG2 (C:Cx)(ops:Array Oper)(Q:Exit→Act→World→Prop)(S:List Sp)(HR:Nat→List Value→Heap→Prop)(hd:List (List Nat))(W:Env)(Hc:Heap):List Nat→Prop
  | []=>True
  | i::l=>(cond (Xq S i) (ObE2 C ops Q S HR hd W Hc i) (ObQ C ops Q S W Hc i))∧ObsG2 C ops Q S HR hd W Hc l
theorem Zd9 {S:List Sp}{HR:Nat→List Value→Heap→Prop}{hd:List (List Nat)}{W:Env}{Hc:Heap}:∀ {l:List Nat},ObsG2 C ops Q S HR hd W Hc l→ObsG3 C ops Q S HR hd [] W Hc l
 | [],_=>trivial
 | _::_,⟨h1,h2⟩=>⟨h1,Zd9 h2⟩
theorem T.drawG2 {id:Nat}(S:List Sp)(HR:Nat→List Value→Heap→Prop)(hd:List (List Nat))(hb0 Hc:Heap)
    (hm:C.P.follows .mixedOrders=true)(hb:Kf ops=true)(ht:Np ops S.length=true)(hgood:Rh ops S hd=true)(hms:Nat.ble S.length ops.size=true)
    (hn:Gq (Uq ops (List.range S.length))=true)(h0:HR 0 [] hb0)(hH:Pick (hb0++Hc) H)
    (obs:ObsG2 C ops Q S HR hd (wo (Uq ops (List.range S.length)) E) Hc (List.range S.length))
    (k:∀ (vs:Nat→Value) (es:Nat→Heap) (hb:Heap),Ju S vs es (List.range S.length)→HR ((List.range S.length).filter (Xq S)).length ((hd.getD ((List.range S.length).filter (Xq S)).length []).map vs) hb →
      TO C ops Q (List.range' S.length (ops.size-S.length)) (Vj ops vs (List.range S.length)++wo (Uq ops (List.range S.length)) E) (hb++(Hc++Wq es ((List.range S.length).filter fun j=>!Gg S j)))) :
    T C (.region id ops true) Q E H:=Z9u S HR hd [] hb0 Hc hm hb ht hgood hms hn rfl trivial h0 hH (Zd9 obs) k
theorem Z9a {id:Nat}(S:List Sp)(sl:List Nat)(m:Nat)(HR:Nat→List Value→Heap→Prop)(hd:List (List Nat))(hb0 Hc:Heap)
    (hm:C.P.follows .mixedOrders=true)(hsm:S.length=m)(hsl:Uq ops (List.range m)=sl)(hb:Kf ops=true)(ht:Np ops m=true)(hgood:Rh ops S hd=true)(hms:Nat.ble m ops.size=true)
    (hn:Gq sl=true)(h0:HR 0 [] hb0)(hH:Pick (hb0++Hc) H)
    (obs:ObsG2 C ops Q S HR hd (wo sl E) Hc (List.range m))
    (k:∀ (vs:Nat→Value) (es:Nat→Heap) (hb:Heap),Ju S vs es (List.range m)→HR ((List.range m).filter (Xq S)).length ((hd.getD ((List.range m).filter (Xq S)).length []).map vs) hb →
      TO C ops Q (List.range' m (ops.size-m)) (Vj ops vs (List.range m)++wo sl E) (hb++(Hc++Wq es ((List.range m).filter fun j=>!Gg S j)))) :
    T C (.region id ops true) Q E H:=by
  subst hsm;subst hsl
  exact T.drawG2 S HR hd hb0 Hc hm hb ht hgood hms hn h0 hH obs k
theorem X.obE2 {S:List Sp}{HR:Nat→List Value→Heap→Prop}{W Es B B':Env}{Hc Hx:Heap}{i k:Nat}{vl:List Value}{F:Value→List Value}{De hb' H':Heap}(hs:Yq ops i=none)(hr:Un S i vl undef [])(hh:HR k (F undef) hb')
    (hH:Pick (hb'++(Hc++(De++Hx))) H')(hB:B=B') :
    X C (fun e a w=>match e with
      | .normal=>∃ v hb' e',Un S i vl v e'∧HR k (F v) hb'∧Fits C.n C.D (Ja (Yq ops i) v (B++(W++Es))) a∧Inv C.w0 C.M w (hb'++(Hc++(e'++(De++Hx))))
      | e=>Q e a w) .normal (B'++(W++Es)) H':=by
  subst hB
  exact fun _ _ hf hi=>⟨undef,hb',[],hr,hh,by rw [hs];exact hf,hi.pick hH⟩
theorem X.obEd2 {S:List Sp}{HR:Nat→List Value→Heap→Prop}{W Es B B':Env}{Hc Hx:Heap}{i k d:Nat}{v:Value}{vl:List Value}{F:Value→List Value}{De hb' H':Heap}(hs:Yq ops i=some d)(hr:Un S i vl v [])(hh:HR k (F v) hb')
    (hH:Pick (hb'++(Hc++(De++Hx))) H')(hB:B=B') :
    X C (fun e a w=>match e with
      | .normal=>∃ v hb' e',Un S i vl v e'∧HR k (F v) hb'∧Fits C.n C.D (Ja (Yq ops i) v (B++(W++Es))) a∧Inv C.w0 C.M w (hb'++(Hc++(e'++(De++Hx))))
      | e=>Q e a w) .normal ((d,v)::(B'++(W++Es))) H':=by
  subst hB
  exact fun _ _ hf hi=>⟨v,hb',[],hr,hh,by rw [hs];exact hf,hi.pick hH⟩
theorem Z7p {S:List Sp}{HR:Nat→List Value→Heap→Prop}{W Es B B':Env}{Hc Hx:Heap}{i k d:Nat}{v:Value}{vl:List Value}{F:Value→List Value}{De hb' e' H':Heap}(hs:Yq ops i=some d)(hr:Un S i vl v e')(hh:HR k (F v) hb')
    (hH:Pick (hb'++(Hc++(e'++(De++Hx)))) H')(hB:B=B') :
    X C (fun e a w=>match e with
      | .normal=>∃ v hb' e',Un S i vl v e'∧HR k (F v) hb'∧Fits C.n C.D (Ja (Yq ops i) v (B++(W++Es))) a∧Inv C.w0 C.M w (hb'++(Hc++(e'++(De++Hx))))
      | e=>Q e a w) .normal ((d,v)::(B'++(W++Es))) H':=by
  subst hB
  exact fun _ _ hf hi=>⟨v,hb',e',hr,hh,by rw [hs];exact hf,hi.pick hH⟩
end
end Go.Acq
namespace Go.Acq
open Go Go.RowKit
structure Qu {α:Type}(ob:Option Nat)(base:Option Addr)(n c:Nat)(xs ys:List α)(N C:Nat):Prop where
  ex:∃ o,o+n=N∧o+c=C∧xs=ys.drop o∧(0<c→base=(sb ob).map (·.add o))
section
variable {α : Type} {ob : Option Nat} {base : Option Addr} {n c N C : Nat} {xs ys : List α} {w w0 : World} {M M' : List Nat} {H Hm R : Heap} {f : α → List Value} {j : List Value} {T' : TypeId} {fr : Nat × Nat}
theorem Qu.len (h:Qu ob base n c xs ys N C)(hn:ys.length=N):xs.length=n:=by
 obtain ⟨o,h1,_,rfl,_⟩:=h.ex
 rw [List.length_drop];omega
theorem Qu.le (h:Qu ob base n c xs ys N C)(hc:N≤C):n≤c:=by
 obtain ⟨o,h1,h2,_,_⟩:=h.ex
 omega
theorem Zge (ob:Option Nat):(sb ob).map (·.add 0)=sb ob:=by cases ob <;> rfl
theorem Qu.self (ob:Option Nat)(ys:List α)(N C:Nat):Qu ob (sb ob) N C ys ys N C:=⟨0,by omega,by omega,rfl,fun _=>(Zge ob).symm⟩
theorem Qu.drop (h:Qu ob base n c xs ys N C){p:Int}(hp:0≤p∧p≤(xs.length:Int))(hn:ys.length=N)(hc:N≤C):Qu ob (Us base p.toNat c 1) (n-p.toNat) (c-p.toNat) (xs.drop p.toNat) ys N C:=by
 have hl:=h.len hn
 have hle:=h.le hc
 obtain ⟨o,h1,h2,rfl,h4⟩:=h.ex
 refine ⟨o+p.toNat,by omega,by omega,by rw [List.drop_drop],fun h5=>?_⟩
 unfold Us
 rw [if_neg (by omega),h4 (by omega)]
 cases ob with
 | none=>rfl
 | some b=>simp [Addr.add_lit]
theorem Qu.nil (h:Qu ob base n c xs ys N C)(hc:N≤C)(hz:ob=none→C=0):base=none→n=0:=by
 intro hb
 have hle:=h.le hc
 obtain ⟨o,h1,h2,rfl,h4⟩:=h.ex
 rcases Nat.eq_zero_or_pos c with h0 | h0
 ·omega
 ·
  have:=h4 h0
  rw [hb] at this
  cases ob with
  | none=>have:=hz rfl;omega
  | some b=>cases this
theorem Qu.rsM (h:Qu ob base n c xs ys N C)(hi:Inv w0 M w H)(hf:∀ x,(f x).length=1)(hp:List.Perm H (Hm++R))(hM:Hm.filterMap (·.1)=M')(hm:(ob,Obj.cells (arr f ys j).toArray T' fr)∈R)(hn:ys.length=N)(hc:N≤C)(hz:ob=none→C=0):RS w M' f 1 base n c xs:=by
 have hl:=h.len hn
 have hle:=h.le hc
 have h9:=h.nil hc hz
 have hr:=hi.rsM hf hp hM hm hn hc hz
 obtain ⟨o,h1,h2,rfl,h4⟩:=h.ex
 rcases Nat.eq_zero_or_pos c with h0 | h0
 ·
  have hn0:n=0:=by omega
  subst hn0
  have hx:ys.drop o=[]:=List.eq_nil_of_length_eq_zero hl
  rw [hx]
  exact ⟨⟨rfl,fun _=>rfl,hf,fun o c h=>by simp at h⟩,fun _ _ h=>by omega,by omega⟩
 ·
  have h5:=hr.drop (p:=(o:Int)) ⟨Int.natCast_nonneg o,by omega⟩
  rw [Int.toNat_natCast] at h5
  unfold Us at h5
  rw [if_neg (by omega),Nat.mul_one,←h4 h0,show N-o=n by omega,show C-o=c by omega] at h5
  exact h5
theorem Qu.rs (h:Qu ob base n c xs ys N C)(hi:Inv w0 M w H)(hf:∀ x,(f x).length=1)(hm:(ob,Obj.cells (arr f ys j).toArray T' fr)∈H)(hn:ys.length=N)(hc:N≤C)(hz:ob=none→C=0):RS w [] f 1 base n c xs :=
 h.rsM hi hf (Hm:=[]) (R:=H) (List.Perm.refl _) rfl hm hn hc hz
end
section quiet
variable {C : Cx} {ops : Array Oper} {Q : Act → Prop} {l : List Nat} {E : Env} {H R : Heap} {i d : Nat} {ty : TypeId} {pos : String} {af : Array Edge} {g : Option (Nat × Bool)}
theorem TQ.ldIQ {t T':TypeId}{x:Operand}{base:Option Addr}{n c N K:Nat}{k:IntKind}{p:Int}{xs ys:List Int}{ob:Option Nat}{j:List Value}{fr:Nat×Nat}(hr:Qu ob base n c xs ys N K)(hn:ys.length=N)(hc:N≤K)(hz:ob=none→K=0)(hp:inb p xs.length)
    (ho:ops[i]?=some ⟨some d,.load t x,ty,pos,af,g⟩)(hg:Zr ops E g=true)(hd:Nat.ble (d+1) C.n=true)
    (hx:ev E x=some (.pointer (some (ea base (p.toNat*1)))))(hT:Xi C.P t=true)(hm:(ob,Obj.cells (arr (intC k) ys j).toArray T' fr)∈H)
    (kk:TQ C ops Q l ((d,.int k (xs.getD p.toNat 0))::E) H):TQ C ops Q (i::l) E H :=
  TQ.load ho hg hd hx hT (fun w hi=>by
    have:=(hr.rs hi (fun _=>rfl) hm hn hc hz).ro.at 0 (o:=p.toNat) (c:=0) (Ub hp) (by omega)
    simpa using this) kk
end quiet
section rules
variable {C : Cx} {ops : Array Oper} {Q : Exit → Act → World → Prop} {l : List Nat} {E : Env} {H R : Heap} {i d : Nat} {ty : TypeId} {pos : String} {af : Array Edge} {g : Option (Nat × Bool)}
theorem TO.ixQ {α:Type}{xs ys:List α}{ob:Option Nat}{t e:TypeId}{x y:Operand}{base:Option Addr}{n c N K:Nat}{k:IntKind}{p:Int}(hr:Qu ob base n c xs ys N K)(hn:ys.length=N)(hc:N≤K)(hz:ob=none→K=0)(hp:inb p xs.length)
    (q0_:ops[i]?=some ⟨some d,.indexAddr t x y,ty,pos,af,g⟩∧Zr ops E g=true∧Nat.ble (d+1) C.n=true∧ev E x=some (.slice base n c)∧ev E y=some (.int k p))(ht:Yk C.P t=some e)(hs:Yh C.P e=some 1)
    (kk:TO C ops Q l ((d,.pointer (some (ea base (p.toNat*1))))::E) H):TO C ops Q (i::l) E H:=have ⟨ho,hg,hd,hx,hy⟩:=q0_;
  Z8l ho hg hd hx hy ht hs (hr.nil hc hz) hp.1 (by have:=hp.2;rw [hr.len hn] at this;exact this) kk
theorem TO.ldIQ {t T':TypeId}{x:Operand}{base:Option Addr}{n c N K:Nat}{k:IntKind}{p:Int}{xs ys:List Int}{ob:Option Nat}{j:List Value}{fr:Nat×Nat}(hr:Qu ob base n c xs ys N K)(hn:ys.length=N)(hc:N≤K)(hz:ob=none→K=0)(hp:inb p xs.length)
    (q0_:ops[i]?=some ⟨some d,.load t x,ty,pos,af,g⟩∧Zr ops E g=true∧Nat.ble (d+1) C.n=true∧ev E x=some (.pointer (some (ea base (p.toNat*1)))))(hT:Xi C.P t=true)(hm:(ob,Obj.cells (arr (intC k) ys j).toArray T' fr)∈H)
    (kk:TO C ops Q l ((d,.int k (xs.getD p.toNat 0))::E) H):TO C ops Q (i::l) E H:=have ⟨ho,hg,hd,hx⟩:=q0_;
  TO.load ho hg hd hx hT (fun w hi=>by
    have:=(hr.rs hi (fun _=>rfl) hm hn hc hz).ro.at 0 (o:=p.toNat) (c:=0) (Ub hp) (by omega)
    simpa using this) kk
theorem Z7z {w:World}{n c:Nat}{e:TypeId}(h:n≤4611686018427387904):grownCap w n c e≤9223372036854775807:=by
 unfold grownCap Question.cut
 have:=Nat.mod_lt (w.tape w.drawn (.appendCap n c e)) (show 0<2^63-n by omega)
 simp only
 omega
theorem Zbt {α:Type}{f:α→List Value}{s by':Nat}{z:Value}{t e:TypeId}{x y:Operand}{ob:Option Nat}{base:Option Addr}{n c m cy:Nat}{xs ys:List α}{j:List Value}
    (hf:∀ x,(f x).length=s)(h1:∀ x,(f x).all (·.oneCell')=true)(hT:ElemT C.P t e s by' z)(hk:apok (xs++ys).length by')
    (q0_:ops[i]?=some ⟨some d,.call ⟨.builtin .append,#[x,y],#[t,t]⟩,ty,pos,af,g⟩∧Zr ops E g=true∧Nat.ble (d+1) C.n=true∧ev E x=some (.slice (sb ob) n c)∧ev E y=some (.slice base m cy))
    (ht:Take (ob,.cells (arr f xs j).toArray e (0,0)) H R)(hn:xs.length=n)(hnc:n≤c)(hj:j.length=(c-n)*s)(h0:ob=none→c=0)(hcm:c≤9223372036854775807)
    (hsrc:∀ w,Inv C.w0 C.M w H→RS w [] f s base m cy ys)
    (kk:∀ (ob':Option Nat) (c':Nat) (j':List Value),n+m≤c'→j'.length=(c'-(n+m))*s→(ob'=none→c'=0)→c'≤9223372036854775807→TO C ops Q l ((d,.slice (sb ob') (n+m) c')::E) ((ob',.cells (arr f (xs++ys) j').toArray e (0,0))::R)) :
    TO C ops Q (i::l) E H:=by
  obtain ⟨ho,hg,hd,hx,hy⟩:=q0_
  by_cases hmm:ys.length=m
  case neg =>
    intro a w _ hi
    exact absurd (hsrc w hi).len hmm
  rw [Ny hn hmm] at hk
  obtain ⟨hroom,hmax⟩:=hk
  refine Kr ho hg (by simp) fun a w hfit hi=>?_
  obtain ⟨ti,hti,hsz⟩:=Jy hT.size
  have hu:=Va hT.slice
  have hz':ti.zero=some z:=by have:=hT.zero;simpa [Yz,hti] using this
  have hb':ti.bytes=by':=by have:=hT.bytes;simpa [Vb,hti] using this
  have hs:=(hsrc w hi).ro
  have hro:=hi.roO hf ht.mem hn (fun e=>by have:=h0 e;omega)
  have hexec:(execOp a.eval ⟨some d,.call ⟨.builtin .append,#[x,y],#[t,t]⟩,ty,pos,af,g⟩).run C.P w=((Builtin.append_ #[t,t] ty #[.slice (sb ob) n c,.slice base m cy]).run C.P w).andThen fun v w'=>.ok (.value v) w':=by
    simp [execOp,resolve,invoke,builtin,hfit.ev hx,hfit.ev hy]
  rw [hexec]
  by_cases hr:n+m≤c
  · cases ob with
    | none =>
      have:=h0 rfl
      subst this
      have hm0:m=0:=by omega
      subst hm0
      have hys:ys=[]:=List.eq_nil_of_length_eq_zero hs.len
      subst hys
      have:(Builtin.append_ #[t,t] ty #[.slice none n 0,.slice base 0 cy]).run C.P w=.ok (.slice none n 0) w:=by
        have hl:=(hs.src hu h1 cy).len w
        have hc:=(hs.src hu h1 cy).cells
        have hn0:n=0:=by omega
        subst hn0
        simp only [List.flatMap_nil] at hc
        simp [Builtin.append_,run_underlying hu,sizeOf,typeInfo,hti,hl,hsz,hc]
      simp only [sb,Option.map_none,this,Result.andThen_ok]
      refine kk none 0 j (by omega) (by omega) (fun _=>rfl) (by omega) _ _ (hfit.put hd _) ?_
      rw [List.append_nil]
      exact hi.perm ht
    | some b =>
      have hb:=hi.own b _ ht.mem
      have hlen:(arr f xs j).length=c*s:=by
        simp only [arr,List.length_append,Kc hf,hj,hn]
        rw [←Nat.add_mul];congr 1;omega
      have hnews:(ys.flatMap f).length=m*s:=by rw [Kc hf,hs.len]
      have hfit2:n*s+(ys.flatMap f).length≤(arr f xs j).toArray.size:=by
        rw [hnews,List.size_toArray,hlen,←Nat.add_mul];exact Nat.mul_le_mul_right s hr
      have hall:=(hs.src hu h1 cy).one
      have hcell:∀ q,q<(ys.flatMap f).length→(w.cell? ⟨b,0+n*ti.size+q,none⟩).isSome=true:=fun q hq=>by
        rw [hsz,Nat.zero_add,hi.cell_own ht.mem,Array.getElem?_eq_getElem (by omega)];rfl
      have hr2:=run_append_room_src (P:=C.P) w t t ty e ti hu hti b 0 n c (.slice base m cy) m (ys.flatMap f) (by rw [hsz];exact hs.src hu h1 cy) hr hcell (fun q _=>hi.frozen_own ht.mem _)
      rw [hsz,Nat.zero_add,Z4p (P:=C.P) hb hfit2 hall] at hr2
      simp only [sb,Option.map_some,hr2,Result.andThen_ok]
      refine kk (some b) c (j.drop (m*s)) hr ?_ (by simp) hcm _ _ (hfit.put hd _) ?_
      ·rw [List.length_drop,hj,←Nat.sub_mul];congr 1;omega
      · have : ((arr f xs j).toArray.toList.take (n * s) ++ ys.flatMap f ++ (arr f xs j).toArray.toList.drop (n * s + (ys.flatMap f).length)).toArray = (arr f (xs ++ ys) (j.drop (m * s))).toArray := by
          have e1:(xs.flatMap f).length=n*s:=by rw [Kc hf,hn]
          simp only [arr,List.flatMap_append]
          rw [hnews]
          congr 1
          rw [←e1,List.take_left',List.drop_append]
          ·simp [e1,List.append_assoc,List.drop_eq_nil_of_le (show (xs.flatMap f).length≤n*s+m*s by omega)]
          ·rfl
        rw [←this]
        exact hi.setRow ht
  · have hold : (Builtin.firstCells ti.size n (.slice (sb ob) n c)).run C.P w.drew = .ok (xs.flatMap f).toArray w.drew := by rw [hsz]; exact hro.drew.first c
    have hg2:=run_append_grow_src (P:=C.P) w t t ty e ti z hu hti hz' (sb ob) n c (xs.flatMap f) hold (.slice base m cy) m (ys.flatMap f) (by rw [hsz];exact hs.src hu h1 cy) (by omega) (by omega) (by
      rw [hb'];exact growslice_fits (by omega) hroom)
    simp only [hg2,Result.andThen_ok]
    have hcap:n+m≤grownCap w (n+m) c e:=by unfold grownCap Question.cut;simp only;omega
    refine kk (some w.heap.size) (grownCap w (n+m) c e) (Builtin.zeroCells z.cells (grownCap w (n+m) c e-(n+m))).toList hcap (by rw [Array.length_toList,size_zeroCells,hT.zsize]) (by simp) (Z7z hmax) _ _ (hfit.put hd _) ?_
    have e2:((xs.flatMap f++ys.flatMap f).toArray++Builtin.zeroCells z.cells (grownCap w (n+m) c e-(n+m)))=(arr f (xs++ys) (Builtin.zeroCells z.cells (grownCap w (n+m) c e-(n+m))).toList).toArray:=by
      simp only [arr,List.flatMap_append]
      apply Array.ext'
      simp [List.append_assoc]
    rw [e2]
    have h3:=(hi.perm ht).drew.alloc (Obj.cells (arr f (xs++ys) (Builtin.zeroCells z.cells (grownCap w (n+m) c e-(n+m))).toList).toArray e (0,0))
    exact h3.pick (Na (S:=[(ob,.cells (arr f xs j).toArray e (0,0))]) (by
      refine List.Perm.cons _ ?_
      exact (List.perm_append_comm (l₁:=[(ob,Obj.cells (arr f xs j).toArray e (0,0))]) (l₂:=R))))
end rules
end Go.Acq
namespace Go.Acq
open Go Go.RowKit Go.Proofs Go.Shelf
theorem Zdd (xs:List Int)(i:Nat):(xs.flatMap (intC .i64)).drop i=(xs.drop i).flatMap (intC .i64):=by
 induction xs generalizing i with
 | nil=>simp
 | cons x xs ih=>cases i with
  | zero=>rfl
  | succ i=>simpa [intC] using ih i
theorem Zgm (xs:List Int)(i:Nat):(xs.flatMap (intC .i64)).take i=(xs.take i).flatMap (intC .i64):=by
 induction xs generalizing i with
 | nil=>simp
 | cons x xs ih=>cases i with
  | zero=>rfl
  | succ i=>simpa [intC] using ih i
theorem Jv (xs:List Int):(xs.flatMap (intC .i64)).length=xs.length:=by rw [Kc (s:=1) (fun _=>rfl)];omega
theorem Zcy (xs:List Int):∀ v,v∈xs.flatMap (intC .i64)→v.oneCell'=true:=by
 intro v hv
 obtain ⟨x,_,hx⟩:=List.mem_flatMap.1 hv
 have:v=.int .i64 x:=by simpa [intC] using hx
 rw [this];rfl
section
variable {P : Program} {ρ : Ren} {w w0 : World} {M : List Nat} {H R : Heap} {b : Nat} {T : TypeId} {cs : Array Value}
theorem Inv.setCells (P:Program)(h:Inv w0 M w H)(ht:Take (some b,.cells cs T (0,0)) H R){o:Nat}{vs:List Value}(hfit:o+vs.length≤cs.size)(h1:∀ u,u∈vs→u.oneCell'=true) :
    Inv w0 M (w.setCells b o vs) ((some b,.cells (cs.toList.take o++vs++cs.toList.drop (o+vs.length)).toArray T (0,0))::R):=by
  rw [Z4p (P:=P) (h.own _ _ ht.mem) hfit h1]
  exact h.setRow ht
theorem Zbv (h:Inv w0 M w H)(hm:(some b,.cells cs T (0,0))∈H):w.shape? b=some (T,cs.size):=by
 have:=h.own _ _ hm
 simp [World.shape?,this]
theorem Zci (ys:List Int)(j:List Value):(arr (intC .i64) ys j).toArray.size=ys.length+j.length:=by
 rw [List.size_toArray,arr,List.length_append,Jv]
theorem ins_list {α:Type}(A B D j U:List α){o i m k:Nat}(hA:A.length=o)(hB:B.length=i)(hU:U.length=m)(hk:k=o+i)(hm:m≤j.length) :
    ((((A++B)++(D++j)).take (k+m)++D++((A++B)++(D++j)).drop (k+m+D.length)).take k++U++(((A++B)++(D++j)).take (k+m)++D++((A++B)++(D++j)).drop (k+m+D.length)).drop (k+U.length))
    = (A++B)++U++(D++j.drop m):=by
  have hAB:(A++B).length=k:=by rw [List.length_append];omega
  have h1:((A++B)++(D++j)).take (k+m)=(A++B)++(D++j).take m:=by
    rw [List.take_append,List.take_of_length_le (by omega),hAB,Nat.add_sub_cancel_left]
  have h2:((A++B)++(D++j)).drop (k+m+D.length)=j.drop m:=by
    rw [List.drop_append,List.drop_eq_nil_of_le (by omega),List.nil_append,hAB,show k+m+D.length-k=D.length+m by omega,List.drop_append,List.drop_eq_nil_of_le (by omega),List.nil_append,Nat.add_sub_cancel_left]
  have h3:((D++j).take m).length=m:=by rw [List.length_take,List.length_append];omega
  rw [h1,h2]
  generalize (D++j).take m=t at h3
  generalize j.drop m=j'
  generalize A++B=X at hAB ⊢
  have hY:X++t++D++j'=X++(t++(D++j')):=by simp only [List.append_assoc]
  rw [hY,List.take_left' hAB,List.drop_append,List.drop_eq_nil_of_le (by omega),List.nil_append,hAB,hU,Nat.add_sub_cancel_left,List.drop_left' h3]
theorem ins_grow {α:Type}(A D Z Z' U:List α){p m:Nat}(hA:A.length=p)(hU:U.length=m)(hZ:Z.length=m+D.length) :
    ((A++Z++Z').take p++U++(A++Z++Z').drop (p+U.length)).take (p+m)++D++((A++Z++Z').take p++U++(A++Z++Z').drop (p+U.length)).drop (p+m+D.length)=A++U++D++Z':=by
  have h1:(A++Z++Z').take p=A:=by rw [List.append_assoc,List.take_left' hA]
  have h2:(A++Z++Z').drop (p+U.length)=(Z++Z').drop m:=by
    rw [List.append_assoc,List.drop_append,List.drop_eq_nil_of_le (by omega),List.nil_append,hA,hU,Nat.add_sub_cancel_left]
  have hAU:(A++U).length=p+m:=by rw [List.length_append];omega
  rw [h1,h2,List.take_left' hAU,List.drop_append,List.drop_eq_nil_of_le (by omega),List.nil_append,hAU,Nat.add_sub_cancel_left,List.drop_drop,List.drop_left' hZ]
theorem Zg5 {ys:List Int}{j:List Value}{o i m:Nat}{us:List Int}(ho:o+i≤ys.length)(hm:us.length=m)(hj:m≤j.length) :
    (((arr (intC .i64) ys j).take (o+(i+m))++((ys.drop o).flatMap (intC .i64)).drop i++(arr (intC .i64) ys j).drop (o+(i+m)+(((ys.drop o).flatMap (intC .i64)).drop i).length)).take (o+i)++us.flatMap (intC .i64) ++
      ((arr (intC .i64) ys j).take (o+(i+m))++((ys.drop o).flatMap (intC .i64)).drop i++(arr (intC .i64) ys j).drop (o+(i+m)+(((ys.drop o).flatMap (intC .i64)).drop i).length)).drop (o+i+(us.flatMap (intC .i64)).length))
    = arr (intC .i64) (ys.take o++((ys.drop o).take i++us++(ys.drop o).drop i)) (j.drop m):=by
  have hY:arr (intC .i64) ys j=((ys.take o).flatMap (intC .i64)++((ys.drop o).take i).flatMap (intC .i64))++(((ys.drop o).drop i).flatMap (intC .i64)++j):=by
    show ys.flatMap (intC .i64)++j=_
    rw [←List.append_assoc,←List.flatMap_append,←List.flatMap_append,List.append_assoc,List.take_append_drop,List.take_append_drop]
  rw [Zdd,hY,←Nat.add_assoc]
  have:=ins_list ((ys.take o).flatMap (intC .i64)) (((ys.drop o).take i).flatMap (intC .i64)) (((ys.drop o).drop i).flatMap (intC .i64)) j (us.flatMap (intC .i64)) (o:=o) (i:=i) (m:=m) (k:=o+i)
    (by rw [Jv,List.length_take];omega) (by rw [Jv,List.length_take,List.length_drop];omega) (by rw [Jv,hm]) rfl hj
  rw [this]
  simp only [arr,List.flatMap_append,List.append_assoc]
def InsP (T:TypeId)(r us:List Int)(b2:Nat)(j2:List Value)(v:Value)(N:Heap):Prop :=
  ∃ (base':Option Addr) (n' c':Nat) (ob':Option Nat) (N' C':Nat) (ys':List Int) (j':List Value),v=.slice base' n' c' ∧
    N=[(ob',.cells (arr (intC .i64) ys' j').toArray T (0,0)),(some b2,.cells (arr (intC .i64) us j2).toArray T (0,0))]∧Qu ob' base' n' c' r ys' N' C'∧ys'.length=N'∧N'≤C'∧j'.length=(C'-N')*1∧(ob'=none→C'=0)∧C'≤9223372036854775807
theorem Zcg {xs:List Int}{n:Nat}{base:Option Addr}(h:RO w (intC .i64) 1 base n xs){a:Addr}(ha:base=some a):∀ j v,(xs.flatMap (intC .i64))[j]?=some v→w.cell? (a.add j)=some v:=by
 intro j v hj
 have:=h.cells j v hj
 rw [ha] at this
 exact this
theorem Zgx (L:Lays2.n21 P ρ)(w:World){M:List Nat}{ob:Option Nat}{base:Option Addr}{n c N C:Nat}{xs ys:List Int}{j:List Value}{i:Int}{us:List Int}{b2 c2:Nat}{j2:List Value}{r:List Int}
    (hin:Inv w M w [(ob,.cells (arr (intC .i64) ys j).toArray (ρ.t 3) (0,0)),(some b2,.cells (arr (intC .i64) us j2).toArray (ρ.t 3) (0,0))])
    (hQ:Qu ob base n c xs ys N C)(hn:ys.length=N)(hc:N≤C)(hj:j.length=(C-N)*1)(hz:ob=none→C=0)(hC:C≤9223372036854775807)
    (hi0:0≤i)(hi1:i≤(xs.length:Int))(hm:0<us.length)(hap:apok (xs++us).length 8)(hr9:r=xs.take i.toNat++us++xs.drop i.toNat) :
    Fnc P (ρ.f 21) #[.slice base n c,.int .i64 i,.slice (some ⟨b2,0,none⟩) us.length c2] w M (InsP (ρ.t 3) r us b2 j2):=by
  subst hr9
  have hl:=hQ.len hn
  have hle:=hQ.le hc
  have hnil:=hQ.nil hc hz
  have hR:=hQ.rs hin (fun _=>rfl) (.head _) hn hc hz
  obtain ⟨p,rfl⟩:∃ p:Nat,i=(p:Int):=⟨i.toNat,(Int.toNat_of_nonneg hi0).symm⟩
  rw [Int.toNat_natCast]
  rw [List.length_append] at hap
  obtain ⟨hap1,hap2⟩:=hap
  have hm2:(some b2,Obj.cells (arr (intC .i64) us j2).toArray (ρ.t 3) (0,0))∈[(ob,Obj.cells (arr (intC .i64) ys j).toArray (ρ.t 3) (0,0)),(some b2,Obj.cells (arr (intC .i64) us j2).toArray (ρ.t 3) (0,0))]:=.tail _ (.head _)
  have hvs:∀ q v,(us.flatMap (intC .i64))[q]?=some v→w.cell? ⟨b2,0+q,none⟩=some v:=fun q v hq=>by
    rw [Nat.zero_add,hin.cell_own hm2]
    rw [List.getElem?_toArray,arr,List.getElem?_append_left (List.getElem?_eq_some_iff.1 hq).1];exact hq
  have hcl:=Jv xs
  have hvl:=Jv us
  have h1c:=Zcy xs
  have h1v:=Zcy us
  by_cases hend:p=n
  · subst hend
    by_cases hr:p+us.length≤c
    · -- there is room at the end
      obtain ⟨o,ho1,ho2,rfl,ho4⟩:=hQ.ex
      have hb:=ho4 (by omega)
      cases ob with
      | none=>have:=hz rfl;omega
      | some b =>
        simp only [sb,Option.map_some,Addr.add_lit,Nat.zero_add] at hb
        subst hb
        have hhd:(some b,Obj.cells (arr (intC .i64) ys j).toArray (ρ.t 3) (0,0))∈[(some b,Obj.cells (arr (intC .i64) ys j).toArray (ρ.t 3) (0,0)),(some b2,Obj.cells (arr (intC .i64) us j2).toArray (ρ.t 3) (0,0))]:=.head _
        have hsz:=Zci ys j
        refine Calls.mono (Any2.slices_Insert_int_end_room L b o p c b2 0 us.length c2 (us.flatMap (intC .i64)) w hm hr (by omega) hvl (fun q hq=>?_) (fun q _=>hin.frozen_own hhd _) hvs h1v) ?_
        ·rw [hin.cell_own hhd,Array.getElem?_eq_getElem (by rw [hsz];omega)];rfl
        · rintro e w' ⟨rfl, rfl⟩
          have h5:=hin.setCells P (Take.head _ _) (o:=o+p) (vs:=us.flatMap (intC .i64)) (by rw [hsz,hvl];omega) h1v
          refine ⟨_,_,⟨some ⟨b,o,none⟩,p+us.length,c,some b,N+us.length,C,ys++us,j.drop us.length,rfl,rfl,⟨o,by omega,by omega,?_,fun _=>by simp [sb,Addr.add_lit]⟩,by rw [List.length_append];omega,by omega,by rw [List.length_drop];omega,(fun e=>by cases e),hC⟩,rfl,?_⟩
          ·rw [List.take_of_length_le (by omega),List.drop_eq_nil_of_le (show (ys.drop o).length≤p by omega),List.append_nil,List.drop_append_of_le_length (by omega)]
          · have e1 : ((arr (intC .i64) ys j).toArray.toList.take (o + p) ++ us.flatMap (intC .i64) ++ (arr (intC .i64) ys j).toArray.toList.drop (o + p + (us.flatMap (intC .i64)).length)).toArray = (arr (intC .i64) (ys ++ us) (j.drop us.length)).toArray := by
              have e2:=Jv ys
              simp only [arr,List.flatMap_append]
              rw [hvl,List.take_left' (by omega),List.drop_append,List.drop_eq_nil_of_le (by omega),List.nil_append,e2,show o+p+us.length-ys.length=us.length by omega]
            rw [←e1];exact h5
    · -- a new row
      refine Calls.mono (Any2.slices_Insert_int_end_grow L base p c b2 0 us.length c2 (xs.flatMap (intC .i64)) (us.flatMap (intC .i64)) w hm hle (by omega) (by omega) (by omega) hvl hnil (fun a ha=>Zcg hR.ro ha) hvs h1v) ?_
      rintro e w' ⟨rfl,rfl⟩
      have hcap:p+us.length≤grownCap w (p+us.length) c (ρ.t 3):=by unfold grownCap Question.cut;simp only;omega
      refine ⟨_,_,⟨_,p+us.length,grownCap w (p+us.length) c (ρ.t 3),some w.heap.size,p+us.length,grownCap w (p+us.length) c (ρ.t 3),xs++us,(Builtin.zeroCells (Value.int .i64 0).cells (grownCap w (p+us.length) c (ρ.t 3)-(p+us.length))).toList,rfl,rfl,?_,by rw [List.length_append];omega,hcap,by rw [Array.length_toList,size_zeroCells];rfl,(fun e=>by cases e),Z7z (by omega)⟩,rfl,?_⟩
      · rw [List.take_of_length_le (by omega), List.drop_eq_nil_of_le (by omega), List.append_nil]
        exact Qu.self (some w.heap.size) (xs++us) _ _
      · have e2 : ((xs.flatMap (intC .i64) ++ us.flatMap (intC .i64)).toArray ++ Builtin.zeroCells (Value.int .i64 0).cells (grownCap w (p + us.length) c (ρ.t 3) - (p + us.length))) = (arr (intC .i64) (xs ++ us) (Builtin.zeroCells (Value.int .i64 0).cells (grownCap w (p + us.length) c (ρ.t 3) - (p + us.length))).toList).toArray := by
          simp only [arr,List.flatMap_append]
          apply Array.ext'
          simp [List.append_assoc]
        rw [e2]
        exact (hin.drew.alloc _).pick (Zd (Take.head _ _) (Zd (Take.tail (Take.head _ _)) Zg))
  · have hpn : p < n := by omega
    obtain ⟨o,ho1,ho2,rfl,ho4⟩:=hQ.ex
    have hb:=ho4 (by omega)
    cases ob with
    | none=>have:=hz rfl;omega
    | some b =>
      simp only [sb,Option.map_some,Addr.add_lit,Nat.zero_add] at hb
      subst hb
      have hhd:(some b,Obj.cells (arr (intC .i64) ys j).toArray (ρ.t 3) (0,0))∈[(some b,Obj.cells (arr (intC .i64) ys j).toArray (ρ.t 3) (0,0)),(some b2,Obj.cells (arr (intC .i64) us j2).toArray (ρ.t 3) (0,0))]:=.head _
      have hsz:=Zci ys j
      have hcs:∀ q v,((ys.drop o).flatMap (intC .i64))[q]?=some v→w.cell? ⟨b,o+q,none⟩=some v:=fun q v hq=>by
        have:=Zcg hR.ro rfl q v hq
        rwa [Addr.add_lit] at this
      have hbb:b2≠b:=by
        have:=hin.apart
        simp only [List.filterMap_cons,List.filterMap_nil,List.nodup_cons,List.mem_singleton] at this
        exact fun e=>this.1 e.symm
      by_cases hr:n+us.length≤c
      · refine Calls.mono (Any2.slices_Insert_int_shift L b o n c p b2 0 us.length c2 ((ys.drop o).flatMap (intC .i64)) (us.flatMap (intC .i64)) w hpn hm hr (by omega) hbb (by rw [Jv]; exact hl) hvl hcs (fun q hq => ?_) (fun q _ => hin.frozen_own hhd _) hvs h1c h1v _ _ _ _ (Zbv hin hm2) (Zbv hin hhd) (by rw [hsz]; omega) (hin.frozen_own hm2 _) (hin.frozen_own hm2 _)) ?_
        ·rw [hin.cell_own hhd,Array.getElem?_eq_getElem (by rw [hsz];omega)];rfl
        · rintro e w' ⟨rfl, rfl⟩
          have hdl:(((ys.drop o).flatMap (intC .i64)).drop p).length=n-p:=by rw [List.length_drop,Jv];omega
          have h5:=hin.drew.setCells P (Take.head _ _) (o:=o+(p+us.length)) (vs:=((ys.drop o).flatMap (intC .i64)).drop p) (by rw [hsz,hdl];omega) (fun v hv=>h1c v (List.mem_of_mem_drop hv))
          have hsz2:(arr (intC .i64) ys j).toArray.toList.length=ys.length+j.length:=by rw [Array.length_toList];exact hsz
          have h6:=h5.setCells P (Take.head _ _) (o:=o+p) (vs:=us.flatMap (intC .i64)) (by
            rw [List.size_toArray,List.length_append,List.length_append,List.length_take,hdl,hvl,List.length_drop,hsz2];omega) h1v
          refine ⟨_,_,⟨some ⟨b,o,none⟩,n+us.length,c,some b,N+us.length,C,ys.take o++((ys.drop o).take p++us++(ys.drop o).drop p),j.drop us.length,rfl,rfl,⟨o,by omega,by omega,?_,fun _=>by simp [sb,Addr.add_lit]⟩,?_,by omega,by rw [List.length_drop];omega,(fun e=>by cases e),hC⟩,rfl,?_⟩
          ·rw [List.drop_left' (by rw [List.length_take];omega)]
          ·simp only [List.length_append,List.length_take,List.length_drop];omega
          · rw [← Zg5 (by omega) rfl (by omega)]
            exact h6
      · refine Calls.mono (Any2.slices_Insert_int_grow L b o n c p b2 0 us.length c2 ((ys.drop o).flatMap (intC .i64)) (us.flatMap (intC .i64)) w hpn hm hle (by omega) (by omega) (by rw [Jv]; exact hl) hvl hcs hvs h1c h1v) ?_
        rintro e w' ⟨rfl,rfl⟩
        have hcap:n+us.length≤grownCap w (n+us.length) c (ρ.t 3):=by unfold grownCap Question.cut;simp only;omega
        obtain ⟨G,hG⟩:∃ G,G=grownCap w (n+us.length) c (ρ.t 3):=⟨_,rfl⟩
        have hGm:G≤9223372036854775807:=by rw [hG];exact Z7z (by omega)
        rw [←hG] at hcap ⊢
        have hzl:∀ k,(Builtin.zeroCells (Value.int .i64 0).cells k).toList.length=k:=fun k=>by rw [Array.length_toList,size_zeroCells];exact Nat.mul_one k
        have hdl:(((ys.drop o).flatMap (intC .i64)).drop p).length=n-p:=by rw [List.length_drop,Jv];omega
        have htl:(((ys.drop o).flatMap (intC .i64)).take p).length=p:=by rw [List.length_take,Jv];omega
        have h0:=hin.alloc (.cells ((((ys.drop o).flatMap (intC .i64)).take p).toArray++Builtin.zeroCells (Value.int .i64 0).cells (n+us.length-p)++Builtin.zeroCells (Value.int .i64 0).cells (G-(n+us.length))) (ρ.t 3))
        have hsz0:((((ys.drop o).flatMap (intC .i64)).take p).toArray++Builtin.zeroCells (Value.int .i64 0).cells (n+us.length-p)++Builtin.zeroCells (Value.int .i64 0).cells (G-(n+us.length))).size=p+(n+us.length-p)+(G-(n+us.length)):=by
          rw [Array.size_append,Array.size_append,List.size_toArray,htl,size_zeroCells,size_zeroCells]
          show p+_*1+_*1=_
          rw [Nat.mul_one,Nat.mul_one]
        have h1:=h0.drew.setCells P (Take.head _ _) (o:=p) (vs:=us.flatMap (intC .i64)) (by rw [hsz0,hvl];omega) h1v
        have h2:=h1.drew.setCells P (Take.head _ _) (o:=p+us.length) (vs:=((ys.drop o).flatMap (intC .i64)).drop p) (by
          have hs0:((((ys.drop o).flatMap (intC .i64)).take p).toArray++Builtin.zeroCells (Value.int .i64 0).cells (n+us.length-p)++Builtin.zeroCells (Value.int .i64 0).cells (G-(n+us.length))).toList.length=p+(n+us.length-p)+(G-(n+us.length)):=by rw [Array.length_toList];exact hsz0
          rw [List.size_toArray,List.length_append,List.length_append,List.length_take,hdl,hvl,List.length_drop,hs0];omega) (fun v hv=>h1c v (List.mem_of_mem_drop hv))
        refine ⟨_,_,⟨_,n+us.length,G,some w.heap.size,n+us.length,G,(ys.drop o).take p++us++(ys.drop o).drop p,(Builtin.zeroCells (Value.int .i64 0).cells (G-(n+us.length))).toList,rfl,rfl,Qu.self (some w.heap.size) _ _ _,?_,hcap,by rw [hzl];omega,(fun e=>by cases e),hGm⟩,rfl,?_⟩
        ·simp only [List.length_append,List.length_take,List.length_drop];omega
        · have key := ins_grow (((ys.drop o).flatMap (intC .i64)).take p) (((ys.drop o).flatMap (intC .i64)).drop p) (Builtin.zeroCells (Value.int .i64 0).cells (n + us.length - p)).toList (Builtin.zeroCells (Value.int .i64 0).cells (G - (n + us.length))).toList (us.flatMap (intC .i64)) (p := p) (m := us.length) htl hvl (by rw [hzl, hdl]; omega)
          have e1:(arr (intC .i64) ((ys.drop o).take p++us++(ys.drop o).drop p) (Builtin.zeroCells (Value.int .i64 0).cells (G-(n+us.length))).toList)=((ys.drop o).flatMap (intC .i64)).take p++us.flatMap (intC .i64)++((ys.drop o).flatMap (intC .i64)).drop p++(Builtin.zeroCells (Value.int .i64 0).cells (G-(n+us.length))).toList:=by
            rw [Zgm,Zdd];simp only [arr,List.flatMap_append]
          rw [e1,←key]
          have e3:((((ys.drop o).flatMap (intC .i64)).take p).toArray++Builtin.zeroCells (Value.int .i64 0).cells (n+us.length-p)++Builtin.zeroCells (Value.int .i64 0).cells (G-(n+us.length))).toList=((ys.drop o).flatMap (intC .i64)).take p++(Builtin.zeroCells (Value.int .i64 0).cells (n+us.length-p)).toList++(Builtin.zeroCells (Value.int .i64 0).cells (G-(n+us.length))).toList:=by simp
          rw [e3] at h2
          exact h2.pick (Zd (Take.head _ _) (Zd (Take.tail (Take.head _ _)) Zg))
end
end Go.Acq
namespace Go.Acq
open Go Go.RowKit
section
variable {C : Cx} {ops : Array Oper} {Q : Exit → Act → World → Prop} {E : Env} {H : Heap}
end
end Go.Acq
namespace Go.Acq
open Go Go.RowKit
structure RowB where
  ob:Option Nat
  xs:List Int
  n:Nat
  c:Nat
  j:List Value
instance:Inhabited RowB:=⟨⟨none,[],0,0,[]⟩⟩
def RowB.ok (r:RowB):Prop:=r.xs.length=r.n∧r.n≤r.c∧r.j.length=(r.c-r.n)*1∧(r.ob=none→r.c=0)
def RowB.sm (r:RowB):SM:=(sb r.ob,r.n,r.c)
def RowB.ent (T:TypeId)(r:RowB):Option Nat×Obj:=(r.ob,.cells (arr (intC .i64) r.xs r.j).toArray T (0,0))
def Wu (T:TypeId)(L:List RowB):Heap:=L.map (RowB.ent T)
structure Fam (L:List RowB)(xss:List (List Int))(n:Nat):Prop where
  xs:L.map RowB.xs=xss
  ok:∀ r,r∈L→r.ok
  len:xss.length=n
theorem Zdw {ob:Option Nat}{xs:List Int}{n c:Nat}{j:List Value}(h1:xs.length=n)(h2:n≤c)(h3:j.length=(c-n)*1)(h4:ob=none→c=0):RowB.ok ⟨ob,xs,n,c,j⟩:=⟨h1,h2,h3,h4⟩
theorem RowB.ok0:(default:RowB).ok:=⟨rfl,Nat.le_refl _,rfl,fun _=>rfl⟩
theorem Fam.replicate (n:Nat):Fam (List.replicate n default) (List.replicate n []) n :=
 ⟨by rw [List.map_replicate];rfl,fun r hr=>by rw [(List.mem_replicate.1 hr).2];exact RowB.ok0,List.length_replicate⟩
theorem Fam.lenL {L:List RowB}{xss:List (List Int)}{n:Nat}(h:Fam L xss n):L.length=n:=by rw [←h.len,←h.xs,List.length_map]
theorem Fam.set {L:List RowB}{xss:List (List Int)}{n p:Nat}{r:RowB}(h:Fam L xss n)(hr:r.ok):Fam (L.set p r) (xss.set p r.xs) n :=
 ⟨by rw [List.map_set,h.xs],fun q hq=>by
  rcases List.mem_or_eq_of_mem_set hq with h1 | rfl
  ·exact h.ok q h1
  ·exact hr,by rw [List.length_set];exact h.len⟩
theorem Zd6 {T:TypeId}:∀ {L:List RowB} {p:Nat} (hp:p<L.length),List.Perm (Wu T L) ((L.getD p default).ent T::Wu T (L.eraseIdx p))
 | [],p,h=>by simp at h
 | r::L,0,_=>List.Perm.refl _
 | r::L,p+1,h=>by
  have:=Zd6 (T:=T) (L:=L) (p:=p) (by simpa using h)
  exact (List.Perm.cons _ this).trans (List.Perm.swap _ _ _)
theorem Zc8 {T:TypeId}{r:RowB}:∀ {L:List RowB} {p:Nat} (hp:p<L.length),List.Perm (Wu T (L.set p r)) (r.ent T::Wu T (L.eraseIdx p))
 | [],p,h=>by simp at h
 | q::L,0,_=>List.Perm.refl _
 | q::L,p+1,h=>by
  have:=Zc8 (T:=T) (r:=r) (L:=L) (p:=p) (by simpa using h)
  exact (List.Perm.cons _ this).trans (List.Perm.swap _ _ _)
theorem Zi5 {T:TypeId}{n:Nat}:∀ x,x∈Wu T (List.replicate n default)→x.1=none:=by
 intro x hx
 obtain ⟨r,hr,rfl⟩:=List.mem_map.1 hx
 rw [(List.mem_replicate.1 hr).2];rfl
section
variable {C : Cx} {Q : Exit → Act → World → Prop} {E : Env} {H : Heap} {e : Exit} {code : Code}
theorem X.addFam {T T2:TypeId}{bo n:Nat}{Es:Heap}(hT:Take (some bo,.cells (arr Wg (List.replicate n (default:SM)) []).toArray T2 (0,0)) H Es)
    (h:X C Q e E ((some bo,.cells (arr Wg ((List.replicate n (default:RowB)).map RowB.sm) []).toArray T2 (0,0))::(Es++Wu T (List.replicate n default)))):X C Q e E H:=fun a w hf hi=>h a w hf (by
  rw [List.map_replicate]
  exact (hi.perm hT).nones Zi5)
theorem Zhj {T:TypeId}{L:List RowB}{xss:List (List Int)}{n p:Nat}{Es:Heap}(hF:Fam L xss n)(hp:p<xss.length)(hH:H=Es++Wu T L)
    (h:∀ (ob:Option Nat) (m c:Nat) (j:List Value),(xss.getD p []).length=m→m≤c→j.length=(c-m)*1→(ob=none→c=0)→(L.map RowB.sm).getD p default=(sb ob,m,c) →
      Acq.T C code Q E ((ob,.cells (arr (intC .i64) (xss.getD p []) j).toArray T (0,0))::(Es++Wu T (L.eraseIdx p)))):Acq.T C code Q E H:=by
  subst hH
  have hpl:p<L.length:=by rw [hF.lenL,←hF.len];exact hp
  have hm:L.getD p default∈L:=by rw [List.getD_eq_getElem?_getD,List.getElem?_eq_getElem hpl];exact List.getElem_mem hpl
  obtain ⟨o1,o2,o3,o4⟩:=hF.ok _ hm
  have hx:xss.getD p []=(L.getD p default).xs:=by
    rw [←hF.xs,List.getD_eq_getElem?_getD,List.getElem?_map,List.getElem?_eq_getElem hpl,List.getD_eq_getElem?_getD,List.getElem?_eq_getElem hpl];rfl
  have hs:(L.map RowB.sm).getD p default=(L.getD p default).sm:=by
    rw [List.getD_eq_getElem?_getD,List.getElem?_map,List.getElem?_eq_getElem hpl,List.getD_eq_getElem?_getD,List.getElem?_eq_getElem hpl];rfl
  intro a w hf hi
  refine h (L.getD p default).ob (L.getD p default).n (L.getD p default).c (L.getD p default).j (by rw [hx];exact o1) o2 o3 o4 hs a w hf (hi.perm ?_)
  rw [hx]
  exact (List.Perm.append_left Es (Zd6 hpl)).trans List.perm_middle
theorem Zha {T T2:TypeId}{L:List RowB}{xss:List (List Int)}{n p bo:Nat}{r:RowB}{Es:Heap}(hF:Fam L xss n)(hp:p<xss.length)
    (hH:Pick (r.ent T::(some bo,.cells (arr Wg ((L.map RowB.sm).set p r.sm) []).toArray T2 (0,0))::(Es++Wu T (L.eraseIdx p))) H)
    (h:X C Q e E ((some bo,.cells (arr Wg ((L.set p r).map RowB.sm) []).toArray T2 (0,0))::(Es++Wu T (L.set p r)))):X C Q e E H:=fun a w hf hi=>h a w hf (by
  have hpl:p<L.length:=by rw [hF.lenL,←hF.len];exact hp
  rw [List.map_set]
  refine (hi.pick hH).perm ?_
  refine (List.Perm.swap _ _ _).trans (List.Perm.cons _ ?_)
  exact List.perm_middle.symm.trans (List.Perm.append_left Es (Zc8 hpl).symm))
def Reb (w0:World)(M:List Nat)(w1:World)(M1:List Nat):Prop:=∀ w N,Inv w1 M1 w N→Inv w0 M w N
theorem Inv.reb {w0 w:World}{M:List Nat}{Es R:Heap}(h:Inv w0 M w (Es++R)):Reb w0 M w (Es.filterMap Prod.fst):=by
 intro w' N g
 have:=(h.left).join (Hm:=Es) (R:=[]) (M':=Es.filterMap Prod.fst) (by simp) (fun m hm=>hm) g
 simpa using this
theorem Zdn {L:List RowB}{i:Nat}(h:i<L.length):(L.map RowB.sm).getD i default=(L.getD i default).sm:=by
 rw [List.getD_eq_getElem?_getD,List.getElem?_map,List.getElem?_eq_getElem h,List.getD_eq_getElem?_getD,List.getElem?_eq_getElem h];rfl
theorem Inv.rw_ {w0 w:World}{M:List Nat}{Es:Heap}{T T2:TypeId}{L:List RowB}{xss:List (List Int)}{n bo:Nat}(hF:Fam L xss n)(h:Inv w0 M w (Es++((some bo,.cells (arr Wg (L.map RowB.sm) []).toArray T2 (0,0))::Wu T L))) :
    RW w (Es.filterMap Prod.fst) (intC .i64) 1 (some ⟨bo,0,none⟩) n n (L.map RowB.sm) xss:=by
  refine ⟨h.rsM (f:=Wg) (s:=1) (ob:=some bo) (fun _=>rfl) (List.Perm.refl _) rfl (.head _) (by rw [List.length_map];exact hF.lenL) (Nat.le_refl _) (fun e=>by cases e),by rw [List.length_map,hF.lenL,hF.len],fun i hi=>?_⟩
  rw [List.length_map] at hi
  have hm:L.getD i default∈L:=by rw [List.getD_eq_getElem?_getD,List.getElem?_eq_getElem hi];exact List.getElem_mem hi
  have hx:xss.getD i []=(L.getD i default).xs:=by
    rw [←hF.xs,List.getD_eq_getElem?_getD,List.getElem?_map,List.getElem?_eq_getElem hi,List.getD_eq_getElem?_getD,List.getElem?_eq_getElem hi];rfl
  obtain ⟨o1,o2,o3,o4⟩:=hF.ok _ hm
  rw [Zdn hi,hx]
  exact h.rsM (f:=intC .i64) (s:=1) (T':=T) (j:=(L.getD i default).j) (fr:=(0,0)) (fun _=>rfl) (List.Perm.refl _) rfl (.tail _ (List.mem_map.2 ⟨_,hm,rfl⟩)) o1 o2 o4
theorem TO.rebase {ops:Array Oper}{l:List Nat}{T T2:TypeId}{L:List RowB}{xss:List (List Int)}{n bo:Nat}{Es Ns R:Heap}(hF:Fam L xss n)(hH:H=Ns++(Wu T L++R))
    (hP:Pick (Es++[(some bo,.cells (arr Wg (L.map RowB.sm) []).toArray T2 (0,0))]) (Ns++R))
    (h:∀ w,Inv C.w0 C.M w (Es++((some bo,.cells (arr Wg (L.map RowB.sm) []).toArray T2 (0,0))::Wu T L))→Reb C.w0 C.M w (Es.filterMap Prod.fst)→RW w (Es.filterMap Prod.fst) (intC .i64) 1 (some ⟨bo,0,none⟩) n n (L.map RowB.sm) xss →
      TO ⟨C.P,C.ρ,C.n,C.D,w,Es.filterMap Prod.fst⟩ ops Q l E Es):TO C ops Q l E H:=by
  subst hH
  intro a w hf hi
  have h1:Inv C.w0 C.M w (Es++((some bo,.cells (arr Wg (L.map RowB.sm) []).toArray T2 (0,0))::Wu T L)):=by
    obtain ⟨S,ns,hn,hS⟩:=hP
    have h2:List.Perm (Ns++(Wu T L++R)) ((Ns++R)++Wu T L):=by
      rw [List.append_assoc];exact List.Perm.append_left Ns List.perm_append_comm
    have h3:=(hi.perm h2).nones hn
    have h4:List.Perm (((Ns++R)++Wu T L)++ns) ((Es++((some bo,.cells (arr Wg (L.map RowB.sm) []).toArray T2 (0,0))::Wu T L))++S):=by
      have h5:List.Perm (((Ns++R)++Wu T L)++ns) (((Ns++R)++ns)++Wu T L):=by
        rw [List.append_assoc (Ns++R),List.append_assoc (Ns++R)];exact List.Perm.append_left _ List.perm_append_comm
      refine h5.trans ((List.Perm.append_right _ hS).trans ?_)
      have h6:((Es++[(some bo,Obj.cells (arr Wg (L.map RowB.sm) []).toArray T2 (0,0))])++S)++Wu T L=Es++([(some bo,Obj.cells (arr Wg (L.map RowB.sm) []).toArray T2 (0,0))]++(S++Wu T L)):=by simp only [List.append_assoc]
      rw [h6,List.append_assoc]
      exact List.Perm.append_left _ (List.Perm.cons _ (List.perm_append_comm (l₁:=S) (l₂:=Wu T L)))
    exact (h3.perm h4).left
  refine h w h1 h1.reb (h1.rw_ hF) a w hf ?_
  have h7:Inv w [] w []:=Inv.refl w
  have h8:=h1.left
  exact ⟨rfl,rfl,rfl,Nat.le_refl _,fun _ _ _=>rfl,h8.own,fun b o hb=>.inr (Nq hb),h8.apart⟩
end
section ends
variable {C : Cx} {E : Env} {H N : Heap}
theorem X.reb {fn:Func}{w0:World}{M:List Nat}{Post:Value→Heap→Prop}(hr:Reb w0 M C.w0 C.M)(h:X C (bodyPost C.P fn (Wb C.w0 C.M Post)) .ret E H):X C (bodyPost C.P fn (Wb w0 M Post)) .ret E H:=by
 intro a w hf hi
 obtain ⟨h1,v,h2,v',N,h3,h4,h5⟩:=h a w hf hi
 exact ⟨h1,v,h2,v',N,h3,h4,hr w N h5⟩
end ends
section rules
variable {C : Cx} {ops : Array Oper} {Q : Exit → Act → World → Prop} {l : List Nat} {E : Env} {H R : Heap} {i d : Nat} {ty : TypeId} {pos : String} {af : Array Edge} {g : Option (Nat × Bool)}
theorem TO.ldWO {t T':TypeId}{x:Operand}{b m c:Nat}{base:Option Addr}{p:Int}{ms:List SM}(hs:ms.getD p.toNat default=(base,m,c))(hp:inb p ms.length)(q0_:ops[i]?=some ⟨some d,.load t x,ty,pos,af,g⟩∧Zr ops E g=true∧Nat.ble (d+1) C.n=true∧ev E x=some (.pointer (some ⟨b,p.toNat,none⟩)))(hT:Xi C.P t=true)(hm:(some b,Obj.cells (arr Wg ms []).toArray T' (0,0))∈H)
    (kk:TO C ops Q l ((d,.slice base m c)::E) H):TO C ops Q (i::l) E H:=have ⟨ho,hg,hd,hx⟩:=q0_;
  Zt ⟨ho,hg,hd,hx⟩ hT hm (by
    have:=Z4i (f:=Wg) (s:=1) (fun _=>rfl) default ms [] p.toNat 0 (Ub hp) (by omega)
    rw [hs] at this
    simpa [Wg] using this) kk
theorem TO.stWO {t T':TypeId}{x y:Operand}{b m c:Nat}{base:Option Addr}{p:Int}{ms:List SM}(hp:inb p ms.length)(q0_:ops[i]?=some ⟨none,.store t x y,ty,pos,af,g⟩∧Zr ops E g=true∧ev E x=some (.pointer (some ⟨b,p.toNat,none⟩))∧ev E y=some (.slice base m c))(ht:Take (some b,.cells (arr Wg ms []).toArray T' (0,0)) H R)(hs:Yh C.P t=some 1)
    (kk:TO C ops Q l E ((some b,.cells (arr Wg (ms.set p.toNat (base,m,c)) []).toArray T' (0,0))::R)):TO C ops Q (i::l) E H:=by
  obtain ⟨ho,hg,hx,hy⟩:=q0_
  refine Z1u (vs:=[.slice base m c]) ho hg hx hy ht rfl hs (fun u hu=>by simp at hu;subst hu;rfl) (by
    have:=Ub hp
    have h2:=Kc (f:=Wg) (s:=1) (fun _=>rfl) ms
    simp [arr,h2];omega) ?_ kk
  have:=Z3g (f:=Wg) (s:=1) (fun _=>rfl) (base,m,c) [] ms p.toNat (Ub hp)
  simpa [Wg] using this
theorem Fam.inb {L:List RowB}{xss:List (List Int)}{n:Nat}{p:Int}(h:Fam L xss n)(hp:inb p xss.length):inb p (L.map RowB.sm).length:=by
 rw [List.length_map,h.lenL,←h.len];exact hp
end rules
section draw
variable {C : Cx} {ops : Array Oper} {Q : Exit → Act → World → Prop} {E : Env} {H : Heap}
theorem ObE2.tail {S:List Sp}{HR:Nat→List Value→Heap→Prop}{hd:List (List Nat)}{W:Env}{Hc:Heap}{i:Nat}(Tl:Heap)(h:ObE2 C ops Q S HR hd W Hc i):ObE2 C ops Q S HR hd W (Hc++Tl) i:=by
 intro vs es Es Hx hb hr hh a w hf hi
 refine Z1q (l2:=[]) (fun e a w hne hq=>?_) (fun a w hq=>?_) [i] a w (h vs es Es (Tl++Hx) hb hr hh a w hf (hi.perm (Z46 hb Hx)))
 ·cases e <;> first | exact absurd rfl hne | exact hq
 ·
  obtain ⟨v,hb',e',h1,h2,h3,h4⟩:=hq
  refine ⟨v,hb',e',h1,h2,h3,h4.perm ?_⟩
  have e1:hb'++(Hc++(e'++(Wq es (Xl S i)++(Tl++Hx))))=hb'++(Hc++((e'++Wq es (Xl S i))++(Tl++Hx))):=by simp only [List.append_assoc]
  have e2:hb'++((Hc++Tl)++(e'++(Wq es (Xl S i)++Hx)))=hb'++((Hc++Tl)++((e'++Wq es (Xl S i))++Hx)):=by simp only [List.append_assoc]
  rw [e1,e2]
  exact (Z46 hb' Hx).symm
theorem ObsG2.tail {S:List Sp}{HR:Nat→List Value→Heap→Prop}{hd:List (List Nat)}{W:Env}{Hc:Heap}(Tl:Heap):∀ {l:List Nat},ObsG2 C ops Q S HR hd W Hc l→ObsG2 C ops Q S HR hd W (Hc++Tl) l
 | [],_=>trivial
 | i::l,⟨h1,h2⟩=>by
  refine ⟨?_,ObsG2.tail Tl h2⟩
  cases he:Xq S i with
  | true=>rw [he] at h1;exact ObE2.tail Tl h1
  | false=>rw [he] at h1;exact ObQ.tail Tl h1
theorem Zgv {id:Nat}(S:List Sp)(sl:List Nat)(m:Nat)(HR:Nat→List Value→Heap→Prop)(hd:List (List Nat))(hb0 Hc Tl:Heap)
    (hm:C.P.follows .mixedOrders=true)(hsm:S.length=m)(hsl:Uq ops (List.range m)=sl)(hb:Kf ops=true)(ht:Np ops m=true)(hgood:Rh ops S hd=true)(hms:Nat.ble m ops.size=true)
    (hn:Gq sl=true)(h0:HR 0 [] hb0)(hH:Pick (hb0++(Hc++Tl)) H)
    (obs:ObsG2 C ops Q S HR hd (wo sl E) Hc (List.range m))
    (k:∀ (vs:Nat→Value) (es:Nat→Heap) (hb:Heap),Ju S vs es (List.range m)→HR ((List.range m).filter (Xq S)).length ((hd.getD ((List.range m).filter (Xq S)).length []).map vs) hb →
      TO C ops Q (List.range' m (ops.size-m)) (Vj ops vs (List.range m)++wo sl E) ((hb++(Hc++Wq es ((List.range m).filter fun j=>!Gg S j)))++Tl)) :
    T C (.region id ops true) Q E H :=
  Z9a S sl m HR hd hb0 (Hc++Tl) hm hsm hsl hb ht hgood hms hn h0 hH (ObsG2.tail Tl obs) fun vs es hb h1 h2 a w hf hi=>k vs es hb h1 h2 a w hf (hi.perm (by
    simp only [List.append_assoc]
    exact List.Perm.append_left hb (List.Perm.append_left Hc List.perm_append_comm)))
end draw
section ends
variable {C : Cx} {E : Env} {H H' N : Heap}
end ends
end Go.Acq
namespace Go.Acq
open Go Go.RowKit
section rules
variable {C : Cx} {ops : Array Oper} {Q : Act → Prop} {l : List Nat} {E : Env} {H R : Heap} {i d : Nat} {ty : TypeId} {pos : String} {af : Array Edge} {g : Option (Nat × Bool)}
end rules
section ends
variable {C : Cx} {E : Env} {H N : Heap}
end ends
end Go.Acq
namespace Go.Acq
open Go Go.RowKit
def ptrT (P:Program)(t:TypeId):Bool:=match P.underlying t with
  | some (.pointer _)=>true
  | _=>false
theorem Zad {P:Program}{t:TypeId}(h:ptrT P t=true):∃ e,P.underlying t=some (.pointer e):=by
 unfold ptrT at h
 split at h
 ·exact ⟨_,by assumption⟩
 ·cases h
theorem Zbs {P:Program}(w:World)(n:Nat){t e:TypeId}(a:Option Addr)(ht:P.underlying t=some (.pointer e)):(Op.equalIn (n+1) t (.pointer a) (.pointer none)).run P w=.ok a.isNone w:=by
 cases a <;> simp [Op.equalIn,run_underlying ht]
section rules
variable {C : Cx} {ops : Array Oper} {Q : Exit → Act → World → Prop} {l : List Nat} {E : Env} {H R : Heap} {i d : Nat} {ty : TypeId} {pos : String} {af : Array Edge} {g : Option (Nat × Bool)}
def ExtF (P:Program)(f:FuncId)(e:Array Value→Sem Value):Prop :=
  ∃ fn,P.funcs[f]?=some fn∧(fn.name== "runtime.NumGoroutine")=false∧fn.body.isNone=true∧Extern.findNext fn=none∧Extern.find fn=some e
variable {x y z : Operand} {f : FuncId} {at' : Array TypeId} {ob : Option Nat} {n c : Nat} {p v u : Int} {xs : List Int} {j : List Value} {T : TypeId}
end rules
section rules
variable {C : Cx} {ops : Array Oper} {Q : Exit → Act → World → Prop} {l : List Nat} {E : Env} {H R : Heap} {i d : Nat} {ty : TypeId} {pos : String} {af : Array Edge} {g : Option (Nat × Bool)}
end rules
end Go.Acq
namespace Go.Acq
open Go Go.RowKit
section rules
variable {C : Cx} {ops : Array Oper} {Q : Exit → Act → World → Prop} {l : List Nat} {E : Env} {H R : Heap} {i d : Nat} {ty : TypeId} {pos : String} {af : Array Edge} {g : Option (Nat × Bool)}
end rules
end Go.Acq
namespace Go.Acq
open Go Go.RowKit
def wpU (P:Program)(ops:Array Oper)(Qn:Act→Prop):List Nat→Act→Prop
  | [],a=>Qn a
  | i::rest,a=>match ops[i]? with
    | none=>wpU P ops Qn rest a
    | some o=>(∀ c,o.op≠.defer c)∧(∀ cs b,o.op≠.select cs b) ∧
        if Region.wanted o (yielded ops a.tmps)=true then ∃ v,(∀ w,(execOp a.eval o).run P w=.ok (.value v) w)∧wpU P ops Qn rest (a.put o.dst v)
        else wpU P ops Qn rest (a.put o.dst undef)
def setB (ops:Array Oper)(m:Nat):List Nat→List Nat→Bool
  | _,[]=>true
  | pre,i::l=>Nat.blt i m&&!(pre.any (Nat.beq i))&&(match ops[i]? with
    | none=>false
    | some o=>(match o.dst with | some d=>(List.range m).all fun j=>Nat.beq j i||!(Yq ops j==some d) | none=>false) &&
        (o.looksAt ops).all fun t=>(List.range m).all fun j=>!(Yq ops j==some t)||(pre.any (Nat.beq j)&&Uk ops ops.size i j))&&setB ops m (i::pre) l
section
variable {C : Cx} {ops : Array Oper} {Q : Exit → Act → World → Prop} {E : Env} {H : Heap}
def Kj (ops:Array Oper)(vs:Nat→Value):List Nat→Act→Act
  | [],a=>a
  | i::l,a=>Kj ops vs l (a.put (Yq ops i) (vs i))
theorem Z9q {vs vs':Nat→Value}:∀ (l:List Nat) (a:Act),(∀ i,i∈l→vs i=vs' i)→Kj ops vs l a=Kj ops vs' l a
 | [],_,_=>rfl
 | i::l,a,h=>by simp only [Kj];rw [h i (.head _)];exact Z9q l _ fun j hj=>h j (.tail _ hj)
def StepQ (P:Program)(ops:Array Oper)(K:World→Prop)(vs:Nat→Value)(i:Nat)(a:Act):Prop :=
  ∃ o,ops[i]?=some o∧(∀ c,o.op≠.defer c)∧(∀ cs b,o.op≠.select cs b) ∧
    ((Region.wanted o (yielded ops a.tmps)=true∧∀ w,K w→Lf P K w (vs i) ((execOp a.eval o).run P w))∨(Region.wanted o (yielded ops a.tmps)=false∧vs i=undef))
theorem Z9s {P:Program}{K:World→Prop}{Qn:Act→Prop}:∀ (l:List Nat) (a:Act),l.Nodup→(∀ i,i∈l→∃ o,ops[i]?=some o)→Ji P ops K Qn l a →
    ∃ vs:Nat→Value,(∀ pre i post,l=pre++i::post→StepQ P ops K vs i (Kj ops vs pre a))∧Qn (Kj ops vs l a)
  | [],a,_,_,h=>⟨fun _=>undef,fun pre i post e=>by simp at e,h⟩
  | i::l,a,hn,ho,h=>by
    obtain ⟨o,hoi⟩:=ho i (.head _)
    simp only [Ji,hoi] at h
    obtain ⟨hd,hs,h⟩:=h
    have hslot:Yq ops i=o.dst:=by simp [Yq,hoi]
    obtain ⟨v,hv,hr⟩:∃ v,((Region.wanted o (yielded ops a.tmps)=true∧∀ w,K w→Lf P K w v ((execOp a.eval o).run P w))∨(Region.wanted o (yielded ops a.tmps)=false∧v=undef))∧Ji P ops K Qn l (a.put o.dst v):=by
      by_cases hw:Region.wanted o (yielded ops a.tmps)=true
      ·rw [if_pos hw] at h;obtain ⟨v,h1,h2⟩:=h;exact ⟨v,.inl ⟨hw,h1⟩,h2⟩
      ·rw [if_neg hw] at h;exact ⟨undef,.inr ⟨by simpa using hw,rfl⟩,h⟩
    have hn':=List.nodup_cons.1 hn
    obtain ⟨vs,g1,g2⟩:=Z9s l _ hn'.2 (fun j hj=>ho j (.tail _ hj)) hr
    let vs':Nat→Value:=fun j=>if j=i then v else vs j
    have ei:vs' i=v:=by simp [vs']
    have ee:∀ (l':List Nat) (b:Act),i∉l'→Kj ops vs' l' b=Kj ops vs l' b:=fun l' b hni=>Z9q l' b fun j hj=>by
      have:j≠i:=by rintro rfl;exact hni hj
      simp [vs',this]
    refine ⟨vs',fun pre j post e=>?_,?_⟩
    · cases pre with
      | nil=>simp only [List.nil_append,List.cons.injEq] at e;obtain ⟨rfl,rfl⟩:=e;exact ⟨o,hoi,hd,hs,by rw [ei];exact hv⟩
      | cons q pre =>
        simp only [List.cons_append,List.cons.injEq] at e
        obtain ⟨rfl,rfl⟩:=e
        have h1:=g1 pre j post rfl
        have hni:i∉pre:=fun hm=>hn'.1 (List.mem_append_left _ hm)
        have hji:j≠i:=by rintro rfl;exact hn'.1 (by simp)
        simp only [Kj]
        rw [ei,hslot,ee pre _ hni]
        obtain ⟨o',a1,a2,a3,a4⟩:=h1
        have evj:vs' j=vs j:=by simp [vs',hji]
        exact ⟨o',a1,a2,a3,by rw [evj];exact a4⟩
    ·simp only [Kj];rw [ei,hslot,ee l _ hn'.1];exact g2
theorem Zab {m:Nat}{vs:Nat→Value}{a0:Act}:∀ (l:List Nat) (done:Nat→Bool) (a:Act),(∀ i,i∈l→i<m∧∃ d,Yq ops i=some d∧∀ j,j<m→j≠i→Yq ops j≠some d) →
    DoneQ ops m vs a0 done a→DoneQ ops m vs a0 (fun q=>done q||l.any (Nat.beq q)) (Kj ops vs l a)
  | [],done,a,_,h=>by simpa [Kj] using h
  | i::l,done,a,hu,h=>by
    obtain ⟨hi,d,hd,hud⟩:=hu i (.head _)
    have h1:=h.put hi hd hud
    have h2:=Zab l _ _ (fun j hj=>hu j (.tail _ hj)) h1
    simp only [Kj]
    rw [hd]
    have e:(fun q:Nat=>(if q=i then true else done q)||l.any (Nat.beq q))=fun q=>done q||(i::l).any (Nat.beq q):=by
      funext q
      by_cases c:q=i
      ·subst c;simp
      · have : Nat.beq q i = false := by
          cases hb:Nat.beq q i with
          | true=>exact absurd (Nat.eq_of_beq_eq_true hb) c
          | false=>rfl
        simp [c,this]
    rw [←e];exact h2
def callB (P:Program)(ops:Array Oper)(c:Nat):Bool:=match ops[c]? with
  | some ⟨some _,.call ⟨.value (.func f),_,_⟩,_,_,_,_⟩=>Yb P f
  | _=>false
theorem Zgy {P:Program}{c:Nat}{a:Act}{w:World}(h:callB P ops c=true):∃ o f vs,ops[c]?=some o∧(∀ c,o.op≠.defer c)∧(∀ cs b,o.op≠.select cs b)∧(execOp a.eval o).run P w=.ok (.enter f vs) w:=by
 unfold callB at h
 split at h
 ·
  rename_i d f xs at' ty pos af g ho
  refine ⟨_,f,xs.map a.eval,ho,by simp,by simp,?_⟩
  simp [execOp,resolve,Deferred.ofValue,invoke,Act.eval,Ux h]
 ·cases h
theorem Zgl (q:Nat):Nat.beq q q=true:=by simp
theorem any_mem {l:List Nat}{q:Nat}:l.any (Nat.beq q)=true↔q∈l:=by
 rw [List.any_eq_true]
 constructor
 ·rintro ⟨x,hx,h⟩;rw [Nat.eq_of_beq_eq_true h];exact hx
 ·intro h;exact ⟨q,h,Zgl q⟩
theorem Z5r {m:Nat}:∀ {l pre:List Nat},setB ops m pre l=true→∀ p i post,l=p++i::post→i<m∧i∉pre∧i∉p∧∃ o d,ops[i]?=some o∧o.dst=some d∧Yq ops i=some d∧(∀ j,j<m→j≠i→Yq ops j≠some d) ∧
    ∀ t,t∈o.looksAt ops→∀ j,j<m→Yq ops j=some t→(j∈pre∨j∈p)∧Uk ops ops.size i j=true
  | [],pre,_,p,i,post,e=>by simp at e
  | q::l,pre,h,p,i,post,e=>by
    simp only [setB,Bool.and_eq_true] at h
    obtain ⟨⟨⟨h1,h2⟩,h3⟩,h4⟩:=h
    have hq:q∉pre:=fun hm=>by rw [any_mem.2 hm] at h2;simp at h2
    cases p with
    | nil =>
      simp only [List.nil_append,List.cons.injEq] at e
      obtain ⟨rfl,rfl⟩:=e
      refine ⟨by simpa using h1,hq,by simp,?_⟩
      cases ho:ops[q]? with
      | none=>rw [ho] at h3;simp at h3
      | some o =>
        rw [ho] at h3
        simp only [Bool.and_eq_true] at h3
        cases hd:o.dst with
        | none=>rw [hd] at h3;simp at h3
        | some d =>
          rw [hd] at h3
          refine ⟨o,d,rfl,hd,by simp [Yq,ho,hd],fun j hj hji he=>?_,fun t htl j hj hsj=>?_⟩
          · have h5 := List.all_eq_true.1 h3.1 j (List.mem_range.2 hj)
            simp only [Bool.or_eq_true] at h5
            rcases h5 with h5 | h5
            ·exact hji (Nat.eq_of_beq_eq_true h5)
            ·rw [he] at h5;simp at h5
          · have h5 := List.all_eq_true.1 (List.all_eq_true.1 h3.2 t htl) j (List.mem_range.2 hj)
            simp only [Bool.or_eq_true,Bool.and_eq_true] at h5
            rcases h5 with h5 | h5
            ·rw [hsj] at h5;simp at h5
            ·exact ⟨.inl (any_mem.1 h5.1),h5.2⟩
    | cons r p =>
      simp only [List.cons_append,List.cons.injEq] at e
      obtain ⟨rfl,rfl⟩:=e
      obtain ⟨a1,a2,a3,o,d,a4,a5,a6,a7,a8⟩:=Z5r h4 p i post rfl
      refine ⟨a1,fun hm=>a2 (.tail _ hm),fun hm=>?_,o,d,a4,a5,a6,a7,fun t ht j hj hs=>?_⟩
      · rcases List.mem_cons.1 hm with h | h
        ·exact a2 (h▸.head _)
        ·exact a3 h
      · obtain ⟨b1, b2⟩ := a8 t ht j hj hs
        refine ⟨?_,b2⟩
        rcases b1 with b1 | b1
        · rcases List.mem_cons.1 b1 with rfl | b1
          ·exact .inr (.head _)
          ·exact .inl b1
        ·exact .inr (.tail _ b1)
theorem Zda:∀ {l:List Nat},(∀ p i post,l=p++i::post→i∉p)→l.Nodup
 | [],_=>List.nodup_nil
 | i::l,h=>by
  refine List.nodup_cons.2 ⟨fun hm=>?_,Zda fun p j post e hj=>h (i::p) j post (by rw [e];rfl) (.tail _ hj)⟩
  obtain ⟨p,post,e⟩:=List.append_of_mem hm
  exact h (i::p) i post (by rw [e];rfl) (.head _)
variable {Qn : Act → Prop} {l : List Nat} {i d : Nat} {ty : TypeId} {pos : String} {af : Array Edge} {g : Option (Nat × Bool)}
variable {Q : Exit → Act → World → Prop}
end
end Go.Acq
namespace Go.Acq
open Go Go.RowKit
section rules
variable {C : Cx} {ops : Array Oper} {Q : Exit → Act → World → Prop} {l : List Nat} {E : Env} {H R : Heap} {i d : Nat} {ty : TypeId} {pos : String} {af : Array Edge} {g : Option (Nat × Bool)}
end rules
section control
variable {C : Cx} {Q : Exit → Act → World → Prop} {E : Env} {H : Heap}
def AQX (n:Nat)(w0:World)(M:List Nat)(B:Env→Heap→Prop):Exit→Act→World→Prop:=fun e a w=>e=.normal∧∃ E1 H1,Fits n [] E1 a∧Inv w0 M w H1∧B E1 H1
theorem Z29 {ρ:Option Nat}{P:Program}{n:Nat}{w0:World}{M:List Nat}{B:Env→Heap→Prop}(E1:Env)(H1:Heap)(hE:AllF E1 E)(hH:Pick H1 H)(hB:B E1 H1):X ⟨P,ρ,n,[],w0,M⟩ (AQX n w0 M B) .normal E H :=
 fun _ _ hf hi=>⟨rfl,E1,H1,hf.weak hE.sub,hi.pick hH,hB⟩
end control
end Go.Acq
namespace Go.Acq
open Go Go.RowKit
section
variable {C : Cx} {Q : Exit → Act → World → Prop} {E : Env} {H : Heap} {c x y : Code}
end
end Go.Acq
namespace Go.Acq
open Go Go.RowKit
abbrev Str:=List UInt8
def bs (l:Str):ByteArray:=⟨l.toArray⟩
def Yn (x:Str):List Value:=[.string (bs x)]
def ub (l:Str):List Int:=l.map fun b=>(b.toNat:Int)
def bu (l:List Int):Str:=l.map fun n=>UInt8.ofNat n.toNat
abbrev slok (n:Nat):Prop:=n≤9223372036854775807
theorem bs_size (x:Str):(bs x).size=x.length:=by simp [bs,ByteArray.size]
theorem Ln (x:Str):(bs x).data.toList=x:=by simp [bs]
theorem bs_of (s:ByteArray):bs s.data.toList=s:=by cases s;simp [bs]
theorem bs_inj {x y:Str}(h:bs x=bs y):x=y:=by rw [←Ln x,h,Ln]
theorem bs_app (x y:Str):bs x++bs y=bs (x++y):=by
 apply ByteArray.ext
 simp [bs]
theorem bs_get (x:Str)(i:Nat):(bs x)[i]?=x[i]?:=by
 show (if h:i<(bs x).size then some (bs x)[i] else none)=_
 by_cases h:i<x.length
 ·
  rw [dif_pos (by rw [bs_size];exact h),List.getElem?_eq_getElem h]
  simp [bs,ByteArray.getElem_eq_getElem_data]
 ·rw [dif_neg (by rw [bs_size];exact h),List.getElem?_eq_none (by omega)]
theorem Zav (x:Str)(l h:Nat):(bs x).extract l h=bs ((x.take h).drop l):=by
 apply ByteArray.ext
 apply Array.ext'
 simp [bs,ByteArray.data_extract,List.drop_take]
theorem bu_ub (x:Str):bu (ub x)=x:=by
 unfold bu ub
 rw [List.map_map]
 conv=>rhs;rw [←List.map_id x]
 apply List.map_congr_left
 intro b _
 simp
theorem Z9x (x:Str):(ub x).length=x.length:=List.length_map ..
def Ry (P:Program)(t:TypeId):Bool :=
  match P.underlying t with
  | some .string=>true
  | _=>false
theorem Z5e {P:Program}{t:TypeId}(h:Ry P t=true):P.underlying t=some .string:=by
 unfold Ry at h
 split at h
 ·assumption
 ·cases h
theorem Zce (x y:Str):((bs x).toList==(bs y).toList)=decide (x=y):=by
 have h:∀ z:Str,(bs z).toList=z:=fun z=>by rw [ByteArray.toList_eq,Ln]
 rw [h,h]
 by_cases e:x=y
 ·subst e;simp
 ·rw [decide_eq_false e];simpa using e
section rules
variable {C : Cx} {ops : Array Oper} {Q : Exit → Act → World → Prop} {l : List Nat} {E : Env} {H R : Heap} {i d : Nat} {ty : TypeId} {pos : String} {af : Array Edge} {g : Option (Nat × Bool)}
theorem Jo {t t2:TypeId}{x y:Operand}{p q:Str}(h:slok (p++q).length)(q0_:ops[i]?=some ⟨some d,.binOp .add t x y t2,ty,pos,af,g⟩∧Zr ops E g=true∧Nat.ble (d+1) C.n=true∧ev E x=some (.string (bs p))∧ev E y=some (.string (bs q)))(kk:TO C ops Q l ((d,.string (bs (p++q)))::E) H):TO C ops Q (i::l) E H:=have ⟨ho,hg,hd,hx,hy⟩:=q0_;
  TO.val ho hg hd (by simp) (fun a w hf _=>by
    have h1:¬((((bs p).size+(bs q).size:Nat):Int)>IntKind.i64.max):=by
      rw [bs_size,bs_size];unfold slok at h;rw [List.length_append] at h
      show ¬((_:Int)>9223372036854775807)
      omega
    simp only [execOp,hf.ev hx,hf.ev hy,eqGuard_at_string,binOp,Op.stringOp,if_neg h1,bs_app]
    simp) kk
theorem Vq {t t2:TypeId}{x y:Operand}{p q:Str}(q0_:ops[i]?=some ⟨some d,.binOp .eql t x y t2,ty,pos,af,g⟩∧Zr ops E g=true∧Nat.ble (d+1) C.n=true∧ev E x=some (.string (bs p))∧ev E y=some (.string (bs q)))(kk:TO C ops Q l ((d,.bool (decide (p=q)))::E) H):TO C ops Q (i::l) E H:=have ⟨ho,hg,hd,hx,hy⟩:=q0_;
  TO.val ho hg hd (by simp) (fun a w hf _=>by
    simp only [execOp,hf.ev hx,hf.ev hy,eqGuard_at_string,binOp,Op.stringOp,Zce]
    simp) kk
theorem Ri {t t2:TypeId}{x y:Operand}{p q:Str}(q0_:ops[i]?=some ⟨some d,.binOp .neq t x y t2,ty,pos,af,g⟩∧Zr ops E g=true∧Nat.ble (d+1) C.n=true∧ev E x=some (.string (bs p))∧ev E y=some (.string (bs q)))(kk:TO C ops Q l ((d,.bool (decide (¬p=q)))::E) H):TO C ops Q (i::l) E H:=have ⟨ho,hg,hd,hx,hy⟩:=q0_;
  TO.val ho hg hd (by simp) (fun a w hf _=>by
    simp only [execOp,hf.ev hx,hf.ev hy,eqGuard_at_string,binOp,Op.stringOp,Zce]
    simp) kk
theorem Z58 {t:TypeId}{at':Array TypeId}{x:Operand}{p:Str}
    (q0_:ops[i]?=some ⟨some d,.call ⟨.builtin .len,#[x],at'⟩,ty,pos,af,g⟩∧Zr ops E g=true∧Nat.ble (d+1) C.n=true∧at'[0]?=some t∧ev E x=some (.string (bs p)))(ht:Ry C.P t=true)(kk:TO C ops Q l ((d,.int .i64 (p.length:Int))::E) H):TO C ops Q (i::l) E H:=have ⟨ho,hg,hd,hat,hx⟩:=q0_;
  TO.val ho hg hd (by simp) (fun a w hf _=>by
    simp [execOp,resolve,invoke,builtin,hf.ev hx,Builtin.len_,hat,run_underlying (Z5e ht),goInt,bs_size]) kk
theorem Z8a {t:TypeId}{x y:Operand}{p:Str}{k:IntKind}{q:Int}(h:inb q p.length)(q0_:ops[i]?=some ⟨some d,.index t x y,ty,pos,af,g⟩∧Zr ops E g=true∧Nat.ble (d+1) C.n=true∧ev E x=some (.string (bs p))∧ev E y=some (.int k q))(ht:Ry C.P t=true)(kk:TO C ops Q l ((d,.int .u8 ((p.getD q.toNat 0).toNat:Int))::E) H):TO C ops Q (i::l) E H:=have ⟨ho,hg,hd,hx,hy⟩:=q0_;
  TO.val ho hg hd (by simp) (fun a w hf _=>by
    have h2:=Ub h
    have h3:p.getD q.toNat 0=p[q.toNat]:=by rw [List.getD_eq_getElem?_getD,List.getElem?_eq_getElem h2];rfl
    simp [execOp,hf.ev hx,hf.ev hy,Instr.index,asIntOf,run_underlying (Z5e ht),h.1,bs_get,List.getElem?_eq_getElem h2,h3]) kk
theorem Ni {α:Type}{f:α→List Value}{t:TypeId}{x:Operand}{base:Option Addr}{n c:Nat}{p:Int}{xs:List α}{v:Value}(dflt:α)(hr:RS C.w0 C.M f 1 base n c xs)(hp:inb p xs.length)(q0_:ops[i]?=some ⟨some d,.load t x,ty,pos,af,g⟩∧Zr ops E g=true∧Nat.ble (d+1) C.n=true∧ev E x=some (.pointer (some (ea base (p.toNat*1))))∧f (xs.getD p.toNat dflt)=[v])(hT:Xi C.P t=true)
    (kk:TO C ops Q l ((d,v)::E) H):TO C ops Q (i::l) E H:=have ⟨ho,hg,hd,hx,hv⟩:=q0_;Z7q (q:=0) dflt hr hp ⟨ho,hg,hd,hx,(by rw [hv];rfl)⟩ hT kk
theorem Z0x {α:Type}{f:α→List Value}{t T':TypeId}{x:Operand}{ob:Option Nat}{n c:Nat}{p:Int}{xs:List α}{j:List Value}{fr:Nat×Nat}{v:Value}(dflt:α)(hf:∀ x,(f x).length=1)(h0:ob=none→c=0)(hc:n≤c)(hn:xs.length=n)(hp:inb p xs.length)(q0_:ops[i]?=some ⟨some d,.load t x,ty,pos,af,g⟩∧Zr ops E g=true∧Nat.ble (d+1) C.n=true∧ev E x=some (.pointer (some (ea (sb ob) (p.toNat*1))))∧f (xs.getD p.toNat dflt)=[v])(hT:Xi C.P t=true)(hm:(ob,Obj.cells (arr f xs j).toArray T' fr)∈H)
    (kk:TO C ops Q l ((d,v)::E) H):TO C ops Q (i::l) E H:=have ⟨ho,hg,hd,hx,hv⟩:=q0_;
  TO.load ho hg hd hx hT (fun w hi=>by
    have hR:=hi.rs hf hm hn hc h0
    have:=hR.ro.at dflt (o:=p.toNat) (c:=0) (Ub hp) (by omega)
    rw [hv] at this
    simpa using this) kk
theorem Zig (w:World)(n c:Nat)(e:TypeId):n≤grownCap w n c e:=by unfold grownCap Question.cut;simp only;omega
theorem TO.toB {s t e:TypeId}{x:Operand}{p:Str}(q0_:ops[i]?=some ⟨some d,.convert s t x,ty,pos,af,g⟩∧Zr ops E g=true∧Nat.ble (d+1) C.n=true∧ev E x=some (.string (bs p)))(hs:Ry C.P s=true)(ht:Yk C.P t=some e)(he:C.P.underlying e=some (.int .u8))
    (kk:∀ (b c:Nat) (j:List Value) (fr:Nat×Nat),(ub p).length≤c→j.length=(c-(ub p).length)*1 →
      TO C ops Q l ((d,.slice (some ⟨b,0,none⟩) (ub p).length c)::E) ((some b,.cells (arr (intC .u8) (ub p) j).toArray e fr)::H)):TO C ops Q (i::l) E H:=have ⟨ho,hg,hd,hx⟩:=q0_;
  Kr ho hg (by simp) fun a w hf hi=>by
    have hr:=run_bytes_of_string (P:=C.P) w s t e (bs p) (Z5e hs) (Va ht) he
    have h1:(execOp a.eval ⟨some d,.convert s t x,ty,pos,af,g⟩).run C.P w=.ok (.value (.slice (some ⟨w.heap.size,0,none⟩) (bs p).size (grownCap w (bs p).size 0 e)))
        (w.drew.alloc (.cells (bytesRow (bs p) (grownCap w (bs p).size 0 e)) e ((bytesRow (bs p) (grownCap w (bs p).size 0 e)).size,(bytesRow (bs p) (grownCap w (bs p).size 0 e)).size+1))):=by
      simp only [execOp,hf.ev hx]
      simp [hr]
    rw [h1]
    have hb:bytesRow (bs p) (grownCap w (bs p).size 0 e)=(arr (intC .u8) (ub p) (List.replicate (grownCap w (bs p).size 0 e-(bs p).size) (.int .u8 0))).toArray:=by
      apply Array.ext'
      simp only [bytesRow,bs,arr,ub]
      simp [List.flatMap_map,intC,←List.map_eq_flatMap]
    have hsz:(bs p).size=(ub p).length:=by rw [bs_size,Z9x]
    rw [hb,hsz]
    exact kk _ _ _ _ (Zig w _ _ _) (by simp) _ _ (hf.put hd _) (hi.drew.alloc _)
theorem Zaw:∀ (l:List Int) (r:ByteArray),l.foldl (fun r n=>r.push (UInt8.ofNat n.toNat)) r=r++bs (bu l)
 | [],r=>by
  apply ByteArray.ext
  simp [bs,bu]
 | n::l,r=>by
  rw [List.foldl_cons,Zaw l]
  apply ByteArray.ext
  simp [bs,bu,ByteArray.push]
theorem Z00 {s t e:TypeId}{x:Operand}{base:Option Addr}{n c:Nat}{xs:List Int}(q0_:ops[i]?=some ⟨some d,.convert s t x,ty,pos,af,g⟩∧Zr ops E g=true∧Nat.ble (d+1) C.n=true∧ev E x=some (.slice base n c))(hs:Yk C.P s=some e)(he:C.P.underlying e=some (.int .u8))(ht:Ry C.P t=true)
    (hr:∀ w,Inv C.w0 C.M w H→RS w [] (intC .u8) 1 base n c xs)
    (kk:TO C ops Q l ((d,.string (bs (bu xs)))::E) H):TO C ops Q (i::l) E H:=have ⟨ho,hg,hd,hx⟩:=q0_;
  TO.val ho hg hd (by simp) (fun a w hf hi=>by
    have hR:=(hr w hi).ro
    have h1:=run_convert_bytes_string (P:=C.P) w s t e base n c (Va hs) he (Z5e ht)
    have h2:(Conv.bytesToString (.slice base n c)).run C.P w=.ok (.string (bs (bu xs))) w:=by
      cases base with
      | none =>
        have h3:=hR.nil rfl
        have h4:xs=[]:=List.eq_nil_of_length_eq_zero (by rw [hR.len];exact h3)
        subst h4
        rfl
      | some ad =>
        have hl:=run_loadCells_list (P:=C.P) w ad (xs.map (Value.int .u8)) (fun q v hq=>by
          have hql:q<xs.length:=by have:=(List.getElem?_eq_some_iff.1 hq).1;simpa using this
          have:=hR.at 0 (o:=q) (c:=0) hql (by omega)
          rw [List.getElem?_map,List.getElem?_eq_getElem hql] at hq
          simp only [ea,Option.getD_some,Nat.mul_one,Nat.add_zero] at this
          rw [this,List.getD_eq_getElem?_getD,List.getElem?_eq_getElem hql]
          simpa [intC] using hq)
        rw [List.length_map,hR.len] at hl
        rw [run_bytesToString w ad n c xs hl,Zaw]
        rfl
    simp only [execOp,hf.ev hx]
    simp [h1,h2]) kk
end rules
section quiet
variable {C : Cx} {ops : Array Oper} {Q : Act → Prop} {l : List Nat} {E : Env} {H R : Heap} {i d : Nat} {ty : TypeId} {pos : String} {af : Array Edge} {g : Option (Nat × Bool)}
theorem Z77 {t t2:TypeId}{x y:Operand}{p q:Str}(h:slok (p++q).length)(q0_:ops[i]?=some ⟨some d,.binOp .add t x y t2,ty,pos,af,g⟩∧Zr ops E g=true∧Nat.ble (d+1) C.n=true∧ev E x=some (.string (bs p))∧ev E y=some (.string (bs q)))(kk:TQ C ops Q l ((d,.string (bs (p++q)))::E) H):TQ C ops Q (i::l) E H:=have ⟨ho,hg,hd,hx,hy⟩:=q0_;
  TQ.val ho hg hd (by simp) (fun a w hf _=>by
    have h1:¬((((bs p).size+(bs q).size:Nat):Int)>IntKind.i64.max):=by
      rw [bs_size,bs_size];unfold slok at h;rw [List.length_append] at h
      show ¬((_:Int)>9223372036854775807)
      omega
    simp only [execOp,hf.ev hx,hf.ev hy,eqGuard_at_string,binOp,Op.stringOp,if_neg h1,bs_app]
    simp) kk
theorem Z3b {α:Type}{f:α→List Value}{t:TypeId}{x:Operand}{base:Option Addr}{n c:Nat}{p:Int}{xs:List α}{v:Value}(dflt:α)(hr:RS C.w0 C.M f 1 base n c xs)(hp:inb p xs.length)(q0_:ops[i]?=some ⟨some d,.load t x,ty,pos,af,g⟩∧Zr ops E g=true∧Nat.ble (d+1) C.n=true∧ev E x=some (.pointer (some (ea base (p.toNat*1))))∧f (xs.getD p.toNat dflt)=[v])(hT:Xi C.P t=true)
    (kk:TQ C ops Q l ((d,v)::E) H):TQ C ops Q (i::l) E H:=have ⟨ho,hg,hd,hx,hv⟩:=q0_;TQ.ldFR (q:=0) dflt hr hp (by rw [hv];rfl) ho hg hd hx hT kk
end quiet
end Go.Acq
namespace Go.Acq
open Go Go.RowKit
def YCR {S X V:Type}(P:Program)(l:Nat)(en:World→List Nat→V→List Value→Prop)(y:S→V→Option (S⊕X))(J:S⊕X→Heap→Prop)(EE:Heap→Prop)(w:World)(M:List Nat):Prop :=
  ∀ (s:S) (v:V) (r:S⊕X),y s v=some r→∀ (w':World) (Hs HE:Heap) (vals:List Value),J (.inl s) Hs→EE HE→Inv w M w' (Hs++HE)→en w' (ids (Hs++HE)) v vals →
    YieldAt (FW none) 0 P l vals.toArray w' fun e w''=>∃ Hs',J r Hs'∧e=.returned (.bool r.isLeft)∧Inv w' (ids (Hs++HE)) w'' (Hs'++HE)
theorem YCR.rebase {S X V:Type}{P:Program}{l:Nat}{en:World→List Nat→V→List Value→Prop}{y:S→V→Option (S⊕X)}{J:S⊕X→Heap→Prop}{EE:Heap→Prop}{w w2:World}{M:List Nat}{H1 R:Heap}(h:YCR P l en y J EE w M)(hi:Inv w M w2 (H1++R)) :
    YCR P l en y J EE w2 (ids H1):=fun s v r hy w' Hs HE vals hJ hE hi2 hen =>
  h s v r hy w' Hs HE vals hJ hE (hi.join (Hm:=H1) (R:=R) (M':=ids H1) (List.Perm.refl _) (fun m hm=>hm) hi2).left hen
section rules
variable {C : Cx} {ops : Array Oper} {Q : Exit → Act → World → Prop} {l : List Nat} {E : Env} {H R : Heap} {i d : Nat} {ty : TypeId} {pos : String} {af : Array Edge} {g : Option (Nat × Bool)}
theorem Z6i {S X V:Type}{lp:Nat}{en:World→List Nat→V→List Value→Prop}{y:S→V→Option (S⊕X)}{J:S⊕X→Heap→Prop}{EE:Heap→Prop}{x:Operand}{xs:Array Operand}{at':Array TypeId}{t r:S⊕X}{v:V}{vals:List Value}{Ho HE Hs:Heap}
    (hY:YCR C.P lp en y J EE C.w0 C.M)(hr:Z14 y t v=some r)(hJ:J t Hs)(hE:EE HE)
    (q0_:ops[i]?=some ⟨some d,.call ⟨.value x,xs,at'⟩,ty,pos,af,g⟩∧Zr ops E g=true∧Nat.ble (d+1) C.n=true∧ev E x=some (.func (.yield lp) #[] #[])∧evs E xs.toList=some vals)(hH:List.Perm H (HE++R))(hR:R=Ho++Hs)
    (hen:∀ w,Inv C.w0 C.M w H→List.Perm H ((Hs++HE)++Ho)→en w (ids (Hs++HE)) v vals)
    (kk:∀ Hs',J r Hs'→TO C ops Q l ((d,.bool r.isLeft)::E) (HE++(Ho++Hs'))):TO C ops Q (i::l) E H:=by
  obtain ⟨ho,hg,hd,hx,hxs⟩:=q0_
  obtain ⟨s,rfl,hys⟩:=Zd2 hr
  refine Kr ho hg (by simp) fun a w hf hi=>?_
  subst hR
  have hpm:∀ Hx:Heap,List.Perm (HE++(Ho++Hx)) ((Hx++HE)++Ho):=fun Hx=>by
    rw [←List.append_assoc,List.append_assoc Hx]
    exact List.perm_append_comm
  have hi':=hi.perm (hH.trans (hpm Hs))
  obtain ⟨fn,tmps,assign,body,hrun,hround⟩:=hY s v r hys w Hs HE vals hJ hE hi'.left (hen w hi (hH.trans (hpm Hs)))
  have e1:xs.map a.eval=vals.toArray:=by apply Array.ext';simpa using Jk hf hxs
  have:(execOp a.eval ⟨some d,.call ⟨.value x,xs,at'⟩,ty,pos,af,g⟩).run C.P w=.ok (.round lp fn tmps assign body) w:=by
    simp [execOp,resolve,Deferred.ofValue,invoke,hf.ev hx,e1,hrun]
  rw [this]
  rw [Oper.uponIn_round]
  have hround':RoundIn (FW C.ρ) (0-1) C.P lp fn tmps assign body w _:=hround
  refine ⟨by simp [FW],hround'.mono ?_⟩
  rintro e w' ⟨Hs',hJ',rfl,hi2⟩
  have hk:=kk Hs' hJ'
  unfold TO at hk
  exact hk _ _ (hf.put hd _) (((hi'.join (List.Perm.refl _) (fun m hm=>hm) hi2)).perm (hpm Hs').symm)
end rules
section control
variable {C : Cx} {Q : Exit → Act → World → Prop} {E : Env} {H : Heap}
theorem Zhu {S X V:Type}(hρ:C.ρ=none){gop:Operand}{ps:Array Tmp}{assign body:Code}{f:FuncId}{fs cs:Array Value}(hF:Yb C.P f=true)(hg:ev E gop=some (.func (.func f) fs cs))
    (hps:ps.toList.all (fun p=>Nat.ble (p+1) C.n)=true)(en:World→List Nat→V→List Value→Prop)(hlen:∀ w M v vals,en w M v vals→vals.length=ps.size)
    (y:S→V→Option (S⊕X))(J:S⊕X→Heap→Prop)(EE:Heap→Prop)(EO:Heap→Prop)(jmp:X→Code)(s0:S)(t:S⊕X)(Hs0 HE0 R:Heap)(hJ:J (.inl s0) Hs0)(hH:Pick ((Hs0++HE0)++R) H)
    (it:∀ (lp:Nat) (w:World) (J':S⊕X→Heap→Prop) (H0:Heap),J' (.inl s0) H0→Inv w (ids (H0++HE0)) w (H0++HE0)→YCR C.P lp en y J' EE w (ids (H0++HE0))→∀ lo,Inv C.w0 C.M w (((some lp,lo)::(Hs0++HE0))++R)→H0=(some lp,lo)::Hs0 →
      Fnc C.P f (fs++#[.func (.yield lp) #[] #[]]++cs) w (ids (H0++HE0)) (fun v N=>v=.tuple #[]∧∃ HE' Hs',N=HE'++Hs'∧J' t Hs'∧EO HE'))
    (round:∀ (lp:Nat) (w':World) (s:S) (v:V) (r:S⊕X) (Hs HE:Heap) (vals:List Value),y s v=some r→J (.inl s) Hs→EE HE→en w' (ids ((some lp,mkO)::(Hs++HE))) v vals→Inv w' (ids (Hs++HE)) w' (Hs++HE)→Inv C.w0 C.M w' ((Hs++HE)++R) →
      T ⟨C.P,some lp,C.n,[],w',ids (Hs++HE)⟩ assign (AQX C.n w' (ids (Hs++HE)) fun E1 H1=>∀ w2,Inv w2 (ids H1) w2 H1→Inv C.w0 C.M w2 (H1++R)→Inv w' (ids ((some lp,mkO)::(Hs++HE))) w2 H1→T ⟨C.P,some lp,C.n,[],w2,ids H1⟩ body (RQ (fun r Hq=>∃ Hq',Hq=Hq'++HE∧J r Hq') jmp r w2 (ids H1)) E1 H1) (Z10 ps.toList vals E) (Hs++HE))
    (next:∀ s,t=.inl s→∀ rr Hs HE,J (.inl s) Hs→EO HE→Acq.X { C with D:=mkD rr::C.D } Q .normal E ((Hs++HE)++((some rr,mkO)::R)))
    (exit:∀ x,t=.inr x→∀ rr Hs HE,J (.inr x) Hs→EO HE→T { C with D:=mkD rr::C.D } (jmp x) Q E ((Hs++HE)++((some rr,mkO)::R))) :
    T C (.rangeFunc gop ps assign body) Q E H:=by
  intro a w hf hi0
  have hi:=hi0.pick hH
  refine wpIn_rangeFunc fun fn _=>?_
  have hFW:(FW C.ρ).round=none:=by rw [hρ];rfl
  rw [hFW]
  obtain ⟨rr,hrr⟩:∃ rr,w.heap.size=rr:=⟨_,rfl⟩
  obtain ⟨wa,hwa⟩:∃ wa,w.alloc mkO=wa:=⟨_,rfl⟩
  obtain ⟨lp,hlp⟩:∃ lp,wa.heap.size=lp:=⟨_,rfl⟩
  obtain ⟨lo,hlo⟩:∃ lo,recO fn a.tmps ps assign body rr .ready none=lo:=⟨_,rfl⟩
  obtain ⟨wb,hwb⟩:∃ wb,wa.alloc lo=wb:=⟨_,rfl⟩
  have hia:Inv C.w0 C.M wa ((some rr,mkO)::((Hs0++HE0)++R)):=by rw [←hwa,←hrr];exact hi.alloc mkO
  have hib:Inv C.w0 C.M wb ((some lp,lo)::(some rr,mkO)::((Hs0++HE0)++R)):=by rw [←hwb,←hlp];exact hia.alloc lo
  have hlp2:w.heap.size+1=lp:=by rw [←hlp,←hwa];exact (World.size_alloc ..).symm
  have hib':Inv C.w0 C.M wb (((some lp,lo)::(Hs0++HE0))++((some rr,mkO)::R)):=hib.perm (by
    rw [List.cons_append]
    exact List.Perm.cons _ List.perm_middle.symm)
  refine ⟨lp,[mkD rr],wb,{ target:=.fn (.func f) cs,args:=fs.push (.func (.yield lp) #[] #[]) },wb,f,fs++#[.func (.yield lp) #[] #[]]++cs,wb,?_,?_,fun _ _=>trivial,?_,by simp [FW],?_⟩
  ·rw [run_enterLoop_outer,←hwb,←hlo,←hwa,←hlp2,←hrr]
  · have h2 : a.eval gop = .func (.func f) fs cs := hf.ev hg
    have h3:∀ v,a.eval (.const v)=v:=fun _=>rfl
    simp [resolve,Deferred.ofValue,h2,h3]
  · show (callFunc f (fs.push (.func (.yield lp) #[] #[]) ++ cs)).run C.P wb = _
    rw [Array.push_eq_append]
    exact Ux hF _ _
  · refine callsIn_FW.2 ?_
    have hlrec:∀ {w':World} {M'':List Nat} {o:Obj} {Hs:Heap},Inv wb M'' w' ((some lp,o)::Hs)→w'.heap[lp]?=some o:=fun h=>h.own lp _ (.head _)
    have hcall:=it lp wb (fun r Hx=>∃ Hs,Hx=(some lp,recO fn a.tmps ps assign body rr (match r with | .inl _=>LoopState.ready | .inr _=>LoopState.done) (match r with | .inl _=>none | .inr x=>some (jmp x)))::Hs∧J r Hs) ((some lp,lo)::Hs0)
      ⟨Hs0,by rw [←hlo],hJ⟩ (hib'.left.self (Zv _) rfl) ?_ lo (hib'.pick (by
        refine Na (S:=[(some rr,mkO)]) ?_
        rw [List.append_assoc]
        exact List.Perm.append_left _ (List.perm_append_singleton _ _).symm)) rfl
    · refine Calls.mono hcall ?_
      rintro e w3 ⟨v,N,⟨rfl,HE3,Hq3,rfl,⟨Hs3,rfl,hJ3⟩,hE3⟩,rfl,hi3⟩
      have hi3:=hi3.perm List.perm_append_comm
      have hj3:=hib'.join (M':=ids ((some lp,lo)::(Hs0++HE0))) (List.Perm.refl _) (fun m hm=>hm) hi3
      have hl3:=hj3.own lp _ (.head _)
      have hput:=hj3.put (recO fn a.tmps ps assign body rr .exhausted (match t with | .inl _=>none | .inr x=>some (jmp x)))
      have hfa:Fits C.n (mkD rr::C.D) E { a with defers:=[mkD rr]++a.defers }:=⟨hf.size,by simp [hf.defers],hf.get⟩
      have hpk:Pick ((Hs3++HE3)++((some rr,mkO)::R)) ((some lp,recO fn a.tmps ps assign body rr .exhausted (match t with | .inl _=>none | .inr x=>some (jmp x)))::((Hs3++HE3)++((some rr,mkO)::R))):=Wj (Zv _)
      cases t with
      | inl s =>
        refine ⟨none,_,run_endLoop hl3 (by simp),?_⟩
        exact next s rfl rr Hs3 HE3 hJ3 hE3 _ _ hfa (hput.pick hpk)
      | inr x =>
        refine ⟨some (jmp x),_,run_endLoop hl3 (by simp),?_⟩
        exact exit x rfl rr Hs3 HE3 hJ3 hE3 _ _ hfa (hput.pick hpk)
    · rintro s v r hys w' Hx HE vals ⟨Hs1, rfl, hJs⟩ hE hi' hen
      obtain ⟨Hs,hHs⟩:∃ Hs,Hs1++HE=Hs:=⟨_,rfl⟩
      have hi':Inv wb (ids ((some lp,lo)::(Hs0++HE0))) w' ((some lp,recO fn a.tmps ps assign body rr .ready none)::Hs):=by rw [←hHs];exact hi'
      have hself0:True:=trivial
      have hlw:=hlrec hi'
      have hout:=hib'.join (M':=ids ((some lp,lo)::(Hs0++HE0))) (List.Perm.refl _) (fun m hm=>hm) hi'
      have hself:=hi'.self (Hm:=Hs) (Wj (Zv _)) rfl
      have houtH:Inv C.w0 C.M w' (Hs++R):=hout.pick (by
        refine Wj ?_
        refine Na (S:=[(some rr,mkO)]) ?_
        rw [List.append_assoc]
        exact List.Perm.append_left _ (List.perm_append_singleton _ _).symm)
      have hasg:=round lp w' s v r Hs1 HE vals hys hJs hE hen (by rw [hHs];exact hself) (by rw [hHs];exact houtH)
      rw [hHs] at hasg
      refine ⟨_,_,_,_,run_yield hlw (by simp [hlen _ _ _ _ hen]),?_⟩
      refine roundIn_of_wpIn trivial ?_
      have hf0:Fits C.n [] E { tmps:=a.tmps,defers:=[] }:=⟨hf.size,rfl,hf.get⟩
      have hf1:=Z85 (vs:=vals) hps hf0
      have hw0:=hasg _ w' hf1 hself
      have hrw:(ps.zip vals.toArray).foldl (fun tmps (t,a)=>tmps.setIfInBounds t a) a.tmps=(ps.toList.zip vals).foldl (fun tmps (t,a)=>tmps.setIfInBounds t a) a.tmps:=by
        rw [←Array.foldl_toList];simp
      rw [hrw]
      refine wpIn_mono (F:=FW (some lp)) hw0 ?_
      rintro e a1 w1 ⟨rfl,E1,H1,hfa,hia1,hbody⟩
      have hall:=(hi'.self (Zv _) rfl)
      have hall1:=hall.join (Hm:=Hs) (R:=[(some lp,recO fn a.tmps ps assign body rr .ready none)]) (M':=ids Hs) ((List.perm_append_singleton _ _).symm) (fun m hm=>hm) hia1
      have hall1:=hall1.perm (List.perm_append_singleton _ _)
      have hl1:=hall1.own lp _ (.head _)
      refine ⟨_,run_beginRound hl1 rfl,?_⟩
      have hb1:=hall1.put (recO fn a.tmps ps assign body rr .busy none)
      have hout1:=hout.join (M':=ids ((some lp,recO fn a.tmps ps assign body rr .ready none)::Hs)) (List.Perm.refl _) (fun m hm=>hm) hall1
      have hout2:=hout1.put (recO fn a.tmps ps assign body rr .busy none)
      have hs2:=hb1.self (Hm:=H1) (Wj (Zv _)) rfl
      have hwp:=hbody _ hs2 (hout2.pick (by
        refine Wj ?_
        refine Na (S:=[(some rr,mkO)]) ?_
        rw [List.append_assoc]
        exact List.Perm.append_left _ (List.perm_append_singleton _ _).symm)) (hb1.pick (H':=H1) (Wj (Zv _))) a1 _ hfa hs2
      refine wpIn_mono (F:=FW (some lp)) hwp ?_
      intro e a3 w3 hq
      have fin:∀ (Hs':Heap),Inv (w1.putObj lp (recO fn a.tmps ps assign body rr .busy none)) (ids H1) w3 Hs'→w3.heap[lp]?=some (recO fn a.tmps ps assign body rr .busy none) ∧
          ∀ o,Inv w' (ids ((some lp,recO fn a.tmps ps assign body rr .ready none)::Hs)) (w3.putObj lp o) ((some lp,o)::Hs'):=by
        intro Hs' h
        have h2:=hb1.join (Hm:=H1) (R:=[(some lp,recO fn a.tmps ps assign body rr .busy none)]) (M':=ids H1) ((List.perm_append_singleton _ _).symm) (fun m hm=>hm) h
        have h2:=h2.perm (List.perm_append_singleton _ _)
        exact ⟨h2.own lp _ (.head _),fun o=>h2.put o⟩
      cases e with
      | normal =>
        obtain ⟨s',Hs',rfl,hJ',hi3⟩:=hq
        obtain ⟨h3,h4⟩:=fin Hs' hi3
        obtain ⟨Hs4,rfl,hJ'⟩:=hJ'
        exact ⟨_,_,run_endRound none h3,_,⟨Hs4,rfl,hJ'⟩,rfl,by have h5:=h4 (recO fn a.tmps ps assign body rr .ready none);rw [←hHs] at h5;exact h5⟩
      | ret =>
        obtain ⟨x,Hs',rfl,hj,hJ',hi3⟩:=hq
        obtain ⟨h3,h4⟩:=fin Hs' hi3
        obtain ⟨Hs4,rfl,hJ'⟩:=hJ'
        refine ⟨_,_,run_endRound (some .ret) h3,_,⟨Hs4,rfl,hJ'⟩,rfl,?_⟩
        simp only [hj];have h5:=h4 (recO fn a.tmps ps assign body rr .done (some .ret));rw [←hHs] at h5;exact h5
      | exit id =>
        obtain ⟨x,Hs',rfl,hj,hJ',hi3⟩:=hq
        obtain ⟨h3,h4⟩:=fin Hs' hi3
        obtain ⟨Hs4,rfl,hJ'⟩:=hJ'
        refine ⟨_,_,run_endRound (some (.exit id)) h3,_,⟨Hs4,rfl,hJ'⟩,rfl,?_⟩
        simp only [hj];have h5:=h4 (recO fn a.tmps ps assign body rr .done (some (.exit id)));rw [←hHs] at h5;exact h5
      | goto _=>exact hq.elim
      | panic _=>exact hq.elim
      | outgrown=>exact hq.elim
end control
end Go.Acq
namespace Go.Acq
open Go Go.RowKit
section control
variable {C : Cx} {Q : Exit → Act → World → Prop} {E : Env} {H H' : Heap}
theorem T.perm {c:Code}(hp:List.Perm H H')(k:T C c Q E H'):T C c Q E H:=fun a w hf hi=>k a w hf (hi.perm hp)
theorem X.perm {e:Exit}(hp:List.Perm H H')(k:Acq.X C Q e E H'):Acq.X C Q e E H:=fun a w hf hi=>k a w hf (hi.perm hp)
theorem RQ.turn {S X:Type}{J:S⊕X→Heap→Prop}{HE:Heap}{jmp:X→Code}{r:S⊕X}{w0:World}{M:List Nat}{e:Exit}{a:Act}{w:World}
    (h:RQ (fun r Hq=>∃ Hq',Hq=HE++Hq'∧J r Hq') jmp r w0 M e a w):RQ (fun r Hq=>∃ Hq',Hq=Hq'++HE∧J r Hq') jmp r w0 M e a w:=by
  cases e with
  | normal=>obtain ⟨s,_,h1,⟨Hq,rfl,hJ⟩,hi⟩:=h;exact ⟨s,_,h1,⟨Hq,rfl,hJ⟩,hi.perm List.perm_append_comm⟩
  | ret=>obtain ⟨x,_,h1,h2,⟨Hq,rfl,hJ⟩,hi⟩:=h;exact ⟨x,_,h1,h2,⟨Hq,rfl,hJ⟩,hi.perm List.perm_append_comm⟩
  | exit id=>obtain ⟨x,_,h1,h2,⟨Hq,rfl,hJ⟩,hi⟩:=h;exact ⟨x,_,h1,h2,⟨Hq,rfl,hJ⟩,hi.perm List.perm_append_comm⟩
  | goto _=>exact h.elim
  | panic _=>exact h.elim
  | outgrown=>exact h.elim
theorem Z3t {S X V:Type}(hρ:C.ρ=none){gop:Operand}{ps:Array Tmp}{assign body:Code}{f:FuncId}{fs cs:Array Value}(hF:Yb C.P f=true)(q0_:ev E gop=some (.func (.func f) fs cs)∧ps.toList.all (fun p=>Nat.ble (p+1) C.n)=true)(en:World→List Nat→V→List Value→Prop)(hlen:∀ w M v vals,en w M v vals→vals.length=ps.size)
    (y:S→V→Option (S⊕X))(J:S⊕X→Heap→Prop)(EE EO:Heap→Prop)(jmp:X→Code)(s0:S)(t:S⊕X)(Hs0 HE0 R:Heap)(hJ:J (.inl s0) Hs0)(hH:Pick ((HE0++R)++Hs0) H)
    (it:∀ (lp:Nat) (w:World) (J':S⊕X→Heap→Prop) (H0:Heap),J' (.inl s0) H0→Inv w (ids (H0++HE0)) w (H0++HE0)→YCR C.P lp en y J' EE w (ids (H0++HE0))→∀ lo,Inv C.w0 C.M w (((some lp,lo)::(Hs0++HE0))++R)→H0=(some lp,lo)::Hs0 →
      Fnc C.P f (fs++#[.func (.yield lp) #[] #[]]++cs) w (ids (H0++HE0)) (fun v N=>v=.tuple #[]∧∃ HE' Hs',N=HE'++Hs'∧J' t Hs'∧EO HE'))
    (round:∀ (lp:Nat) (w':World) (s:S) (v:V) (r:S⊕X) (Hs HE:Heap) (vals:List Value),y s v=some r→J (.inl s) Hs→EE HE→en w' (ids ((some lp,mkO)::(Hs++HE))) v vals→Inv w' (ids (Hs++HE)) w' (Hs++HE)→Inv C.w0 C.M w' ((Hs++HE)++R) →
      T ⟨C.P,some lp,C.n,[],w',ids (Hs++HE)⟩ assign (AQX C.n w' (ids (Hs++HE)) fun E1 H1=>∀ w2,Inv w2 (ids H1) w2 H1→Inv C.w0 C.M w2 (H1++R)→Inv w' (ids ((some lp,mkO)::(Hs++HE))) w2 H1→T ⟨C.P,some lp,C.n,[],w2,ids H1⟩ body (RQ (fun r Hq=>∃ Hq',Hq=HE++Hq'∧J r Hq') jmp r w2 (ids H1)) E1 H1) (Z10 ps.toList vals E) (HE++Hs))
    (next:∀ s,t=.inl s→∀ rr Hs HE,J (.inl s) Hs→EO HE→Acq.X { C with D:=mkD rr::C.D } Q .normal E ((HE++((some rr,mkO)::R))++Hs))
    (exit:∀ x,t=.inr x→∀ rr Hs HE,J (.inr x) Hs→EO HE→T { C with D:=mkD rr::C.D } (jmp x) Q E ((HE++((some rr,mkO)::R))++Hs)) :
    T C (.rangeFunc gop ps assign body) Q E H:=by
  obtain ⟨hg,hps⟩:=q0_
  have hpm:∀ (Hs HE R:Heap),List.Perm ((Hs++HE)++R) ((HE++R)++Hs):=fun Hs HE R=>by
    rw [List.append_assoc];exact List.perm_append_comm
  refine Zhu hρ hF hg hps en hlen y J EE EO jmp s0 t Hs0 HE0 R hJ ?_ it ?_ ?_ ?_
  · obtain ⟨S', ns, hn, hS⟩ := hH
    exact ⟨S',ns,hn,hS.trans ((hpm Hs0 HE0 R).symm.append_right S')⟩
  · intro lp w' s v r Hs HE vals hy hJ' hE hen h1 h2
    refine T.perm List.perm_append_comm ?_
    have h:=round lp w' s v r Hs HE vals hy hJ' hE hen h1 h2
    intro a w hf hi
    refine wpIn_mono (F:=FW (some lp)) (h a w hf hi) ?_
    rintro e a1 w1 ⟨rfl,E1,H1,hf1,hi1,hB⟩
    refine ⟨rfl,E1,H1,hf1,hi1,fun w2 k1 k2 k3=>?_⟩
    intro a2 w3 hf2 hi2
    exact wpIn_mono (F:=FW (some lp)) (hB w2 k1 k2 k3 a2 w3 hf2 hi2) fun e a w hq=>RQ.turn hq
  · intro s hs rr Hs HE hJ' hE
    exact Acq.X.perm (hpm Hs HE _) (next s hs rr Hs HE hJ' hE)
  · intro x hx rr Hs HE hJ' hE
    exact T.perm (hpm Hs HE _) (exit x hx rr Hs HE hJ' hE)
end control
end Go.Acq
namespace Go.Acq
open Go Go.Lib
theorem Zd8 (x:Str)(i:Nat)(h:i<x.length):(bs x).get! i=x[i]:=by
 have h2:i<(bs x).data.size:=by simpa [bs] using h
 simp [ByteArray.get!,bs,h]
theorem Z2x (x:Str)(i:Nat)(c:UInt8)(h:x[i]?=some c)(ha:c.toNat<128):Utf8.decode (bs x) i=(c.toNat,1):=by
 obtain ⟨h1,h2⟩:=List.getElem?_eq_some_iff.1 h
 unfold Utf8.decode
 simp only [Nat.add_zero,Zd8 x i h1,h2]
 rw [if_pos ha]
theorem Z1s {l:Str}{i:Nat}{c:UInt8}(h:l[i]?=some c):l.drop i=c::l.drop (i+1):=by
 obtain ⟨h1,h2⟩:=List.getElem?_eq_some_iff.1 h
 rw [←h2];exact List.drop_eq_getElem_cons h1
theorem Zbj {l:Str}{i:Nat}{c:UInt8}(h:l[i]?=some c):l.take (i+1)=l.take i++[c]:=by
 obtain ⟨h1,h2⟩:=List.getElem?_eq_some_iff.1 h
 rw [←h2];exact List.take_succ_eq_append_getElem h1
theorem Z3j {l:Str}{i:Nat}(h:i<l.length):∃ c,l[i]?=some c:=⟨_,List.getElem?_eq_getElem h⟩
def Wk (p:Nat→Bool):Str→Str→List Str
  | [],cur=>if cur=[] then [] else [cur]
  | b::l,cur=>if p b.toNat then (if cur=[] then Wk p l [] else cur::Wk p l []) else Wk p l (cur++[b])
def Rv (l:Str):Bool:=l.all fun b=>decide (b.toNat<128)
theorem Z8t {p:Nat→Bool}{cur:Str}(h:cur≠[]):Wk p [] cur=[cur]:=by rw [Wk,if_neg h]
theorem Zfz {p:Nat→Bool}:Wk p [] []=[]:=by rw [Wk,if_pos rfl]
theorem Z8v {p:Nat→Bool}{b:UInt8}{l cur:Str}(hq:p b.toNat=true)(h:cur≠[]):Wk p (b::l) cur=cur::Wk p l []:=by rw [Wk,if_pos hq,if_neg h]
theorem Zdf {p:Nat→Bool}{b:UInt8}{l:Str}(hq:p b.toNat=true):Wk p (b::l) []=Wk p l []:=by rw [Wk,if_pos hq,if_pos rfl]
theorem Z8p {p:Nat→Bool}{b:UInt8}{l cur:Str}(hq:¬p b.toNat=true):Wk p (b::l) cur=Wk p l (cur++[b]):=by rw [Wk,if_neg hq]
def Z2m (p:Nat→Bool)(l:Str):List Str:=if Rv l then Wk p l [] else (goFieldsP p (bs l)).map fun b=>b.data.toList
def anyT (p:Nat→Bool)(l:Str):Bool:=if Rv l then l.any (fun b=>p b.toNat) else decide (0≤idxFunc p true (bs l))
theorem Zck {l:Str}(h:Rv l=true){i:Nat}{c:UInt8}(hi:l[i]?=some c):c.toNat<128:=by
 have:=List.all_eq_true.1 h c (List.mem_of_getElem? hi)
 simpa using this
theorem Zdj (p:Nat→Bool)(l:Str)(h:Rv l=true):∀ (f pos:Nat),l.length≤pos+f→decide (0≤idxFuncFrom p true (bs l) f pos)=(l.drop pos).any (fun b=>p b.toNat)
 | 0,pos,hf=>by
  rw [List.drop_eq_nil_of_le (by omega)];rfl
 | f+1,pos,hf=>by
  by_cases hp:pos<l.length
  ·
   obtain ⟨c,hc⟩:=Z3j hp
   rw [idxFuncFrom,if_pos (by rw [bs_size];exact hp),Z2x l pos c hc (Zck h hc),Z1s hc,List.any_cons]
   by_cases hq:p c.toNat=true
   ·rw [if_pos hq,hq,Bool.true_or];exact decide_eq_true (by omega)
   ·
    rw [if_neg hq,Bool.eq_false_iff.2 hq,Bool.false_or]
    exact Zdj p l h f (pos+1) (by omega)
  ·rw [idxFuncFrom_end _ _ _ _ _ (by rw [bs_size];exact hp),List.drop_eq_nil_of_le (by omega)];rfl
theorem Zbg (p:Nat→Bool)(l:Str):decide (0≤idxFunc p true (bs l))=anyT p l:=by
 unfold anyT
 by_cases h:Rv l=true
 ·
  rw [if_pos h]
  have:=Zdj p l h l.length 0 (by omega)
  unfold idxFunc
  rw [bs_size,this,List.drop_zero]
 ·rw [if_neg h]
def Vg (l:Str)(st:Option Nat)(pos:Nat):Str :=
  match st with
  | some a=>(l.take pos).drop a
  | none=>[]
def opn (st:Option Nat)(pos:Nat):Prop:=∀ a,st=some a→a<pos
theorem Zdo (p:Nat→Bool)(l:Str)(h:Rv l=true):∀ (f pos:Nat) (st:Option Nat) (acc:List (Nat×Nat)),l.length≤pos+f→pos≤l.length→opn st pos →
    (closeSpans (bs l) (spansFromP p (bs l) f pos st acc)).map (fun x=>(l.take x.2).drop x.1)=acc.map (fun x=>(l.take x.2).drop x.1)++Wk p (l.drop pos) (Vg l st pos):=by
  have fin:∀ (f pos:Nat) (st:Option Nat) (acc:List (Nat×Nat)),pos=l.length→opn st pos →
      (closeSpans (bs l) (spansFromP p (bs l) f pos st acc)).map (fun x=>(l.take x.2).drop x.1)=acc.map (fun x=>(l.take x.2).drop x.1)++Wk p (l.drop pos) (Vg l st pos):=by
    intro f pos st acc hp ho
    subst hp
    rw [spansFromP_end _ _ _ _ _ _ (by rw [bs_size];omega),List.drop_eq_nil_of_le (Nat.le_refl _)]
    cases st with
    | none=>simp [closeSpans,Vg,Wk]
    | some a =>
      have h1:a<l.length:=ho a rfl
      have h2:Vg l (some a) l.length≠[]:=by
        intro e
        have:=congrArg List.length e
        unfold Vg at this
        simp only at this
        rw [List.length_drop,List.length_take] at this
        simp only [List.length_nil] at this
        omega
      rw [Z8t h2]
      simp only [closeSpans,Vg,bs_size,List.map_append,List.map_cons,List.map_nil]
  intro f
  induction f with
  | zero=>intro pos st acc hf hp ho;exact fin 0 pos st acc (by omega) ho
  | succ f ih =>
    intro pos st acc hf hp ho
    by_cases hlt:pos<l.length
    · obtain ⟨c, hc⟩ := Z3j hlt
      have hd:=Z2x l pos c hc (Zck h hc)
      rw [Z1s hc]
      have hsz:pos<(bs l).size:=by rw [bs_size];exact hlt
      by_cases hq:p c.toNat=true
      · cases st with
        | none =>
          have e:spansFromP p (bs l) (f+1) pos none acc=spansFromP p (bs l) f (pos+1) none acc:=by
            simp only [spansFromP,if_pos hsz,hd,if_pos hq]
          rw [e,ih (pos+1) none acc (by omega) (by omega) (fun a e=>by cases e)]
          rw [show Vg l none pos=[] from rfl,Zdf hq];rfl
        | some a =>
          have h1:a<pos:=ho a rfl
          have h2:Vg l (some a) pos≠[]:=by
            intro e
            have:=congrArg List.length e
            unfold Vg at this
            simp only at this
            rw [List.length_drop,List.length_take] at this
            simp only [List.length_nil] at this
            omega
          have e:spansFromP p (bs l) (f+1) pos (some a) acc=spansFromP p (bs l) f (pos+1) none (acc++[(a,pos)]):=by
            simp only [spansFromP,if_pos hsz,hd,if_pos hq]
          rw [e,ih (pos+1) none (acc++[(a,pos)]) (by omega) (by omega) (fun a e=>by cases e)]
          rw [Z8v hq h2]
          simp only [Vg,List.map_append,List.map_cons,List.map_nil,List.append_assoc,List.cons_append,List.nil_append]
      · cases st with
        | none =>
          have e:spansFromP p (bs l) (f+1) pos none acc=spansFromP p (bs l) f (pos+1) (some pos) acc:=by
            simp only [spansFromP,if_pos hsz,hd,if_neg hq]
          rw [e,ih (pos+1) (some pos) acc (by omega) (by omega) (fun a e=>by cases e;omega)]
          have:(l.take (pos+1)).drop pos=[c]:=by
            rw [Zbj hc,List.drop_append,List.drop_eq_nil_of_le (by rw [List.length_take];omega),List.length_take,Nat.min_eq_left (Nat.le_of_lt hlt),Nat.sub_self];rfl
          rw [Z8p hq]
          simp only [Vg,this,List.nil_append]
        | some a =>
          have h1:a<pos:=ho a rfl
          have e:spansFromP p (bs l) (f+1) pos (some a) acc=spansFromP p (bs l) f (pos+1) (some a) acc:=by
            simp only [spansFromP,if_pos hsz,hd,if_neg hq]
          rw [e,ih (pos+1) (some a) acc (by omega) (by omega) (fun b e=>by cases e;omega)]
          have:(l.take (pos+1)).drop a=(l.take pos).drop a++[c]:=by
            rw [Zbj hc,List.drop_append_of_le_length (by rw [List.length_take];omega)]
          rw [Z8p hq]
          simp only [Vg,this]
    ·exact fin (f+1) pos st acc (by omega) ho
theorem Zc2 (p:Nat→Bool)(l:Str):goFieldsP p (bs l)=(Z2m p l).map bs:=by
 unfold Z2m
 by_cases h:Rv l=true
 ·
  rw [if_pos h]
  have h1:=Zdo p l h l.length 0 none [] (by omega) (by omega) (fun a e=>by cases e)
  simp only [List.map_nil,List.nil_append,List.drop_zero] at h1
  have h2:Vg l none 0=[]:=rfl
  rw [h2] at h1
  rw [←h1]
  unfold goFieldsP spansOfP
  rw [bs_size,List.map_map]
  apply List.map_congr_left
  intro x _
  exact Zav l x.1 x.2
 ·
  rw [if_neg h,List.map_map]
  conv=>lhs;rw [←List.map_id (goFieldsP p (bs l))]
  apply List.map_congr_left
  intro b _
  exact (bs_of b).symm
def Vd:Nat→Nat→Str
  | 0,_=>[]
  | f+1,u=>if u<10 then [UInt8.ofNat (48+u)] else Vd f (u / 10)++[UInt8.ofNat (48+u%10)]
def Xm (n:Int):Str:=if n<0 then 45::Vd 20 n.natAbs else Vd 20 n.toNat
theorem Z7g:∀ (f u:Nat),u<10^(f+1)→decDigits u=Vd (f+1) u
 | 0,u,h=>by
  have h2:u<10:=by simpa using h
  rw [decDigits,Vd,dif_pos h2,if_pos h2]
 | f+1,u,h=>by
  rw [decDigits,Vd]
  by_cases hu:u<10
  ·rw [dif_pos hu,if_pos hu]
  ·rw [dif_neg hu,if_neg hu,Z7g f (u / 10) (by rw [Nat.pow_succ] at h;omega)]
theorem Zcx {n:Int}(h:i64ok n):itoa n=Xm n:=by
 obtain ⟨h1,h2⟩:=h
 have e:(10:Nat)^(19+1)=100000000000000000000:=by decide
 unfold itoa Xm
 rw [Z7g 19 n.natAbs (by rw [e];omega),Z7g 19 n.toNat (by rw [e];omega)]
end Go.Acq
namespace Go.Acq
open Go Go.RowKit Go.Proofs Go.Shelf
structure GK (P:Program)(w:World)(M:List Nat):Prop where
  pow:Lib.TabIs P w "internal/strconv.uint64pow10" .u64 Lib.pow10Tab
  syn:∃ tp p,w.var? P "strconv.ErrSyntax"=some #[.iface tp p]
  ran:∃ tp p,w.var? P "strconv.ErrRange"=some #[.iface tp p]
  mxl:∃ m,w.var? P "internal/bytealg.MaxLen"=some #[.int .i64 m]
  low:∀ n,n∈["internal/strconv.uint64pow10","strconv.ErrSyntax","strconv.ErrRange","internal/bytealg.MaxLen"]→∀ g,P.globalNamed n=some g→g∉M
section
variable {P : Program} {w0 w : World} {M M' : List Nat} {H Hm R : Heap}
theorem Z55 {n:String}{cs:Array Value}(h:w0.var? P n=some cs)(hl:∀ g,P.globalNamed n=some g→g∉M)(hi:Inv w0 M w H):w.var? P n=some cs:=by
 unfold World.var? at h ⊢
 cases hg:P.globalNamed n with
 | none=>simp [hg] at h
 | some g =>
  simp only [hg,Option.bind_some] at h ⊢
  have hlt:g<w0.heap.size:=by
   rcases Nat.lt_or_ge g w0.heap.size with h' | h'
   ·exact h'
   ·simp [Array.getElem?_eq_none h'] at h
  rw [hi.keep g hlt (hl g hg)]
  exact h
theorem Z5a {n:String}{cs:Array Value}(h:w0.var? P n=some cs){g:Nat}(hg:P.globalNamed n=some g):g<w0.heap.size:=by
 unfold World.var? at h
 simp only [hg,Option.bind_some] at h
 rcases Nat.lt_or_ge g w0.heap.size with h' | h'
 ·exact h'
 ·simp [Array.getElem?_eq_none h'] at h
theorem GK.lt (h:GK P w0 M){n:String}(hn:n∈["internal/strconv.uint64pow10","strconv.ErrSyntax","strconv.ErrRange","internal/bytealg.MaxLen"]){g:Nat}(hg:P.globalNamed n=some g):g<w0.heap.size:=by
 simp only [List.mem_cons,List.mem_nil_iff,or_false] at hn
 rcases hn with rfl | rfl | rfl | rfl
 ·exact Z5a h.pow hg
 ·obtain ⟨_,_,e⟩:=h.syn;exact Z5a e hg
 ·obtain ⟨_,_,e⟩:=h.ran;exact Z5a e hg
 ·obtain ⟨_,e⟩:=h.mxl;exact Z5a e hg
theorem GK.with (h:GK P w0 M)(hi:Inv w0 M w H)(hl:∀ n,n∈["internal/strconv.uint64pow10","strconv.ErrSyntax","strconv.ErrRange","internal/bytealg.MaxLen"]→∀ g,P.globalNamed n=some g→g∉M'):GK P w M' :=
 ⟨Z55 h.pow (h.low _ (by simp)) hi,by obtain ⟨a,b,e⟩:=h.syn;exact ⟨a,b,Z55 e (h.low _ (by simp)) hi⟩,by obtain ⟨a,b,e⟩:=h.ran;exact ⟨a,b,Z55 e (h.low _ (by simp)) hi⟩,
  by obtain ⟨a,e⟩:=h.mxl;exact ⟨a,Z55 e (h.low _ (by simp)) hi⟩,hl⟩
theorem GK.mono (h:GK P w0 M)(hi:Inv w0 M w H):GK P w []:=h.with hi (fun _ _ _ _=>by simp)
theorem GK.monoM (h:GK P w0 M)(hi:Inv w0 M w H)(hp:List.Perm H (Hm++R))(hM:Hm.filterMap (·.1)=M'):GK P w M':=h.with hi (fun n hn g hg hm=>by
 subst hM
 obtain ⟨o,ho⟩:=Nj hm
 rcases hi.low g o ((List.Perm.mem_iff hp).2 (List.mem_append_left _ ho)) with hl | hl
 ·have:=h.lt hn hg;omega
 ·exact h.low n hn g hg hl)
theorem Rx {w w':World}(hb:Below w.heap.size w w'):Inv w [] w' []:=⟨hb.os,hb.tape,hb.output,hb.size,fun b h _=>hb.block b h,by simp,by simp,by simp⟩
theorem Zft {w w':World}(hb:Below w.heap.size w w'){A:Nat}{o:Obj}(h:w'.heap[A]?=some o)(hl:w.heap.size≤A):Inv w [] w' [(some A,o)] :=
 ⟨hb.os,hb.tape,hb.output,hb.size,fun b h _=>hb.block b h,fun b o' hm=>by simp at hm;obtain ⟨rfl,rfl⟩:=hm;exact h,fun b o' hm=>by simp at hm;obtain ⟨rfl,rfl⟩:=hm;exact .inl hl,by simp⟩
end
section fns
variable {P : Program} {ρ : Ren}
def PredF (P:Program)(g:Nat)(p:Nat→Bool):Prop:=∀ (w:World) (x:Nat),x≤1114111→Fnc P g #[.int .i32 (x:Int)] w [] (fun v N=>v=.bool (p x)∧N=[])
theorem PredF.grows {g:Nat}{p:Nat→Bool}(h:PredF P g p)(w:World):PredGrows P g #[] p w:=fun W x hx _=>by
 have:=h W x hx
 simp only [Array.append_empty]
 refine Calls.mono this ?_
 rintro e w' ⟨v,N,⟨rfl,rfl⟩,rfl,hi⟩
 exact ⟨rfl,hi.below⟩
theorem Zjf (L:Lays.n229 P ρ)(g:Nat)(hF:Yb P g=true)(p:Nat→Bool)(hp:PredF P g p)
    (hi154:(P.info? (ρ.t 154)).map (fun i=>(i.zero,i.size,i.bytes))=some (some (.agg #[.int .i64 0,.int .i64 0]),2,16))
    (hi9:(P.info? (ρ.t 9)).map (fun i=>(i.zero,i.size,i.bytes))=some (some (.string ⟨#[]⟩),1,16))(s:Str)(hs:s.length≤4294967296)(w:World){r:List Str}(hr:Z2m p s=r) :
    Fnc P (ρ.f 229) #[.string (bs s),.func (.func g) #[] #[]] w [] (fun v N=>∃ (ob:Option Nat) (n c:Nat) (j:List Value),v=.slice (sb ob) n c∧N=[(ob,.cells (arr Yn r j).toArray (ρ.t 9) (0,0))]∧r.length=n∧n≤c∧j.length=(c-n)*1∧(ob=none→c=0)):=by
  have h:=Any.strings_FieldsFunc_grows L g #[] (fun args w=>Ux hF args w) p (bs s) w (by rw [bs_size];exact hs) (hp.grows w) hi154 hi9
  refine Calls.mono h ?_
  rintro e w' ⟨A,rfl,hA,⟨hl,hO⟩,hb⟩
  rw [Zc2,hr] at hl hO ⊢
  simp only [List.length_map] at hl hO ⊢
  rcases hO with ⟨hv,_⟩ | ⟨q,cap,cur,hv,_,hc,_,_,hsz,htk⟩
  ·exact absurd hv (by simp)
  · simp only [Value.slice.injEq, Option.some.injEq, Addr.mk.injEq] at hv
    obtain ⟨⟨rfl,_⟩,_,rfl⟩:=hv
    have hcur:cur=(arr Yn r []).toArray:=by
      apply Array.ext'
      rw [List.take_of_length_le (by rw [Array.length_toList,hsz];exact Nat.le_refl _)] at htk
      rw [htk]
      simp only [arr,List.append_nil,List.map_map]
      rw [List.map_eq_flatMap];rfl
    refine ⟨_,_,⟨some A,r.length,r.length,[],rfl,rfl,rfl,Nat.le_refl _,by simp,fun e=>by cases e⟩,rfl,?_⟩
    rw [←hcur]
    exact Zft hb hc hA
theorem Fnc.anyf (L:LaysGw.n17 P ρ)(g:Nat)(hF:Yb P g=true)(p:Nat→Bool)(hp:PredF P g p)(s:Str)(w:World) :
    Fnc P (ρ.f 17) #[.string (bs s),.func (.func g) #[] #[]] w [] (fun v N=>v=.bool (anyT p s)∧N=[]):=by
  have h:=Any.strings_ContainsFunc_grows L g #[] (fun args w=>Ux hF args w) p (bs s) w (hp.grows w)
  refine Calls.mono h ?_
  rintro e w' ⟨rfl,hb⟩
  rw [Zbg]
  exact ⟨_,_,⟨rfl,rfl⟩,rfl,Rx hb⟩
def IfV (ev:Value)(b:Bool):Prop:=(b=true∧ev=.nilIface)∨(b=false∧∃ t v,ev=.iface t v)
def Z1e (s:Str):Int×Bool :=
  match Lib.parseIntB 64 s with
  | .ok v=>(v,true)
  | .range=>(Lib.intSat 64 s,false)
  | _=>(0,false)
theorem Zjm (L:LaysC.n174 P ρ)(s:Str)(hs:s.length≤281474976710656)(w:World){M:List Nat}(hG:GK P w M){n:Int}{b:Bool}(hr:Z1e s=(n,b)) :
    Fnc P (ρ.f 174) #[.string (bs s),.int .i64 10,.int .i64 64] w [] (fun v N=>∃ ev:Value,v=.tuple #[.int .i64 n,ev]∧N=[]∧IfV ev b):=by
  have hd:=Ln s
  have hz:(bs s).size≤281474976710656:=by rw [bs_size];exact hs
  unfold Z1e at hr
  cases h:Lib.parseIntB 64 s
  · rename_i v
    rw [h] at hr
    cases hr
    refine Calls.mono (Any.strconv_ParseInt_10_at64_ok L (bs s) (by omega) _ (by rw [hd];exact h) w) ?_
    rintro e w' ⟨rfl,hw⟩
    refine ⟨_,_,⟨_,rfl,rfl,.inl ⟨rfl,rfl⟩⟩,rfl,?_⟩
    rcases hw with rfl | ⟨t,rfl⟩
    ·exact Inv.refl w'
    ·refine Rx ⟨rfl,rfl,rfl,by rw [Lib.bytesWorld_size];omega,fun k hk=>Lib.bytesWorld_at_old _ _ _ _ hk⟩
  · rw [h] at hr
    cases hr
    obtain ⟨tp,p,hv⟩:=hG.syn
    refine Calls.mono (Any.strconv_ParseInt_10_at64_syntax_var L (bs s) hz (by rw [hd];exact h) tp p w hv) ?_
    rintro e w' ⟨A,rfl,hA,hc,hb⟩
    exact ⟨_,_,⟨_,rfl,rfl,.inr ⟨rfl,_,_,rfl⟩⟩,rfl,Rx hb⟩
  · rw [h] at hr
    cases hr
    obtain ⟨tp,p,hv⟩:=hG.ran
    refine Calls.mono (Any.strconv_ParseInt_10_at64_range_var L (bs s) hz (by rw [hd];exact h) tp p w hv) ?_
    rintro e w' ⟨A,rfl,hA,hc,hb⟩
    rw [hd]
    exact ⟨_,_,⟨_,rfl,rfl,.inr ⟨rfl,_,_,rfl⟩⟩,rfl,Rx hb⟩
theorem Zas (w:World)(k:Nat)(os:Array Obj):Below w.heap.size w (Sort.grow (w.drewN k) os):=⟨rfl,rfl,rfl,by show w.heap.size≤(w.heap++os).size;rw [Array.size_append];omega,fun j hj=>by
 show (w.heap++os)[j]?=_
 rw [Array.getElem?_append_left hj]⟩
theorem Zia (L:LaysM.n173 P ρ)(n:Int)(hn:i64ok n)(w:World){M:List Nat}(hG:GK P w M):Fnc P (ρ.f 173) #[.int .i64 n,.int .i64 10] w [] (fun v N=>v=.string (bs (Xm n))∧N=[]):=by
 refine Calls.mono (Any.strconv_FormatInt_10 L n hn.1 hn.2 w hG.pow) ?_
 rintro e w' ⟨rfl,k,os,rfl⟩
 rw [Zcx hn]
 exact ⟨_,_,⟨rfl,rfl⟩,rfl,Rx (Zas w k os)⟩
theorem Fnc.itoa (L:LaysM.n171 P ρ)(n:Int)(hn:i64ok n)(w:World){M:List Nat}(hG:GK P w M):Fnc P (ρ.f 171) #[.int .i64 n] w [] (fun v N=>v=.string (bs (Xm n))∧N=[]):=by
 refine Calls.mono (Any.strconv_Itoa L n hn.1 hn.2 w hG.pow) ?_
 rintro e w' ⟨rfl,k,os,rfl⟩
 rw [Zcx hn]
 exact ⟨_,_,⟨rfl,rfl⟩,rfl,Rx (Zas w k os)⟩
end fns
end Go.Acq
namespace Go.Acq
open Go
variable {H : Type} {enc : TypeId × Value → H}
theorem handed_of_change {a:Assume}{C:Checked}{os:Os}{f:FuncId}{fn:Func}{s:ChangeSpec}{conds:List PathCond}{apart fresh handsOn again:Bool}{X:World→Array Value→Prop}
    (hX:∀ (w w':World) (args:Array Value),w.heap=w'.heap→X w args→X w' args)
    (own:ownKnob C.prog.godebug=none)(started:os.Started)(noInit:C.prog.inits.idxOf? f=none)(hfn:C.prog.funcs[f]?=some fn)
    (witness:∃ (w:World) (tape:Tape) (i:Input),w.os=os∧(w.forCall tape i).Shaped C.prog∧i.vars=[]∧Input.okWide C.prog (w.forCall tape i) .any w.heap.size f i ∧
      ((s.pre enc C.prog fn conds apart (w.forCall tape i).memory i.args∧X (w.forCall tape i).memory i.args)∧sizedMet enc C.prog fn (OpenSpec.ofChange s) apart (w.forCall tape i).memory i.args)∧a.holds C.prog (lone (Frame.enter C.prog f i.args .normal) [] (w.forCall tape i)))
    (contract:∀ (W:World) (base:Nat) (args:Array Value) (ds gs:List (DataW H)) (before:List MemPlace),
      (∀ (j:Nat) t v,fn.params[j]?=some t→args[j]?=some v→Value.okWide C.prog W .any base t v) →
      DataW.Whole enc C.prog fn.params.toList s.vars apart W args.toList ds gs before→X W args→W.ShapedOpen C.prog →
      Calls C.prog f args W fun e W'=>∃ v,e=.returned v∧s.post enc C.prog fn apart fresh handsOn again W args v W') :
    ReturnsInHanded a C os f .any (fun w args=>(s.pre enc C.prog fn conds apart w args∧X w args)∧sizedMet enc C.prog fn (OpenSpec.ofChange s) apart w args) (s.post enc C.prog fn apart fresh handsOn again):=by
  refine returnsInHanded_of_calls own started noInit witness ?_
  intro w tape i _ hsh _ hok hpre hholds
  obtain ⟨_,_,_,fn',hfn',_,_,_,_,hval⟩:=hok
  have e:fn'=fn:=Option.some.inj (hfn'.symm.trans hfn)
  subst e
  obtain ⟨⟨⟨ds,gs,before,hw,hc⟩,hx⟩,hz⟩:=hpre
  have hw':=DataW.Whole.of_heap (w':=w.forCall tape i) (by rfl) hw
  refine (contract (w.forCall tape i) w.heap.size i.args ds gs before hval hw' (hX _ _ _ (by rfl) hx) hsh).mono fun e W' ⟨v,he,hp⟩=>?_
  subst he
  exact ChangeSpec.post_blind hp
theorem int_of_shaped {P:Program}{w:World}{n:String}{g:Nat}{t:TypeId}{zero:Array Value}{k:IntKind}(h:w.ShapedOpen P)(hn:P.globalNamed n=some g)(hg:g<P.globals.size)
    (h0:((begin P (fun _ _=>0) default).world.heap[g]?).bind Obj.row?=some (zero,t))(hz:zero.size=1)(hb:P.buildable t=true)(hc:P.cellTypes P.depth t=some [t])(hu:P.underlying t=some (.int k)) :
    ∃ m,w.var? P n=some #[.int k m]:=by
  obtain ⟨m,hm⟩:=Go.Proofs.cell_of_shapedOpen_int h hg h0 hz hb hc hu
  obtain ⟨cs,hh,hs,-⟩:=h.1 g zero t hg h0
  refine ⟨m,?_⟩
  have h1:cs.size=1:=hs.trans hz
  unfold World.cell? at hm
  rw [hh] at hm
  unfold World.var?
  rw [hn]
  simp only [Option.bind_some,hh]
  have h2:cs[0]?=some (.int k m):=by simpa using hm
  obtain ⟨l⟩:=cs
  match l,h1,h2 with
  | [x],_,h2 =>
    have:x=.int k m:=by simpa using h2
    rw [this]
  | [],h1,_=>simp at h1
  | _::_::_,h1,_=>simp at h1
end Go.Acq
namespace Go.Acq
open Go Go.RowKit Go.Proofs Go.Shelf
def idxT (xs:List Int)(c:Int):Int:=Lib.indexByte (bu xs) (UInt8.ofNat c.toNat)
section rules
variable {C : Cx} {ops : Array Oper} {Q : Exit → Act → World → Prop} {l : List Nat} {E : Env} {H R : Heap} {i d : Nat} {ty : TypeId} {pos : String} {af : Array Edge} {g : Option (Nat × Bool)}
theorem TO.idxB {f:FuncId}{x y:Operand}{at':Array TypeId}{base:Option Addr}{n c:Nat}{xs:List Int}{cv:Int}(hF:ExtF C.P f Extern.BytealgIndexByte.indexByte)
    (q0_:ops[i]?=some ⟨some d,.call ⟨.value (.func f),#[x,y],at'⟩,ty,pos,af,g⟩∧Zr ops E g=true∧Nat.ble (d+1) C.n=true∧ev E x=some (.slice base n c)∧ev E y=some (.int .u8 cv))(hr:∀ w,Inv C.w0 C.M w H→RS w [] (intC .u8) 1 base n c xs)
    (kk:TO C ops Q l ((d,.int .i64 (idxT xs cv))::E) H):TO C ops Q (i::l) E H:=have ⟨ho,hg,hd,hx,hy⟩:=q0_;
  TO.val ho hg hd (by simp) (fun a w hf hi=>by
    obtain ⟨fn,h1,h2,h3,h4,h5⟩:=hF
    have hR:=(hr w hi).ro
    have hcall:(Extern.BytealgIndexByte.indexByte #[.slice base n c,.int .u8 cv]).run C.P w=.ok (.int .i64 (idxT xs cv)) w:=by
      cases base with
      | none =>
        have h6:=hR.nil rfl
        have h7:xs=[]:=List.eq_nil_of_length_eq_zero (by rw [hR.len];exact h6)
        subst h7
        rw [Lib.run_indexByteNil w n c cv];rfl
      | some ad =>
        rw [Lib.run_indexByteAt w ad n c xs hR.len (fun q hq=>by
          have:=hR.at 0 (o:=q) (c:=0) (by rw [hR.len];exact hq) (by omega)
          simpa [ea,intC] using this) cv];rfl
    have e:a.eval (.func f)=.func (.func f) #[] #[]:=rfl
    simp [execOp,resolve,Deferred.ofValue,invoke,hf.ev hx,hf.ev hy,e,run_callFunc_extern h1 h2 h3 h4 h5,hcall,Result.andThen]) kk
theorem Z3y {α:Type}{xs:List α}{t e:TypeId}{x y z:Operand}{base:Option Addr}{n c s:Nat}{k k':IntKind}{p:Int}(hn:xs.length=n)(hc:n≤c)(hp:0≤p∧p≤(xs.length:Int))
    (q0_:ops[i]?=some ⟨some d,.slice t x none (some y) (some z),ty,pos,af,g⟩∧Zr ops E g=true∧Nat.ble (d+1) C.n=true∧ev E x=some (.slice base n c)∧ev E y=some (.int k p)∧ev E z=some (.int k' p))(ht:Yk C.P t=some e)(hs:Yh C.P e=some s)
    (kk:TO C ops Q l ((d,.slice base p.toNat p.toNat)::E) H):TO C ops Q (i::l) E H:=have ⟨ho,hg,hd,hx,hy,hz⟩:=q0_;
  TO.val ho hg hd (by simp) (fun a w hf hi=>by
    have hu:=Va ht
    have hb:∀ b:Option Addr,Option.map (fun x=>x.add 0) b=b:=fun b=>by cases b <;> simp [Addr.add]
    have h0:=hp.1
    have h1:p≤(c:Int):=by have:=hp.2;omega
    have h2:p≤(p.toNat:Int):=by omega
    simp [execOp,hf.ev hx,hf.ev hy,hf.ev hz,Instr.sliceAt,Instr.slice,Instr.sliceBounds,Instr.sliceBound,asIntOf,run_underlying hu,h0,h1,Um hs,hb]
    intro hh;omega) kk
theorem Z4y {α:Type}{w:World}{M:List Nat}{f:α→List Value}{s n c:Nat}{base:Option Addr}{xs:List α}(h:RS w M f s base n c xs){p:Int}(hp:0≤p∧p≤(xs.length:Int)):RS w M f s base p.toNat p.toNat (xs.take p.toNat):=by
 have h1:=h.take hp
 exact ⟨h1.ro,h1.far,Nat.le_refl _⟩
def Ro (P:Program)(t:TypeId):Bool :=
  match P.underlying t with
  | some (.interface _)=>true
  | _=>false
theorem Zis {P:Program}{t:TypeId}(h:Ro P t=true):∃ ms,P.underlying t=some (.interface ms):=by
 unfold Ro at h
 split at h
 ·rename_i ms hu;exact ⟨ms,hu⟩
 ·cases h
theorem Zb0 {P:Program}(w:World)(n:Nat){t:TypeId}{ev':Value}{b:Bool}(hI:IfV ev' b)(ht:Ro P t=true):(Op.equalIn (n+1) t ev' .nilIface).run P w=.ok b w:=by
 obtain ⟨ms,hu⟩:=Zis ht
 rcases hI with ⟨rfl,rfl⟩ | ⟨rfl,tt,vv,rfl⟩
 ·simp [Op.equalIn,run_underlying hu]
 ·simp [Op.equalIn,run_underlying hu]
theorem Zc6 {op:BinOp}{t:TypeId}{x:Operand}{ev':Value}{b:Bool}(hI:IfV ev' b):eqGuard op t x (.const .nilIface) ev' .nilIface=pure ():=by
 rcases hI with ⟨rfl,rfl⟩ | ⟨rfl,tt,vv,rfl⟩
 ·cases op <;> first | rfl | (cases x <;> rfl)
 ·cases op <;> rfl
theorem Zao {t t2:TypeId}{x:Operand}{ev':Value}{b:Bool}(hI:IfV ev' b)(q0_:ops[i]?=some ⟨some d,.binOp .eql t x (.const .nilIface) t2,ty,pos,af,g⟩∧Zr ops E g=true∧Nat.ble (d+1) C.n=true∧ev E x=some ev')(ht:Ro C.P t=true)(kk:TO C ops Q l ((d,.bool b)::E) H):TO C ops Q (i::l) E H:=have ⟨ho,hg,hd,hx⟩:=q0_;
  TO.val ho hg hd (by simp) (fun a w hf _=>by
    have hb:binOp .eql t ev' .nilIface=(do pure (.bool (←Op.equal t ev' .nilIface))):=by
      rcases hI with ⟨rfl,rfl⟩ | ⟨rfl,tt,vv,rfl⟩ <;> rfl
    have:=Zbw (Ng fun q=>Zb0 (P:=C.P) w q hI ht) hb
    have ey:a.eval (.const .nilIface)=.nilIface:=rfl
    simp only [execOp,hf.ev hx,ey,Zc6 hI]
    simp [this]) kk
theorem Zdq {t t2:TypeId}{x:Operand}{ev':Value}{b:Bool}(hI:IfV ev' b)(q0_:ops[i]?=some ⟨some d,.binOp .neq t x (.const .nilIface) t2,ty,pos,af,g⟩∧Zr ops E g=true∧Nat.ble (d+1) C.n=true∧ev E x=some ev')(ht:Ro C.P t=true)(kk:TO C ops Q l ((d,.bool (!b))::E) H):TO C ops Q (i::l) E H:=have ⟨ho,hg,hd,hx⟩:=q0_;
  TO.val ho hg hd (by simp) (fun a w hf _=>by
    have hb:binOp .neq t ev' .nilIface=(do pure (.bool (!(←Op.equal t ev' .nilIface)))):=by
      rcases hI with ⟨rfl,rfl⟩ | ⟨rfl,tt,vv,rfl⟩ <;> rfl
    have:=Z9g (Ng fun q=>Zb0 (P:=C.P) w q hI ht) hb
    have ey:a.eval (.const .nilIface)=.nilIface:=rfl
    simp only [execOp,hf.ev hx,ey,Zc6 hI]
    simp [this]) kk
end rules
def BufO (ob:Option Nat)(b c:Nat):Prop:=c≤9223372036854775807∧∀ q,ob=some q→b≤q
end Go.Acq
namespace Go.Acq
open Go Go.RowKit Go.Proofs Go.Shelf
def Z3v (e:TypeId)(R:Heap):Bool:=R.all fun p=>match p.1,p.2 with
  | none,_=>true
  | some _,.cells _ T' _=>T' != e
  | some _,_=>true
theorem Z8g {e:TypeId}{R:Heap}(h:Z3v e R=true){k:Nat}{o:Obj}(hm:(some k,o)∈R):∀ c fz,o≠.cells c e fz:=by
 intro c fz ho
 have:=List.all_eq_true.1 h _ hm
 subst ho
 simp at this
theorem BufO.nil (b:Nat):BufO none b 0:=⟨by omega,fun q e=>by cases e⟩
section rules
variable {C : Cx} {ops : Array Oper} {Q : Exit → Act → World → Prop} {l : List Nat} {E : Env} {H R : Heap} {i d : Nat} {ty : TypeId} {pos : String} {af : Array Edge} {g : Option (Nat × Bool)}
theorem Z2g {f:FuncId}{xs:Array Operand}{at':Array TypeId}{vs:List Value}{Post:Value→Heap→Prop}(hF:Yb C.P f=true)
    (ho:ops[i]?=some ⟨some d,.call ⟨.value (.func f),xs,at'⟩,ty,pos,af,g⟩)(hg:Zr ops E g=true)(hd:Nat.ble (d+1) C.n=true)(hx:evs E xs.toList=some vs)
    (hc:∀ w,Inv C.w0 C.M w H→Calls C.P f vs.toArray w (fun e w'=>∃ v H',Post v H'∧e=.returned v∧Inv C.w0 C.M w' H'))
    (kk:∀ v H',Post v H'→TO C ops Q l ((d,v)::E) H'):TO C ops Q (i::l) E H :=
  Kr ho hg (by simp) fun a w hf hi=>by
    have e1:xs.map a.eval=vs.toArray:=by apply Array.ext';simpa using Jk hf hx
    have hrun:(execOp a.eval ⟨some d,.call ⟨.value (.func f),xs,at'⟩,ty,pos,af,g⟩).run C.P w=.ok (.enter f vs.toArray) w:=by
      simp [execOp,resolve,Deferred.ofValue,invoke,Act.eval,e1,Ux hF]
    rw [hrun]
    refine ⟨by simp [FW],?_⟩
    refine callsIn_FW.2 (Calls.mono (hc w hi) ?_)
    rintro e w' ⟨v,H',hP,rfl,hN⟩
    exact kk v H' hP _ _ (hf.put hd v) hN
variable {ρ : Ren} {b n c : Nat} {lr : Int} {ob : Option Nat} {xs : List Int} {j : List Value}
theorem Z9o (T e:TypeId){w0 w:World}{M:List Nat}{R1:Heap}(hi:Inv w0 M w H)
    (hb:Take (some b,.cells #[.slice (sb ob) n c,.int .i64 0,.int .i8 lr] T (0,0)) H R1)(hr:Take (ob,.cells (arr (intC .u8) xs j).toArray e (0,0)) R1 R)
    (hn:xs.length=n)(hc:n≤c)(hj:j.length=(c-n)*1)(hz:ob=none→c=0)(hB:BufO ob b c):Lib.IsBuffer T e b b (xs.map (Value.int .u8)) w:=by
  have h1:=hi.perm (hb.trans (List.Perm.cons _ hr))
  have hbk:=h1.own b _ (.head _)
  have hl:(xs.map (Value.int .u8)).length=n:=by rw [List.length_map];exact hn
  refine ⟨Nat.le_refl _,.slice (sb ob) n c,lr,hbk,⟨by rw [Nat.mul_one],?_⟩,?_⟩
  · cases ob with
    | none =>
      have h0:=hz rfl
      have hn0:n=0:=by omega
      subst hn0;subst h0
      exact .inl ⟨rfl,hl⟩
    | some q =>
      have hq:=h1.own q _ (.tail _ (.head _))
      refine .inr ⟨q,c,_,by rw [hl];rfl,hB.2 q rfl,hq,by rw [hl];exact hc,?_,?_,?_⟩
      ·have:=hB.1;unfold maxLen;omega
      ·simp only [List.size_toArray,arr,List.length_append,Kc (s:=1) (f:=intC .u8) (fun _=>rfl)];omega
      · rw [hl]
        have e1:xs.flatMap (intC .u8)=xs.map (Value.int .u8):=by rw [List.map_eq_flatMap]
        simp only [arr,e1,Nat.mul_one]
        rw [List.take_left' hl]
  · cases ob with
    | none=>simp [sb,Value.ownBlock]
    | some q =>
      simp only [sb,Option.map_some,Value.ownBlock,ne_eq,Option.some.injEq]
      have ha:=h1.apart
      simp only [List.filterMap_cons,List.nodup_cons,List.mem_cons,not_or] at ha
      exact fun e=>ha.1.1 e.symm
theorem buf_back {T e:TypeId}{w0 w w':World}{R1:Heap}{ys:List Int}(hi:Inv w0 [] w H)
    (hb:Take (some b,.cells #[.slice (sb ob) n c,.int .i64 0,.int .i8 lr] T (0,0)) H R1)(hr:Take (ob,.cells (arr (intC .u8) xs j).toArray e (0,0)) R1 R)(hR:Z3v e R=true)
    (h:Lib.IsBuffer T e b b (ys.map (Value.int .u8)) w')(hBe:Below b w w')(hO:Lib.OthersKept e (some b) w w')(hlim:ys.length≤140737488355328) :
    ∃ (ob':Option Nat) (c':Nat) (j':List Value) (lr':Int),ys.length≤c'∧j'.length=(c'-ys.length)*1∧(ob'=none→c'=0)∧BufO ob' b c' ∧
      Inv w0 [] w' ((some b,.cells #[.slice (sb ob') ys.length c',.int .i64 0,.int .i8 lr'] T (0,0))::(ob',.cells (arr (intC .u8) ys j').toArray e (0,0))::R):=by
  obtain ⟨_,v,lr',hbk,⟨hl1,hO1⟩,hne⟩:=h
  have hl:(ys.map (Value.int .u8)).length=ys.length:=List.length_map ..
  rw [hl] at hO1
  have h1:=hi.perm (hb.trans (List.Perm.cons _ hr))
  have hbl:w0.heap.size≤b:=by
    rcases h1.low b _ (.head _) with hh | hh
    ·exact hh
    ·simp at hh
  have hap:=h1.apart
  simp only [List.filterMap_cons,List.nodup_cons] at hap
  have hRb:∀ k o,(some k,o)∈R→k≠b:=fun k o hm e=>by
    subst e
    have hm2:=Nq hm
    cases ob with
    | none=>exact hap.1 hm2
    | some q=>exact hap.1 (List.mem_cons_of_mem _ hm2)
  have hRk:∀ k o,(some k,o)∈R→w'.heap[k]?=some o:=fun k o hm=>by
    have hk:w.heap[k]?=some o:=h1.own k o (.tail _ (.tail _ hm))
    exact hO k o hk (by simpa using hRb k o hm) (Z8g hR hm)
  have hRl:∀ k o,(some k,o)∈R→w0.heap.size≤k∨k∈([]:List Nat):=fun k o hm=>h1.low k o (.tail _ (.tail _ hm))
  have hRn:(R.filterMap (·.1)).Nodup:=by
    cases ob with
    | none=>exact hap.2
    | some q=>exact (List.nodup_cons.1 hap.2).2
  have hRb2:b∉R.filterMap (·.1):=fun hm=>by
    obtain ⟨o,ho⟩:=Nj hm
    exact hRb b o ho rfl
  have hkeep:∀ k,k<w0.heap.size→k∉([]:List Nat)→w'.heap[k]?=w0.heap[k]?:=fun k hk hm=>by
    rw [hBe.block k (by omega)];exact h1.keep k hk hm
  have hsz:w0.heap.size≤w'.heap.size:=Nat.le_trans h1.size hBe.size
  rcases hO1 with ⟨rfl,h0⟩ | ⟨q,cap,cur,rfl,hq,hcur,hnc,hcm,hcs,htk⟩
  · have hy : ys = [] := List.eq_nil_of_length_eq_zero h0
    subst hy
    refine ⟨none,0,[],lr',Nat.le_refl _,rfl,fun _=>rfl,⟨by omega,fun q e=>by cases e⟩,?_⟩
    refine ⟨hBe.os.trans h1.os,hBe.tape.trans h1.tape,hBe.output.trans h1.output,hsz,hkeep,fun k o hm=>?_,fun k o hm=>?_,?_⟩
    · rcases List.mem_cons.1 hm with e | hm
      ·cases e;exact hbk
      · rcases List.mem_cons.1 hm with e | hm
        ·cases e
        ·exact hRk k o hm
    · rcases List.mem_cons.1 hm with e | hm
      ·cases e;exact .inl hbl
      · rcases List.mem_cons.1 hm with e | hm
        ·cases e
        ·exact hRl k o hm
    · simp only [List.filterMap_cons, List.nodup_cons]
      exact ⟨hRb2,hRn⟩
  · rw [Nat.mul_one] at hcs htk
    have hqb:q≠b:=fun e=>hne (by rw [←e];rfl)
    have hqR:q∉R.filterMap (·.1):=fun hm=>by
      obtain ⟨o,ho⟩:=Nj hm
      have h9:=hRk q o ho
      rw [hcur] at h9
      injection h9 with h9
      exact Z8g hR ho _ _ h9.symm
    have e1:ys.flatMap (intC .u8)=ys.map (Value.int .u8):=by rw [List.map_eq_flatMap]
    have hrow:cur=(arr (intC .u8) ys (cur.toList.drop ys.length)).toArray:=by
      apply Array.ext'
      simp only [arr,e1]
      rw [←htk,List.take_append_drop]
    refine ⟨some q,cap,cur.toList.drop ys.length,lr',hnc,by rw [List.length_drop,Array.length_toList,hcs,Nat.mul_one],(fun e=>by cases e),⟨by unfold maxLen at hcm;omega,fun q' e=>by cases e;exact hq⟩,?_⟩
    refine ⟨hBe.os.trans h1.os,hBe.tape.trans h1.tape,hBe.output.trans h1.output,hsz,hkeep,fun k o hm=>?_,fun k o hm=>?_,?_⟩
    · rcases List.mem_cons.1 hm with e | hm
      ·cases e;exact hbk
      · rcases List.mem_cons.1 hm with e | hm
        · injection e with e1 e2
          injection e1 with e1
          subst e1;subst e2
          rw [←hrow];exact hcur
        ·exact hRk k o hm
    · rcases List.mem_cons.1 hm with e | hm
      ·cases e;exact .inl hbl
      · rcases List.mem_cons.1 hm with e | hm
        · injection e with e1 e2
          injection e1 with e1
          subst e1
          exact .inl (by omega)
        ·exact hRl k o hm
    · simp only [List.filterMap_cons, List.nodup_cons, List.mem_cons, not_or]
      exact ⟨⟨fun e=>hqb e.symm,hRb2⟩,hqR,hRn⟩
theorem Z5y (L:LaysM.n178 C.P ρ){x y:Operand}{at':Array TypeId}{s:Str}{R1:Heap}(hlim:(xs++ub s).length≤140737488355328)(hM:C.M=[])(hF:Yb C.P (ρ.f 178)=true)
    (q0_:ops[i]?=some ⟨some d,.call ⟨.value (.func (ρ.f 178)),#[x,y],at'⟩,ty,pos,af,g⟩∧Zr ops E g=true∧Nat.ble (d+1) C.n=true∧ev E x=some (.pointer (some ⟨b,0,none⟩))∧ev E y=some (.string (bs s)))
    (hb:Take (some b,.cells #[.slice (sb ob) n c,.int .i64 0,.int .i8 lr] (ρ.t 93) (0,0)) H R1)(hr:Take (ob,.cells (arr (intC .u8) xs j).toArray (ρ.t 5) (0,0)) R1 R)(hR:Z3v (ρ.t 5) R=true)
    (hn:xs.length=n)(hc:n≤c)(hj:j.length=(c-n)*1)(hz:ob=none→c=0)(hB:BufO ob b c)
    (kk:∀ (ob':Option Nat) (n' c':Nat) (j':List Value) (lr':Int),(xs++ub s).length=n'→n'≤c'→j'.length=(c'-n')*1→(ob'=none→c'=0)→BufO ob' b c' →
      TO C ops Q l ((d,.tuple #[.int .i64 (s.length:Int),.nilIface])::E) ((some b,.cells #[.slice (sb ob') n' c',.int .i64 0,.int .i8 lr'] (ρ.t 93) (0,0))::(ob',.cells (arr (intC .u8) (xs++ub s) j').toArray (ρ.t 5) (0,0))::R)) :
    TO C ops Q (i::l) E H:=by
  obtain ⟨ho,hg,hd,hx,hy⟩:=q0_
  refine Z2g (vs:=[.pointer (some ⟨b,0,none⟩),.string (bs s)]) (Post:=fun v H'=>v=.tuple #[.int .i64 (s.length:Int),.nilIface]∧∃ (ob':Option Nat) (c':Nat) (j':List Value) (lr':Int),(xs++ub s).length≤c'∧j'.length=(c'-(xs++ub s).length)*1∧(ob'=none→c'=0)∧BufO ob' b c' ∧
      H'=(some b,.cells #[.slice (sb ob') (xs++ub s).length c',.int .i64 0,.int .i8 lr'] (ρ.t 93) (0,0))::(ob',.cells (arr (intC .u8) (xs++ub s) j').toArray (ρ.t 5) (0,0))::R) hF ho hg hd (by simp [evs,hx,hy]) (fun w hi=>?_) ?_
  · have hB1 := Z9o (ρ.t 93) (ρ.t 5) hi hb hr hn hc hj hz hB
    have hbl:b<w.heap.size:=hi.lt hb.mem
    rw [hM] at hi ⊢
    have hcall:=Any.Buffer_WriteString_k L b b (xs.map (Value.int .u8)) (bs s) w hB1 (by omega) (fun v hv=>by
      obtain ⟨y',_,rfl⟩:=List.mem_map.1 hv;rfl) (by rw [List.length_map,bs_size];rw [List.length_append,Z9x] at hlim;exact hlim)
    refine Calls.mono hcall ?_
    rintro e w' ⟨rfl,hB2,hBe,hOk⟩
    have e2:xs.map (Value.int .u8)++Lib.byteCells (bs s).data.toList=(xs++ub s).map (Value.int .u8):=by
      rw [Ln,List.map_append];simp [Lib.byteCells,ub]
    rw [e2] at hB2
    obtain ⟨ob',c',j',lr',h1,h2,h3,h4,h5⟩:=buf_back hi hb hr hR hB2 hBe hOk hlim
    refine ⟨_,_,⟨?_,ob',c',j',lr',h1,h2,h3,h4,rfl⟩,rfl,h5⟩
    rw [bs_size]
  · rintro v H' ⟨rfl, ob', c', j', lr', h1, h2, h3, h4, rfl⟩
    exact kk ob' _ c' j' lr' rfl h1 h2 h3 h4
theorem Zby (L:LaysM.n183 C.P ρ){x:Operand}{at':Array TypeId}{R1:Heap}(hF:Yb C.P (ρ.f 183)=true)
    (q0_:ops[i]?=some ⟨some d,.call ⟨.value (.func (ρ.f 183)),#[x],at'⟩,ty,pos,af,g⟩∧Zr ops E g=true∧Nat.ble (d+1) C.n=true∧ev E x=some (.pointer (some ⟨b,0,none⟩))∧C.M=[])
    (hb:Take (some b,.cells #[.slice (sb ob) n c,.int .i64 0,.int .i8 lr] (ρ.t 93) (0,0)) H R1)(hr:Take (ob,.cells (arr (intC .u8) xs j).toArray (ρ.t 5) (0,0)) R1 R)(hR:Z3v (ρ.t 5) R=true)
    (hn:xs.length=n)(hc:n≤c)(hj:j.length=(c-n)*1)(hz:ob=none→c=0)(hB:BufO ob b c)
    (kk:∀ (ob':Option Nat) (n' c':Nat) (j':List Value),xs.length=n'→n'≤c'→j'.length=(c'-n')*1→(ob'=none→c'=0) →
      TO C ops Q l ((d,.slice (sb ob') n' c')::E) ((ob',.cells (arr (intC .u8) xs j').toArray (ρ.t 5) (0,0))::R)) :
    TO C ops Q (i::l) E H:=by
  obtain ⟨ho,hg,hd,hx,hM⟩:=q0_
  refine Z2g (vs:=[.pointer (some ⟨b,0,none⟩)]) (Post:=fun v H'=>∃ (ob':Option Nat) (c':Nat) (j':List Value),v=.slice (sb ob') xs.length c'∧xs.length≤c'∧j'.length=(c'-xs.length)*1∧(ob'=none→c'=0) ∧
      H'=(ob',.cells (arr (intC .u8) xs j').toArray (ρ.t 5) (0,0))::R) hF ho hg hd (by simp [evs,hx]) (fun w hi=>?_) ?_
  · have hB1 := Z9o (ρ.t 93) (ρ.t 5) hi hb hr hn hc hj hz hB
    have hbl:b<w.heap.size:=hi.lt hb.mem
    rw [hM] at hi ⊢
    refine Calls.mono (Any.Buffer_Bytes L b b (xs.map (Value.int .u8)) w hB1) ?_
    rintro e w' ⟨v,rfl,hv,k,rfl⟩
    have hbk:(w.drewN k).heap[b]?=some (.cells #[v,.int .i64 0,.int .i8 0] (ρ.t 93) (0,0))∨True:=.inr trivial
    have hl:(xs.map (Value.int .u8)).length=xs.length:=List.length_map ..
    have h1:=hi.perm (hb.trans (List.Perm.cons _ hr))
    have hi2:Inv C.w0 [] (w.drewN k) R:=(hi.pick (Na (S:=[(some b,Obj.cells #[.slice (sb ob) n c,.int .i64 0,.int .i8 lr] (ρ.t 93) (0,0)),(ob,.cells (arr (intC .u8) xs j).toArray (ρ.t 5) (0,0))]) ((hb.trans (List.Perm.cons _ hr)).trans (by
      exact (List.perm_append_comm (l₁:=[_,_]) (l₂:=R)))))).ofHeap rfl rfl rfl rfl
    rcases hv with ⟨_,⟨rfl,h0⟩ | ⟨q,cap,cur,rfl,hq,hcur,hnc,hcm,hcs,htk⟩⟩
    · rw [hl] at h0
      have hy:xs=[]:=List.eq_nil_of_length_eq_zero h0
      subst hy
      exact ⟨_,_,⟨none,0,[],rfl,Nat.le_refl _,rfl,fun _=>rfl,rfl⟩,rfl,hi2.addNone _⟩
    · rw [hl] at hnc htk
      rw [Nat.mul_one] at hcs htk
      have hcur':w.heap[q]?=some (.cells cur (ρ.t 5) (0,0)):=hcur
      have hqR:q∉R.filterMap (·.1):=fun hm=>by
        obtain ⟨o,ho'⟩:=Nj hm
        have h9:w.heap[q]?=some o:=h1.own q o (.tail _ (.tail _ ho'))
        rw [hcur'] at h9
        injection h9 with h9
        exact Z8g hR ho' _ _ h9.symm
      have e1:xs.flatMap (intC .u8)=xs.map (Value.int .u8):=by rw [List.map_eq_flatMap]
      have hrow:cur=(arr (intC .u8) xs (cur.toList.drop xs.length)).toArray:=by
        apply Array.ext'
        simp only [arr,e1]
        rw [←htk,List.take_append_drop]
      have hbl2:C.w0.heap.size≤b:=by
        rcases h1.low b _ (.head _) with hh | hh
        ·exact hh
        ·simp at hh
      refine ⟨_,_,⟨some q,cap,cur.toList.drop xs.length,by rw [hl];rfl,hnc,by rw [List.length_drop,Array.length_toList];omega,(fun e=>by cases e),rfl⟩,rfl,?_⟩
      refine ⟨hi2.os,hi2.tape,hi2.output,hi2.size,hi2.keep,fun k' o hm=>?_,fun k' o hm=>?_,?_⟩
      · rcases List.mem_cons.1 hm with e | hm
        · injection e with e1 e2
          injection e1 with e1
          subst e1;subst e2
          rw [←hrow];exact hcur
        ·exact hi2.own k' o hm
      · rcases List.mem_cons.1 hm with e | hm
        · injection e with e1 e2
          injection e1 with e1
          subst e1
          exact .inl (by omega)
        ·exact hi2.low k' o hm
      · simp only [List.filterMap_cons, List.nodup_cons]
        exact ⟨hqR,hi2.apart⟩
  · rintro v H' ⟨ob', c', j', rfl, h1, h2, h3, rfl⟩
    exact kk ob' _ c' j' rfl h1 h2 h3
theorem Zfh {P:Program}{w:World}{b:Nat}{cs:Array Value}{T:TypeId}{fr:Nat×Nat}(hb:w.heap[b]?=some (.cells cs T fr)):(markStringish ⟨b,0,none⟩).run P w=.ok () (w.freeze ⟨b,cs.size,none⟩ 1):=by
 show ((Go.shape b).bind _).run P w=_
 simp only [Go.shape,Sem.bind,Sem.run,World.shape?,hb]
 rfl
theorem Z9e {s e T:TypeId}{x:Operand}{b n c:Nat}{cs:Array Value}{fr:Nat×Nat}(q0_:ops[i]?=some ⟨some d,.convert s s x,ty,pos,af,g⟩∧Zr ops E g=true∧Nat.ble (d+1) C.n=true∧ev E x=some (.slice (some ⟨b,0,none⟩) n c))(hs:Yk C.P s=some e)(he:C.P.underlying e=some (.int .u8))(ht:Take (some b,.cells cs T fr) H R)
    (kk:∀ fr':Nat×Nat,TO C ops Q l ((d,.slice (some ⟨b,0,none⟩) n c)::E) ((some b,.cells cs T fr')::R)):TO C ops Q (i::l) E H:=have ⟨ho,hg,hd,hx⟩:=q0_;
  Kr ho hg (by simp) fun a w hf hi=>by
    have hb:=hi.own _ _ ht.mem
    have h1:(execOp a.eval ⟨some d,.convert s s x,ty,pos,af,g⟩).run C.P w=.ok (.value (.slice (some ⟨b,0,none⟩) n c)) (w.freeze ⟨b,cs.size,none⟩ 1):=by
      simp only [execOp,hf.ev hx]
      simp [convert,run_underlying (Va hs),run_underlying he,Zfh hb]
    rw [h1]
    have hi2:Inv C.w0 C.M (w.freeze ⟨b,cs.size,none⟩ 1) ((some b,.cells cs T (if fr.1==fr.2 then (cs.size,cs.size+1) else (min fr.1 cs.size,max fr.2 (cs.size+1))))::R):=by
      refine hi.upd ht rfl rfl rfl (by simp [World.freeze]) ?_ fun k hk=>?_
      · obtain ⟨lo, hi⟩ := fr
        simp [World.freeze,Array.getElem?_modify,hb]
      · simp only [World.freeze, if_neg (Nat.one_ne_zero), Array.getElem?_modify]
        rw [if_neg (fun e=>hk e.symm)]
    exact kk _ _ _ (hf.put hd _) hi2
end rules
end Go.Acq
namespace Go.Acq
open Go Go.RowKit Go.Proofs Go.Shelf
section fns
variable {P : Program} {ρ : Ren}
theorem Fnc.join (L:Lays.n156 P ρ)(X:Builder.Extra P ρ){base:Option Addr}{n c:Nat}{xs:List Str}(sep:Str)(w:World){M:List Nat}(h:RS w M Yn 1 base n c xs)(hN:xs.length≤140737488355328)
    (hlen:(Lib.join xs sep).length≤140737488355328):Fnc P (ρ.f 156) #[.slice base n c,.string (bs sep)] w [] (fun v N=>v=.string (bs (Lib.join xs sep))∧N=[]):=by
  have hl:=h.ro.len
  have hmap:(xs.map bs).map (·.data.toList)=xs:=by
    rw [List.map_map]
    conv=>rhs;rw [←List.map_id xs]
    apply List.map_congr_left
    intro x _
    exact Ln x
  cases xs with
  | nil =>
    simp only [List.length_nil] at hl
    subst hl
    refine Calls.mono (Any.strings_Join_none L X base c (bs sep) w) ?_
    rintro e w' ⟨rfl,rfl⟩
    exact ⟨_,_,⟨rfl,rfl⟩,rfl,Inv.refl _⟩
  | cons x xs =>
    cases base with
    | none=>have:=h.ro.nil rfl;rw [←hl] at this;simp at this
    | some ad =>
      have hcell:∀ (j:Nat) y,(x::xs)[j]?=some y→w.cell? (ad.add j)=some (.string (bs y)):=fun j y hj=>by
        have hlt:=(List.getElem?_eq_some_iff.1 hj).1
        have:=h.ro.cell j 0 hlt (by omega) y hj
        simpa [ea,Yn] using this
      obtain ⟨bk,o,spot⟩:=ad
      have h0:=hcell 0 x rfl
      have hspot:spot=none:=by simpa [Addr.add] using World.cell?_spot h0
      subst hspot
      have hbk:bk<w.heap.size:=by
        have:=World.block_lt_of_cell? _ _ h0
        simpa [Addr.add] using this
      have cc:=Any.strings_Join L X bk o c ((x::xs).map bs) (bs sep) w (fun j y hj=>by
        rw [List.getElem?_map] at hj
        obtain ⟨z,hz,rfl⟩:=Option.map_eq_some_iff.1 hj
        have:=hcell j z hz
        by_cases h0:j=0
        ·subst h0;simpa [Addr.add] using this
        ·simpa [Addr.add,h0] using this) hbk (by rw [List.length_map];exact hN) (by rw [List.length_map,hl];exact h.cap) (by rw [hmap,Ln];exact hlen)
      rw [List.length_map,hl,hmap,Ln] at cc
      refine Calls.mono cc ?_
      rintro e w' ⟨rfl,hb⟩
      exact ⟨_,_,⟨rfl,rfl⟩,rfl,Rx hb⟩
end fns
end Go.Acq
namespace Go.Acq
open Go Go.RowKit
def Ua (v:Value):List PanicEntry:=[{ v:=v,recovered:=false }]
def FncP (P:Program)(f:FuncId)(args:Array Value)(w:World)(M:List Nat)(pv:Value):Prop :=
  Calls P f args w (fun e w'=>e=.panicked (Ua pv)∧Inv w M w' [])
def FncSR {α:Type}(w:World)(M:List Nat)(pv:Value)(Post:α→Value→Heap→Prop):α⊕Unit→Ending→World→Prop
  | .inl r=>Wb w M (Post r)
  | .inr _=>fun e w'=>e=.panicked (Ua pv)∧Inv w M w' []
def FncS {α:Type}(P:Program)(f:FuncId)(args:Array Value)(w:World)(M:List Nat)(pv:Value)(r:α⊕Unit)(Post:α→Value→Heap→Prop):Prop :=
  Calls P f args w (FncSR w M pv Post r)
section
variable {α : Type} {P : Program} {f : FuncId} {args : Array Value} {w : World} {M : List Nat} {pv : Value} {Post : α → Value → Heap → Prop}
theorem FncS.ok {r:α}(h:FncS P f args w M pv (.inl r) Post):Fnc P f args w M (Post r):=h
theorem Wn {u:Unit}(h:FncS P f args w M pv (.inr u) Post):FncP P f args w M pv:=h
theorem FncS.enter {fn:Func}{c:Code}{vs:List Value}{H:Heap}{r:α⊕Unit}
    (hf:P.funcs[f]?=some fn)(hb:fn.body=some c)(hn:Nat.ble vs.length fn.ntmps=true)(hi:Inv w M w H)
    (h:T ⟨P,none,fn.ntmps,[],w,M⟩ c (bodyPost P fn (FncSR w M pv Post r)) (Gl 0 vs) H):FncS P f vs.toArray w M pv r Post:=by
  have hn':=Nat.le_of_ble_eq_true hn
  refine callsIn_FW (ρ:=none) (n:=0) |>.1 (callsIn_of_wp hf hb trivial ?_ rfl)
  refine h _ w ⟨by simp;omega,rfl,fun t v hv=>?_⟩ hi
  obtain ⟨_,h2⟩:=Z0s vs 0 t v hv
  rw [Nat.sub_zero] at h2
  have hlt:=(List.getElem?_eq_some_iff.1 h2).1
  simp only [Array.getD_eq_getD_getElem?]
  rw [Array.getElem?_append_left (by simpa using hlt)]
  simp [h2]
end
section rules
variable {C : Cx} {ops : Array Oper} {Q : Exit → Act → World → Prop} {l : List Nat} {E : Env} {H R : Heap} {i d : Nat} {ty : TypeId} {pos : String} {af : Array Edge} {g : Option (Nat × Bool)}
theorem Wx {K:Act→World→Prop}{ch:List PanicEntry}(h:X C Q (.panic ch) E H):X C (Exit.then K Q) (.panic ch) E H:=h
theorem Z1f {id:Nat}{ch:List PanicEntry}(h:X C Q (.panic ch) E H):X C (Exit.inBlock id Q) (.panic ch) E H:=h
theorem Wt {α:Type}{fn:Func}{w0:World}{M:List Nat}{pv:Value}{u:Unit}{Post:α→Value→Heap→Prop}(q0_:C.w0=w0∧C.M=M∧C.D=[]) :
    X C (bodyPost C.P fn (FncSR w0 M pv Post (.inr u))) (.panic (Ua pv)) E H:=have ⟨hw,hMM,hD⟩:=q0_;fun a w hf hi=>by
  refine ⟨hf.defers.trans hD,rfl,?_⟩
  rw [←hw,←hMM]
  exact hi.pick Zg
theorem Ws {f:FuncId}{xs:Array Operand}{at':Array TypeId}{vs:List Value}{M:List Nat}{Hm:Heap}{pv:Value}(hF:Yb C.P f=true)
    (q0_:ops[i]?=some ⟨some d,.call ⟨.value (.func f),xs,at'⟩,ty,pos,af,g⟩∧Zr ops E g=true∧evs E xs.toList=some vs)(hH:List.Perm H (Hm++R))(hM:Hm.filterMap (·.1)=M)
    (hc:∀ w,Inv C.w0 C.M w H→FncP C.P f vs.toArray w M pv)
    (kk:X C Q (.panic (Ua pv)) E R):TO C ops Q (i::l) E H:=have ⟨ho,hg,hx⟩:=q0_;
  Kr ho hg (by simp) fun a w hf hi=>by
    have e1:xs.map a.eval=vs.toArray:=by apply Array.ext';simpa using Jk hf hx
    have hrun:(execOp a.eval ⟨some d,.call ⟨.value (.func f),xs,at'⟩,ty,pos,af,g⟩).run C.P w=.ok (.enter f vs.toArray) w:=by
      simp [execOp,resolve,Deferred.ofValue,invoke,Act.eval,e1,Ux hF]
    rw [hrun]
    refine ⟨by simp [FW],?_⟩
    refine callsIn_FW.2 (Calls.mono (hc w hi) ?_)
    rintro e w' ⟨rfl,hi2⟩
    have hj:=hi.join (M':=M) hH (fun m h=>by rw [hM];exact h) hi2
    exact kk a w' hf (by simpa using hj)
theorem Z7t {f:FuncId}{x:Operand}{xs:Array Operand}{at':Array TypeId}{vs:List Value}{fs cs:Array Value}{M:List Nat}{Hm:Heap}{pv:Value}(hF:Yb C.P f=true)
    (q0_:ops[i]?=some ⟨some d,.call ⟨.value x,xs,at'⟩,ty,pos,af,g⟩∧Zr ops E g=true∧ev E x=some (.func (.func f) fs cs)∧evs E xs.toList=some vs)(hH:List.Perm H (Hm++R))(hM:Hm.filterMap (·.1)=M)
    (hc:∀ w,Inv C.w0 C.M w H→FncP C.P f (fs++vs.toArray++cs) w M pv)
    (kk:X C Q (.panic (Ua pv)) E R):TO C ops Q (i::l) E H:=have ⟨ho,hg,hfv,hx⟩:=q0_;
  Kr ho hg (by simp) fun a w hf hi=>by
    have e1:xs.map a.eval=vs.toArray:=by apply Array.ext';simpa using Jk hf hx
    have hrun:(execOp a.eval ⟨some d,.call ⟨.value x,xs,at'⟩,ty,pos,af,g⟩).run C.P w=.ok (.enter f (fs++vs.toArray++cs)) w:=by
      simp [execOp,resolve,Deferred.ofValue,invoke,hf.ev hfv,e1,Ux hF]
    rw [hrun]
    refine ⟨by simp [FW],?_⟩
    refine callsIn_FW.2 (Calls.mono (hc w hi) ?_)
    rintro e w' ⟨rfl,hi2⟩
    have hj:=hi.join (M':=M) hH (fun m h=>by rw [hM];exact h) hi2
    exact kk a w' hf (by simpa using hj)
theorem Ziq {x:Operand}{t:TypeId}{v:Value}(q0_:ops[i]?=some ⟨none,.panic x,ty,pos,af,g⟩∧Zr ops E g=true∧ev E x=some (.iface t v))
    (kk:X C Q (.panic (Ua (.iface t v))) E H):TO C ops Q (i::l) E H:=have ⟨ho,hg,hx⟩:=q0_;
  Kr ho hg (by simp) fun a w hf hi=>by
    have hrun:(execOp a.eval ⟨none,.panic x,ty,pos,af,g⟩).run C.P w=.halt (.panic (.iface t v)) w:=by
      simp [execOp,hf.ev hx,Instr.panic]
    rw [hrun]
    exact kk a w hf hi
theorem Zev {x:Operand}{t:TypeId}{v:Value}(hr:∀ w,(Instr.makeInterface t v).run C.P w=.ok (.iface t v) w)(q0_:ops[i]?=some ⟨some d,.makeInterface t x,ty,pos,af,g⟩∧Zr ops E g=true∧Nat.ble (d+1) C.n=true∧ev E x=some v)
    (kk:TO C ops Q l ((d,.iface t v)::E) H):TO C ops Q (i::l) E H:=have ⟨ho,hg,hd,hx⟩:=q0_;
  TO.val ho hg hd (by simp) (fun a w hf _=>by simp [execOp,hf.ev hx,hr]) kk
end rules
end Go.Acq
namespace Go.Acq
open Go Go.RowKit
theorem ba_beq (a b:ByteArray):(a==b)=decide (a=b):=by
 cases a with | mk x=>cases b with | mk y =>
 show (x==y)=_
 by_cases h:x=y
 ·subst h;simp
 ·
  have:(ByteArray.mk x)≠ByteArray.mk y:=fun e=>h (by injection e)
  rw [decide_eq_false this]
  exact beq_eq_false_iff_ne.2 h
theorem bs_beq (a b:Str):(bs a==bs b)=decide (a=b):=by
 rw [ba_beq]
 exact decide_eq_decide.2 ⟨bs_inj,fun e=>by rw [e]⟩
def Uu {α:Type}(f:α→Value):Nat→List (Str×α)→List MapEntry
  | _,[]=>[]
  | i,x::xs=>{ key:=.string (bs x.1),val:=f x.2,born:=i }::Uu f (i+1) xs
abbrev mapZO {α:Type}(f:α→Value)(xs:List (Str×α)):Obj:=.map (Uu f 0 xs).toArray xs.length
def Xz {α:Type}(z:α)(k:Str):List (Str×α)→α
  | []=>z
  | x::xs=>if k=x.1 then x.2 else Xz z k xs
def Nv {α:Type}(k:Str):List (Str×α)→Bool
  | []=>false
  | x::xs=>if k=x.1 then true else Nv k xs
def Wm {α:Type}(k:Str)(v:α):List (Str×α)→List (Str×α)
  | []=>[(k,v)]
  | x::xs=>if k=x.1 then (k,v)::xs else x::Wm k v xs
def Kt {α:Type}(f:α→Value)(k:Str):Nat→List (Str×α)→Option (Nat×Value)
  | _,[]=>none
  | i,x::xs=>if k=x.1 then some (i,f x.2) else Kt f k (i+1) xs
section
variable {α : Type} {f : α → Value} {k : Str} {z v : α}
theorem Zbf:∀ (xs:List (Str×α)) (i j:Nat),Instr.findNow .string (.string (bs k)) (Uu f i xs) j=some (Kt f k j xs)
 | [],_,_=>rfl
 | x::xs,i,j=>by
  simp only [Uu,Instr.findNow,Instr.sameNow,Kt,bs_beq]
  by_cases h:k=x.1
  ·rw [if_pos h,decide_eq_true h]
  ·
   rw [if_neg h,decide_eq_false h]
   exact Zbf xs (i+1) (j+1)
theorem Z4z:∀ (xs:List (Str×α)) (j:Nat),(match Kt f k j xs with | some (_,u)=>(u,true) | none=>(f z,false))=(f (Xz z k xs),Nv k xs)
 | [],_=>rfl
 | x::xs,j=>by
  unfold Kt Xz Nv
  by_cases h:k=x.1
  ·rw [if_pos h,if_pos h,if_pos h]
  ·rw [if_neg h,if_neg h,if_neg h];exact Z4z xs (j+1)
theorem Z5w:∀ (xs:List (Str×α)) (i j:Nat),(match Kt f k j xs with
    | some (p,_)=>(∃ o,(j≤p∧(Uu f i xs)[p-j]?=some o∧o.key=.string (bs k)))∧(Wm k v xs).length=xs.length∧Uu f i (Wm k v xs)=(Uu f i xs).modify (p-j) (fun e=>{ e with key:=.string (bs k),val:=f v })
    | none=>(Wm k v xs).length=xs.length+1∧Uu f i (Wm k v xs)=Uu f i xs++[{ key:=.string (bs k),val:=f v,born:=i+xs.length }])
  | [],i,j=>by simp [Kt,Wm,Uu]
  | x::xs,i,j=>by
    unfold Kt Wm
    by_cases h:k=x.1
    · subst h
      simp [Uu]
    · simp only [if_neg h]
      have ih:=Z5w xs (i+1) (j+1)
      cases hf:Kt f k (j+1) xs with
      | none =>
        rw [hf] at ih
        simp only [Uu,List.length_cons,List.cons_append] at ih ⊢
        refine ⟨by omega,?_⟩
        rw [ih.2]
        simp;omega
      | some y =>
        rw [hf] at ih
        obtain ⟨p,u⟩:=y
        simp only at ih ⊢
        obtain ⟨⟨o,h1,h2,h3⟩,h4,h5⟩:=ih
        have e:p-j=(p-(j+1))+1:=by omega
        refine ⟨⟨o,by omega,?_,h3⟩,by simp [h4],?_⟩
        ·rw [e];simpa [Uu] using h2
        ·rw [e];simp only [Uu,List.modify_succ_cons,h5]
end
def Nh (P:Program)(t:TypeId):Option TypeId :=
  match P.underlying t with
  | some (.map k e)=>match P.underlying k with
    | some .string=>some e
    | _=>none
  | _=>none
theorem Z1w {P:Program}{t e:TypeId}(h:Nh P t=some e):∃ k,P.underlying t=some (.map k e)∧P.underlying k=some .string:=by
 unfold Nh at h
 split at h
 ·
  rename_i k e' h1
  split at h
  ·rename_i h2;injection h with h;subst h;exact ⟨k,h1,h2⟩
  ·cases h
 ·cases h
section rules
variable {C : Cx} {ops : Array Oper} {Q : Exit → Act → World → Prop} {l : List Nat} {E : Env} {H R : Heap} {i d : Nat} {ty : TypeId} {pos : String} {af : Array Edge} {g : Option (Nat × Bool)}
variable {α : Type} {f : α → Value}
theorem Z2l {t:TypeId}(f:α→Value)(q0_:ops[i]?=some ⟨some d,.makeMap t none,ty,pos,af,g⟩∧Zr ops E g=true∧Nat.ble (d+1) C.n=true)
    (k:∀ b,TO C ops Q l ((d,.map (some b))::E) ((some b,mapZO f [])::H)):TO C ops Q (i::l) E H:=have ⟨ho,hg,hd⟩:=q0_;
  TO.new (fun b=>.map (some b)) ho hg hd (by simp) (fun a w hf _=>by simp [execOp,Instr.makeMap];rfl) k
theorem Nb {P:Program}{w:World}{em:Bool}{kt:TypeId}{s:ByteArray}(h:P.underlying kt=some .string):(Instr.checkKey em 10000 kt (.string s)).run P w=.ok () w:=by
 show (Instr.checkKey em (9999+1) kt (.string s)).run P w=.ok () w
 rw [Instr.checkKey]
 simp [underlying,h]
theorem Z1r {P:Program}{w:World}{kt:TypeId}{f:α→Value}{k:Str}{xs:List (Str×α)}(h:P.underlying kt=some .string):(Instr.findKey kt (.string (bs k)) (Uu f 0 xs)).run P w=.ok (Kt f k 0 xs) w:=by
 unfold Instr.findKey
 simp [underlying,h,Zbf]
theorem Lg {t e:TypeId}{x y:Operand}{b:Nat}{xs:List (Str×α)}{k:Str}{z:α}{u:Value}(hm:Nh C.P t=some e)(hz:Yz C.P e=some (f z))
    (q0_:ops[i]?=some ⟨some d,.lookup t x y false,ty,pos,af,g⟩∧Zr ops E g=true∧Nat.ble (d+1) C.n=true∧ev E x=some (.map (some b))∧ev E y=some (.string (bs k)))(hh:(some b,mapZO f xs)∈H)(hu:f (Xz z k xs)=u)
    (kk:TO C ops Q l ((d,u)::E) H):TO C ops Q (i::l) E H:=have ⟨ho,hg,hd,hx,hy⟩:=q0_;
  TO.val ho hg hd (by simp) (fun a w hf hi=>by
    obtain ⟨kt,h1,h2⟩:=Z1w hm
    subst hu
    have hget:=Z4z (f:=f) (k:=k) (z:=z) xs 0
    have hb:=hi.own _ _ hh
    have hfind:=Z1r (P:=C.P) (w:=w) (f:=f) (k:=k) (xs:=xs) h2
    simp only [execOp,hf.ev hx,hf.ev hy]
    cases hc:Kt f k 0 xs with
    | none =>
      rw [hc] at hfind hget
      simp only [Prod.mk.injEq] at hget
      simp [Instr.lookup,Nb h2,hfind,underlying,h1,Nk hz,Kz hb,←hget.1]
    | some y =>
      obtain ⟨p,v⟩:=y
      rw [hc] at hfind hget
      simp only [Prod.mk.injEq] at hget
      simp [Instr.lookup,Nb h2,hfind,underlying,h1,Nk hz,Kz hb,←hget.1]) kk
theorem Ge {Q:Act→Prop}{t e:TypeId}{x y:Operand}{b:Nat}{xs:List (Str×α)}{k:Str}{z:α}{u:Value}(hm:Nh C.P t=some e)(hz:Yz C.P e=some (f z))
    (q0_:ops[i]?=some ⟨some d,.lookup t x y false,ty,pos,af,g⟩∧Zr ops E g=true∧Nat.ble (d+1) C.n=true∧ev E x=some (.map (some b))∧ev E y=some (.string (bs k)))(hh:(some b,mapZO f xs)∈H)(hu:f (Xz z k xs)=u)
    (kk:TQ C ops Q l ((d,u)::E) H):TQ C ops Q (i::l) E H:=have ⟨ho,hg,hd,hx,hy⟩:=q0_;
  TQ.val ho hg hd (by simp) (fun a w hf hi=>by
    obtain ⟨kt,h1,h2⟩:=Z1w hm
    subst hu
    have hget:=Z4z (f:=f) (k:=k) (z:=z) xs 0
    have hb:=hi.own _ _ hh
    have hfind:=Z1r (P:=C.P) (w:=w) (f:=f) (k:=k) (xs:=xs) h2
    simp only [execOp,hf.ev hx,hf.ev hy]
    cases hc:Kt f k 0 xs with
    | none =>
      rw [hc] at hfind hget
      simp only [Prod.mk.injEq] at hget
      simp [Instr.lookup,Nb h2,hfind,underlying,h1,Nk hz,Kz hb,←hget.1]
    | some y =>
      obtain ⟨p,v⟩:=y
      rw [hc] at hfind hget
      simp only [Prod.mk.injEq] at hget
      simp [Instr.lookup,Nb h2,hfind,underlying,h1,Nk hz,Kz hb,←hget.1]) kk
theorem Zgt {t e:TypeId}{x y:Operand}{b:Nat}{xs:List (Str×α)}{k:Str}{z:α}{u:Value}(hm:Nh C.P t=some e)(hz:Yz C.P e=some (f z))
    (ho:ops[i]?=some ⟨some d,.lookup t x y true,ty,pos,af,g⟩)(hg:Zr ops E g=true)(hd:Nat.ble (d+1) C.n=true)
    (hx:ev E x=some (.map (some b)))(hy:ev E y=some (.string (bs k)))(hh:(some b,mapZO f xs)∈H)(hu:f (Xz z k xs)=u)
    (kk:TO C ops Q l ((d,.tuple #[u,.bool (Nv k xs)])::E) H):TO C ops Q (i::l) E H :=
  TO.val ho hg hd (by simp) (fun a w hf hi=>by
    obtain ⟨kt,h1,h2⟩:=Z1w hm
    subst hu
    have hget:=Z4z (f:=f) (k:=k) (z:=z) xs 0
    have hb:=hi.own _ _ hh
    have hfind:=Z1r (P:=C.P) (w:=w) (f:=f) (k:=k) (xs:=xs) h2
    simp only [execOp,hf.ev hx,hf.ev hy]
    cases hc:Kt f k 0 xs with
    | none =>
      rw [hc] at hfind hget
      simp only [Prod.mk.injEq] at hget
      simp [Instr.lookup,Nb h2,hfind,underlying,h1,Nk hz,Kz hb,←hget.1,←hget.2]
    | some y =>
      obtain ⟨p,v⟩:=y
      rw [hc] at hfind hget
      simp only [Prod.mk.injEq] at hget
      simp [Instr.lookup,Nb h2,hfind,underlying,h1,Nk hz,Kz hb,←hget.1,←hget.2]) kk
theorem Zb3 (s:ByteArray):Instr.sameBits 10000 (.string s) (.string s)=true:=by
 show Instr.sameBits (9999+1) (.string s) (.string s)=true
 simp [Instr.sameBits,ba_beq]
theorem TO.mputZ {t e:TypeId}{x y v:Operand}{b:Nat}{xs:List (Str×α)}{k:Str}{u:α}{fu:Value}(hm:Nh C.P t=some e)(q0_:ops[i]?=some ⟨none,.mapUpdate t x y v,ty,pos,af,g⟩∧Zr ops E g=true∧ev E x=some (.map (some b))∧ev E y=some (.string (bs k))∧ev E v=some fu∧f u=fu)(ht:Take (some b,mapZO f xs) H R)
    (kk:TO C ops Q l E ((some b,mapZO f (Wm k u xs))::R)):TO C ops Q (i::l) E H:=have ⟨ho,hg,hx,hy,hv,hu⟩:=q0_;
  Kr ho hg (by simp) fun a w hf hi=>by
    obtain ⟨kt,h1,h2⟩:=Z1w hm
    subst hu
    have hb:=hi.own _ _ ht.mem
    have hfind:=Z1r (P:=C.P) (w:=w) (f:=f) (k:=k) (xs:=xs) h2
    have hput:=Z5w (f:=f) (k:=k) (v:=u) xs 0 0
    have hrun:(execOp a.eval ⟨none,.mapUpdate t x y v,ty,pos,af,g⟩).run C.P w=.ok .skip (Go.ChangeMaps.setBlock w b (mapZO f (Wm k u xs))):=by
      simp only [execOp,hf.ev hx,hf.ev hy,hf.ev hv]
      cases hc:Kt f k 0 xs with
      | none =>
        rw [hc] at hfind hput
        simp only at hput
        simp [Instr.mapUpdate,Nb h2,hfind,underlying,h1,Kz hb,Z12 hb]
        rw [show mapZO f (Wm k u xs)=.map (Uu f 0 xs++[({ key:=.string (bs k),val:=f u,born:=xs.length }:MapEntry)]).toArray (xs.length+1) by unfold mapZO;rw [hput.1,hput.2,Nat.zero_add]]
      | some y =>
        obtain ⟨p,v'⟩:=y
        rw [hc] at hfind hput
        simp only [Nat.sub_zero] at hput
        obtain ⟨⟨o,h5,h6,h7⟩,h8,h9⟩:=hput
        simp [Instr.mapUpdate,Nb h2,hfind,underlying,h1,Kz hb,Z12 hb,h6,h7,Instr.keyThatStays,Zb3]
        rw [show mapZO f (Wm k u xs)=.map ((Uu f 0 xs).modify p fun e=>{ e with key:=.string (bs k),val:=f u }).toArray xs.length by unfold mapZO;rw [h8,h9]]
    rw [hrun]
    have hsz:b<w.heap.size:=(Array.getElem?_eq_some_iff.1 hb).1
    refine kk _ _ (hf.putNone _) (hi.upd ht rfl rfl rfl (by simp [Go.ChangeMaps.setBlock]) (by simp [Go.ChangeMaps.setBlock,hsz]) fun k' hk=>?_)
    simp only [Go.ChangeMaps.setBlock]
    rw [Array.getElem?_setIfInBounds_ne (fun e=>hk e.symm)]
end rules
end Go.Acq
namespace Go.Acq
open Go Go.RowKit
theorem Zfb {F:Fence}{n:Nat}{P:Program}{ops:Array Oper}{Q Z:Exit→Act→World→Prop}{i:Nat}{o:Oper}{a b:Act}{w:World}{k:Act→World→Prop}(hF:∀ f,F.fn f)(ho:ops[i]?=some o)(hnd:∀ c,o.op≠.defer c)
    (hex:execOp a.eval o=execOp b.eval o)(hw:Region.wanted o (yielded ops a.tmps)=Region.wanted o (yielded ops b.tmps))
    (hZ:∀ e x w,Z e x w→∃ ch,e=.panic ch∧Q (.panic ch) a w)(h:wpOpIn F n P ops Z i (fun _ _=>False) b w):wpOpIn F n P ops Q i k a w:=by
  have hlo:LetsOut Z→False:=fun ⟨x,w,h⟩=>by obtain ⟨ch,h1,-⟩:=hZ _ _ _ h;cases h1
  have hp:∀ ch w,Z (.panic ch) b w→Q (.panic ch) a w:=fun ch w h=>by obtain ⟨ch',h1,h2⟩:=hZ _ _ _ h;cases h1;exact h2
  unfold wpOpIn at h ⊢
  rw [ho] at h ⊢
  simp only at h ⊢
  rw [hw]
  split
  · rename_i hwt
    rw [if_pos hwt] at h
    refine ⟨fun f _=>hF f,?_⟩
    have h:=h.2
    rw [Oper.semAt_eq _ _ _ hnd] at h ⊢
    rw [hex]
    generalize (execOp b.eval o).run P w=r at h ⊢
    cases r with
    | ok x w' =>
      cases x <;> simp only [Oper.uponIn] at h ⊢ <;>
        first
          | exact h.elim
          | exact h
          | exact ⟨h.1,CallsIn.mono h.2 (fun e w'' he=>by cases e <;> first | exact hp _ _ he | exact he.elim | exact (hlo he).elim)⟩
          | exact ⟨h.1,RoundIn.mono h.2 (fun e w'' he=>by cases e <;> first | exact hp _ _ he | exact he.elim | exact (hlo he).elim)⟩
          | exact ⟨h.1,RowsIn.mono h.2 (fun v w'' he=>he.elim)⟩
    | halt x w'=>cases x <;> simp only [Oper.uponIn] at h ⊢ <;> first | exact hp _ _ h | exact h.elim | exact (hlo h).elim
  · rename_i hwt
    rw [if_neg hwt] at h
    exact h.2.elim
def PQ (w0:World)(M:List Nat)(R:Heap)(pv:Value):Exit→Act→World→Prop:=fun e _ w=>e=.panic (Ua pv)∧Inv w0 M w R
section
variable {C : Cx} {ops : Array Oper} {Q : Exit → Act → World → Prop} {E : Env} {H R : Heap} {pv : Value}
theorem X.pq:X C (PQ C.w0 C.M R pv) (.panic (Ua pv)) E R:=fun a w hf hi=>⟨rfl,hi⟩
theorem TQ.tailP {Z:Exit→Act→World→Prop}{c:Nat}{H0:Heap}(hH:H0=H)(h:TO C ops Z [c] E H):TQ C ops (fun a=>∀ w,Inv C.w0 C.M w H→wpOpsIn (FW C.ρ) 0 C.P ops Z [c] a w) [] E H0:=fun a hf w hi=>h a w hf (hH▸hi)
theorem Zg4 {id:Nat}(l:List Nat)(c:Nat)(hm:C.P.follows .mixedOrders=true)(hb:Kf ops=true)(s1:setB ops ops.size [] l=true)(s2:setB ops ops.size l [c]=true)
    (s5:((List.range ops.size).all fun j=>Nat.beq j c||l.any (Nat.beq j)||Uk ops ops.size j c)=true)(s7:callB C.P ops c=true)
    (k:TQ C ops (fun a1=>∀ w,Inv C.w0 C.M w H→wpOpsIn (FW C.ρ) 0 C.P ops (PQ C.w0 C.M R pv) [c] a1 w) l E H)
    (kk:X C Q (.panic (Ua pv)) [] R):T C (.region id ops true) Q E H:=by
  intro a0 w0 hf0 hi0
  have g1:=fun p i post e=>Z5r (l:=l) s1 p i post e
  obtain ⟨hcm,hc1,-,oc,dc,hoc,hdc,hsc,huc,hlc⟩:=Z5r (l:=[c]) s2 [] c [] rfl
  have hnd:l.Nodup:=Zda fun p i post e=>(g1 p i post e).2.2.1
  have hops:∀ i,i∈l→i<ops.size∧(∃ o,ops[i]?=some o)∧∃ d,Yq ops i=some d∧∀ j,j<ops.size→j≠i→Yq ops j≠some d:=fun i hi=>by
    obtain ⟨p,post,e⟩:=List.append_of_mem hi
    obtain ⟨h1,-,-,o,d,h2,h3,h4,h5,-⟩:=g1 p i post e
    exact ⟨h1,⟨o,h2⟩,d,h4,h5⟩
  obtain ⟨vs,hst,hend⟩:=Z9s l a0 hnd (fun i hi=>(hops i hi).2.1) (k a0 hf0)
  have hbase:DoneQ ops ops.size vs a0 (fun _=>false) a0:=⟨rfl,rfl,fun j d _ h=>by simp at h,fun t _=>rfl⟩
  have hpre:∀ p post,l=p++post→DoneQ ops ops.size vs a0 (fun q=>p.any (Nat.beq q)) (Kj ops vs p a0):=fun p post e=>by
    have:=Zab (vs:=vs) p _ _ (fun i hi=>by
      obtain ⟨h1,-,h2⟩:=hops i (by rw [e];exact List.mem_append_left _ hi)
      exact ⟨h1,h2⟩) hbase
    simpa using this
  have hfull:=hpre l [] (by simp)
  have hclosed:∀ (done:Nat→Bool) (i:Nat) (o:Oper),Up ops done→ops[i]?=some o→(∀ e,e∈o.after→Region.binds .any e=true→done e.on=true)→Up ops (fun q=>if q=i then true else done q):=by
    intro done i o hc ho hd j o' ho' hj e he hbe
    show (if e.on=i then true else done e.on)=true
    by_cases hei:e.on=i
    ·rw [if_pos hei]
    · rw [if_neg hei]
      by_cases hji:j=i
      ·subst hji;rw [ho] at ho';injection ho' with ho';subst ho';exact hd e he hbe
      · have hj' : done j = true := by simpa [hji] using hj
        exact hc j o' ho' hj' e he hbe
  refine wpIn_region_any hm (Z8s (J:=fun done a w=>Up ops done∧done c=false∧DoneQ ops ops.size vs a0 done a∧Inv C.w0 C.M w H)
    hb ?_ ?_ ops.size (Array.replicate ops.size false) a0 _ (by simp) ?_ ?_)
  · rintro done i o a w ho hdi hd ⟨hc, hdc', hD, hinv⟩
    have hi:i<ops.size:=(Array.getElem?_eq_some_iff.1 ho).1
    have hreach:∀ j,Uk ops ops.size i j=true→done j=true:=fun j hj=>Lu hc _ i j hj (fun o' ho'=>by rw [ho] at ho';injection ho' with ho';subst ho';exact hd)
    have hcl:=hclosed done i o hc ho hd
    by_cases hic:i=c
    · subst hic
      rw [hoc] at ho;injection ho with ho;subst ho
      obtain ⟨o',f,xs,ho',hnd,hns,hrun⟩:=Zgy (a:=Kj ops vs l a0) (w:=w) s7
      rw [hoc] at ho';injection ho' with ho';subst ho'
      have hw:=hend w hinv
      rw [wpOpsIn_cons] at hw
      obtain ⟨hev,hwt⟩:=Z60 hD hfull (o:=oc) (fun t htl j hj hsj=>by
        obtain ⟨h1,h2⟩:=hlc t htl j hj hsj
        have:j∈l:=by exact h1.elim (fun h1=>h1) (fun h1=>by simp at h1)
        exact ⟨hreach j h2,any_mem.2 this⟩)
      refine Zfb (Z:=PQ C.w0 C.M R pv) (fun _=>trivial) hoc hnd (execOp_congr oc hns hev) hwt ?_ (wpOpIn_mono (fun a' w' h=>by cases h.1) hw)
      rintro e x w' ⟨rfl,hi'⟩
      exact ⟨_,rfl,kk a w' ⟨hD.size.trans hf0.size,hD.defers.trans hf0.defers,fun t v h=>by simp [find] at h⟩ hi'⟩
    by_cases hil:i∈l
    · obtain ⟨p, post, e⟩ := List.append_of_mem hil
      obtain ⟨him,-,-,o',d,ho',hd',hs,hu,hl⟩:=g1 p i post e
      rw [ho] at ho';injection ho' with ho';subst ho'
      obtain ⟨o',ho',hnd',hns',hval⟩:=hst p i post e
      rw [ho] at ho';injection ho' with ho';subst ho'
      obtain ⟨hev,hwt⟩:=Z60 hD (hpre p (i::post) e) (o:=o) (fun t htl j hj hsj=>by
        obtain ⟨h1,h2⟩:=hl t htl j hj hsj
        have hjp:j∈p:=by exact h1.elim (fun h1=>by simp at h1) (fun h1=>h1)
        exact ⟨hreach j h2,any_mem.2 hjp⟩)
      have hput:=hD.put him hs hu
      have dci:(if c=i then true else done c)=false:=by rw [if_neg (fun h=>hic h.symm)];exact hdc'
      have hex:=execOp_congr o hns' hev
      unfold wpOpIn
      rw [ho]
      simp only
      rw [hwt]
      rcases hval with ⟨hw,hq⟩ | ⟨hw,hq⟩
      · rw [hw]
        simp only [if_true]
        refine ⟨fun _ _=>trivial,?_⟩
        rw [Oper.semAt_eq _ _ _ hnd',hex]
        have hq:=hq w hinv
        generalize (execOp (Kj ops vs p a0).eval o).run C.P w=r at hq
        cases r with
        | ok x w' =>
          cases x <;> simp only [Lf] at hq
          case value u =>
            obtain ⟨rfl,rfl⟩:=hq
            show _∧_
            refine ⟨hcl,dci,?_,hinv⟩
            rw [hd'];exact hput
          case enter f args =>
            obtain ⟨rfl,hcall⟩:=hq
            refine ⟨by simp [FW],callsIn_FW.2 (Calls.mono hcall ?_)⟩
            rintro e w'' ⟨rfl,hK⟩
            show _∧_
            refine ⟨hcl,dci,?_,hK⟩
            rw [hd'];exact hput
        | halt x w'=>simp only [Lf] at hq
      · rw [hw]
        simp only [Bool.false_eq_true,if_false]
        refine ⟨fun _ _=>trivial,hcl,dci,?_,hinv⟩
        rw [hd',←hq];exact hput
    · exfalso
      have:=List.all_eq_true.1 s5 i (List.mem_range.2 hi)
      simp only [Bool.or_eq_true] at this
      rcases this with (h | h) | h
      ·exact hic (Nat.eq_of_beq_eq_true h)
      ·exact hil (any_mem.1 h)
      ·rw [hreach c h] at hdc';cases hdc'
  · rintro done a w hall ⟨hc, h1, -⟩
    rw [hall c hcm] at h1;cases h1
  · have : ((List.range ops.size).filter (fun i => !(Array.replicate ops.size false).getD i true)).length ≤ (List.range ops.size).length := List.length_filter_le _ _
    simpa using this
  · have hf : (fun q => (Array.replicate ops.size false).getD q false) = fun _ => false := by
      funext q
      simp only [Array.getD_eq_getD_getElem?,Array.getElem?_replicate]
      split <;> rfl
    rw [hf]
    exact ⟨fun i o _ h=>by simp at h,rfl,hbase,hi0.ofHeap rfl rfl rfl rfl⟩
end
end Go.Acq
namespace Go.Acq
open Go Go.RowKit
section rules
variable {C : Cx} {ops : Array Oper} {Q : Exit → Act → World → Prop} {l : List Nat} {E : Env} {H R : Heap} {i d : Nat} {ty : TypeId} {pos : String} {af : Array Edge} {g : Option (Nat × Bool)}
variable {α : Type} {f : α → Value}
theorem Gf {t e:TypeId}{x y v:Operand}{b:Nat}{xs:List (Str×α)}{k:Str}{u:α}{fu:Value}{xs':List (Str×α)}(hm:Nh C.P t=some e)(hu:f u=fu)(he:Wm k u xs=xs')
    (q0_:ops[i]?=some ⟨none,.insert t x y v,ty,pos,af,g⟩∧Zr ops E g=true∧ev E x=some (.map (some b))∧ev E y=some (.string (bs k))∧ev E v=some fu)(ht:Take (some b,mapZO f xs) H R)
    (kk:TO C ops Q l E ((some b,mapZO f xs')::R)):TO C ops Q (i::l) E H:=have ⟨ho,hg,hx,hy,hv⟩:=q0_;
  Kr ho hg (by simp) fun a w hf hi=>by
    obtain ⟨kt,h1,h2⟩:=Z1w hm
    subst hu
    subst he
    have hb:=hi.own _ _ ht.mem
    have hfind:=Z1r (P:=C.P) (w:=w) (f:=f) (k:=k) (xs:=xs) h2
    have hput:=Z5w (f:=f) (k:=k) (v:=u) xs 0 0
    have hrun:(execOp a.eval ⟨none,.insert t x y v,ty,pos,af,g⟩).run C.P w=.ok .skip (Go.ChangeMaps.setBlock w b (mapZO f (Wm k u xs))):=by
      simp only [execOp,hf.ev hx,hf.ev hy,hf.ev hv]
      cases hc:Kt f k 0 xs with
      | none =>
        rw [hc] at hfind hput
        simp only at hput
        simp [Instr.mapUpdate,Nb h2,hfind,underlying,h1,Kz hb,Z12 hb]
        rw [show mapZO f (Wm k u xs)=.map (Uu f 0 xs++[({ key:=.string (bs k),val:=f u,born:=xs.length }:MapEntry)]).toArray (xs.length+1) by unfold mapZO;rw [hput.1,hput.2,Nat.zero_add]]
      | some y =>
        obtain ⟨p,v'⟩:=y
        rw [hc] at hfind hput
        simp only [Nat.sub_zero] at hput
        obtain ⟨⟨o,h5,h6,h7⟩,h8,h9⟩:=hput
        simp [Instr.mapUpdate,Nb h2,hfind,underlying,h1,Kz hb,Z12 hb,h6,h7,Instr.keyThatStays,Zb3]
        rw [show mapZO f (Wm k u xs)=.map ((Uu f 0 xs).modify p fun e=>{ e with key:=.string (bs k),val:=f u }).toArray xs.length by unfold mapZO;rw [h8,h9]]
    rw [hrun]
    have hsz:b<w.heap.size:=(Array.getElem?_eq_some_iff.1 hb).1
    refine kk _ _ (hf.putNone _) (hi.upd ht rfl rfl rfl (by simp [Go.ChangeMaps.setBlock]) (by simp [Go.ChangeMaps.setBlock,hsz]) fun k' hk=>?_)
    simp only [Go.ChangeMaps.setBlock]
    rw [Array.getElem?_setIfInBounds_ne (fun e=>hk e.symm)]
theorem Z5i {t e:TypeId}{x y:Operand}{b:Nat}{xs:List (Str×α)}{k:Str}{z:α}{u:Value}{bb:Bool}(hm:Nh C.P t=some e)(hz:Yz C.P e=some (f z))
    (q0_:ops[i]?=some ⟨some d,.lookup t x y true,ty,pos,af,g⟩∧Zr ops E g=true∧Nat.ble (d+1) C.n=true∧ev E x=some (.map (some b))∧ev E y=some (.string (bs k)))(hh:(some b,mapZO f xs)∈H)(hu:f (Xz z k xs)=u)(hb:Nv k xs=bb)
    (kk:TO C ops Q l ((d,.tuple #[u,.bool bb])::E) H):TO C ops Q (i::l) E H:=have ⟨ho,hg,hd,hx,hy⟩:=q0_;
  Zgt (z:=z) hm hz ho hg hd hx hy hh hu (hb▸kk)
end rules
end Go.Acq
namespace Go.Acq
open Go Go.RowKit
abbrev WideI (P:Program):Machine→Prop:=Machine.fenced P Fence.wide
theorem Ze1 {P:Program}{ρ:Option Nat}{n l:Nat}{f:FuncId}{fn:Func}{tmps:Array Value}{assign body:Code}{w:World}{R:Ending→World→Prop}(hf:P.funcs[f]?=some fn)
    (h:assign.wpIn (FW (some l)) n P (fun e a₁ w₁=>e=.normal∧∃ w₂,(Instr.beginRound l).run P w₁=.ok () w₂∧body.wpIn (FW (some l)) n P (fun e a w=>∃ ch,e=.panic ch∧a.defers=[]∧R (.panicked ch) w) a₁ w₂) { tmps:=tmps,defers:=[] } w) :
    RoundIn (FW ρ) n P l f tmps assign body w R:=by
  refine ⟨trivial,fun c cs hr=>?_⟩
  have hwide:∀ m,(FW ρ).fn m:=fun _=>trivial
  obtain ⟨b,hb⟩:∃ b:Frame,b={ (default:Frame) with fn:=f,kind:=.normal,roundOf:=some l }:=⟨_,rfl⟩
  have hro:b.roundOf=some l:=by rw [hb]
  have hfn:b.fn=f:=by rw [hb]
  have e0:Frame.round l f tmps assign body .normal=b.atR { tmps:=tmps,defers:=[] } [.code assign,.beginRound,.code body]:=by
    rw [hb];simp [Frame.round,Frame.atR]
  have room:∀ k,(FW (some l)).room k:=fun k d hd=>by cases hd
  obtain ⟨e,a₁,w₁,⟨rfl,w₂,hbr,hbody⟩,h1⟩:=h b [.beginRound,.code body] (c::cs) hro trivial (room _)
  obtain ⟨e,a₂,w₃,⟨ch,rfl,hd,hR⟩,todo,h2⟩:=hbody b [] (c::cs) hro trivial (room _)
  refine ⟨.panicked ch,w₃,hR,?_⟩
  rw [e0]
  have s1:StepsIn (Machine.fenced P (FW (some l))) P (lone (b.atR a₁ [.beginRound,.code body]) (c::cs) w₁) (lone (b.atR a₁ [.code body]) (c::cs) w₂) :=
    .one (fenced_calm (n:=0) (fr:=b.atR a₁ [.beginRound,.code body]) trivial (room _) rfl) (stepR_beginRound hro hbr)
  have hl:Frame.leaving P { b.atR a₂ todo with mode:=.panicking ch } w₃ (.panicked ch):=⟨rfl,hd,fn,by show P.funcs[b.fn]?=_;rw [hfn];exact hf⟩
  exact (StepsIn.trans h1 s1).trans (StepsIn.trans h2 (.one (fenced_leaving (n:=0) trivial (room _) hl) (step_leave_panicked hl)))
def YCP {S V:Type}(P:Program)(l:Nat)(pv:Value)(en:World→List Nat→V→List Value→Prop)(y:S→V→Option (S⊕Unit))(J:S⊕Unit→Heap→Prop)(EE:Heap→Prop)(w:World)(M:List Nat):Prop :=
  ∀ (s:S) (v:V) (r:S⊕Unit),y s v=some r→∀ (w':World) (Hs HE:Heap) (vals:List Value),J (.inl s) Hs→EE HE→Inv w M w' (Hs++HE)→en w' (ids (Hs++HE)) v vals →
    YieldAt (FW none) 0 P l vals.toArray w' fun e w''=>match r with
      | .inl s'=>∃ Hs',J (.inl s') Hs'∧e=.returned (.bool true)∧Inv w' (ids (Hs++HE)) w'' (Hs'++HE)
      | .inr _=>e=.panicked (Ua pv)∧Inv w' (ids (Hs++HE)) w'' []
section rules
variable {C : Cx} {ops : Array Oper} {Q : Exit → Act → World → Prop} {l : List Nat} {E : Env} {H R : Heap} {i d : Nat} {ty : TypeId} {pos : String} {af : Array Edge} {g : Option (Nat × Bool)}
theorem Zbu {S V:Type}{lp:Nat}{pv:Value}{en:World→List Nat→V→List Value→Prop}{y:S→V→Option (S⊕Unit)}{J:S⊕Unit→Heap→Prop}{EE:Heap→Prop}{x:Operand}{xs:Array Operand}{at':Array TypeId}{t r:S⊕Unit}{v:V}{vals:List Value}{Ho HE Hs:Heap}
    (hY:YCP C.P lp pv en y J EE C.w0 C.M)(hr:Z14 y t v=some r)(hJ:J t Hs)(hE:EE HE)
    (q0_:ops[i]?=some ⟨some d,.call ⟨.value x,xs,at'⟩,ty,pos,af,g⟩∧Zr ops E g=true∧Nat.ble (d+1) C.n=true∧ev E x=some (.func (.yield lp) #[] #[])∧evs E xs.toList=some vals)(hH:List.Perm H (HE++R))(hR:R=Ho++Hs)
    (hen:∀ w,Inv C.w0 C.M w H→List.Perm H ((Hs++HE)++Ho)→en w (ids (Hs++HE)) v vals)
    (kp:r=.inr ()→X C Q (.panic (Ua pv)) E Ho)
    (kk:∀ Hs',J r Hs'→TO C ops Q l ((d,.bool r.isLeft)::E) (HE++(Ho++Hs'))):TO C ops Q (i::l) E H:=by
  obtain ⟨ho,hg,hd,hx,hxs⟩:=q0_
  obtain ⟨s,rfl,hys⟩:=Zd2 hr
  refine Kr ho hg (by simp) fun a w hf hi=>?_
  subst hR
  have hpm:∀ Hx:Heap,List.Perm (HE++(Ho++Hx)) ((Hx++HE)++Ho):=fun Hx=>by
    rw [←List.append_assoc,List.append_assoc Hx]
    exact List.perm_append_comm
  have hi':=hi.perm (hH.trans (hpm Hs))
  obtain ⟨fn,tmps,assign,body,hrun,hround⟩:=hY s v r hys w Hs HE vals hJ hE hi'.left (hen w hi (hH.trans (hpm Hs)))
  have e1:xs.map a.eval=vals.toArray:=by apply Array.ext';simpa using Jk hf hxs
  have:(execOp a.eval ⟨some d,.call ⟨.value x,xs,at'⟩,ty,pos,af,g⟩).run C.P w=.ok (.round lp fn tmps assign body) w:=by
    simp [execOp,resolve,Deferred.ofValue,invoke,hf.ev hx,e1,hrun]
  rw [this]
  rw [Oper.uponIn_round]
  have hround':RoundIn (FW C.ρ) (0-1) C.P lp fn tmps assign body w _:=hround
  refine ⟨by simp [FW],hround'.mono ?_⟩
  intro e w' hR
  cases r with
  | inl s' =>
    obtain ⟨Hs',hJ',rfl,hi2⟩:=hR
    have hk:=kk Hs' hJ'
    unfold TO at hk
    exact hk _ _ (hf.put hd _) (((hi'.join (List.Perm.refl _) (fun m hm=>hm) hi2)).perm (hpm Hs').symm)
  | inr u =>
    obtain ⟨rfl,hi2⟩:=hR
    exact kp rfl a w' hf (by simpa using hi'.join (List.Perm.refl _) (fun m hm=>hm) hi2)
theorem Zau {α:Type}{fn:Func}{w0:World}{M:List Nat}{pv:Value}{u:Unit}{Post:α→Value→Heap→Prop}(q0_:C.w0=w0∧C.M=M∧C.D=[]) :
    X C (bodyPost C.P fn (FncSR w0 M pv Post (.inr u))) (.panic (Ua pv)) E H:=have ⟨hw,hMM,hD⟩:=q0_;Wt ⟨hw,hMM,hD⟩
end rules
def RQP {S:Type}(J:S→Heap→Prop)(pv:Value)(r:S⊕Unit)(w0:World)(M:List Nat):Exit→Act→World→Prop
  | .normal,_,w=>∃ s Hs,r=.inl s∧J s Hs∧Inv w0 M w Hs
  | .panic ch,a,w=>r=.inr ()∧ch=Ua pv∧a.defers=[]∧Inv w0 M w []
  | _,_,_=>False
theorem X.rpNext {C:Cx}{E:Env}{H:Heap}{S:Type}{J:S→Heap→Prop}{pv:Value}{r:S⊕Unit}{w0:World}{M:List Nat}{s:S}{Hs:Heap}(h:some (Sum.inl s)=some r)(q0_:C.w0=w0∧C.M=M)(hJ:J s Hs)(hp:Pick Hs H) :
    X C (RQP J pv r w0 M) .normal E H:=have ⟨hw,hMM⟩:=q0_;fun _ _ _ hi=>⟨s,Hs,by injection h with h;exact h.symm,hJ,by rw [←hw,←hMM];exact hi.pick hp⟩
theorem X.rpPan {C:Cx}{E:Env}{H:Heap}{S:Type}{J:S→Heap→Prop}{pv:Value}{r:S⊕Unit}{w0:World}{M:List Nat}{u:Unit}(h:some (Sum.inr u)=some r)(q0_:C.w0=w0∧C.M=M∧C.D=[]) :
    X C (RQP J pv r w0 M) (.panic (Ua pv)) E H:=have ⟨hw,hMM,hD⟩:=q0_;fun _ _ hf hi=>⟨by injection h with h;exact h.symm,rfl,hf.defers.trans hD,by rw [←hw,←hMM];exact hi.pick Zg⟩
def AtF (f:FuncId)(P:Program)(c:Code)(Q:Exit→Act→World→Prop)(a:Act)(w:World):Prop :=
  ∀ (b:Frame) (k:List Item) (cs:List Frame),b.fn=f→b.roundOf=none→∃ e a' w',Q e a' w'∧ArrivesIn (WideI P) P (lone (b.atR a (.code c::k)) cs w) b k cs e a' w'
def TA (C:Cx)(f:FuncId)(c:Code)(Q:Exit→Act→World→Prop)(E:Env)(H:Heap):Prop:=∀ a w,Fits C.n C.D E a→Inv C.w0 C.M w H→AtF f C.P c Q a w
section control
variable {C : Cx} {f : FuncId} {Q : Exit → Act → World → Prop} {E : Env} {H H' : Heap} {x y : Code}
theorem TA.of (hρ:C.ρ=none)(h:T C x Q E H):TA C f x Q E H:=fun a w hf hi b k cs _ hro=>h a w hf hi b k cs (hro.trans hρ.symm) trivial (fun d hd=>by cases hd)
theorem AtF.seq {P:Program}{a:Act}{w:World}(h:AtF f P x (Exit.then (fun a w=>AtF f P y Q a w) Q) a w):AtF f P (.seq x y) Q a w:=by
 intro b k cs hb hro
 have i0:(lone (b.atR a (.code (.seq x y)::k)) cs w).fenced P Fence.wide:=fenced_wide P _
 obtain ⟨e,a₁,w₁,hq,harr⟩:=h b (.code y::k) cs hb hro
 have keep:∀ e,e≠.normal→ArrivesIn (WideI P) P (lone (b.atR a (.code x::.code y::k)) cs w) b (.code y::k) cs e a₁ w₁→ArrivesIn (WideI P) P (lone (b.atR a (.code (.seq x y)::k)) cs w) b k cs e a₁ w₁ :=
  fun e he harr=>.of_steps (.one i0 stepR_seq) (.pass (x:=.code y) rfl (fun _ _=>.inl he) harr)
 cases e with
 | normal =>
  obtain ⟨e₂,a₂,w₂,hq₂,harr₂⟩:=hq b k cs hb hro
  exact ⟨e₂,a₂,w₂,hq₂,.of_steps (.head i0 stepR_seq harr) harr₂⟩
 | exit id=>exact ⟨_,a₁,w₁,hq,keep _ (by simp) harr⟩
 | goto l=>exact ⟨_,a₁,w₁,hq,keep _ (by simp) harr⟩
 | ret=>exact ⟨_,a₁,w₁,hq,keep _ (by simp) harr⟩
 | panic ch=>exact ⟨_,a₁,w₁,hq,keep _ (by simp) harr⟩
 | outgrown=>exact ⟨_,a₁,w₁,hq,keep _ (by simp) harr⟩
theorem TA.seq (h:TA C f x (Exit.then (fun a w=>AtF f C.P y Q a w) Q) E H):TA C f (.seq x y) Q E H:=fun a w hf hi=>AtF.seq (h a w hf hi)
theorem Z04 {P:Program}(hP:C.P=P)(h:TA C f y Q E H):X C (Exit.then (fun a w=>AtF f P y Q a w) Q) .normal E H:=fun a w hf hi=>by subst hP;exact h a w hf hi
theorem AtF.rangeFunc {P:Program}{g:Operand}{ps:Array Tmp}{assign body:Code}{a:Act}{w:World}{l:Nat}{mark:List Deferred}{w₁:World}{d:Deferred}{fc:FuncId}{args:Array Value}
    (he:(Instr.enterLoop f a.tmps ps assign body none).run P w=.ok (l,mark) w₁)(hres:(resolve a.eval (rangeCall g l) 0).run P w₁=.ok d w₁)(hinv:(invoke d.target d.args).run P w₁=.ok (.enter fc args) w₁)
    (hc:Calls P fc args w₁ fun e w₃=>match e with
      | .returned _=>∃ w₄,(Instr.endLoop l).run P w₃=.ok none w₄∧Q .normal { a with defers:=mark++a.defers } w₄
      | .panicked ch=>Q (.panic ch) { a with defers:=mark++a.defers } w₃
      | .outgrown=>False):AtF f P (.rangeFunc g ps assign body) Q a w:=by
  intro b k cs hb hro
  rw [←hb,←hro] at he
  have s0:=stepR_rangeFunc (P:=P) (b:=b) (a:=a) (k:=k) (cs:=cs) (w:=w) he hres hinv
  obtain ⟨e,w₃,fr,hR,hs,-,hl⟩:=hc (b.atR { a with defers:=mark++a.defers } (.inRangeFunc l::k)::cs)
  cases e with
  | outgrown=>exact hR.elim
  | returned v =>
    obtain ⟨w₄,hend,hq⟩:=hR
    have s1:=step_leave_returned (c:=b.atR { a with defers:=mark++a.defers } (.inRangeFunc l::k)) (cs:=cs) hl
    rw [finish_atR_inRangeFunc] at s1
    have s2:=stepR_endRangeFunc (P:=P) (b:=b) (a:={ a with defers:=mark++a.defers }) (k:=k) (cs:=cs) hend
    refine ⟨.normal,_,w₄,hq,?_⟩
    exact stepsIn_wide.2 (.head s0 (Steps.trans hs (.head s1 (.one s2))))
  | panicked ch =>
    have s1:=step_leave_panicked (c:=b.atR { a with defers:=mark++a.defers } (.inRangeFunc l::k)) (cs:=cs) hl
    rw [Frame.raise_atR] at s1
    exact ⟨.panic ch,_,w₃,hR,.inRangeFunc l::k,stepsIn_wide.2 (.head s0 (Steps.trans hs (.one s1)))⟩
theorem Zec {S V:Type}(hρ:C.ρ=none){fnf:Func}(hfn:C.P.funcs[f]?=some fnf){gop:Operand}{ps:Array Tmp}{assign body:Code}{fi:FuncId}{fs cs:Array Value}(hF:Yb C.P fi=true)(hg:ev E gop=some (.func (.func fi) fs cs))
    (hps:ps.toList.all (fun p=>Nat.ble (p+1) C.n)=true)(pv:Value)(en:World→List Nat→V→List Value→Prop)(hlen:∀ w M v vals,en w M v vals→vals.length=ps.size)
    (y:S→V→Option (S⊕Unit))(J:S→Heap→Prop)(EE EO:Heap→Prop)(s0:S)(t:S⊕Unit)(Hs0 HE0 R:Heap)(hJ:J s0 Hs0)(hH:Pick ((Hs0++HE0)++R) H)
    (it:∀ (lp:Nat) (w:World) (J':S⊕Unit→Heap→Prop) (H0:Heap),(∀ u Hs,¬J' (.inr u) Hs)→J' (.inl s0) H0→Inv w (ids (H0++HE0)) w (H0++HE0)→YCP C.P lp pv en y J' EE w (ids (H0++HE0))→∀ lo,Inv C.w0 C.M w (((some lp,lo)::(Hs0++HE0))++R)→H0=(some lp,lo)::Hs0 →
      FncS C.P fi (fs++#[.func (.yield lp) #[] #[]]++cs) w (ids (H0++HE0)) pv t (fun s v N=>v=.tuple #[]∧∃ HE' Hs',N=HE'++Hs'∧J' (.inl s) Hs'∧EO HE'))
    (round:∀ (lp:Nat) (w':World) (s:S) (v:V) (r:S⊕Unit) (Hs HE:Heap) (vals:List Value),y s v=some r→J s Hs→EE HE→en w' (ids ((some lp,mkO)::(Hs++HE))) v vals→Inv w' (ids (Hs++HE)) w' (Hs++HE)→Inv C.w0 C.M w' ((Hs++HE)++R) →
      T ⟨C.P,some lp,C.n,[],w',ids (Hs++HE)⟩ assign (AQX C.n w' (ids (Hs++HE)) fun E1 H1=>∀ w2,Inv w2 (ids H1) w2 H1→Inv C.w0 C.M w2 (H1++R)→Inv w' (ids ((some lp,mkO)::(Hs++HE))) w2 H1→T ⟨C.P,some lp,C.n,[],w2,ids H1⟩ body (RQP (fun s Hq=>∃ Hq',Hq=Hq'++HE∧J s Hq') pv r w2 (ids H1)) E1 H1) (Z10 ps.toList vals E) (Hs++HE))
    (next:∀ s,t=.inl s→∀ rr Hs HE,J s Hs→EO HE→Acq.X { C with D:=mkD rr::C.D } Q .normal E ((Hs++HE)++((some rr,mkO)::R)))
    (pan:t=.inr ()→∀ rr,Acq.X { C with D:=mkD rr::C.D } Q (.panic (Ua pv)) E ((some rr,mkO)::R)) :
    TA C f (.rangeFunc gop ps assign body) Q E H:=by
  intro a w hf hi0
  have hi:=hi0.pick hH
  obtain ⟨rr,hrr⟩:∃ rr,w.heap.size=rr:=⟨_,rfl⟩
  obtain ⟨wa,hwa⟩:∃ wa,w.alloc mkO=wa:=⟨_,rfl⟩
  obtain ⟨lp,hlp⟩:∃ lp,wa.heap.size=lp:=⟨_,rfl⟩
  obtain ⟨lo,hlo⟩:∃ lo,recO f a.tmps ps assign body rr .ready none=lo:=⟨_,rfl⟩
  obtain ⟨wb,hwb⟩:∃ wb,wa.alloc lo=wb:=⟨_,rfl⟩
  have hia:Inv C.w0 C.M wa ((some rr,mkO)::((Hs0++HE0)++R)):=by rw [←hwa,←hrr];exact hi.alloc mkO
  have hib:Inv C.w0 C.M wb ((some lp,lo)::(some rr,mkO)::((Hs0++HE0)++R)):=by rw [←hwb,←hlp];exact hia.alloc lo
  have hlp2:w.heap.size+1=lp:=by rw [←hlp,←hwa];exact (World.size_alloc ..).symm
  have hib':Inv C.w0 C.M wb (((some lp,lo)::(Hs0++HE0))++((some rr,mkO)::R)):=hib.perm (by
    rw [List.cons_append]
    exact List.Perm.cons _ List.perm_middle.symm)
  have h2:a.eval gop=.func (.func fi) fs cs:=hf.ev hg
  have h3:∀ v,a.eval (.const v)=v:=fun _=>rfl
  refine AtF.rangeFunc (l:=lp) (mark:=[mkD rr]) (w₁:=wb) (d:={ target:=.fn (.func fi) cs,args:=fs.push (.func (.yield lp) #[] #[]) }) (fc:=fi) (args:=fs++#[.func (.yield lp) #[] #[]]++cs) ?_ ?_ ?_ ?_
  ·rw [run_enterLoop_outer,←hwb,←hlo,←hwa,←hlp2,←hrr]
  ·simp [resolve,Deferred.ofValue,h2,h3]
  · show (callFunc fi (fs.push (.func (.yield lp) #[] #[]) ++ cs)).run C.P wb = _
    rw [Array.push_eq_append]
    exact Ux hF _ _
  · have hfa : Fits C.n (mkD rr :: C.D) E { a with defers := [mkD rr] ++ a.defers } := ⟨hf.size, by simp [hf.defers], hf.get⟩
    have hcall:=it lp wb (fun r Hx=>match r with | .inl s=>∃ Hs,Hx=(some lp,recO f a.tmps ps assign body rr .ready none)::Hs∧J s Hs | .inr _=>False) ((some lp,lo)::Hs0) (fun _ _ h=>h)
      ⟨Hs0,by rw [←hlo],hJ⟩ (hib'.left.self (Zv _) rfl) ?_ lo (hib'.pick (by
        refine Na (S:=[(some rr,mkO)]) ?_
        rw [List.append_assoc]
        exact List.Perm.append_left _ (List.perm_append_singleton _ _).symm)) rfl
    · refine Calls.mono hcall ?_
      intro e w3 hR
      cases t with
      | inr u =>
        obtain ⟨rfl,hi3⟩:=hR
        have hj3:=hib'.join (M':=ids ((some lp,lo)::(Hs0++HE0))) (List.Perm.refl _) (fun m hm=>hm) hi3
        exact pan rfl rr _ _ hfa (by simpa using hj3)
      | inl s =>
        obtain ⟨v,N,⟨rfl,HE3,Hq3,rfl,⟨Hs3,rfl,hJ3⟩,hE3⟩,rfl,hi3⟩:=hR
        have hi3:=hi3.perm List.perm_append_comm
        have hj3:=hib'.join (M':=ids ((some lp,lo)::(Hs0++HE0))) (List.Perm.refl _) (fun m hm=>hm) hi3
        have hl3:=hj3.own lp _ (.head _)
        have hput:=hj3.put (recO f a.tmps ps assign body rr .exhausted none)
        have hpk:Pick ((Hs3++HE3)++((some rr,mkO)::R)) ((some lp,recO f a.tmps ps assign body rr .exhausted none)::((Hs3++HE3)++((some rr,mkO)::R))):=Wj (Zv _)
        exact ⟨_,run_endLoop hl3 (by simp),next s rfl rr Hs3 HE3 hJ3 hE3 _ _ hfa (hput.pick hpk)⟩
    · rintro s v r hys w' Hx HE vals ⟨Hs1, rfl, hJs⟩ hE hi' hen
      obtain ⟨Hs,hHs⟩:∃ Hs,Hs1++HE=Hs:=⟨_,rfl⟩
      have hi':Inv wb (ids ((some lp,lo)::(Hs0++HE0))) w' ((some lp,recO f a.tmps ps assign body rr .ready none)::Hs):=by rw [←hHs];exact hi'
      have hlw:=hi'.own lp _ (.head _)
      have hout:=hib'.join (M':=ids ((some lp,lo)::(Hs0++HE0))) (List.Perm.refl _) (fun m hm=>hm) hi'
      have hself:=hi'.self (Hm:=Hs) (Wj (Zv _)) rfl
      have houtH:Inv C.w0 C.M w' (Hs++R):=hout.pick (by
        refine Wj ?_
        refine Na (S:=[(some rr,mkO)]) ?_
        rw [List.append_assoc]
        exact List.Perm.append_left _ (List.perm_append_singleton _ _).symm)
      have hasg:=round lp w' s v r Hs1 HE vals hys hJs hE hen (by rw [hHs];exact hself) (by rw [hHs];exact houtH)
      rw [hHs] at hasg
      refine ⟨_,_,_,_,run_yield hlw (by simp [hlen _ _ _ _ hen]),?_⟩
      have hf0:Fits C.n [] E { tmps:=a.tmps,defers:=[] }:=⟨hf.size,rfl,hf.get⟩
      have hf1:=Z85 (vs:=vals) hps hf0
      have hw0:=hasg _ w' hf1 hself
      have hrw:(ps.zip vals.toArray).foldl (fun tmps (t,a)=>tmps.setIfInBounds t a) a.tmps=(ps.toList.zip vals).foldl (fun tmps (t,a)=>tmps.setIfInBounds t a) a.tmps:=by
        rw [←Array.foldl_toList];simp
      rw [hrw]
      have hall:=(hi'.self (Zv _) rfl)
      have beg:∀ (a1:Act) (w1:World) (H1:Heap),Inv w' (ids Hs) w1 H1 →
          (Instr.beginRound lp).run C.P w1=.ok () (w1.putObj lp (recO f a.tmps ps assign body rr .busy none))∧Inv w' (ids ((some lp,recO f a.tmps ps assign body rr .ready none)::Hs)) (w1.putObj lp (recO f a.tmps ps assign body rr .busy none)) ((some lp,recO f a.tmps ps assign body rr .busy none)::H1) ∧
            Inv C.w0 C.M (w1.putObj lp (recO f a.tmps ps assign body rr .busy none)) (H1++R):=fun a1 w1 H1 hia1=>by
        have hall1:=hall.join (Hm:=Hs) (R:=[(some lp,recO f a.tmps ps assign body rr .ready none)]) (M':=ids Hs) ((List.perm_append_singleton _ _).symm) (fun m hm=>hm) hia1
        have hall1:=hall1.perm (List.perm_append_singleton _ _)
        have hl1:=hall1.own lp _ (.head _)
        have hb1:=hall1.put (recO f a.tmps ps assign body rr .busy none)
        have hout1:=hout.join (M':=ids ((some lp,recO f a.tmps ps assign body rr .ready none)::Hs)) (List.Perm.refl _) (fun m hm=>hm) hall1
        have hout2:=hout1.put (recO f a.tmps ps assign body rr .busy none)
        exact ⟨run_beginRound hl1 rfl,hb1,hout2.pick (by
          refine Wj ?_
          refine Na (S:=[(some rr,mkO)]) ?_
          rw [List.append_assoc]
          exact List.Perm.append_left _ (List.perm_append_singleton _ _).symm)⟩
      cases r with
      | inr u =>
        refine Ze1 hfn ?_
        refine wpIn_mono (F:=FW (some lp)) hw0 ?_
        rintro e a1 w1 ⟨rfl,E1,H1,hfa,hia1,hbody⟩
        obtain ⟨hbr,hb1,hout2⟩:=beg a1 w1 H1 hia1
        have hs2:=hb1.self (Hm:=H1) (Wj (Zv _)) rfl
        refine ⟨rfl,_,hbr,?_⟩
        have hwp:=hbody _ hs2 hout2 (hb1.pick (H':=H1) (Wj (Zv _))) a1 _ hfa hs2
        refine wpIn_mono (F:=FW (some lp)) hwp ?_
        intro e a3 w3 hq
        cases e with
        | panic ch =>
          obtain ⟨-,rfl,hd,hi3⟩:=hq
          refine ⟨_,rfl,hd,rfl,?_⟩
          have h2:=hb1.join (Hm:=H1) (R:=[(some lp,recO f a.tmps ps assign body rr .busy none)]) (M':=ids H1) ((List.perm_append_singleton _ _).symm) (fun m hm=>hm) hi3
          have h2:=h2.pick Zg
          rw [←hHs] at h2;exact h2
        | normal=>obtain ⟨s',_,h,_⟩:=hq;cases h
        | ret=>exact hq.elim
        | exit _=>exact hq.elim
        | goto _=>exact hq.elim
        | outgrown=>exact hq.elim
      | inl s' =>
        refine roundIn_of_wpIn trivial ?_
        refine wpIn_mono (F:=FW (some lp)) hw0 ?_
        rintro e a1 w1 ⟨rfl,E1,H1,hfa,hia1,hbody⟩
        obtain ⟨hbr,hb1,hout2⟩:=beg a1 w1 H1 hia1
        have hs2:=hb1.self (Hm:=H1) (Wj (Zv _)) rfl
        refine ⟨_,hbr,?_⟩
        have hwp:=hbody _ hs2 hout2 (hb1.pick (H':=H1) (Wj (Zv _))) a1 _ hfa hs2
        refine wpIn_mono (F:=FW (some lp)) hwp ?_
        intro e a3 w3 hq
        cases e with
        | normal =>
          obtain ⟨s2,Hs',h,⟨Hs4,rfl,hJ'⟩,hi3⟩:=hq
          cases h
          have h2:=hb1.join (Hm:=H1) (R:=[(some lp,recO f a.tmps ps assign body rr .busy none)]) (M':=ids H1) ((List.perm_append_singleton _ _).symm) (fun m hm=>hm) hi3
          have h2:=h2.perm (List.perm_append_singleton _ _)
          have h3:=h2.own lp _ (.head _)
          have h4:=h2.put (recO f a.tmps ps assign body rr .ready none)
          rw [←hHs] at h4
          exact ⟨_,_,run_endRound none h3,_,⟨Hs4,rfl,hJ'⟩,rfl,h4⟩
        | panic ch=>obtain ⟨h,_⟩:=hq;cases h
        | ret=>exact hq.elim
        | exit _=>exact hq.elim
        | goto _=>exact hq.elim
        | outgrown=>exact hq.elim
end control
end Go.Acq
namespace Go.Acq
open Go Go.RowKit
abbrev dfD (f:FuncId)(fs cs:Array Value):Deferred:={ target:=.fn (.func f) cs,args:=fs }
section control
variable {C : Cx} {f : FuncId} {Q : Exit → Act → World → Prop} {E E' : Env} {H H' : Heap} {x y c : Code}
theorem AtF.block {P:Program}{id:Nat}{a:Act}{w:World}(h:AtF f P c (Exit.inBlock id Q) a w):AtF f P (.block id c) Q a w:=by
 intro b k cs hb hro
 have i0:(lone (b.atR a (.code (.block id c)::k)) cs w).fenced P Fence.wide:=fenced_wide P _
 have i1:∀ a w,(lone (b.atR a (.inBlock id::k)) cs w).fenced P Fence.wide:=fun _ _=>fenced_wide P _
 obtain ⟨e,a₁,w₁,hq,harr⟩:=h b (.inBlock id::k) cs hb hro
 cases e with
 | normal=>exact ⟨.normal,a₁,w₁,hq,.head i0 stepR_block (StepsIn.trans harr (.one (i1 _ _) stepR_inBlock))⟩
 | exit j =>
  by_cases hj:j=id
  ·
   subst hj
   simp only [Exit.inBlock,if_true] at hq
   exact ⟨.normal,a₁,w₁,hq,.head i0 stepR_block (harr.1 k (by simp [exitTo]))⟩
  ·
   simp only [Exit.inBlock,if_neg hj] at hq
   have hne:(id==j)=false:=by simp;exact fun h=>hj h.symm
   have hx:exitTo j (.inBlock id::k)=exitTo j k:=by simp [exitTo,hne]
   refine ⟨.exit j,a₁,w₁,hq,fun k' hk=>.head i0 stepR_block (harr.1 k' (hx.trans hk)),fun hr' _=>by rw [hro] at hr';cases hr'⟩
 | goto l =>
  have hx:gotoIn l (.inBlock id::k)=gotoIn l k:=by simp [gotoIn]
  exact ⟨_,a₁,w₁,hq,fun k' hk=>.head i0 stepR_block (harr.1 k' (hx.trans hk)),fun hr' _=>by rw [hro] at hr';cases hr'⟩
 | ret=>exact ⟨_,a₁,w₁,hq,.of_steps (.one i0 stepR_block) harr⟩
 | panic ch=>exact ⟨_,a₁,w₁,hq,.of_steps (.one i0 stepR_block) harr⟩
 | outgrown=>exact ⟨_,a₁,w₁,hq,.of_steps (.one i0 stepR_block) harr⟩
theorem TA.block {id:Nat}(h:TA C f c (Exit.inBlock id Q) E H):TA C f (.block id c) Q E H:=fun a w hf hi=>AtF.block (h a w hf hi)
theorem Zba (hE:AllF E' E)(h:TA C f c Q E' H):TA C f c Q E H:=fun a w hf hi=>h a w (hf.weak hE.sub) hi
theorem RQP.turn {S:Type}{J:S→Heap→Prop}{HE:Heap}{pv:Value}{r:S⊕Unit}{w0:World}{M:List Nat}{e:Exit}{a:Act}{w:World}
    (h:RQP (fun s Hq=>∃ Hq',Hq=HE++Hq'∧J s Hq') pv r w0 M e a w):RQP (fun s Hq=>∃ Hq',Hq=Hq'++HE∧J s Hq') pv r w0 M e a w:=by
  cases e with
  | normal=>obtain ⟨s,_,h1,⟨Hq,rfl,hJ⟩,hi⟩:=h;exact ⟨s,_,h1,⟨Hq,rfl,hJ⟩,hi.perm List.perm_append_comm⟩
  | panic _=>exact h
  | ret=>exact h.elim
  | exit _=>exact h.elim
  | goto _=>exact h.elim
  | outgrown=>exact h.elim
theorem Zf7 {S V:Type}(hρ:C.ρ=none){fnf:Func}(hfn:C.P.funcs[f]?=some fnf){gop:Operand}{ps:Array Tmp}{assign body:Code}{fi:FuncId}{fs cs:Array Value}(hF:Yb C.P fi=true)(hg:ev E gop=some (.func (.func fi) fs cs))
    (hps:ps.toList.all (fun p=>Nat.ble (p+1) C.n)=true)(pv:Value)(en:World→List Nat→V→List Value→Prop)(hlen:∀ w M v vals,en w M v vals→vals.length=ps.size)
    (y:S→V→Option (S⊕Unit))(J:S→Heap→Prop)(EE EO:Heap→Prop)(s0:S)(t:S⊕Unit)(Hs0 HE0 R:Heap)(hJ:J s0 Hs0)(hH:Pick ((HE0++R)++Hs0) H)
    (it:∀ (lp:Nat) (w:World) (J':S⊕Unit→Heap→Prop) (H0:Heap),(∀ u Hs,¬J' (.inr u) Hs)→J' (.inl s0) H0→Inv w (ids (H0++HE0)) w (H0++HE0)→YCP C.P lp pv en y J' EE w (ids (H0++HE0))→∀ lo,Inv C.w0 C.M w (((some lp,lo)::(Hs0++HE0))++R)→H0=(some lp,lo)::Hs0 →
      FncS C.P fi (fs++#[.func (.yield lp) #[] #[]]++cs) w (ids (H0++HE0)) pv t (fun s v N=>v=.tuple #[]∧∃ HE' Hs',N=HE'++Hs'∧J' (.inl s) Hs'∧EO HE'))
    (round:∀ (lp:Nat) (w':World) (s:S) (v:V) (r:S⊕Unit) (Hs HE:Heap) (vals:List Value),y s v=some r→J s Hs→EE HE→en w' (ids ((some lp,mkO)::(Hs++HE))) v vals→Inv w' (ids (Hs++HE)) w' (Hs++HE)→Inv C.w0 C.M w' ((Hs++HE)++R) →
      T ⟨C.P,some lp,C.n,[],w',ids (Hs++HE)⟩ assign (AQX C.n w' (ids (Hs++HE)) fun E1 H1=>∀ w2,Inv w2 (ids H1) w2 H1→Inv C.w0 C.M w2 (H1++R)→Inv w' (ids ((some lp,mkO)::(Hs++HE))) w2 H1→T ⟨C.P,some lp,C.n,[],w2,ids H1⟩ body (RQP (fun s Hq=>∃ Hq',Hq=HE++Hq'∧J s Hq') pv r w2 (ids H1)) E1 H1) (Z10 ps.toList vals E) (HE++Hs))
    (next:∀ s,t=.inl s→∀ rr Hs HE,J s Hs→EO HE→Acq.X { C with D:=mkD rr::C.D } Q .normal E ((HE++((some rr,mkO)::R))++Hs))
    (pan:t=.inr ()→∀ rr,Acq.X { C with D:=mkD rr::C.D } Q (.panic (Ua pv)) E ((some rr,mkO)::R)) :
    TA C f (.rangeFunc gop ps assign body) Q E H:=by
  have hpm:∀ (Hs HE R:Heap),List.Perm ((Hs++HE)++R) ((HE++R)++Hs):=fun Hs HE R=>by
    rw [List.append_assoc];exact List.perm_append_comm
  refine Zec hρ hfn hF hg hps pv en hlen y J EE EO s0 t Hs0 HE0 R hJ ?_ it ?_ ?_ pan
  · obtain ⟨S', ns, hn, hS⟩ := hH
    exact ⟨S',ns,hn,hS.trans ((hpm Hs0 HE0 R).symm.append_right S')⟩
  · intro lp w' s v r Hs HE vals hy hJ' hE hen h1 h2
    refine T.perm List.perm_append_comm ?_
    have h:=round lp w' s v r Hs HE vals hy hJ' hE hen h1 h2
    intro a w hf hi
    refine wpIn_mono (F:=FW (some lp)) (h a w hf hi) ?_
    rintro e a1 w1 ⟨rfl,E1,H1,hf1,hi1,hB⟩
    refine ⟨rfl,E1,H1,hf1,hi1,fun w2 k1 k2 k3=>?_⟩
    intro a2 w3 hf2 hi2
    exact wpIn_mono (F:=FW (some lp)) (hB w2 k1 k2 k3 a2 w3 hf2 hi2) fun e a w hq=>RQP.turn hq
  · intro s hs rr Hs HE hJ' hE
    exact Acq.X.perm (hpm Hs HE _) (next s hs rr Hs HE hJ' hE)
theorem Zj2 {P:Program}{f:FuncId}{fn:Func}{c:Code}{vs:List Value}{w:World}{M:List Nat}{H:Heap}{Post:Value→Heap→Prop}
    (hf:P.funcs[f]?=some fn)(hb:fn.body=some c)(hn:Nat.ble vs.length fn.ntmps=true)(hi:Inv w M w H)
    (h:TA ⟨P,none,fn.ntmps,[],w,M⟩ f c (bodyPostM (FW none) 0 P fn (Wb w M Post)) (Gl 0 vs) H):Fnc P f vs.toArray w M Post:=by
  have hn':=Nat.le_of_ble_eq_true hn
  refine callsIn_FW (ρ:=none) (n:=0) |>.1 ⟨trivial,fun cs _=>?_⟩
  obtain ⟨a0,ha0⟩:∃ a0:Act,a0={ tmps:=vs.toArray++Array.replicate (fn.ntmps - vs.toArray.size) undef,defers:=[] }:=⟨_,rfl⟩
  have hfit:Fits fn.ntmps [] (Gl 0 vs) a0:=by
    rw [ha0]
    refine ⟨by simp;omega,rfl,fun t v hv=>?_⟩
    obtain ⟨_,h2⟩:=Z0s vs 0 t v hv
    rw [Nat.sub_zero] at h2
    have hlt:=(List.getElem?_eq_some_iff.1 h2).1
    simp only [Array.getD_eq_getD_getElem?]
    rw [Array.getElem?_append_left (by simpa using hlt)]
    simp [h2]
  obtain ⟨b,hbd⟩:∃ b:Frame,b={ (default:Frame) with fn:=f,kind:=.normal,roundOf:=none }:=⟨_,rfl⟩
  have e0:Frame.enter P f vs.toArray .normal=b.atR a0 [.code c]:=by rw [hbd,ha0];simp [Frame.enter,Frame.atR,hf,hb]
  have hbf:b.fn=f:=by rw [hbd]
  have hbr:b.roundOf=none:=by rw [hbd]
  have hbk:b.kind=.normal:=by rw [hbd]
  have hroom:∀ k,(FW none).room k:=fun k d hd=>by cases hd
  obtain ⟨e,a',w',hq,harr⟩:=h a0 w hfit hi b [] cs hbf hbr
  rw [e0]
  have door:∀ (u:FrameMode) (todo:List Item),LeavesInM (FW none) 0 P fn a'.tmps (Wb w M Post) a'.defers u w'→StepsIn (WideI P) P (lone (b.atR a0 [.code c]) cs w) (lone { b.atR a' todo with mode:=u } cs w') →
      ∃ e w' fr,Wb w M Post e w'∧ComesIn (Machine.fenced P (FW none)) P (lone (b.atR a0 [.code c]) cs w) (lone fr cs w') e∧fr.fn=f∧fr.leaving P w' e:=fun u todo hL hs=>by
    obtain ⟨e',w'',fr',hR,hs2,hfn,hl⟩:=leaves_stepsInM a'.defers u w' { b.atR a' todo with mode:=u } cs rfl rfl rfl (by show P.funcs[b.fn]?=_;rw [hbf];exact hf) (by show b.kind=_;exact hbk) trivial (hroom _) hL
    exact ⟨e',w'',fr',hR,ComesIn.of_steps hs hs2,hfn.trans hbf,hl⟩
  cases e with
  | normal=>exact door .returning [] hq (StepsIn.trans harr (.one (fenced_wide P _) (stepR_end hbr)))
  | ret=>obtain ⟨todo,hs⟩:=harr.1 hbr;exact door .returning todo hq hs
  | panic ch=>obtain ⟨todo,hs⟩:=harr;exact door (.panicking ch) todo hq hs
  | exit id=>exact hq.elim
  | goto l=>exact hq.elim
  | outgrown=>obtain ⟨v,N,-,hv,-⟩:=hq;cases hv
end control
section rules
variable {C : Cx} {ops : Array Oper} {Q : Exit → Act → World → Prop} {l : List Nat} {E : Env} {H R : Heap} {i d : Nat} {ty : TypeId} {pos : String} {af : Array Edge} {g : Option (Nat × Bool)}
theorem Zic {x:Operand}{at':Array TypeId}{f:FuncId}{fs cs:Array Value}(q0_:ops[i]?=some ⟨none,.defer ⟨.value x,#[],at'⟩,ty,pos,af,g⟩∧Zr ops E g=true∧ev E x=some (.func (.func f) fs cs)∧C.ρ=none)
    (kk:TO { C with D:=dfD f fs cs::C.D } ops Q l E H):TO C ops Q (i::l) E H:=by
  obtain ⟨ho,hg,hx,hρ⟩:=q0_
  intro a w hf hi
  have hw:Region.wanted (⟨none,.defer ⟨.value x,#[],at'⟩,ty,pos,af,g⟩:Oper) (yielded ops a.tmps)=true:=Z49 hf hg
  simp only [wpOpsIn,ho,hw,if_true,Oper.wpIn]
  refine ⟨fun _ _=>trivial,?_⟩
  have hr:(FW C.ρ).round=none:=by rw [hρ];rfl
  rw [hr,Oper.semAt_none]
  have hrun:(execOp a.eval ⟨none,.defer ⟨.value x,#[],at'⟩,ty,pos,af,g⟩).run C.P w=.ok (.defer (dfD f fs cs)) w:=by
    simp [execOp,resolve,Deferred.ofValue,hf.ev hx]
  rw [hrun,Oper.uponIn_defer]
  exact kk _ w ⟨hf.size,by simp [Act.put,hf.defers],hf.get⟩ hi
theorem Zin {x:Operand}{t t1:TypeId}{v:Value}(hu:(match C.P.underlying t with | some (.struct _)=>true | _=>false)=true)(q0_:ops[i]?=some ⟨some d,.typeAssert x t1 t true,ty,pos,af,g⟩∧Zr ops E g=true∧Nat.ble (d+1) C.n=true∧ev E x=some (.iface t v))
    (kk:TO C ops Q l ((d,.tuple #[v,.bool true])::E) H):TO C ops Q (i::l) E H:=have ⟨ho,hg,hd,hx⟩:=q0_;
  TO.val ho hg hd (by simp) (fun a w hf _=>by
    have hr:(Instr.typeAssert (.iface t v) t1 t true).run C.P w=.ok (.tuple #[v,.bool true]) w:=by
      cases h:C.P.underlying t with
      | none=>rw [h] at hu;cases hu
      | some u =>
        rw [h] at hu
        unfold Instr.typeAssert
        simp only [Sem.run_bind,run_underlying h]
        cases u <;> first | (simp;done) | cases hu
    simp [execOp,hf.ev hx,hr]) kk
end rules
theorem Zd4 {P:Program}{f:FuncId}{fn:Func}{id d:Nat}{at':Array TypeId}{ty:TypeId}{pos:String}{y:Code}{vs:List Value}{w:World}{M:List Nat}{H:Heap}{u u1:FrameMode}{rv:Value}{K:World→Prop}
    (hf:P.funcs[f]?=some fn)(hb:fn.body=some (.seq (.region id #[⟨some d,.call ⟨.builtin .recover,#[],at'⟩,ty,pos,#[],none⟩] false) y))(hr:fn.results=#[])(hn:Nat.ble vs.length fn.ntmps=true)(hd:Nat.ble (d+1) fn.ntmps=true)(hi:Inv w M w H)
    (hu:(u=.returning∧rv=.nilIface∧u1=.returning)∨(u=.panicking (Ua rv)∧u1=.panicking [{ v:=rv,recovered:=true }]))
    (h:T ⟨P,none,fn.ntmps,[],w,M⟩ y (fun e a w'=>(e=.normal∨e=.ret)∧a.defers=[]∧K w') ((d,rv)::Gl 0 vs) H) :
    CallsDIn (FW none) 0 P f vs.toArray u w (fun e u' w'=>(∃ v,e=.returned v)∧u'=u1∧K w'):=by
  have hn':=Nat.le_of_ble_eq_true hn
  refine callsDIn_of_wpSIn hf hb trivial fun c₀ cs hu0=>?_
  refine wpSIn_seq (wpSIn_region ?_)
  obtain ⟨a0,ha0⟩:∃ a0:Act,a0={ tmps:=vs.toArray++Array.replicate (fn.ntmps - vs.toArray.size) undef,defers:=[] }:=⟨_,rfl⟩
  have hfit:Fits fn.ntmps [] (Gl 0 vs) a0:=by
    rw [ha0]
    refine ⟨by simp;omega,rfl,fun t v hv=>?_⟩
    obtain ⟨_,h2⟩:=Z0s vs 0 t v hv
    rw [Nat.sub_zero] at h2
    have hlt:=(List.getElem?_eq_some_iff.1 h2).1
    simp only [Array.getD_eq_getD_getElem?]
    rw [Array.getElem?_append_left (by simpa using hlt)]
    simp [h2]
  rw [←ha0]
  have hrun:(execOp a0.eval ⟨some d,.call ⟨.builtin .recover,#[],at'⟩,ty,pos,#[],none⟩).run P w=.ok .recover w:=by
    simp [execOp,resolve,invoke,go_sem]
  have fin:∀ u2,u1=u2→wpOpsSIn (FW none) 0 P #[⟨some d,.call ⟨.builtin .recover,#[],at'⟩,ty,pos,#[],none⟩] (Exit.thenS (y.wpSIn (FW none) 0 P (bodyPostS P fn c₀ cs fun e u' w'=>(∃ v,e=.returned v)∧u'=u1∧K w')) (bodyPostS P fn c₀ cs fun e u' w'=>(∃ v,e=.returned v)∧u'=u1∧K w')) [] (a0.put (some d) rv) ({ c₀ with mode:=u2 }::cs) w:=fun u2 h2=>by
    subst h2
    show y.wpSIn (FW none) 0 P _ (a0.put (some d) rv) _ w
    refine wpSIn_of_wpIn rfl (wpIn_mono (h _ w (hfit.put hd rv) hi) ?_)
    rintro e a w' ⟨he,hdf,hK⟩
    have hres:(results fn a.tmps).run P w'=.ok (.tuple #[]) w':=by simp [results,hr]
    rcases he with rfl | rfl
    ·exact ⟨hdf,u1,rfl,_,hres,⟨_,rfl⟩,rfl,hK⟩
    ·exact ⟨hdf,u1,rfl,_,hres,⟨_,rfl⟩,rfl,hK⟩
  have hl:List.range (#[⟨some d,.call ⟨.builtin .recover,#[],at'⟩,ty,pos,#[],none⟩]:Array Oper).size=[0]:=rfl
  rw [hl]
  unfold wpOpsSIn
  simp only [List.getElem?_toArray,List.getElem?_cons_zero,Region.wanted,if_true]
  refine ⟨fun _ _=>trivial,?_⟩
  rw [hrun]
  simp only
  rcases hu with ⟨rfl,rfl,rfl⟩ | ⟨rfl,rfl⟩
  · have : recoverD (c₀ :: cs) = none := by simp [recoverD, hu0]
    rw [this]
    have hc:({ c₀ with mode:=.returning }:Frame)=c₀:=by rw [←hu0]
    have:=fin .returning rfl
    rw [hc] at this
    exact this
  · have : recoverD (c₀ :: cs) = some (rv, { c₀ with mode := .panicking [{ v := rv, recovered := true }] } :: cs) := by simp [recoverD, hu0, Ua]
    rw [this]
    exact fin _ rfl
theorem Z69 {P:Program}{fn:Func}{tmps:Array Value}{R:Ending→World→Prop}{w0:World}{M:List Nat}{f:FuncId}{fs cs:Array Value}{u u1:FrameMode}{H':Heap}{K:World→World→Prop}(hu:u≠.run)(hs:settle u1=.returning)(hF:Yb P f=true)
    (hc:∀ w',Inv w0 M w' H'→CallsDIn (FW none) 0 P f (fs++cs) u w' (fun e u' w''=>(∃ v,e=.returned v)∧u'=u1∧K w' w''))
    (hk:∀ w' w'',Inv w0 M w' H'→K w' w''→∃ v,(results fn tmps).run P w''=.ok v w''∧R (.returned v) w''):∀ (ms:List Nat) (w:World),Inv w0 M w (Li ms++H') →
    LeavesInM (FW none) 0 P fn tmps R (ms.map mkD++[dfD f fs cs]) u w
  | [],w,hi=>by
    refine ⟨hu,.inr ⟨(fun h=>by cases h),.func f,cs,f,fs++cs,rfl,?_,fun _ _=>trivial,?_⟩⟩
    · show (callFunc f (fs ++ cs)).run P w = _
      exact Ux hF _ _
    · refine CallsDIn.mono (hc w hi) ?_
      rintro e u' w'' ⟨⟨v,rfl⟩,rfl,hK⟩
      show LeavesInM (FW none) 0 P fn tmps R [] (settle u') w''
      rw [hs]
      exact hk w w'' hi hK
  | r::ms,w,hi=>by
    refine ⟨hu,.inl ⟨r,_,rfl,run_takeDeferred (hi.own r _ (.head _)),?_⟩⟩
    exact Z69 hu hs hF hc hk ms _ ((Inv.put hi (.deferred none)).pick (Wj (Zv _)))
section ends
variable {C : Cx} {E : Env} {H H' N : Heap}
theorem X.retC {fn:Func}{rs:List ResultVar}{vs:List Value}{v:Value}{w0:World}{M:List Nat}{Post:Value→Heap→Prop}{f:FuncId}{fs cs:Array Value}(ms:List Nat)(q0_:C.ρ=none∧C.w0=w0∧C.M=M∧C.D=ms.map mkD++[dfD f fs cs]∧fn.results.toList=rs)(hF:Yb C.P f=true)
    (hc:∀ w,CallsDIn (FW none) 0 C.P f (fs++cs) .returning w (fun e u' w'=>(∃ v,e=.returned v)∧u'=.returning∧Inv w [] w' []))
    (hH:Pick (Li ms++H') H)(hr:∀ (j:Nat) r u,rs[j]?=some r→vs[j]?=some u→Res { C with D:=[] } E H' r u)(q1_:rs.length=vs.length∧v=Rk vs)
    (hN:Pick N H')(hP:Post v N):Acq.X C (bodyPostM (FW none) 0 C.P fn (Wb w0 M Post)) .ret E H:=by
  obtain ⟨hρ,hw,hMM,hD,hfn⟩:=q0_;obtain ⟨hl,hv⟩:=q1_
  intro a w hf hi
  show LeavesInM (FW none) 0 C.P fn a.tmps (Wb w0 M Post) a.defers .returning w
  rw [hf.defers,hD]
  refine Z69 (w0:=C.w0) (M:=C.M) (K:=fun w w'=>Inv w [] w' []) (u:=.returning) (u1:=.returning) (H':=H') (by simp) rfl hF (fun w' _=>hc w') (fun w' w'' hi' hK=>?_) ms w (hi.pick hH)
  exact (X.ret (C:={ C with D:=[] }) (fn:=fn) (Post:=Post) hw hMM rfl hfn hr hl hv hN hP { a with defers:=[] } w'' ⟨hf.size,rfl,hf.get⟩ (hi'.join0 hK)).2
theorem Z1m {fn:Func}{rs:List ResultVar}{vs:List Value}{v pv:Value}{w0:World}{M:List Nat}{Post:Value→Heap→Prop}{f:FuncId}{fs cs:Array Value}{Hc Hc' R:Heap}(ms:List Nat)(q0_:C.ρ=none∧C.w0=w0∧C.M=M∧C.D=ms.map mkD++[dfD f fs cs]∧fn.results.toList=rs)(hF:Yb C.P f=true)
    (hc:∀ w,Inv w (ids Hc) w Hc→CallsDIn (FW none) 0 C.P f (fs++cs) (.panicking (Ua pv)) w (fun e u' w'=>(∃ v,e=.returned v)∧u'=.panicking [{ v:=pv,recovered:=true }]∧Inv w (ids Hc) w' Hc'))
    (hH:Pick (Li ms++(Hc++R)) H)(hr:∀ (j:Nat) r u,rs[j]?=some r→vs[j]?=some u→Res { C with D:=[] } E (Hc'++R) r u)(q1_:rs.length=vs.length∧v=Rk vs)
    (hN:Pick N (Hc'++R))(hP:Post v N):Acq.X C (bodyPostM (FW none) 0 C.P fn (Wb w0 M Post)) (.panic (Ua pv)) E H:=by
  obtain ⟨hρ,hw,hMM,hD,hfn⟩:=q0_;obtain ⟨hl,hv⟩:=q1_
  intro a w hf hi
  show LeavesInM (FW none) 0 C.P fn a.tmps (Wb w0 M Post) a.defers (.panicking (Ua pv)) w
  rw [hf.defers,hD]
  refine Z69 (w0:=C.w0) (M:=C.M) (K:=fun w w'=>Inv w (ids Hc) w' Hc') (u1:=.panicking [{ v:=pv,recovered:=true }]) (H':=Hc++R) (by simp) rfl hF (fun w' hi'=>hc w' (hi'.self (Na (List.Perm.refl _)) rfl)) (fun w' w'' hi' hK=>?_) ms w (hi.pick hH)
  have hj:=hi'.join (List.Perm.refl _) (fun m hm=>hm) hK
  exact (X.ret (C:={ C with D:=[] }) (fn:=fn) (Post:=Post) hw hMM rfl hfn hr hl hv hN hP { a with defers:=[] } w'' ⟨hf.size,rfl,hf.get⟩ hj).2
theorem res2 {r r':ResultVar}{v v':Value}(hr:Res C E H r v)(hr':Res C E H r' v'):∀ (j:Nat) q u,[r,r'][j]?=some q→[v,v'][j]?=some u→Res C E H q u:=fun j q u h1 h2=>by
 match j with
 | 0=>simp at h1 h2;subst h1;subst h2;exact hr
 | 1=>simp at h1 h2;subst h1;subst h2;exact hr'
 | j+2=>simp at h1
end ends
end Go.Acq
namespace Go.Acq
open Go Go.RowKit Go.Proofs Go.Shelf
section fns
variable {P : Program} {ρ : Ren}
end fns
end Go.Acq
namespace Go.Acq
open Go Go.RowKit Go.Proofs Go.Shelf
section rules
variable {C : Cx} {ops : Array Oper} {Q : Exit → Act → World → Prop} {l : List Nat} {E : Env} {H R : Heap} {i d : Nat} {ty : TypeId} {pos : String} {af : Array Edge} {g : Option (Nat × Bool)}
end rules
end Go.Acq
namespace Go.Acq
open Go Go.RowKit Go.Proofs Go.Shelf
variable {P : Program} {ρ : Ren}
set_option maxHeartbeats 6400000 in
set_option maxRecDepth 100000 in
/-- grow of nothing: one store, one new row of 64 -/
theorem Zcf (L:LaysM.n252 P ρ) {b q n:Nat} {cs:Array Value} {T:TypeId} {lr:Int} {w:World} (hb:w.heap[b]?=some (.cells cs T (0,0))) (h0:cs[q]?=some (.slice none 0 0)) (h1:cs[q+1]?=some (.int .i64 0)) (h2:cs[q+2]?=some (.int .i8 lr)) (hn:1≤n) (h64:n≤64) :
    Calls P (ρ.f 252) #[.pointer (some ⟨b,q,none⟩),.int .i64 n] w fun e w'=>e=.returned (.int .i64 0)∧∃ k M,M.size=64∧w'=((w.drewN k).setCell ⟨b,q,none⟩ (.slice (some ⟨w.heap.size,0,none⟩) n 64)).alloc (.cells M (ρ.t 5)):=by
  have mixed:=L.mixed
  have t5:=L.t5;have a5:=L.a5;have z5:=L.z5;have v5:=L.v5
  have t130:=L.t130;have a130:=L.a130;have z130:=L.z130;have v130:=L.v130
  have t3:=L.t3;have a3:=L.a3;have z3:=L.z3;have v3:=L.v3
  have t4:=L.t4;have a4:=L.a4;have z4:=L.z4;have v4:=L.v4
  have t0:=L.t0;have a0:=L.a0;have z0:=L.z0;have v0:=L.v0
  have t93:=L.t93;have u93:=run_underlying L.t93;have a93:=L.a93;have z93:=L.z93;have v93:=L.v93
  have t131:=L.t131;have a131:=L.a131;have z131:=L.z131;have v131:=L.v131
  have t37:=L.t37;have a37:=L.a37;have z37:=L.z37;have v37:=L.v37
  have t75:=L.t75;have a75:=L.a75;have z75:=L.z75;have v75:=L.v75
  have e181:∀ args w,(callFunc (ρ.f 181) args).run P w=.ok (.enter (ρ.f 181) args) w:=enters_of L.f181 (by kernel_rfl) rfl
  have e251:∀ args w,(callFunc (ρ.f 251) args).run P w=.ok (.enter (ρ.f 251) args) w:=enters_of L.f251 (by kernel_rfl) rfl
  have hbk:LibA.Three w b q T (fun i=>cs[i]?) (.slice none 0 0) (.int .i64 0) (.int .i8 lr):=⟨cs,hb,h0,h1,h2,fun i _=>rfl⟩
  obtain ⟨i0,hi,hz0,hz1,hz2⟩:=info_parts L.i5
  obtain ⟨M,hM⟩:∃ M,M=madeCells (Value.int .u8 0).cells ((64:Int).toNat*i0.size):=⟨_,rfl⟩
  have hMs:M.size=64:=by rw [hM,size_madeCells,hz1];rfl
  have hmk:∀ W:World,(Instr.makeSlice (ρ.t 37) (.int .i64 (n:Int)) (.int .i64 64)).run P W=.ok (.slice (some ⟨W.heap.size,0,none⟩) n 64) (W.alloc (.cells M (ρ.t 5))):=fun W=>by
    have h:=run_makeSlice (P:=P) W (ρ.t 37) (ρ.t 5) i0 (.int .u8 0) L.t37 hi hz0 .i64 .i64 (n:Int) 64 (by omega) (by omega) (by rw [hz1];decide) (by rw [hz2];decide) (by decide)
    rw [←hM] at h
    simpa using h
  clear hM
  have hIs:LibA.IsBuffer T (fun i=>cs[i]?) (ρ.t 5) 0 b q [] w:=⟨Nat.zero_le _,_,_,hbk,World.ownsRow_nil _ _ _ _,by simp [Value.ownBlock]⟩
  have hnil:∀ W,(binOp .eql (ρ.t 37) (.slice none 0 0) (.slice none 0 0)).run P W=.ok (.bool true) W:=fun W=>Lib.run_eql_slice_nil_nil W _ _ L.t37
  go_enter L.f252,Body.n252_ntmps ρ
  go_wp2_with (go_at_fn (ρ.f 181);refine (Any.Buffer_Len_at { L with } T _ 0 b q [] _ hIs).mono ?_)
  rintro e W0 ⟨rfl,k,hW0⟩
  have hbk0:LibA.Three W0 b q T (fun i=>cs[i]?) (.slice none 0 0) (.int .i64 0) (.int .i8 lr):=by rw [hW0];exact hbk
  have c0:W0.cell? ⟨b,q,none⟩=some (.slice none 0 0):=hbk0.c0
  have c1:W0.cell? ⟨b,q+1,none⟩=some (.int .i64 0):=hbk0.c1
  have f0:W0.frozen? ⟨b,q,none⟩=false:=hbk0.f q
  have f1:W0.frozen? ⟨b,q+1,none⟩=false:=hbk0.f (q+1)
  have hbW0:=hbk0.lt
  have c0a:∀ o,(W0.alloc o).cell? ⟨b,q,none⟩=some (.slice none 0 0):=fun o=>(World.cell?_of_block (a:=⟨b,q,none⟩) (Below.heap_alloc W0 o b hbW0)).trans c0
  have f0a:∀ o,(W0.alloc o).frozen? ⟨b,q,none⟩=false:=fun o=>(World.frozen?_of_block (a:=⟨b,q,none⟩) (Below.heap_alloc W0 o b hbW0)).trans f0
  have HW0:=Lib.hid hW0
  clear hW0 hIs
  go_wp2_with (go_at_fn (ρ.f 251);refine (Any.Buffer_tryGrow_none_at { L with } b q _ 0 0 n _ c0 (Nat.le_refl _) (Nat.zero_le _) (by omega)).mono ?_;rintro e w' ⟨rfl,rfl⟩)
  go_ret
  refine ⟨rfl,k,M,hMs,?_⟩
  have hW0:=HW0.out
  subst hW0
  rfl
structure Upd2 (e T:TypeId)(b g:Nat)(cs cur:Array Value)(w w':World):Prop where
  os:w'.os=w.os
  tape:w'.tape=w.tape
  output:w'.output=w.output
  size:w'.heap.size=w.heap.size
  own:w'.heap[b]?=some (.cells cs T (0,0))
  row:w'.heap[g]?=some (.cells cur e (0,0))
  keep:∀ k,k≠b→k≠g→w'.heap[k]?=w.heap[k]?
set_option maxHeartbeats 6400000 in
set_option maxRecDepth 100000 in
/-- Write, with room in a row -/
theorem bw_write (L:LaysM.n180 P ρ) {b q g l cap n c:Nat} {cs cur:Array Value} {T:TypeId} {lr:Int} {a:Option Addr} {vs:List Value} {w:World} (hb:w.heap[b]?=some (.cells cs T (0,0))) (h0:cs[q]?=some (.slice (some ⟨g,0,none⟩) l cap)) (h2:cs[q+2]?=some (.int .i8 lr))
    (hg:w.heap[g]?=some (.cells cur (ρ.t 5) (0,0))) (hgb:g≠b) (hcs:cur.size=cap) (h64:cap≤64) (hln:l+n≤cap)
    (hn:vs.length=n) (ha:a=none→n=0) (hsrc:∀ x,a=some x→n≠0→x.block≠b∧∀ j v,vs[j]?=some v→w.cell? (x.add j)=some v) (h1c:∀ v∈vs,v.oneCell'=true) :
    Calls P (ρ.f 180) #[.pointer (some ⟨b,q,none⟩),.slice a n c] w fun e w'=>e=.returned (.tuple #[.int .i64 n,.nilIface]) ∧
      Upd2 (ρ.t 5) T b g ((cs.setIfInBounds (q+2) (.int .i8 0)).setIfInBounds q (.slice (some ⟨g,0,none⟩) (l+n) cap)) (cur.toList.take l++vs++cur.toList.drop (l+n)).toArray w w':=by
  have mixed:=L.mixed
  have t5:=L.t5;have a5:=L.a5;have z5:=L.z5;have v5:=L.v5
  have t130:=L.t130;have a130:=L.a130;have z130:=L.z130;have v130:=L.v130
  have t37:=L.t37;have a37:=L.a37;have z37:=L.z37;have v37:=L.v37
  have t3:=L.t3;have a3:=L.a3;have z3:=L.z3;have v3:=L.v3
  have t75:=L.t75;have a75:=L.a75;have z75:=L.z75;have v75:=L.v75
  have t0:=L.t0;have a0:=L.a0;have z0:=L.z0;have v0:=L.v0
  have t93:=L.t93;have u93:=run_underlying L.t93;have a93:=L.a93;have z93:=L.z93;have v93:=L.v93
  have t91:=L.t91;have a91:=L.a91;have z91:=L.z91;have v91:=L.v91
  have t131:=L.t131;have a131:=L.a131;have z131:=L.z131;have v131:=L.v131
  have t4:=L.t4;have a4:=L.a4;have z4:=L.z4;have v4:=L.v4
  have e251:∀ args w,(callFunc (ρ.f 251) args).run P w=.ok (.enter (ρ.f 251) args) w:=enters_of L.f251 (by kernel_rfl) rfl
  have e252:∀ args w,(callFunc (ρ.f 252) args).run P w=.ok (.enter (ρ.f 252) args) w:=enters_of L.f252 (by kernel_rfl) rfl
  have hq2:q+2<cs.size:=(Array.getElem?_eq_some_iff.1 h2).1
  have c2:w.cell? ⟨b,q+2,none⟩=some (.int .i8 lr):=by rw [Lib.cell_of_heap hb];exact h2
  have f2:w.frozen? ⟨b,q+2,none⟩=false:=Lib.frozen_of_heap hb _
  obtain ⟨W1,hW1⟩:∃ W1,W1=w.setCell ⟨b,q+2,none⟩ (.int .i8 0):=⟨_,rfl⟩
  have hb1:W1.heap[b]?=some (.cells (cs.setIfInBounds (q+2) (.int .i8 0)) T (0,0)):=by rw [hW1];exact Lib.heap_setCell_same (i:=q+2) hb _
  have c0:W1.cell? ⟨b,q,none⟩=some (.slice (some ⟨g,0,none⟩) l cap):=by rw [Lib.cell_of_heap hb1,Array.getElem?_setIfInBounds_ne (by omega)];exact h0
  have f0:W1.frozen? ⟨b,q,none⟩=false:=Lib.frozen_of_heap hb1 _
  obtain ⟨W2,hW2⟩:∃ W2,W2=W1.setCell ⟨b,q,none⟩ (.slice (some ⟨g,0,none⟩) (l+n) cap):=⟨_,rfl⟩
  have hb2:=Lib.heap_setCell_same (i:=q) hb1 (.slice (some ⟨g,0,none⟩) (l+n) cap)
  rw [←hW2] at hb2
  have d0:W2.cell? ⟨b,q,none⟩=some (.slice (some ⟨g,0,none⟩) (l+n) cap):=by rw [Lib.cell_of_heap hb2];simp [show q<cs.size from by omega]
  have hg2:W2.heap[g]?=some (.cells cur (ρ.t 5) (0,0)):=by rw [hW2,Below.heap_setCell _ _ _ _ hgb,hW1,Below.heap_setCell _ _ _ _ hgb];exact hg
  have hinfo:(P.info? (ρ.t 5)).map (·.size)=some 1:=by
    obtain ⟨i0,hi,-,hz1,-⟩:=info_parts L.i5
    rw [hi];simp [hz1]
  have hT:Calls P (ρ.f 251) #[.pointer (some ⟨b,q,none⟩),.int .i64 n] W1 _:=Any.Buffer_tryGrow_room_at { L with } b q _ l cap n W1 c0 f0 (by omega) (by unfold maxLen;omega) (by omega)
  have hu0:Upd2 (ρ.t 5) T b g ((cs.setIfInBounds (q+2) (.int .i8 0)).setIfInBounds q (.slice (some ⟨g,0,none⟩) (l+n) cap)) cur w W2 :=
    ⟨by rw [hW2,hW1];rfl,by rw [hW2,hW1];rfl,by rw [hW2,hW1];rfl,by rw [hW2,hW1];simp [World.setCell],hb2,hg2,fun k h1 h2=>by rw [hW2,Below.heap_setCell _ _ _ _ h1,hW1,Below.heap_setCell _ _ _ _ h1]⟩
  have hcp:∀ (o:Option Addr) (d1 d2:Nat),(n=0∨o=some ⟨g,l,none⟩)→d1=n→∃ W3,(Builtin.copy_ #[(ρ.t 37),(ρ.t 37)] (ρ.t 3) #[.slice o d1 d2,.slice a n c]).run P W2=.ok (goInt n) W3∧Upd2 (ρ.t 5) T b g ((cs.setIfInBounds (q+2) (.int .i8 0)).setIfInBounds q (.slice (some ⟨g,0,none⟩) (l+n) cap)) (cur.toList.take l++vs++cur.toList.drop (l+n)).toArray w W3:=by
    intro o d1 d2 ho hd
    subst hd
    by_cases hs0:d1=0
    · subst hs0
      have hv:vs=[]:=List.eq_nil_of_length_eq_zero hn
      subst hv
      refine ⟨W2,run_copy_none W2 (ρ.t 37) (ρ.t 37) (ρ.t 3) (ρ.t 5) o a 0 d2 0 c L.t37 hinfo (by simp),?_⟩
      have:(cur.toList.take l++[]++cur.toList.drop (l+0)).toArray=cur:=by simp
      rw [this];exact hu0
    · cases a with
      | none=>exact absurd (ha rfl) hs0
      | some x =>
        rcases ho with h | rfl
        ·exact absurd h hs0
        have hs:=hsrc x rfl hs0
        have hsx:∀ j v,vs[j]?=some v→W2.cell? (x.add j)=some v:=fun j v hj=>by
          refine (World.cell?_of_block (a:=x.add j) ?_).trans (hs.2 j v hj)
          rw [Lib.block_add,hW2,Below.heap_setCell _ _ _ _ hs.1,hW1,Below.heap_setCell _ _ _ _ hs.1]
        have h:=run_copy_row (P:=P) W2 (ρ.t 37) (ρ.t 37) (ρ.t 3) (ρ.t 5) g l d1 d2 x d1 c cur (ρ.t 5) vs L.t37 hinfo hg2 (by rw [hn];exact (Nat.min_self _).symm) hsx (by rw [hn];omega) h1c
        rw [hn] at h
        exact ⟨_,h,hu0.os,hu0.tape,hu0.output,by rw [←hu0.size];simp,by rw [setRow_other _ _ _ _ (Ne.symm hgb)];exact hb2,setRow_heap W2 g cur _ (ρ.t 5) (0,0) hg2,fun k h1 h2=>(setRow_other _ _ _ _ h2).trans (hu0.keep k h1 h2)⟩
  have HW1:=Lib.hid hW1
  have HW2:=Lib.hid hW2
  clear hW1 hW2
  go_enter L.f180,Body.n180_ntmps ρ
  go_wp2_with (go_at_fn (ρ.f 251);rw [←HW1.out];refine hT.mono ?_)
  rintro e W3 ⟨rfl,hW3⟩
  rw [←HW2.out] at hW3
  subst hW3
  by_cases hne:cap=l
  · have hn0 : n = 0 := by omega
    obtain ⟨W3,k1,k2⟩:=hcp (some ⟨g,0,none⟩) n 0 (.inl hn0) rfl
    have HN:=Lib.hid hn0
    clear hn0
    go_wp2
    all_goals (go_ret2;first | exact ⟨rfl,k2⟩ | (rw [hne];exact ⟨rfl,k2⟩) | (rw [←hne];exact ⟨rfl,k2⟩))
  · obtain ⟨W3, k1, k2⟩ := hcp (some ⟨g, l, none⟩) n (cap - l) (.inr rfl) rfl
    go_wp2
    all_goals (go_ret2;exact ⟨rfl,k2⟩)
structure New2 (e T:TypeId)(b:Nat)(cs cur:Array Value)(w w':World):Prop where
  os:w'.os=w.os
  tape:w'.tape=w.tape
  output:w'.output=w.output
  size:w'.heap.size=w.heap.size+1
  own:w'.heap[b]?=some (.cells cs T (0,0))
  row:w'.heap[w.heap.size]?=some (.cells cur e (0,0))
  keep:∀ k,k<w.heap.size→k≠b→w'.heap[k]?=w.heap[k]?
theorem Zbe {w W1:World}{b q n k:Nat}{e T:TypeId}{cs:Array Value}{M:Array Value}(hb:w.heap[b]?=some (.cells cs T (0,0)))(hW1:W1=w.setCell ⟨b,q+2,none⟩ (.int .i8 0)) :
    New2 e T b ((cs.setIfInBounds (q+2) (.int .i8 0)).setIfInBounds q (.slice (some ⟨w.heap.size,0,none⟩) n 64)) M w (((W1.drewN k).setCell ⟨b,q,none⟩ (.slice (some ⟨W1.heap.size,0,none⟩) n 64)).alloc (.cells M e)):=by
  have hs1:W1.heap.size=w.heap.size:=by rw [hW1];simp [World.setCell]
  have hlt:b<w.heap.size:=(Array.getElem?_eq_some_iff.1 hb).1
  have hb1:(W1.drewN k).heap[b]?=some (.cells (cs.setIfInBounds (q+2) (.int .i8 0)) T (0,0)):=by show W1.heap[b]?=_;rw [hW1];exact Lib.heap_setCell_same (i:=q+2) hb _
  have hb2:=Lib.heap_setCell_same (i:=q) hb1 (.slice (some ⟨W1.heap.size,0,none⟩) n 64)
  have hs2:((W1.drewN k).setCell ⟨b,q,none⟩ (.slice (some ⟨W1.heap.size,0,none⟩) n 64)).heap.size=w.heap.size:=by simp only [World.setCell,Array.size_modify];exact hs1
  refine ⟨by rw [hW1];rfl,by rw [hW1];rfl,by rw [hW1];rfl,?_,?_,?_,fun j h1 h2=>?_⟩
  ·rw [World.size_alloc,hs2]
  ·rw [Below.heap_alloc _ _ _ (by rw [hs2];exact hlt),hb2,hs1]
  · have h := heap_alloc_new ((W1.drewN k).setCell ⟨b, q, none⟩ (.slice (some ⟨W1.heap.size, 0, none⟩) n 64)) (.cells M e)
    rw [hs2] at h;exact h
  · rw [Below.heap_alloc _ _ _ (by rw [hs2]; exact h1), Below.heap_setCell _ _ _ _ h2]
    show W1.heap[j]?=_
    rw [hW1,Below.heap_setCell _ _ _ _ h2]
set_option maxHeartbeats 6400000 in
set_option maxRecDepth 100000 in
/-- Write, where no row is yet -/
theorem Zer (L:LaysM.n180 P ρ) {b q n c:Nat} {cs:Array Value} {T:TypeId} {lr:Int} {a:Option Addr} {vs:List Value} {w:World} (hb:w.heap[b]?=some (.cells cs T (0,0))) (h0:cs[q]?=some (.slice none 0 0)) (h1:cs[q+1]?=some (.int .i64 0)) (h2:cs[q+2]?=some (.int .i8 lr))
    (hn1:1≤n) (h64:n≤64) (hn:vs.length=n) (ha:a=none→n=0) (hsrc:∀ x,a=some x→x.block≠b∧x.block<w.heap.size∧∀ j v,vs[j]?=some v→w.cell? (x.add j)=some v) (h1c:∀ v∈vs,v.oneCell'=true) :
    Calls P (ρ.f 180) #[.pointer (some ⟨b,q,none⟩),.slice a n c] w fun e w'=>e=.returned (.tuple #[.int .i64 n,.nilIface])∧∃ M:List Value,M.length=64-n ∧
      New2 (ρ.t 5) T b ((cs.setIfInBounds (q+2) (.int .i8 0)).setIfInBounds q (.slice (some ⟨w.heap.size,0,none⟩) n 64)) (vs++M).toArray w w':=by
  have mixed:=L.mixed
  have t5:=L.t5;have a5:=L.a5;have z5:=L.z5;have v5:=L.v5
  have t130:=L.t130;have a130:=L.a130;have z130:=L.z130;have v130:=L.v130
  have t37:=L.t37;have a37:=L.a37;have z37:=L.z37;have v37:=L.v37
  have t3:=L.t3;have a3:=L.a3;have z3:=L.z3;have v3:=L.v3
  have t75:=L.t75;have a75:=L.a75;have z75:=L.z75;have v75:=L.v75
  have t0:=L.t0;have a0:=L.a0;have z0:=L.z0;have v0:=L.v0
  have t93:=L.t93;have u93:=run_underlying L.t93;have a93:=L.a93;have z93:=L.z93;have v93:=L.v93
  have t91:=L.t91;have a91:=L.a91;have z91:=L.z91;have v91:=L.v91
  have t131:=L.t131;have a131:=L.a131;have z131:=L.z131;have v131:=L.v131
  have t4:=L.t4;have a4:=L.a4;have z4:=L.z4;have v4:=L.v4
  have e251:∀ args w,(callFunc (ρ.f 251) args).run P w=.ok (.enter (ρ.f 251) args) w:=enters_of L.f251 (by kernel_rfl) rfl
  have e252:∀ args w,(callFunc (ρ.f 252) args).run P w=.ok (.enter (ρ.f 252) args) w:=enters_of L.f252 (by kernel_rfl) rfl
  have hq2:q+2<cs.size:=(Array.getElem?_eq_some_iff.1 h2).1
  have c2:w.cell? ⟨b,q+2,none⟩=some (.int .i8 lr):=by rw [Lib.cell_of_heap hb];exact h2
  have f2:w.frozen? ⟨b,q+2,none⟩=false:=Lib.frozen_of_heap hb _
  obtain ⟨W1,hW1⟩:∃ W1,W1=w.setCell ⟨b,q+2,none⟩ (.int .i8 0):=⟨_,rfl⟩
  have hb1:W1.heap[b]?=some (.cells (cs.setIfInBounds (q+2) (.int .i8 0)) T (0,0)):=by rw [hW1];exact Lib.heap_setCell_same (i:=q+2) hb _
  have k0:(cs.setIfInBounds (q+2) (.int .i8 0))[q]?=some (.slice none 0 0):=by rw [Array.getElem?_setIfInBounds_ne (by omega)];exact h0
  have k1:(cs.setIfInBounds (q+2) (.int .i8 0))[q+1]?=some (.int .i64 0):=by rw [Array.getElem?_setIfInBounds_ne (by omega)];exact h1
  have k2:(cs.setIfInBounds (q+2) (.int .i8 0))[q+2]?=some (.int .i8 0):=by simp [hq2]
  have c0:W1.cell? ⟨b,q,none⟩=some (.slice none 0 0):=by rw [Lib.cell_of_heap hb1];exact k0
  have hlt:b<w.heap.size:=(Array.getElem?_eq_some_iff.1 hb).1
  have hinfo:(P.info? (ρ.t 5)).map (·.size)=some 1:=by
    obtain ⟨i0,hi,-,hz1,-⟩:=info_parts L.i5
    rw [hi];simp [hz1]
  have hT:Calls P (ρ.f 251) #[.pointer (some ⟨b,q,none⟩),.int .i64 n] W1 _:=Any.Buffer_tryGrow_none_at { L with } b q _ 0 0 n W1 c0 (Nat.le_refl _) (Nat.zero_le _) (by omega)
  have hG:=Zcf (P:=P) (ρ:=ρ) { L with } (n:=n) hb1 k0 k1 k2 hn1 h64
  have HW1:=Lib.hid hW1
  clear hW1
  go_enter L.f180,Body.n180_ntmps ρ
  go_wp2_with (go_at_fn (ρ.f 251);rw [←HW1.out];refine hT.mono ?_)
  rintro e W2 ⟨rfl,hW2⟩
  subst hW2
  go_wp2_with (go_at_fn (ρ.f 252);refine hG.mono ?_)
  rintro e W3 ⟨rfl,k,M,hM,hW3⟩
  have hu:=Zbe (e:=ρ.t 5) (T:=T) (n:=n) (k:=k) (M:=M) hb HW1.out
  rw [←hW3] at hu
  clear hW3 hG hT c0 c2 f2
  have d0:W3.cell? ⟨b,q,none⟩=some (.slice (some ⟨w.heap.size,0,none⟩) n 64):=by rw [Lib.cell_of_heap hu.own];simp [show q<cs.size from by omega]
  have hcp:∃ W4,(Builtin.copy_ #[(ρ.t 37),(ρ.t 37)] (ρ.t 3) #[.slice (some ⟨w.heap.size,0,none⟩) n 64,.slice a n c]).run P W3=.ok (goInt n) W4∧New2 (ρ.t 5) T b ((cs.setIfInBounds (q+2) (.int .i8 0)).setIfInBounds q (.slice (some ⟨w.heap.size,0,none⟩) n 64)) (vs++M.toList.drop n).toArray w W4:=by
    cases a with
    | none=>have:=ha rfl;omega
    | some x =>
      have hs:=hsrc x rfl
      have hsx:∀ j v,vs[j]?=some v→W3.cell? (x.add j)=some v:=fun j v hj=>by
        refine (World.cell?_of_block (a:=x.add j) ?_).trans (hs.2.2 j v hj)
        rw [Lib.block_add];exact hu.keep _ hs.2.1 hs.1
      have h:=run_copy_row (P:=P) W3 (ρ.t 37) (ρ.t 37) (ρ.t 3) (ρ.t 5) w.heap.size 0 n 64 x n c M (ρ.t 5) vs L.t37 hinfo hu.row (by rw [hn];exact (Nat.min_self _).symm) hsx (by rw [hn];omega) h1c
      rw [hn] at h
      simp only [List.take_zero,List.nil_append,Nat.zero_add] at h
      exact ⟨_,h,hu.os,hu.tape,hu.output,by rw [←hu.size];simp,by rw [setRow_other _ _ _ _ (by omega)];exact hu.own,setRow_heap W3 w.heap.size M _ (ρ.t 5) (0,0) hu.row,fun k h1 h2=>(setRow_other _ _ _ _ (by omega)).trans (hu.keep k h1 h2)⟩
  obtain ⟨W4,g1,g2⟩:=hcp
  have HM:=Lib.hid hM
  have HU:=Lib.hid hu
  clear hM hu
  go_wp2
  all_goals (go_ret2;exact ⟨rfl,M.toList.drop n,by rw [List.length_drop,Array.length_toList,HM.out],g2⟩)
set_option maxHeartbeats 6400000 in
set_option maxRecDepth 100000 in
/-- WriteByte, with room in a row -/
theorem bw_byte (L:LaysM.n179 P ρ) {b q g l cap:Nat} {x:Int} {cs cur:Array Value} {T:TypeId} {lr:Int} {w:World} (hb:w.heap[b]?=some (.cells cs T (0,0))) (h0:cs[q]?=some (.slice (some ⟨g,0,none⟩) l cap)) (h2:cs[q+2]?=some (.int .i8 lr))
    (hg:w.heap[g]?=some (.cells cur (ρ.t 5) (0,0))) (hgb:g≠b) (hcs:cur.size=cap) (h64:cap≤64) (hln:l+1≤cap) :
    Calls P (ρ.f 179) #[.pointer (some ⟨b,q,none⟩),.int .u8 x] w fun e w'=>e=.returned .nilIface ∧
      Upd2 (ρ.t 5) T b g ((cs.setIfInBounds (q+2) (.int .i8 0)).setIfInBounds q (.slice (some ⟨g,0,none⟩) (l+1) cap)) (cur.setIfInBounds l (.int .u8 x)) w w':=by
  have mixed:=L.mixed
  have t5:=L.t5;have a5:=L.a5;have z5:=L.z5;have v5:=L.v5
  have t130:=L.t130;have a130:=L.a130;have z130:=L.z130;have v130:=L.v130
  have t75:=L.t75;have a75:=L.a75;have z75:=L.z75;have v75:=L.v75
  have t0:=L.t0;have a0:=L.a0;have z0:=L.z0;have v0:=L.v0
  have t93:=L.t93;have u93:=run_underlying L.t93;have a93:=L.a93;have z93:=L.z93;have v93:=L.v93
  have t91:=L.t91;have a91:=L.a91;have z91:=L.z91;have v91:=L.v91
  have t3:=L.t3;have a3:=L.a3;have z3:=L.z3;have v3:=L.v3
  have t131:=L.t131;have a131:=L.a131;have z131:=L.z131;have v131:=L.v131
  have t4:=L.t4;have a4:=L.a4;have z4:=L.z4;have v4:=L.v4
  have t37:=L.t37;have a37:=L.a37;have z37:=L.z37;have v37:=L.v37
  have e251:∀ args w,(callFunc (ρ.f 251) args).run P w=.ok (.enter (ρ.f 251) args) w:=enters_of L.f251 (by kernel_rfl) rfl
  have e252:∀ args w,(callFunc (ρ.f 252) args).run P w=.ok (.enter (ρ.f 252) args) w:=enters_of L.f252 (by kernel_rfl) rfl
  have hq2:q+2<cs.size:=(Array.getElem?_eq_some_iff.1 h2).1
  have c2:w.cell? ⟨b,q+2,none⟩=some (.int .i8 lr):=by rw [Lib.cell_of_heap hb];exact h2
  have f2:w.frozen? ⟨b,q+2,none⟩=false:=Lib.frozen_of_heap hb _
  obtain ⟨W1,hW1⟩:∃ W1,W1=w.setCell ⟨b,q+2,none⟩ (.int .i8 0):=⟨_,rfl⟩
  have hb1:W1.heap[b]?=some (.cells (cs.setIfInBounds (q+2) (.int .i8 0)) T (0,0)):=by rw [hW1];exact Lib.heap_setCell_same (i:=q+2) hb _
  have c0:W1.cell? ⟨b,q,none⟩=some (.slice (some ⟨g,0,none⟩) l cap):=by rw [Lib.cell_of_heap hb1,Array.getElem?_setIfInBounds_ne (by omega)];exact h0
  have f0:W1.frozen? ⟨b,q,none⟩=false:=Lib.frozen_of_heap hb1 _
  obtain ⟨W2,hW2⟩:∃ W2,W2=W1.setCell ⟨b,q,none⟩ (.slice (some ⟨g,0,none⟩) (l+1) cap):=⟨_,rfl⟩
  have hb2:=Lib.heap_setCell_same (i:=q) hb1 (.slice (some ⟨g,0,none⟩) (l+1) cap)
  rw [←hW2] at hb2
  have d0:W2.cell? ⟨b,q,none⟩=some (.slice (some ⟨g,0,none⟩) (l+1) cap):=by rw [Lib.cell_of_heap hb2];simp [show q<cs.size from by omega]
  have hg2:W2.heap[g]?=some (.cells cur (ρ.t 5) (0,0)):=by rw [hW2,Below.heap_setCell _ _ _ _ hgb,hW1,Below.heap_setCell _ _ _ _ hgb];exact hg
  have hT:Calls P (ρ.f 251) #[.pointer (some ⟨b,q,none⟩),.int .i64 1] W1 _:=Any.Buffer_tryGrow_room_at { L with } b q _ l cap 1 W1 c0 f0 (by omega) (by unfold maxLen;omega) (by omega)
  have dg:W2.cell? ⟨g,l,none⟩=some cur[l]:=by rw [Lib.cell_of_heap hg2,Array.getElem?_eq_getElem (by omega)]
  have fg:W2.frozen? ⟨g,l,none⟩=false:=Lib.frozen_of_heap hg2 _
  have hu:Upd2 (ρ.t 5) T b g ((cs.setIfInBounds (q+2) (.int .i8 0)).setIfInBounds q (.slice (some ⟨g,0,none⟩) (l+1) cap)) (cur.setIfInBounds l (.int .u8 x)) w (W2.setCell ⟨g,l,none⟩ (.int .u8 x)) :=
    ⟨by rw [hW2,hW1];rfl,by rw [hW2,hW1];rfl,by rw [hW2,hW1];rfl,by rw [hW2,hW1];simp [World.setCell],by rw [Below.heap_setCell _ _ _ _ (Ne.symm hgb)];exact hb2,Lib.heap_setCell_same (i:=l) hg2 _,fun k h1 h2=>by rw [Below.heap_setCell _ _ _ _ h2,hW2,Below.heap_setCell _ _ _ _ h1,hW1,Below.heap_setCell _ _ _ _ h1]⟩
  have HU:=Lib.hid hu
  have HW1:=Lib.hid hW1
  have HW2:=Lib.hid hW2
  clear hW1 hW2 hu
  go_enter L.f179,Body.n179_ntmps ρ
  go_wp2_with (go_at_fn (ρ.f 251);rw [←HW1.out];refine hT.mono ?_)
  rintro e W3 ⟨rfl,hW3⟩
  rw [←HW2.out] at hW3
  subst hW3
  go_wp2
  go_ret
  exact ⟨rfl,HU.out⟩
set_option maxHeartbeats 6400000 in
set_option maxRecDepth 100000 in
/-- WriteByte, where no row is yet -/
theorem bw_byte0 (L:LaysM.n179 P ρ) {b q:Nat} {x:Int} {cs:Array Value} {T:TypeId} {lr:Int} {w:World} (hb:w.heap[b]?=some (.cells cs T (0,0))) (h0:cs[q]?=some (.slice none 0 0)) (h1:cs[q+1]?=some (.int .i64 0)) (h2:cs[q+2]?=some (.int .i8 lr)) :
    Calls P (ρ.f 179) #[.pointer (some ⟨b,q,none⟩),.int .u8 x] w fun e w'=>e=.returned .nilIface∧∃ M:List Value,M.length=63 ∧
      New2 (ρ.t 5) T b ((cs.setIfInBounds (q+2) (.int .i8 0)).setIfInBounds q (.slice (some ⟨w.heap.size,0,none⟩) 1 64)) (.int .u8 x::M).toArray w w':=by
  have mixed:=L.mixed
  have t5:=L.t5;have a5:=L.a5;have z5:=L.z5;have v5:=L.v5
  have t130:=L.t130;have a130:=L.a130;have z130:=L.z130;have v130:=L.v130
  have t75:=L.t75;have a75:=L.a75;have z75:=L.z75;have v75:=L.v75
  have t0:=L.t0;have a0:=L.a0;have z0:=L.z0;have v0:=L.v0
  have t93:=L.t93;have u93:=run_underlying L.t93;have a93:=L.a93;have z93:=L.z93;have v93:=L.v93
  have t91:=L.t91;have a91:=L.a91;have z91:=L.z91;have v91:=L.v91
  have t3:=L.t3;have a3:=L.a3;have z3:=L.z3;have v3:=L.v3
  have t131:=L.t131;have a131:=L.a131;have z131:=L.z131;have v131:=L.v131
  have t4:=L.t4;have a4:=L.a4;have z4:=L.z4;have v4:=L.v4
  have t37:=L.t37;have a37:=L.a37;have z37:=L.z37;have v37:=L.v37
  have e251:∀ args w,(callFunc (ρ.f 251) args).run P w=.ok (.enter (ρ.f 251) args) w:=enters_of L.f251 (by kernel_rfl) rfl
  have e252:∀ args w,(callFunc (ρ.f 252) args).run P w=.ok (.enter (ρ.f 252) args) w:=enters_of L.f252 (by kernel_rfl) rfl
  have hq2:q+2<cs.size:=(Array.getElem?_eq_some_iff.1 h2).1
  have c2:w.cell? ⟨b,q+2,none⟩=some (.int .i8 lr):=by rw [Lib.cell_of_heap hb];exact h2
  have f2:w.frozen? ⟨b,q+2,none⟩=false:=Lib.frozen_of_heap hb _
  obtain ⟨W1,hW1⟩:∃ W1,W1=w.setCell ⟨b,q+2,none⟩ (.int .i8 0):=⟨_,rfl⟩
  have hb1:W1.heap[b]?=some (.cells (cs.setIfInBounds (q+2) (.int .i8 0)) T (0,0)):=by rw [hW1];exact Lib.heap_setCell_same (i:=q+2) hb _
  have k0:(cs.setIfInBounds (q+2) (.int .i8 0))[q]?=some (.slice none 0 0):=by rw [Array.getElem?_setIfInBounds_ne (by omega)];exact h0
  have k1:(cs.setIfInBounds (q+2) (.int .i8 0))[q+1]?=some (.int .i64 0):=by rw [Array.getElem?_setIfInBounds_ne (by omega)];exact h1
  have k2:(cs.setIfInBounds (q+2) (.int .i8 0))[q+2]?=some (.int .i8 0):=by simp [hq2]
  have c0:W1.cell? ⟨b,q,none⟩=some (.slice none 0 0):=by rw [Lib.cell_of_heap hb1];exact k0
  have hlt:b<w.heap.size:=(Array.getElem?_eq_some_iff.1 hb).1
  have hT:Calls P (ρ.f 251) #[.pointer (some ⟨b,q,none⟩),.int .i64 1] W1 _:=Any.Buffer_tryGrow_none_at { L with } b q _ 0 0 1 W1 c0 (Nat.le_refl _) (Nat.zero_le _) (by omega)
  have hG:Calls P (ρ.f 252) #[.pointer (some ⟨b,q,none⟩),.int .i64 1] W1 _:=Zcf (P:=P) (ρ:=ρ) { L with } (n:=1) hb1 k0 k1 k2 (by omega) (by omega)
  have HW1:=Lib.hid hW1
  clear hW1
  go_enter L.f179,Body.n179_ntmps ρ
  go_wp2_with (go_at_fn (ρ.f 251);rw [←HW1.out];refine hT.mono ?_)
  rintro e W2 ⟨rfl,hW2⟩
  subst hW2
  go_wp2_with (go_at_fn (ρ.f 252);refine hG.mono ?_)
  rintro e W3 ⟨rfl,k,M,hM,hW3⟩
  have hu:=Zbe (e:=ρ.t 5) (T:=T) (n:=1) (k:=k) (M:=M) hb HW1.out
  rw [←hW3] at hu
  clear hW3 hG hT c0 c2 f2
  have d0:W3.cell? ⟨b,q,none⟩=some (.slice (some ⟨w.heap.size,0,none⟩) 1 64):=by rw [Lib.cell_of_heap hu.own];simp [show q<cs.size from by omega]
  obtain ⟨m0,dg⟩:∃ m,W3.cell? ⟨w.heap.size,0,none⟩=some m:=⟨M[0],by rw [Lib.cell_of_heap hu.row,Array.getElem?_eq_getElem (by omega)]⟩
  have fg:W3.frozen? ⟨w.heap.size,0,none⟩=false:=Lib.frozen_of_heap hu.row _
  have e1:(Value.int .u8 x::M.toList.drop 1).toArray=M.setIfInBounds 0 (.int .u8 x):=by
    apply Array.ext'
    rw [Array.toList_setIfInBounds]
    cases hh:M.toList with
    | nil=>have:=congrArg List.length hh;simp [hM] at this
    | cons y ys=>simp
  have hg:New2 (ρ.t 5) T b ((cs.setIfInBounds (q+2) (.int .i8 0)).setIfInBounds q (.slice (some ⟨w.heap.size,0,none⟩) 1 64)) (.int .u8 x::M.toList.drop 1).toArray w (W3.setCell ⟨w.heap.size,0,none⟩ (.int .u8 x)):=by
    rw [e1]
    exact ⟨hu.os,hu.tape,hu.output,by rw [←hu.size];simp [World.setCell],by rw [Below.heap_setCell _ _ _ _ (Nat.ne_of_lt hlt)];exact hu.own,Lib.heap_setCell_same (i:=0) hu.row _,fun k h1 h2=>by rw [Below.heap_setCell _ _ _ _ (Nat.ne_of_lt h1)];exact hu.keep k h1 h2⟩
  have HG:=Lib.hid hg
  have HM:=Lib.hid hM
  clear hM hu hg e1
  go_wp2
  go_ret
  exact ⟨rfl,M.toList.drop 1,by rw [List.length_drop,Array.length_toList,HM.out],HG.out⟩
set_option maxHeartbeats 6400000 in
set_option maxRecDepth 100000 in
/-- Bytes -/
theorem bw_bytes (L:LaysM.n183 P ρ) {b q l cap:Nat} {ao:Option Addr} {w:World} (c0:w.cell? ⟨b,q,none⟩=some (.slice ao l cap)) (c1:w.cell? ⟨b,q+1,none⟩=some (.int .i64 0)) (hl:l≤cap) (h64:cap≤64) (ha:ao=none→cap=0) (ha0:∀ x,ao=some x→∃ g,x=⟨g,0,none⟩) :
    Calls P (ρ.f 183) #[.pointer (some ⟨b,q,none⟩)] w fun e w'=>e=.returned (.slice ao l cap)∧∃ n,w'=w.drewN n:=by
  have mixed:=L.mixed
  have t5:=L.t5;have a5:=L.a5;have z5:=L.z5;have v5:=L.v5
  have t130:=L.t130;have a130:=L.a130;have z130:=L.z130;have v130:=L.v130
  have t37:=L.t37;have a37:=L.a37;have z37:=L.z37;have v37:=L.v37
  have t0:=L.t0;have a0:=L.a0;have z0:=L.z0;have v0:=L.v0
  have t93:=L.t93;have u93:=run_underlying L.t93;have a93:=L.a93;have z93:=L.z93;have v93:=L.v93
  have t3:=L.t3;have a3:=L.a3;have z3:=L.z3;have v3:=L.v3
  cases ao with
  | none =>
    obtain rfl:=ha rfl
    obtain rfl:l=0:=by omega
    go_enter L.f183,Body.n183_ntmps ρ
    go_wp2
    go_region_o
    all_goals (go_wp2;go_ret;exact ⟨rfl,1,rfl⟩)
  | some x =>
    obtain ⟨g,rfl⟩:=ha0 x rfl
    go_enter L.f183,Body.n183_ntmps ρ
    go_wp2
    go_region_o
    all_goals (go_wp2;go_ret;exact ⟨rfl,1,rfl⟩)
end Go.Acq
namespace Go.Acq
open Go Go.RowKit Go.Proofs Go.Shelf
def BufS (ob:Option Nat)(c:Nat):Prop:=∀ q,ob=some q→c=64
theorem BufS.nil:BufS none 0:=fun q e=>by cases e
theorem Inv.two {w0 w w':World}{M:List Nat}{b g:Nat}{o p o' p':Obj}{R:Heap}(h:Inv w0 M w ((some b,o)::(some g,p)::R))(h1:w'.os=w.os)(h2:w'.tape=w.tape)(h3:w'.output=w.output)(hs:w'.heap.size=w.heap.size)
    (hb:w'.heap[b]?=some o')(hg:w'.heap[g]?=some p')(ho:∀ k,k≠b→k≠g→w'.heap[k]?=w.heap[k]?):Inv w0 M w' ((some b,o')::(some g,p')::R):=by
  have hgb:g≠b:=fun e=>by
    have:=h.apart
    simp [e] at this
  have i1:=h.put o'
  have hlt:=h.lt (.head _)
  have i2:=i1.upd (b:=g) (o':=p') (w':=w') (Take.tail (Take.head _ _)) h1 h2 h3 (by rw [hs];exact World.putObj_size.symm) hg (fun k hk=>by
    by_cases e:k=b
    ·subst e;rw [hb];exact (World.putObj_heap_same hlt).symm
    ·rw [ho k e hk];exact (World.putObj_heap_other e).symm)
  exact i2.perm (List.Perm.swap ..)
theorem Inv.new2 {w0 w w':World}{M:List Nat}{b:Nat}{o o' p':Obj}{R:Heap}(h:Inv w0 M w ((some b,o)::R))(h1:w'.os=w.os)(h2:w'.tape=w.tape)(h3:w'.output=w.output)(hs:w'.heap.size=w.heap.size+1)
    (hb:w'.heap[b]?=some o')(hg:w'.heap[w.heap.size]?=some p')(ho:∀ k,k<w.heap.size→k≠b→w'.heap[k]?=w.heap[k]?):Inv w0 M w' ((some b,o')::(some w.heap.size,p')::R):=by
  have i1:=h.alloc p'
  exact i1.upd (b:=b) (o':=o') (w':=w') (Take.tail (Take.head _ _)) h1 h2 h3 (by rw [hs];exact (World.size_alloc ..).symm) hb (fun k hk=>by
    by_cases e:k<w.heap.size
    ·rw [ho k e hk];exact (Below.heap_alloc _ _ _ e).symm
    · by_cases e2 : k = w.heap.size
      ·subst e2;rw [hg];exact (heap_alloc_new w p').symm
      ·rw [Array.getElem?_eq_none (by omega),Array.getElem?_eq_none (by rw [World.size_alloc];omega)])
def noU8 (cs:List Value):Bool:=cs.all fun v=>match v with
  | .int .u8 _=>false
  | _=>true
section rules
variable {C : Cx} {ops : Array Oper} {Q : Exit → Act → World → Prop} {l : List Nat} {E : Env} {H R R1 : Heap} {i d : Nat} {ty : TypeId} {pos : String} {af : Array Edge} {g : Option (Nat × Bool)}
variable {ρ : Ren} {b q n c : Nat} {lr : Int} {ob : Option Nat} {xs : List Int} {j cs : List Value} {T : TypeId}
theorem Z4e {t e:TypeId}{x y:Operand}{b o len s o2:Nat}{k:IntKind}{p:Int}(q0_:ops[i]?=some ⟨some d,.indexAddr t x y,ty,pos,af,g⟩∧Zr ops E g=true∧Nat.ble (d+1) C.n=true∧ev E x=some (.pointer (some ⟨b,o,none⟩))∧ev E y=some (.int k p))(ht:C.P.underlying t=some (.array len e))(hs:Yh C.P e=some s)(h0:0≤p)(h1:p<len)(he:o+p.toNat*s=o2)
    (kk:TO C ops Q l ((d,.pointer (some ⟨b,o2,none⟩))::E) H):TO C ops Q (i::l) E H:=by
  obtain ⟨ho,hg,hd,hx,hy⟩:=q0_
  subst he
  exact TO.val ho hg hd (by simp) (fun a w hf hi=>by
    simp [execOp,hf.ev hx,hf.ev hy,Instr.indexAt,asIntOf,run_underlying ht,Instr.sureAddr,h0,h1,Um hs,Addr.add_mid]) kk
def bwO (b q:Nat)(cs:List Value)(T e:TypeId)(ob:Option Nat)(xs:List Int)(c:Nat)(j:List Value)(R:Heap):Heap :=
  (some b,.cells ((cs.set (q+2) (.int .i8 0)).set q (.slice (sb ob) xs.length c)).toArray T (0,0))::(ob,.cells (arr (intC .u8) xs j).toArray e (0,0))::R
def BwP (b q:Nat)(cs:List Value)(T e:TypeId)(xs:List Int)(R:Heap)(v0 v:Value)(H':Heap):Prop:=v=v0∧∃ (ob':Option Nat) (c':Nat) (j':List Value),xs.length≤c'∧j'.length=(c'-xs.length)*1∧(ob'=none→c'=0)∧BufS ob' c'∧H'=bwO b q cs T e ob' xs c' j' R
theorem Le {cs:List Value}{q:Nat}{v:Value}:cs.toArray.setIfInBounds q v=(cs.set q v).toArray:=by simp
theorem Z7s (xs:List Int):xs.flatMap (intC .u8)=xs.map (Value.int .u8):=by rw [List.map_eq_flatMap]
theorem TO.bwW (L:LaysM.n180 C.P ρ){x y:Operand}{at':Array TypeId}{ss:List Int}{base:Option Addr}{nn cc:Nat}(hlim:(xs++ss).length≤64∧1≤(xs++ss).length)(hF:Yb C.P (ρ.f 180)=true)
    (q0_:ops[i]?=some ⟨some d,.call ⟨.value (.func (ρ.f 180)),#[x,y],at'⟩,ty,pos,af,g⟩∧Zr ops E g=true∧Nat.ble (d+1) C.n=true∧ev E x=some (.pointer (some ⟨b,q,none⟩))∧ev E y=some (.slice base nn cc))(hs:∀ wc,Inv C.w0 C.M wc H→RS wc [] (intC .u8) 1 base nn cc ss)
    (hb:Take (some b,.cells cs.toArray T (0,0)) H R1)(hr:Take (ob,.cells (arr (intC .u8) xs j).toArray (ρ.t 5) (0,0)) R1 R)
    (q1_:cs[q]?=some (.slice (sb ob) n c)∧cs[q+1]?=some (.int .i64 0)∧cs[q+2]?=some (.int .i8 lr)∧noU8 cs=true)
    (hn:xs.length=n)(hc:n≤c)(hj:j.length=(c-n)*1)(hz:ob=none→c=0)(hB:BufS ob c)
    (kk:∀ (ob':Option Nat) (n' c':Nat) (j':List Value),(xs++ss).length=n'→n'≤c'→j'.length=(c'-n')*1→(ob'=none→c'=0)→BufS ob' c' →
      TO C ops Q l ((d,.tuple #[.int .i64 (ss.length:Int),.nilIface])::E) ((some b,.cells ((cs.set (q+2) (.int .i8 0)).set q (.slice (sb ob') n' c')).toArray T (0,0))::(ob',.cells (arr (intC .u8) (xs++ss) j').toArray (ρ.t 5) (0,0))::R)) :
    TO C ops Q (i::l) E H:=by
  obtain ⟨ho,hg,hd,hx,hy⟩:=q0_;obtain ⟨h0,h1,h2,hu⟩:=q1_
  refine Z2g (vs:=[.pointer (some ⟨b,q,none⟩),.slice base nn cc]) (Post:=BwP b q cs T (ρ.t 5) (xs++ss) R (.tuple #[.int .i64 (ss.length:Int),.nilIface])) hF ho hg hd (by simp [evs,hx,hy]) (fun w hi=>?_) ?_
  · have hS := hs w hi
    have hl:ss.length=nn:=hS.ro.len
    have hi1:=hi.perm (hb.trans (List.Perm.cons _ hr))
    have hbk:=hi1.own b _ (.head _)
    have hcell:∀ x,base=some x→∀ j v,(ss.map (Value.int .u8))[j]?=some v→w.cell? (x.add j)=some v:=fun x hx j v hj=>by
      rw [List.getElem?_map] at hj
      cases hss:ss[j]? with
      | none=>rw [hss] at hj;cases hj
      | some z =>
        rw [hss] at hj
        have:=hS.ro.cell j 0 (List.getElem?_eq_some_iff.1 hss).1 (by omega) z hss
        subst hx
        simp only [ea,Option.getD_some,Nat.mul_one,Nat.add_zero] at this
        rw [this];exact hj
    have hblk:∀ x,base=some x→nn≠0→x.block≠b:=fun x hx hne he=>by
      cases ss with
      | nil=>exact hne hl.symm
      | cons z zs =>
        have h:=hcell x hx 0 (.int .u8 z) rfl
        unfold World.cell? at h
        rw [show (x.add 0).block=b from (Lib.block_add x 0).trans he,hbk] at h
        simp only at h
        split at h
        ·cases h
        · rw [List.getElem?_toArray] at h
          have:=List.all_eq_true.1 hu _ (List.mem_of_getElem? h)
          simp at this
    have hone:∀ v∈ss.map (Value.int .u8),v.oneCell'=true:=fun v hv=>by obtain ⟨z,_,rfl⟩:=List.mem_map.1 hv;rfl
    rw [List.length_append] at hlim
    cases hob:ob with
    | none =>
      subst hob
      have hc0:=hz rfl
      have hn0:n=0:=by omega
      have hxs:xs=[]:=List.eq_nil_of_length_eq_zero (hn.trans hn0)
      subst hxs
      subst hc0;subst hn0
      simp only [List.length_nil,Nat.zero_add] at hlim
      refine Calls.mono (Zer L (b:=b) (q:=q) (n:=nn) (c:=cc) (a:=base) (vs:=ss.map (Value.int .u8)) (T:=T) (lr:=lr) (cs:=cs.toArray) hbk (by simpa [sb] using h0) (by simpa using h1) (by simpa using h2) (by omega) (by omega) (by rw [List.length_map];exact hl) hS.ro.nil
        (fun x hx=>⟨hblk x hx (by omega),?_,hcell x hx⟩) hone) ?_
      · cases ss with
        | nil=>simp at hlim
        | cons z zs =>
          have h:=hcell x hx 0 (.int .u8 z) rfl
          unfold World.cell? at h
          rw [Lib.block_add] at h
          rcases Nat.lt_or_ge x.block w.heap.size with hh | hh
          ·exact hh
          ·rw [Array.getElem?_eq_none hh] at h;cases h
      · rintro e w' ⟨rfl, M, hM', hu2⟩
        have hi3:Inv C.w0 C.M w ((some b,.cells cs.toArray T (0,0))::R):=(hi1.perm (List.Perm.cons _ (List.perm_append_comm (l₁:=[_]) (l₂:=R)))).left (H:=_::R)
        have hi2:=hi3.new2 hu2.os hu2.tape hu2.output hu2.size hu2.own hu2.row hu2.keep
        refine ⟨_,_,⟨by rw [hl],some w.heap.size,64,M,by simp;omega,by rw [hM'];simp;omega,(fun e=>nomatch e),fun _ _=>rfl,rfl⟩,rfl,?_⟩
        rw [Le,Le,←Z7s] at hi2
        rw [←hl] at hi2
        exact hi2
    | some gq =>
      subst hob
      have hc64:=hB gq rfl
      have hrow:=hi1.own gq _ (.tail _ (.head _))
      have hgb:gq≠b:=fun e=>by
        have:=hi1.apart
        simp [e] at this
      have hsz:(arr (intC .u8) xs j).toArray.size=c:=by
        simp only [List.size_toArray,arr,List.length_append,Kc (s:=1) (f:=intC .u8) (fun _=>rfl)];omega
      refine Calls.mono (bw_write L (b:=b) (q:=q) (g:=gq) (l:=n) (cap:=c) (n:=nn) (c:=cc) (a:=base) (vs:=ss.map (Value.int .u8)) (T:=T) (lr:=lr) (cs:=cs.toArray) hbk (by simpa [sb] using h0) (by simpa using h2) hrow hgb hsz (by omega) (by omega) (by rw [List.length_map];exact hl) hS.ro.nil
        (fun x hx hne=>⟨hblk x hx hne,hcell x hx⟩) hone) ?_
      rintro e w' ⟨rfl,hu2⟩
      have hi2:=hi1.two hu2.os hu2.tape hu2.output hu2.size hu2.own hu2.row hu2.keep
      have hxl:(xs.map (Value.int .u8)).length=n:=by rw [List.length_map];exact hn
      have e1:(arr (intC .u8) xs j).toArray.toList.take n++ss.map (Value.int .u8)++(arr (intC .u8) xs j).toArray.toList.drop (n+nn)=arr (intC .u8) (xs++ss) (j.drop nn):=by
        simp only [arr,Z7s,List.map_append]
        rw [List.take_left' hxl,show n+nn=(xs.map (Value.int .u8)).length+nn from by rw [hxl],←List.drop_drop,List.drop_left]
      rw [e1] at hi2
      refine ⟨_,_,⟨by rw [hl],some gq,c,j.drop nn,by simp;omega,by simp;omega,(fun e=>nomatch e),fun _ _=>hc64,rfl⟩,rfl,?_⟩
      rw [Le,Le] at hi2
      have e2:n+nn=(xs++ss).length:=by simp;omega
      rw [e2] at hi2
      exact hi2
  · rintro v H' ⟨rfl, ob', c', j', h1, h2, h3, h4, rfl⟩
    exact kk ob' _ c' j' rfl h1 h2 h3 h4
theorem TO.bwB (L:LaysM.n179 C.P ρ){x y:Operand}{at':Array TypeId}{z:Int}(hlim:xs.length<64)(hF:Yb C.P (ρ.f 179)=true)
    (q0_:ops[i]?=some ⟨some d,.call ⟨.value (.func (ρ.f 179)),#[x,y],at'⟩,ty,pos,af,g⟩∧Zr ops E g=true∧Nat.ble (d+1) C.n=true∧ev E x=some (.pointer (some ⟨b,q,none⟩))∧ev E y=some (.int .u8 z))
    (hb:Take (some b,.cells cs.toArray T (0,0)) H R1)(hr:Take (ob,.cells (arr (intC .u8) xs j).toArray (ρ.t 5) (0,0)) R1 R)
    (q1_:cs[q]?=some (.slice (sb ob) n c)∧cs[q+1]?=some (.int .i64 0)∧cs[q+2]?=some (.int .i8 lr))
    (hn:xs.length=n)(hc:n≤c)(hj:j.length=(c-n)*1)(hz:ob=none→c=0)(hB:BufS ob c)
    (kk:∀ (ob':Option Nat) (n' c':Nat) (j':List Value),(xs++[z]).length=n'→n'≤c'→j'.length=(c'-n')*1→(ob'=none→c'=0)→BufS ob' c' →
      TO C ops Q l ((d,.nilIface)::E) ((some b,.cells ((cs.set (q+2) (.int .i8 0)).set q (.slice (sb ob') n' c')).toArray T (0,0))::(ob',.cells (arr (intC .u8) (xs++[z]) j').toArray (ρ.t 5) (0,0))::R)) :
    TO C ops Q (i::l) E H:=by
  obtain ⟨ho,hg,hd,hx,hy⟩:=q0_;obtain ⟨h0,h1,h2⟩:=q1_
  refine Z2g (vs:=[.pointer (some ⟨b,q,none⟩),.int .u8 z]) (Post:=BwP b q cs T (ρ.t 5) (xs++[z]) R .nilIface) hF ho hg hd (by simp [evs,hx,hy]) (fun w hi=>?_) ?_
  · have hi1 := hi.perm (hb.trans (List.Perm.cons _ hr))
    have hbk:=hi1.own b _ (.head _)
    have hl:(xs++[z]).length=n+1:=by simp [hn]
    cases hob:ob with
    | none =>
      subst hob
      have hc0:=hz rfl
      have hn0:n=0:=by omega
      have hxs:xs=[]:=List.eq_nil_of_length_eq_zero (hn.trans hn0)
      subst hxs
      subst hc0;subst hn0
      refine Calls.mono (bw_byte0 L (b:=b) (q:=q) (x:=z) (T:=T) (lr:=lr) (cs:=cs.toArray) hbk (by simpa [sb] using h0) (by simpa using h1) (by simpa using h2)) ?_
      rintro e w' ⟨rfl,M,hM',hu2⟩
      have hi3:Inv C.w0 C.M w ((some b,.cells cs.toArray T (0,0))::R):=(hi1.perm (List.Perm.cons _ (List.perm_append_comm (l₁:=[_]) (l₂:=R)))).left (H:=_::R)
      have hi2:=hi3.new2 hu2.os hu2.tape hu2.output hu2.size hu2.own hu2.row hu2.keep
      refine ⟨_,_,⟨rfl,some w.heap.size,64,M,by simp,by rw [hM'];simp,(fun e=>nomatch e),fun _ _=>rfl,rfl⟩,rfl,?_⟩
      rw [Le,Le] at hi2
      exact hi2
    | some gq =>
      subst hob
      have hc64:=hB gq rfl
      have hrow:=hi1.own gq _ (.tail _ (.head _))
      have hgb:gq≠b:=fun e=>by
        have:=hi1.apart
        simp [e] at this
      have hsz:(arr (intC .u8) xs j).toArray.size=c:=by
        simp only [List.size_toArray,arr,List.length_append,Kc (s:=1) (f:=intC .u8) (fun _=>rfl)];omega
      refine Calls.mono (bw_byte L (b:=b) (q:=q) (g:=gq) (l:=n) (cap:=c) (x:=z) (T:=T) (lr:=lr) (cs:=cs.toArray) hbk (by simpa [sb] using h0) (by simpa using h2) hrow hgb hsz (by omega) (by omega)) ?_
      rintro e w' ⟨rfl,hu2⟩
      have hi2:=hi1.two hu2.os hu2.tape hu2.output hu2.size hu2.own hu2.row hu2.keep
      have hxl:(xs.map (Value.int .u8)).length=n:=by rw [List.length_map];exact hn
      have e1:(arr (intC .u8) xs j).toArray.setIfInBounds n (.int .u8 z)=(arr (intC .u8) (xs++[z]) (j.drop 1)).toArray:=by
        rw [Le]
        congr 1
        simp only [arr,Z7s,List.map_append,List.map_cons,List.map_nil]
        cases hjj:j with
        | nil=>subst hjj;simp at hj;omega
        | cons y ys=>rw [List.set_append_right _ _ (by omega),show n-(xs.map (Value.int .u8)).length=0 from by omega];simp
      rw [e1] at hi2
      refine ⟨_,_,⟨rfl,some gq,c,j.drop 1,by omega,by simp;omega,(fun e=>nomatch e),fun _ _=>hc64,rfl⟩,rfl,?_⟩
      rw [Le,Le,←hl] at hi2
      exact hi2
  · rintro v H' ⟨rfl, ob', c', j', h1, h2, h3, h4, rfl⟩
    exact kk ob' _ c' j' rfl h1 h2 h3 h4
theorem TO.bwY (L:LaysM.n183 C.P ρ){x:Operand}{at':Array TypeId}(hF:Yb C.P (ρ.f 183)=true)
    (q0_:ops[i]?=some ⟨some d,.call ⟨.value (.func (ρ.f 183)),#[x],at'⟩,ty,pos,af,g⟩∧Zr ops E g=true∧Nat.ble (d+1) C.n=true∧ev E x=some (.pointer (some ⟨b,q,none⟩)))(hb:Take (some b,.cells cs.toArray T (0,0)) H R1)
    (q1_:cs[q]?=some (.slice (sb ob) n c)∧cs[q+1]?=some (.int .i64 0))(hc:n≤c)(hz:ob=none→c=0)(hB:BufS ob c)
    (kk:TO C ops Q l ((d,.slice (sb ob) n c)::E) H):TO C ops Q (i::l) E H:=by
  obtain ⟨ho,hg,hd,hx⟩:=q0_;obtain ⟨h0,h1⟩:=q1_
  refine Z2g (vs:=[.pointer (some ⟨b,q,none⟩)]) (Post:=fun v H'=>v=.slice (sb ob) n c∧H'=H) hF ho hg hd (by simp [evs,hx]) (fun w hi=>?_) ?_
  · have hcell := fun o => hi.cell_own hb.mem o
    refine Calls.mono (bw_bytes L (b:=b) (q:=q) (l:=n) (cap:=c) (ao:=sb ob) (by rw [hcell];simpa using h0) (by rw [hcell];simpa using h1) hc ?_ ?_ ?_) ?_
    · cases ob with
      | none=>have:=hz rfl;omega
      | some g=>have:=hB g rfl;omega
    · cases ob with
      | none=>exact fun _=>hz rfl
      | some g=>exact fun e=>nomatch e
    · cases ob with
      | none=>exact fun x e=>nomatch e
      | some g=>exact fun x e=>by injection e with e;exact ⟨g,e.symm⟩
    · rintro e w' ⟨rfl, k, rfl⟩
      exact ⟨_,_,⟨rfl,rfl⟩,rfl,hi.ofHeap rfl rfl rfl rfl⟩
  · rintro v H' ⟨rfl, rfl⟩
    exact kk
end rules
end Go.Acq
