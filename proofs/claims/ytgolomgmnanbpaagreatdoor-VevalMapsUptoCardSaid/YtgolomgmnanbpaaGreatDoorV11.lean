import Derived.Test.YtgolomgmnanbpaaGreatDoorV07
import Derived.Test.YtgolomgmnanbpaaGreatDoorV06
open Go.Value renaming int → Zi, slice → Zs, string → Zt, pointer → Zp
open Go.IntKind renaming i64 → Zq
set_option maxRecDepth 100000
set_option maxHeartbeats 16000000
set_option linter.unusedVariables false
set_option linter.unusedSimpArgs false
namespace Go.Proofs.YtgolomgmnanbpaaGreatDoor
section
open Go.RowKit
def gd (v:JV):Prop:=good v=true
theorem gd.j {v:JV} (h:gd v):aN 8 v=true:=by unfold gd good at h;rw [Bool.and_eq_true] at h;exact h.1
end
section
def ef (v:JV):Bool:=good v && (decide (v.kind=3/\0<=v.num) || decide (v.kind=1∨v.kind=2∨v.kind=4))
def dn:JV->Bool | .mk k n s kids keys=>decide (k=0/\n=0/\s=[]/\kids.length+keys.length=0)
def dN (s:List UInt8):Bool:=bF ⟨s.toArray⟩
def okX (k:Int) (v:JV) (s:List UInt8) (nk:Nat):Bool :=
 if k=1 then ef v && decide (s=[]/\nk=0)
 else if dn v=false then false
 else if k=2 then dN s && decide (nk=0)
 else if k=3 then dN s && decide (nk=1)
 else if k=4 then decide (s=[])
 else if 5<=k/\k<=7 then decide (s=[]/\nk=1)
 else if 8<=k/\k<=15 then decide (s=[]/\nk=2)
 else false
mutual
/-- how deep an expression is that may be,within so many levels;0: it may not be -/
def bx:Nat->EJ->Nat
 | room,.mk k v s kids=>if room=0 then 0 else if okX k v s kids.length=true then (match bG (room-1) kids with | none=>0 | some m=>m+1) else 0
def bG:Nat->List EJ->Option Nat
 | _,[]=>some 0
 | room,x::r=>if bx room x=0 then none else match bG room r with | none=>none | some m=>some (max (bx room x) m)
end
def dF (x:EJ):Prop:=bx 12 x≠0
instance (x:EJ):Decidable (dF x):=by unfold dF;infer_instance
def cq:EJ->Bool | .mk k v s kids=>decide (k=0/\s=[]/\kids.length=0) && dn v
mutual
/-- may a statement be,within so many levels? -/
def eX:Nat->SJ->Bool
 | room,.mk k s a b body els=>decide (room≠0) && (decide (dF a) &&
   (if k=1 then decide (dF b) && decide (s=[]/\body.length+els.length=0)
    else if k=2 then cq b && (decide (s=[]) && (aZ (room-1) body && aZ (room-1) els))
    else if k=3 then cq b && (dN s && (aZ (room-1) body && decide (els.length=0)))
    else false))
def aZ:Nat->List SJ->Bool
 | _,[]=>true
 | room,x::r=>eX room x && aZ room r
end
def jb (l:List SJ):Bool:=aZ 12 l
theorem ft {d:Nat}:∀ {xs:List SJ},aZ d xs=true ↔ ∀ x ∈ xs,eX d x=true
 | []=>by simp [aZ]
 | x::r=>by simp [aZ,ft (xs:=r)]
theorem oF {r:Nat} {x:EJ} {l:List EJ}:bG r (x::l)≠none ↔ bx r x≠0/\bG r l≠none:=by
 rw [bG];by_cases h:bx r x=0
 ·rw [if_pos h];simp [h]
 ·rw [if_neg h];cases hd:bG r l<;>simp [h]
theorem fQ {r:Nat}:∀ {l:List EJ},bG r l≠none ↔ ∀ x ∈ l,bx r x≠0
 | []=>by simp [bG]
 | x::l=>by rw [oF,fQ (l:=l)];simp
theorem eF {r:Nat} {k:Int} {v:JV} {s:List UInt8} {kids:List EJ} (h:bx r (.mk k v s kids)≠0):r≠0/\okX k v s kids.length=true/\∀ x ∈ kids,bx (r-1) x≠0:=by
 unfold bx at h;by_cases h0:r=0
 ·rw [if_pos h0] at h;exact absurd rfl h
 ·rw [if_neg h0] at h;by_cases h1:okX k v s kids.length=true
  ·rw [if_pos h1] at h;refine ⟨h0,h1,fQ.1 λ e=>?_⟩;rw [e] at h;exact h rfl
  ·rw [if_neg h1] at h;exact absurd rfl h
theorem pl {r:Nat} {k:Int} {v:JV} {s:List UInt8} {kids:List EJ} (h0:r≠0) (h1:okX k v s kids.length=true) (h2:∀ x ∈ kids,bx (r-1) x≠0):bx r (.mk k v s kids)≠0:=by
 unfold bx;rw [if_neg h0,if_pos h1];cases hd:bG (r-1) kids with
 | none=>exact absurd hd (fQ.2 h2)
 | some m=>simp
theorem jI {k:Int} {v:JV} {s:List UInt8} {nk:Nat} (h:okX k v s nk=true):1<=k/\k<=15/\(k=1->ef v=true)/\(k=3∨5<=k/\k<=7->nk=1)/\(8<=k->nk=2):=by
 unfold okX at h;split at h
 ·rename_i h1;rw [Bool.and_eq_true] at h;exact ⟨by omega,by omega,λ _=>h.1,by omega,by omega⟩
 ·split at h
  ·cases h
  ·split at h
   ·exact ⟨by omega,by omega,by omega,by omega,by omega⟩
   ·split at h
    ·rw [Bool.and_eq_true,decide_eq_true_eq] at h;exact ⟨by omega,by omega,by omega,λ _=>h.2,by omega⟩
    ·split at h
     ·exact ⟨by omega,by omega,by omega,by omega,by omega⟩
     ·split at h
      ·rw [decide_eq_true_eq] at h;exact ⟨by omega,by omega,by omega,λ _=>h.2,by omega⟩
      ·split at h
       ·rw [decide_eq_true_eq] at h;exact ⟨by omega,by omega,by omega,by omega,λ _=>h.2⟩
       ·cases h
def bo:List (List UInt8 × JV)->List UInt8->Option JV
 | [],_=>none
 | (s,v)::r,t=>match bo r t with | some u=>some u | none=>if s=t then some v else none
def aG (b:Bool):JV:=.mk 2 (if b=true then 1 else 0) [] [] []
def cC (n:Int):JV:=.mk 3 n [] [] []
def bQ (s:List UInt8):JV:=.mk 4 0 s [] []
def dM (l:List JV):JV:=.mk 5 0 [] l []
def isB:Option JV->Option Bool | some v=>if v.kind=2 then some (decide (v.num=1)) else none | none=>none
def gv (v:JV) (key:List UInt8):Option JV:=if v.kind=6 then (match v.keys.idxOf? key with | some i=>v.kids[i]? | none=>none) else none
def gD (k:Int):List UInt8 :=
 if k=1 then [110,117,108,108] else if k=2 then [98,111,111,108] else if k=3 then [105,110,116] else if k=4 then [116,101,120,116] else if k=5 then [108,105,115,116] else [111,98,106,101,99,116]
def j8:Nat->List UInt8->Nat
 | _,[]=>0
 | 0,_::_=>0
 | f+1,c::r=>j8 f ((c::r).drop (max 1 (am (c::r)).2))+1
def gq (l:List UInt8):Nat:=j8 l.length l
def fv (v:JV):Option JV:=if v.kind=4 then some (cC (gq v.txt)) else if 5<=v.kind then some (cC v.kids.length) else none
def dT (n:Int):Option JV:=if -9223372036854775808<=n/\n<=9223372036854775807 then some (cC n) else none
def mB (k a b:Int):Option JV:=dT (if k=8 then a*b else if k=9 then a+b else a-b)
def qZ (k c:Int):JV:=aG (if k=11 then decide (c=0) else if k=12 then decide (c<0) else decide (c<=0))
def nh:List (Option JV)->Option (List JV)
 | []=>some []
 | none::_=>none
 | some v::r=>match nh r with | none=>none | some l=>some (v::l)
def bg (env:List (List UInt8 × JV)) (k:Int) (v:JV) (s:List UInt8) (l:List (Option JV)):Option JV :=
 if k=1 then some v
 else if k=2 then bo env s
 else if k=4 then (match nh l with | some xs=>if good (dM xs)=true then some (dM xs) else none | none=>none)
 else match l.headD none with
  | none=>none
  |some a =>
   if k=3 then gv a s
   else if k=5 then (isB (some a)).map λ b=>aG (!b)
   else if k=6 then fv a
   else if k=7 then some (bQ (gD a.kind))
   else if k=14∨k=15 then (match isB (some a) with
    | none=>none
    | some t=>if t=decide (k=15) then some (aG t) else (isB (l.tail.headD none)).map aG)
   else match l.tail.headD none with
    | none=>none
    | some b=>if 11<=k then some (qZ k (bp a b)) else if a.kind=3/\b.kind=3 then mB k a.num b.num else none
mutual
/-- what an expression is -/
def evE (env:List (List UInt8 × JV)):EJ->Option JV | .mk k v s kids=>bg env k v s (evL env kids)
def evL (env:List (List UInt8 × JV)):List EJ->List (Option JV) | []=>[] | x::r=>evE env x::evL env r
end
theorem mI (env:List (List UInt8 × JV)):∀ l:List EJ,evL env l=l.map (evE env)
 | []=>rfl
 | x::r=>by unfold evL;rw [mI env r,List.map_cons]
def bL (s:List UInt8):List UInt8:=5::((s.flatMap λ c=>if c=0 then [0,255] else [c])++[0,0])
def iS (n:Int):List UInt8 :=
 let m:=(n+9223372036854775808).toNat
 4::[56,48,40,32,24,16,8,0].map λ by_=>UInt8.ofNat (m / 2 ^ by_)
mutual
/-- a value's code -/
def aJ:JV->List UInt8
 | .mk k n s kids keys =>
  if k=1 then [1] else if k=2 then [if n=1 then 3 else 2] else if k=3 then iS n else if k=4 then bL s
  else if k=6 then 7::(aE true kids keys++[0]) else 6::(aE false kids keys++[0])
def aE:Bool->List JV->List (List UInt8)->List UInt8
 | _,[],_=>[]
 | o,x::r,ks=>(if o=true then bL (ks.headD []) else [])++(aJ x++aE o r ks.tail)
end
abbrev MSt:=Nat × List (JV × JV)
def dQ (st:MSt) (k v:Option JV):MSt :=
 match k,v with
 | some a,some b=>if st.2.length<4/\(aJ a).length<=90/\(bf b).length<=100 then (st.1,st.2++[(a,b)]) else st
 | _,_=>st
mutual
/-- statements gone through -/
def goS (env:List (List UInt8 × JV)) (st:MSt):SJ->MSt
 | .mk k s a b body els =>
  if k=1 then dQ st (evE env a) (evE env b)
  else if k=2 then (match isB (evE env a) with | some true=>goL env st body | some false=>goL env st els | none=>st)
  else match evE env a with
   | some v=>if 5<=v.kind then v.kids.foldl (λ st x=>if st.1<256 then goL (env++[(s,x)]) (st.1+1,st.2) body else st) st else st
   | none=>st
def goL (env:List (List UInt8 × JV)) (st:MSt):List SJ->MSt
 | []=>st
 | x::r=>goL env (goS env st x) r
end
mutual
theorem mY:∀ (d:Nat) (v:JV),aN d v=true->aN (d+1) v=true
 |d,.mk k n s kids keys,h=>by
  obtain ⟨h1,h2,h3⟩:=aK h;unfold aN;rw [h1,Nat.add_sub_cancel];by_cases h0:d=0
  ·subst h0;have hk:¬ 5<=k:=λ e=>h2 e rfl
   cases kids with
   | nil=>simp [bz]
   |cons x r =>
    exfalso;unfold aI at h1;simp only [List.length_cons] at h1;have:k=1∨k=2∨k=3∨k=4∨k=5∨k=6∨(k≠1/\k≠2/\k≠3/\k≠4/\k≠5/\k≠6):=by omega
    rcases this with rfl | rfl | rfl | rfl | rfl | rfl | ⟨a1,a2,a3,a4,a5,a6⟩
    ·simp at h1
    ·simp at h1
    ·simp at h1
    ·simp at h1
    ·omega
    ·omega
    ·rw [if_neg a1,if_neg a2,if_neg a3,if_neg a4,if_neg a5,if_neg a6] at h1;cases h1
  ·have hl:=nU (d-1) kids h3;rw [show d-1+1=d by omega] at hl;rw [hl];simp
theorem nU:∀ (d:Nat) (xs:List JV),bz d xs=true->bz (d+1) xs=true
 | d,[],_=>rfl
 |d,x::r,h=>by
  unfold bz at h ⊢;rw [Bool.and_eq_true] at h;rw [mY d x h.1,nU d r h.2];rfl
end
theorem eN {v x:JV} (h:good v=true) (hx:x ∈ v.kids):good x=true:=by
 obtain ⟨k,n,s,kids,keys⟩:=v;have hx:x ∈ kids:=hx;unfold good at h ⊢;rw [Bool.and_eq_true,decide_eq_true_eq] at h ⊢;obtain ⟨h1,h2⟩:=h;obtain ⟨_,_,h3⟩:=aK h1;unfold ar at h2;have:=eS hx;exact ⟨mY 7 x (bC.1 h3 x hx),by omega⟩
theorem df (b:Bool):good (aG b)=true:=by cases b<;>rfl
theorem dt (n:Int):good (cC n)=true:=by
 unfold good cC aN aI ar ay bz;simp
theorem lf (k:Int):good (bQ (gD k))=true:=by
 unfold gD;split
 ·decide
 split
 ·decide
 split
 ·decide
 split
 ·decide
 split
 ·decide
 ·decide
theorem km:∀ {env:List (List UInt8 × JV)} {s:List UInt8} {v:JV},bo env s=some v->∃ b ∈ env,b.2=v
 |(t,u)::r,s,v,h=>by
  unfold bo at h;cases hr:bo r s with
  | some z=>rw [hr] at h;obtain ⟨b,hb,e⟩:=km hr;exact ⟨b,List.mem_cons_of_mem _ hb,e.trans (Option.some.inj h)⟩
  |none =>
   rw [hr] at h;simp only at h;split at h
   ·exact ⟨_,List.mem_cons_self,Option.some.inj h⟩
   ·cases h
theorem tI {v x:JV} {key:List UInt8} (h:gv v key=some x):x ∈ v.kids:=by
 unfold gv at h;split at h
 ·split at h
  ·exact List.mem_of_getElem? h
  ·cases h
 ·cases h
theorem qI {v x:JV} (h:fv v=some x):good x=true:=by
 unfold fv at h;split at h
 ·rw [← Option.some.inj h];exact dt _
 ·split at h
  ·rw [← Option.some.inj h];exact dt _
  ·cases h
theorem qE {n:Int} {x:JV} (h:dT n=some x):good x=true:=by
 unfold dT at h;split at h
 ·rw [← Option.some.inj h];exact dt _
 ·cases h
theorem rh {k a b:Int} {x:JV} (h:mB k a b=some x):good x=true:=qE h
theorem qv {env:List (List UInt8 × JV)} {k:Int} {v:JV} {s:List UInt8} {l:List (Option JV)} (he:∀ b ∈ env,good b.2=true) (hv:k=1->good v=true) (hl:∀ y,some y ∈ l->good y=true) {x:JV} (h:bg env k v s l=some x):good x=true:=by
 unfold bg at h;split at h
 ·rename_i e;rw [← Option.some.inj h];exact hv e
 split at h
 ·obtain ⟨b,hb,e⟩:=km h;rw [← e];exact he b hb
 split at h
 ·split at h
  ·split at h
   ·rename_i hg;rw [← Option.some.inj h];exact hg
   ·cases h
  ·cases h
 split at h
 ·cases h
 ·rename_i a ha
  have hga:good a=true:=by
   cases l with
   | nil=>simp at ha
   | cons z r=>exact hl a (by simp at ha;rw [ha];exact List.mem_cons_self)
  split at h
  ·exact eN hga (tI h)
  split at h
  ·obtain ⟨t,_,e⟩:=Option.map_eq_some_iff.1 h;rw [← e];exact df _
  split at h
  ·exact qI h
  split at h
  ·rw [← Option.some.inj h];exact lf _
  split at h
  ·split at h
   ·cases h
   ·split at h
    ·rw [← Option.some.inj h];exact df _
    ·obtain ⟨t,_,e⟩:=Option.map_eq_some_iff.1 h;rw [← e];exact df _
  ·split at h
   ·cases h
   ·split at h
    ·rw [← Option.some.inj h];exact df _
    ·split at h
     ·exact rh h
     ·cases h
mutual
theorem gV {env:List (List UInt8 × JV)} (he:∀ b ∈ env,good b.2=true):∀ (x:EJ) (r:Nat),bx r x≠0->∀ v,evE env x=some v->good v=true
 | .mk k v s kids,r,hd,u,hu=>by
  obtain ⟨_,hk,hkids⟩:=eF hd;unfold evE at hu;refine qv he (λ e=>?_) (λ y hy=>?_) hu
  ·have:=(jI hk).2.2.1 e;unfold ef at this;rw [Bool.and_eq_true] at this;exact this.1
  ·exact ow he kids (r-1) hkids y hy
theorem ow {env:List (List UInt8 × JV)} (he:∀ b ∈ env,good b.2=true):∀ (l:List EJ) (r:Nat),(∀ x ∈ l,bx r x≠0)->∀ y,some y ∈ evL env l->good y=true
 | [],_,_,y,hy=>by unfold evL at hy;cases hy
 |x::l,r,hd,y,hy=>by
  unfold evL at hy;rcases List.mem_cons.1 hy with e | hy
  ·exact gV he x r (hd x List.mem_cons_self) y e.symm
  ·exact ow he l r (λ z hz=>hd z (List.mem_cons_of_mem _ hz)) y hy
end
def iA (st:MSt):Prop:=st.2.length<=4/\st.1<=256/\∀ e ∈ st.2,good e.1=true/\good e.2=true/\(aJ e.1).length<=90/\(bf e.2).length<=100
def jG (st st':MSt):Prop:=st.2 <+: st'.2
theorem sf {st:MSt} {k v:Option JV} (h:iA st) (hk:∀ x,k=some x->good x=true) (hv:∀ x,v=some x->good x=true):iA (dQ st k v)/\jG st (dQ st k v):=by
 unfold dQ;cases k with
 | none=>exact ⟨h,List.prefix_refl _⟩
 |some a =>
  cases v with
  | none=>exact ⟨h,List.prefix_refl _⟩
  |some b =>
   simp only;split
   ·rename_i hc
    refine ⟨⟨by rw [List.length_append];simp only [List.length_cons,List.length_nil];omega,h.2.1,λ e he=>?_⟩,List.prefix_append _ _⟩;rcases List.mem_append.1 he with he | he
    ·exact h.2.2 e he
    ·obtain rfl:e=(a,b):=by simpa using he
     exact ⟨hk a rfl,hv b rfl,hc.2.1,hc.2.2⟩
   ·exact ⟨h,List.prefix_refl _⟩
theorem sV {α:Type} {f:MSt->α->MSt} {l:List α} (hf:∀ st,∀ x ∈ l,iA st->iA (f st x)/\jG st (f st x)) {st:MSt} (h:iA st):iA (l.foldl f st)/\jG st (l.foldl f st):=by
 induction l generalizing st with
 | nil=>exact ⟨h,List.prefix_refl _⟩
 |cons x r ih =>
  obtain ⟨h1,h2⟩:=hf st x List.mem_cons_self h;obtain ⟨h3,h4⟩:=ih (λ st y hy=>hf st y (List.mem_cons_of_mem _ hy)) h1;exact ⟨h3,List.IsPrefix.trans h2 h4⟩
mutual
theorem rn:∀ (x:SJ) (env:List (List UInt8 × JV)) (room:Nat) (st:MSt),(∀ b ∈ env,good b.2=true)->eX room x=true->iA st->iA (goS env st x)/\jG st (goS env st x)
 | .mk k s a b body els,env,room,st,he,hm,h=>by
  unfold eX at hm;simp only [Bool.and_eq_true,decide_eq_true_eq] at hm;obtain ⟨_,ha,hm⟩:=hm;unfold goS;by_cases h1:k=1
  ·rw [if_pos h1] at hm ⊢;simp only [Bool.and_eq_true,decide_eq_true_eq] at hm;exact sf h (λ x hx=>gV he a 12 ha x hx) (λ x hx=>gV he b 12 hm.1 x hx)
  ·rw [if_neg h1] at hm ⊢;by_cases h2:k=2
   ·rw [if_pos h2] at hm ⊢;simp only [Bool.and_eq_true,decide_eq_true_eq] at hm;cases hb:isB (evE env a) with
    | none=>exact ⟨h,List.prefix_refl _⟩
    |some t =>
     cases t with
     | true=>exact ij body env (room-1) st he hm.2.2.1 h
     | false=>exact ij els env (room-1) st he hm.2.2.2 h
   ·rw [if_neg h2] at hm ⊢;by_cases h3:k=3
    ·rw [if_pos h3] at hm;simp only [Bool.and_eq_true,decide_eq_true_eq] at hm;cases hv:evE env a with
     | none=>exact ⟨h,List.prefix_refl _⟩
     |some v =>
      have hg:=gV he a 12 ha v hv;simp only;split
      ·refine sV (λ st x hx hst=>?_) h;split
       ·rename_i hp
        have:=ij body (env++[(s,x)]) (room-1) (st.1+1,st.2) (λ y hy=>by
         rcases List.mem_append.1 hy with hy | hy
         ·exact he y hy
         ·obtain rfl:y=(s,x):=by simpa using hy
          exact eN hg hx) hm.2.2.1 ⟨hst.1,by show st.1+1<=256;omega,hst.2.2⟩
        exact this
       ·exact ⟨hst,List.prefix_refl _⟩
      ·exact ⟨h,List.prefix_refl _⟩
    ·rw [if_neg h3] at hm;cases hm
theorem ij:∀ (l:List SJ) (env:List (List UInt8 × JV)) (room:Nat) (st:MSt),(∀ b ∈ env,good b.2=true)->aZ room l=true->iA st->iA (goL env st l)/\jG st (goL env st l)
 | [],env,room,st,he,hm,h=>by unfold goL;exact ⟨h,List.prefix_refl _⟩
 |x::r,env,room,st,he,hm,h=>by
  unfold aZ at hm;rw [Bool.and_eq_true] at hm;unfold goL;obtain ⟨h1,h2⟩:=rn x env room st he hm.1 h;obtain ⟨h3,h4⟩:=ij r env room _ he hm.2 h1;exact ⟨h3,List.IsPrefix.trans h2 h4⟩
end
theorem p9 (env:List (List UInt8 × JV)):∀ (l m:List SJ) (st:MSt),goL env st (l++m)=goL env (goL env st l) m
 | [],m,st=>by show goL env st m=_;rw [goL]
 | x::r,m,st=>by show goL env st (x::(r++m))=_;rw [goL,goL,p9 env r m]
theorem rZ {d:Nat} {l m:List SJ}:aZ d (l++m)=(aZ d l && aZ d m):=by
 induction l with
 | nil=>simp [aZ]
 | cons x r ih=>show (eX d x && aZ d (r++m))=_;rw [ih,aZ,Bool.and_assoc]
theorem rH (env:List (List UInt8 × JV)) (s t:List UInt8) (v:JV):bo (env++[(s,v)]) t=if s=t then some v else bo env t:=by
 induction env with
 | nil=>show bo [(s,v)] t=_;simp [bo]
 |cons b r ih =>
  obtain ⟨u,z⟩:=b;show bo ((u,z)::(r++[(s,v)])) t=_
  rw [bo,ih,bo];by_cases h:s=t
  ·rw [if_pos h,if_pos h]
  ·rw [if_neg h,if_neg h]
theorem m0 {D C a b p q z:Nat} (h1:a+D<=C*p) (h2:b+D*z<=C*q):a+b+D*(z+1)<=C*(p+q):=by
 have h:=Nat.add_le_add h1 h2;have e:C*(p+q)=C*p+C*q:=Nat.mul_add _ _ _;have e2:D*(z+1)=D*z+D:=Nat.mul_succ _ _;omega
theorem oH {a b p q z:Nat} (h1:a+4194305<=8388610*p) (h2:b+4194305*z<=8388610*q):a+b+4194305*(z+1)<=8388610*(p+q):=m0 h1 h2
theorem jZ:∀ (ks:List (List UInt8)),(∀ t ∈ ks,t.length<=4194304)->bN ks<=4194305*ks.length
 | [],_=>by simp [bN]
 |k::r,h=>by
  have h1:=h k List.mem_cons_self;have h2:=jZ r (λ t ht=>h t (List.mem_cons_of_mem _ ht));have e1:bN (k::r)=k.length+1+bN r:=by rw [bN]
  have e3:(k::r).length=r.length+1:=rfl;omega
mutual
theorem ej:∀ (v:JV) (d:Nat),aN d v=true->kH v->cr v+4194305<=8388610*ar v
 | .mk k n s kids keys,d,hg,hl=>by
  obtain ⟨h1,_,h3⟩:=aK hg;obtain ⟨hk1,hk2⟩:=keyed h1;unfold kH at hl;have hb:=jZ keys hl.2.2.2.1;have hL:=iT kids (d-1) h3 hl.2.2.2.2;have hle:keys.length<=kids.length:=by
   by_cases h6:k=6
   ·rw [hk1 h6];exact Nat.le_refl _
   ·rw [hk2 h6];exact Nat.zero_le _
  have:4194305*keys.length<=4194305*kids.length:=Nat.mul_le_mul_left _ hle;unfold cr ar;omega
theorem iT:∀ (xs:List JV) (d:Nat),bz d xs=true->kG xs->cJ xs+4194305*xs.length<=8388610*ay xs
 | [],d,_,_=>by simp [cJ,ay]
 |x::r,d,hg,hl=>by
  unfold bz at hg;rw [Bool.and_eq_true] at hg;unfold kG at hl;have h1:=ej x d hg.1 hl.1;have h2:=iT r d hg.2 hl.2;have e1:cJ (x::r)=cr x+cJ r:=by rw [cJ]
  have e2:ay (x::r)=ar x+ay r:=by rw [ay]
  rw [List.length_cons];simp only [e1,e2];exact oH h1 h2
end
end
end Go.Proofs.YtgolomgmnanbpaaGreatDoor
namespace Go.Proofs.YtgolomgmnanbpaaGreatDoor
open Go.RowKit
attribute [local go_sem] aa ac ae ab
def gK (l:List UInt8) (w:World) (e:Ending) (w':World):Prop:=e=.returned (.string ⟨l.toArray⟩)/\Below w.heap.size w w'
def mT (w:World) (g:Nat) (k:Nat) (ds:List UInt8):Prop:=∃ pre:List Value,pre.length=k/\k+ds.length=20/\Blk w g 180 (pre++al ds).toArray
theorem mT.put {w:World} {g k:Nat} {ds:List UInt8} (h:mT w g (k+1) ds) (c:UInt8):mT (w.setCell ⟨g,k,none⟩ (.int .u8 c.toNat)) g k (c::ds):=by
 obtain ⟨pre,h1,h2,h3⟩:=h;have hne:pre≠[]:=by intro e;rw [e] at h1;simp at h1
 obtain ⟨p,x,rfl⟩:∃ p x,pre=p++[x]:=⟨pre.dropLast,pre.getLast hne,(List.dropLast_concat_getLast hne).symm⟩
 have h1:p.length=k:=by simpa using h1
 refine ⟨p,h1,by simp;omega,?_⟩;have:=h3.set_ k (.int .u8 c.toNat);have e:(p++[x]++al ds).toArray.setIfInBounds k (.int .u8 c.toNat)=(p++al (c::ds)).toArray:=by
  simp only [List.setIfInBounds_toArray,List.append_assoc];rw [List.set_append_right _ _ (by omega),h1,Nat.sub_self];simp [al]
 rw [e] at this;exact this
theorem mT.bs {w:World} {g k:Nat} {ds:List UInt8} (h:mT w g k ds):BS w (.slice (some ⟨g,k,none⟩) ds.length ds.length) ds:=by
 obtain ⟨pre,h1,h2,h3⟩:=h;refine ⟨_,_,rfl,Nat.le_refl _,λ _=>⟨g,k,rfl,h3.lt,λ i hi=>?_⟩⟩;rw [h3.cell];simp only [List.getElem?_toArray];rw [List.getElem?_append_right (by omega),h1,show k+i-k=i from by omega,List.getElem?_eq_getElem hi]
def lX (N m:Nat) (first:Bool) (ds:List UInt8):Prop:=if first=true then ds=[]/\m=N else ds≠[]/\eA N=(if m=0 then [] else eA m)++ds
theorem j9:∀ {N k:Nat},N<10 ^ k->0<k->(eA N).length<=k
 | N,0,h,h0=>by omega
 | N,1,h,_=>by rw [dE (by simpa using h)];simp
 |N,k+2,h,_=>by
  by_cases h10:N<10
  ·rw [dE h10];simp
  ·rw [fL (by omega),List.length_append];have:=j9 (N:=N / 10) (k:=k+1) (by rw [Nat.pow_succ] at h;omega) (by omega);simp;omega
theorem lX.step {N m:Nat} {first:Bool} {ds:List UInt8} (h:lX N m first ds) (hc:first=true∨0<m):lX N (m / 10) false (UInt8.ofNat (48+m % 10)::ds)/\(eA N).length=ds.length+(eA m).length:=by
 unfold lX at h ⊢;have key:eA N=eA m++ds:=by
  cases first with
  | true=>simp only [if_true] at h;rw [h.1,h.2,List.append_nil]
  |false =>
   have hm:m≠0:=by rcases hc with hc | hc;cases hc;omega
   simp only [Bool.false_eq_true,if_false] at h;rw [if_neg hm] at h;exact h.2
 refine ⟨?_,by rw [key,List.length_append];omega⟩;simp only [Bool.false_eq_true,if_false];refine ⟨by simp,?_⟩;rw [key];by_cases h10:m<10
 ·rw [dE h10,if_pos (by omega),Nat.mod_eq_of_lt h10];rfl
 ·rw [fL (by omega),if_neg (by omega)];simp
theorem lX.done {N m:Nat} {ds:List UInt8} (h:lX N m false ds) (hm:m=0):ds=eA N:=by
 unfold lX at h;simp only [Bool.false_eq_true,if_false] at h;rw [if_pos hm] at h;rw [h.2];rfl
theorem wd (g j:Nat) (hj:j<20) (W:World):(Instr.sliceAt 180 (.pointer (some ⟨g,0,none⟩)) (some (.int .i64 (j:Int))) none none).run Tryz.prog W=.ok (.slice (some ⟨g,j,none⟩) (20-j) (20-j)) W:=by
 have hal:Tryz.prog.arrayLen 180=20:=by kernel_rfl
 rw [run_sliceAt_array_l W 180 ⟨g,0,none⟩ (by kernel_rfl) .i64 (j:Int) (by omega) (by rw [hal];omega)];go_simp;omega
theorem iN (k:Nat) (h:k<(⟨#[48,49,50,51,52,53,54,55,56,57]⟩:ByteArray).size):(⟨#[48,49,50,51,52,53,54,55,56,57]⟩:ByteArray)[k].toNat=(UInt8.ofNat (48+k)).toNat:=by
 have key:∀ k:Fin 10,(⟨#[48,49,50,51,52,53,54,55,56,57]⟩:ByteArray)[k.1].toNat=(UInt8.ofNat (48+k.1)).toNat:=by decide
 exact key ⟨k,h⟩
theorem lZ (n:Int) (w:World) (hn:-9223372036854775808<=n/\n<=9223372036854775807):Calls Tryz.prog 110 #[.int .i64 n] w (gK (cj n) w):=by
 obtain ⟨h0,h1⟩:=hn;obtain ⟨N,hN⟩:∃ N,n.natAbs=N:=⟨_,rfl⟩
 have hNb:N<=9223372036854775808:=by omega
 have hlen:=j9 (N:=N) (k:=19) (by omega) (by decide);have HD0:=aW (show mT (w.alloc (.cells #[.int .u8 0,.int .u8 0,.int .u8 0,.int .u8 0,.int .u8 0,.int .u8 0,.int .u8 0,.int .u8 0,.int .u8 0,.int .u8 0,.int .u8 0,.int .u8 0,.int .u8 0,.int .u8 0,.int .u8 0,.int .u8 0,.int .u8 0,.int .u8 0,.int .u8 0,.int .u8 0] 180)) w.heap.size 20 [] from
  ⟨[.int .u8 0,.int .u8 0,.int .u8 0,.int .u8 0,.int .u8 0,.int .u8 0,.int .u8 0,.int .u8 0,.int .u8 0,.int .u8 0,.int .u8 0,.int .u8 0,.int .u8 0,.int .u8 0,.int .u8 0,.int .u8 0,.int .u8 0,.int .u8 0,.int .u8 0,.int .u8 0],rfl,rfl,Blk.new _ _ _⟩)
 have HL:=aW hlen;have HN:=aW hN;clear hlen hN;by_cases hneg:n<0
 ·have HE:=aW (show IntKind.u64.wrap (-IntKind.u64.wrap n)=(N:Int) by have:=HN.out;rw [IntKind.wrap_u64,IntKind.wrap_u64];omega);go_enter Tryz.func110,Tryz.ntmps110;go_wp2;rw [HE.out];go_loopg [3,5,6] (2*N+1) (λ gk s3 s5 s6 wr => ∃ (m k:Nat) (first:Bool) (ds:List UInt8),gk=2*m+(if first then 1 else 0)/\s3=.int .u64 m/\s5=.int .i64 k/\s6=.bool first/\m<=N/\Hid (mT wr w.heap.size k ds)/\Hid (Below w.heap.size w wr)/\Hid (lX N m first ds))
  case atStart=>exact ⟨N,20,true,[],rfl,rfl,rfl,rfl,Nat.le_refl _,HD0,aW ((Below.refl _ w).alloc (Nat.le_refl _) _),aW ⟨rfl,rfl⟩⟩
  case round =>
   obtain ⟨m,k,first,ds,hgk,rfl,rfl,rfl,hmN,HA,HB,HG⟩:=hrel;have hk20:k+ds.length=20:=by obtain ⟨_,_,h,_⟩:=HA.out;exact h
   obtain ⟨hbf,hbl,hbx⟩:(∀ i,wr.frozen? ⟨w.heap.size,i,none⟩=false)/\w.heap.size<wr.heap.size/\∀ i,i<20->∃ v,wr.cell? ⟨w.heap.size,i,none⟩=some v:=by
    obtain ⟨pre,h1,h2,h⟩:=HA.out;refine ⟨h.rules.2.1,h.rules.2.2,λ i hi=>?_⟩;rw [h.cell];exact ⟨_,Array.getElem?_eq_getElem (by simp [al,h1];omega)⟩
   by_cases hc:first=true∨0<m
   ·obtain ⟨hs1,hs2⟩:=HG.out.step hc;have HS:=aW hs1;have hmp:=List.length_pos_iff.2 (jm m);obtain ⟨j,rfl⟩:∃ j,k=j+1:=⟨k-1,by have:=HL.out;omega⟩
    have hj:1<=j/\j<=19:=by have:=HL.out;omega
    have HA2:=aW (HA.out.put (UInt8.ofNat (48+m % 10)));have HB2:=aW (HB.out.setCell (p:=⟨w.heap.size,j,none⟩) (Nat.le_refl _) (.int .u8 (UInt8.ofNat (48+m % 10)).toNat));have HGK:=aW hgk;obtain ⟨vj,hvj⟩:=hbx j (by omega);clear hbx hs1 hs2 hgk hk20;rcases first with _ | _
    ·have hm0:0<m:=by rcases hc with hc | hc;cases hc;exact hc
     clear hc;go_wp2;go_roundg (2*(m / 10))
     case measure=>have:=HGK.out;simp at this;omega
     case rel =>
      refine ⟨m / 10,j,false,_,by simp,congrArg (Value.int .u64) (by omega),rfl,rfl,by omega,?_,?_,HS⟩
      ·rw [iN];exact HA2
      ·rw [iN];exact HB2
    ·clear hc;go_wp2;go_roundg (2*(m / 10))
     case measure=>have:=HGK.out;simp at this;omega
     case rel =>
      refine ⟨m / 10,j,false,_,by simp,congrArg (Value.int .u64) (by omega),rfl,rfl,by omega,?_,?_,HS⟩
      ·rw [iN];exact HA2
      ·rw [iN];exact HB2
   ·obtain rfl:first=false:=by cases first;rfl;exact absurd (.inl rfl) hc
    obtain rfl:m=0:=by omega
    have hds:=HG.out.done rfl;subst hds;have hmp:=List.length_pos_iff.2 (jm N);clear hgk hc;obtain ⟨j,rfl⟩:∃ j,k=j+1:=⟨k-1,by have:=HL.out;omega⟩
    have hj:j+1<=20:=by omega
    obtain ⟨vj,hvj⟩:=hbx j (by omega);have hA2:=HA.out.put 45;have HB2:=aW (HB.out.setCell (p:=⟨w.heap.size,j,none⟩) (Nat.le_refl _) (.int .u8 45));have hnt:cj n=45::eA N:=by unfold cj;rw [if_pos hneg,HN.out]
    have hln:(cj n).length=20-j:=by rw [hnt,List.length_cons];omega
    have HCV:=aW (show (convert 76 9 (.slice (some ⟨w.heap.size,j,none⟩) (20-j) (20-j))).run Tryz.prog (wr.setCell ⟨w.heap.size,j,none⟩ (.int .u8 45))=.ok (.string ⟨(cj n).toArray⟩) (wr.setCell ⟨w.heap.size,j,none⟩ (.int .u8 45)) by
     have h:=hA2.bs.conv;rw [← hnt] at h;rw [← hln];exact h)
    clear hbx hA2 hnt hln hk20;have hcv:=HCV.out;have hsl:=wd w.heap.size j (by omega);go_wp2;go_ret;exact ⟨rfl,HB2.out⟩
 ·have hN2:n=(N:Int):=by have:=HN.out;omega
  subst hN2;go_enter Tryz.func110,Tryz.ntmps110;go_wp2;go_loopg [3,5,6] (2*N+1) (λ gk s3 s5 s6 wr => ∃ (m k:Nat) (first:Bool) (ds:List UInt8),gk=2*m+(if first then 1 else 0)/\s3=.int .u64 m/\s5=.int .i64 k/\s6=.bool first/\m<=N/\Hid (mT wr w.heap.size k ds)/\Hid (Below w.heap.size w wr)/\Hid (lX N m first ds))
  case atStart=>exact ⟨N,20,true,[],rfl,rfl,rfl,rfl,Nat.le_refl _,HD0,aW ((Below.refl _ w).alloc (Nat.le_refl _) _),aW ⟨rfl,rfl⟩⟩
  case round =>
   obtain ⟨m,k,first,ds,hgk,rfl,rfl,rfl,hmN,HA,HB,HG⟩:=hrel;have hk20:k+ds.length=20:=by obtain ⟨_,_,h,_⟩:=HA.out;exact h
   obtain ⟨hbf,hbl,hbx⟩:(∀ i,wr.frozen? ⟨w.heap.size,i,none⟩=false)/\w.heap.size<wr.heap.size/\∀ i,i<20->∃ v,wr.cell? ⟨w.heap.size,i,none⟩=some v:=by
    obtain ⟨pre,h1,h2,h⟩:=HA.out;refine ⟨h.rules.2.1,h.rules.2.2,λ i hi=>?_⟩;rw [h.cell];exact ⟨_,Array.getElem?_eq_getElem (by simp [al,h1];omega)⟩
   by_cases hc:first=true∨0<m
   ·obtain ⟨hs1,hs2⟩:=HG.out.step hc;have HS:=aW hs1;have hmp:=List.length_pos_iff.2 (jm m);obtain ⟨j,rfl⟩:∃ j,k=j+1:=⟨k-1,by have:=HL.out;omega⟩
    have hj:1<=j/\j<=19:=by have:=HL.out;omega
    have HA2:=aW (HA.out.put (UInt8.ofNat (48+m % 10)));have HB2:=aW (HB.out.setCell (p:=⟨w.heap.size,j,none⟩) (Nat.le_refl _) (.int .u8 (UInt8.ofNat (48+m % 10)).toNat));have HGK:=aW hgk;obtain ⟨vj,hvj⟩:=hbx j (by omega);clear hbx hs1 hs2 hgk hk20;rcases first with _ | _
    ·have hm0:0<m:=by rcases hc with hc | hc;cases hc;exact hc
     clear hc;go_wp2;go_roundg (2*(m / 10))
     case measure=>have:=HGK.out;simp at this;omega
     case rel =>
      refine ⟨m / 10,j,false,_,by simp,congrArg (Value.int .u64) (by omega),rfl,rfl,by omega,?_,?_,HS⟩
      ·rw [iN];exact HA2
      ·rw [iN];exact HB2
    ·clear hc;go_wp2;go_roundg (2*(m / 10))
     case measure=>have:=HGK.out;simp at this;omega
     case rel =>
      refine ⟨m / 10,j,false,_,by simp,congrArg (Value.int .u64) (by omega),rfl,rfl,by omega,?_,?_,HS⟩
      ·rw [iN];exact HA2
      ·rw [iN];exact HB2
   ·obtain rfl:first=false:=by cases first;rfl;exact absurd (.inl rfl) hc
    obtain rfl:m=0:=by omega
    have hds:=HG.out.done rfl;subst hds;have hmp:=List.length_pos_iff.2 (jm N);clear hgk hc;have hj:k<20:=by omega
    have hnn:¬ (N:Int)<0:=by omega
    have hnt:cj (N:Int)=eA N:=by unfold cj;rw [if_neg hnn,Int.natAbs_natCast]
    have hln:(cj (N:Int)).length=20-k:=by rw [hnt];omega
    have HCV:=aW (show (convert 76 9 (.slice (some ⟨w.heap.size,k,none⟩) (20-k) (20-k))).run Tryz.prog wr=.ok (.string ⟨(cj (N:Int)).toArray⟩) wr by
     have h:=HA.out.bs.conv;rw [← hnt] at h;rw [← hln];exact h)
    clear hbx hnt hln hk20;have hcv:=HCV.out;have hsl:=wd w.heap.size k hj;go_wp2;go_ret;exact ⟨rfl,HB.out⟩
theorem nY (n:Int) (w:World) (hn:-9223372036854775808<=n/\n<=9223372036854775807):Calls Tryz.prog 151 #[.int .i64 n] w λ e w'=>e=.returned (.int .i64 (cj n).length)/\Below w.heap.size w w':=by
 have HP:=aW (lZ n w hn);clear hn;go_enter Tryz.func151,Tryz.ntmps151;go_wp2_with fail;refine HP.out.mono ?_;rintro e w1 ⟨rfl,hb⟩;go_wp2;go_ret;refine ⟨?_,hb⟩;simp [ByteArray.size]
end Go.Proofs.YtgolomgmnanbpaaGreatDoor
namespace Go.Proofs.YtgolomgmnanbpaaGreatDoor
open Go.RowKit
attribute [local go_sem] aa ac ae ab
def o8 (B g:Nat) (l:List UInt8) (w:World):Prop:=B<=g/\∃ v,Blk w g 76 #[v]/\w.ownsRow B 5 1 v l.length (al l)
abbrev xF (g:Nat) (w w':World):Prop:=Lib.OthersKept 5 (some g) w w'
def lL (B g:Nat) (l:List UInt8) (w:World) (e:Ending) (w':World):Prop:=e=.returned (.tuple #[])/\o8 B g l w'/\Below B w w'/\xF g w w'
theorem pa (l:List UInt8):∀ u ∈ al l,u.oneCell'=true:=by
 intro u hu;simp only [al,List.mem_map] at hu;obtain ⟨c,_,rfl⟩:=hu;rfl
theorem lq {w:World} {B:Nat} {e:TypeId} {v:Value} {n:Nat} {xs:List Value} (h:w.ownsRow B e 1 v n xs):∀ g,v.ownBlock=some g->∃ c fz,w.heap[g]? = some (.cells c e fz):=by
 intro g hg;rcases h.2 with ⟨rfl,_⟩ | ⟨g',cap,cur,rfl,_,hgg,_⟩
 ·simp [Value.ownBlock] at hg
 ·simp [Value.ownBlock] at hg;subst hg;exact ⟨cur,_,hgg⟩
theorem kF (B g:Nat) (l m:List UInt8) (A:Option Addr) (n cap:Nat) (w:World) (hv:o8 B g l w) (hA:A=none->n=0) (hn:m.length=n) (hr:Rd w A (al m)) (hb:l.length+n<=140737488355328) (hBw:B<=w.heap.size) :
  Calls Tryz.prog 183 #[.slice A n cap,.pointer (some ⟨g,0,none⟩)] w (lL B g (l++m) w):=by
 obtain ⟨hBg,v,hblk,hown⟩:=hv;obtain ⟨i0,hi,hz0,hz1,hz2⟩:=info_parts nS;obtain ⟨c1,f1,l1⟩:=hblk.rules;obtain ⟨ao,no,co,rfl⟩:∃ ao no co,v=.slice ao no co:=by
  rcases hown.2 with ⟨hv,_⟩ | ⟨g,cap,cur,hv,_⟩
  ·exact ⟨_,_,_,hv⟩
  ·exact ⟨_,_,_,hv⟩
 have HI:=aW hi;have HO:=aW hown;have HN:=aW hn;have HR:=aW hr;have HA:=aW hA;have HBK:=aW hblk;clear hi hown hn hr hA hblk;go_enter Tryz.func183,Tryz.ntmps183;have HFIN:=aW (λ (v':Value) (w1:World) (hown':w1.ownsRow B 5 1 v' (l.length+n) (al l++al m)) (hgr:w.grownBy w1 (Value.slice ao no co).ownBlock) =>
  show ∃ ao' no' co',v'=.slice ao' no' co'/\Blk w1 g 76 #[.slice ao no co]/\lL B g (l++m) w (.returned (.tuple #[])) (w1.setCell ⟨g,0,none⟩ (.slice ao' no' co')) by
   have hne:some g≠(Value.slice ao no co).ownBlock:=j7 HO.out HBK.out (by decide);have hk:=HBK.out.grown hgr hne;have hX:xF g w w1:=(Lib.OthersKept.refl _ _ w).grown hgr (lq HO.out);have hb1:Below B w w1:=(Below.refl B w).grown hgr hBw (λ k hk=>(HO.out.lt k hk).1);obtain ⟨ao',no',co',rfl⟩:∃ ao no co,v'=.slice ao no co:=by
    rcases hown'.2 with ⟨hv,_⟩ | ⟨g,cap,cur,hv,_⟩
    ·exact ⟨_,_,_,hv⟩
    ·exact ⟨_,_,_,hv⟩
   have hne':some g≠(Value.slice ao' no' co').ownBlock:=j7 hown' hk (by decide);refine ⟨_,_,_,rfl,hk,rfl,⟨hBg,.slice ao' no' co',hk.set_ 0 _,?_⟩,hb1.setCell (p:=⟨g,0,none⟩) hBg _,hX.setCell ⟨g,0,none⟩ rfl _⟩;rw [List.length_append,HN.out,dW];exact hown'.kept (row:=some g) ⟨rfl,rfl,rfl,by simp [World.setCell],λ k _ hk=>Below.heap_setCell _ _ _ _ (λ e=>hk (by simp [e]))⟩ (.inr (λ e=>hne' e.symm)))
 go_wp2_with (at_builtin;refine ag _ rfl _ _ 76 rfl B 5 i0 _ 1 1 Tryz.underlying76 HI.out hz0 hz1 hz2 rfl (by decide) _ _ _ rfl HO.out A n cap HA.out (al m) rfl (by rw [bJ,Nat.mul_one];exact HN.out) HR.out (pa m) (by unfold maxLen;omega) (by omega) hBw ?_;intro v' w1 hown' hgr _;obtain ⟨ao',no',co',rfl,hk,hf⟩:=HFIN.out v' w1 hown' hgr;obtain ⟨c2,f2,l2⟩:=hk.rules;have HF:=aW hf;clear hf hown' hgr hk);go_end0;exact HF.out
end Go.Proofs.YtgolomgmnanbpaaGreatDoor
namespace Go.Proofs.YtgolomgmnanbpaaGreatDoor
open Go.RowKit
attribute [local go_sem] aa ac ae ab
theorem o8.bel {B g:Nat} {l:List UInt8} {w w':World} (h:o8 B g l w) (hb:Below w.heap.size w w'):o8 B g l w':=by
 obtain ⟨h1,v,h2,h3⟩:=h;exact ⟨h1,v,h2.keep hb,dG h3 hb⟩
def QSt (B g ib:Nat) (w0:World) (S:ByteArray) (p:Nat) (l:List UInt8) (W:World):Prop:=o8 B g l W/\W.heap[ib]? = some (.stringIter S p)/\Below B w0 W/\B<=ib/\B<=W.heap.size
section
variable {B g ib p:Nat} {w0 W W':World} {S:ByteArray} {l m:List UInt8}
theorem QSt.bel (h:QSt B g ib w0 S p l W) (hb:Below W.heap.size W W'):QSt B g ib w0 S p l W':=by
 obtain ⟨h1,h2,h3,h4,h5⟩:=h;exact ⟨h1.bel hb,(hb.block ib (Array.getElem?_eq_some_iff.1 h2).1).trans h2,h3.trans (hb.mono h5),h4,Nat.le_trans h5 hb.size⟩
theorem QSt.alloc (h:QSt B g ib w0 S p l W) (o:Obj):QSt B g ib w0 S p l (W.alloc o):=h.bel ((Below.refl _ W).alloc (Nat.le_refl _) o)
theorem QSt.drew (h:QSt B g ib w0 S p l W):QSt B g ib w0 S p l W.drew:=h.bel (Below.refl _ W).drew
theorem QSt.lay (h:QSt B g ib w0 S p l W) {r:Ending} (hl:lL B g m W r W'):QSt B g ib w0 S p m W':=by
 obtain ⟨h1,h2,h3,h4,h5⟩:=h;obtain ⟨_,k1,k2,k3⟩:=hl;have hne:ib≠g:=by
  rintro rfl;obtain ⟨_,v,hv,_⟩:=h1;unfold Blk at hv;rw [hv] at h2;cases h2
 exact ⟨k1,k3.iter h2 hne,h3.trans k2,h4,Nat.le_trans h5 k2.size⟩
theorem QSt.next (h:QSt B g ib w0 S p l W) (q:Nat):QSt B g ib w0 S q l (W.iterAt ib S q):=by
 obtain ⟨h1,h2,h3,h4,h5⟩:=h;obtain ⟨k1,v,k2,k3⟩:=h1;have hne:g≠ib:=by
  rintro rfl;unfold Blk at k2;rw [k2] at h2;cases h2
 refine ⟨⟨k1,v,(Lib.iterAt_other W ib g S q hne).trans k2,?_⟩,Lib.iterAt_heap W ib S p q h2,Lib.below_iterAt h3 h4 S q,h4,by rw [Lib.iterAt_size];exact h5⟩;refine k3.kept (row:=some ib) ⟨rfl,rfl,rfl,by rw [Lib.iterAt_size];exact Nat.le_refl _,λ k _ hk=>Lib.iterAt_other W ib k S q (λ e=>hk (by rw [e]))⟩ (.inr λ e=>?_);obtain ⟨c,fz,hc⟩:=lq k3 ib e;rw [h2] at hc;cases hc
end
theorem lD (c:Nat):(aB c).length<=6:=by
 unfold aB;split
 ·simp
 ·split
  ·simp
  ·have:=iX c;omega
theorem gY:∀ cs:List Nat,(cs.flatMap aB).length<=6*cs.length
 | []=>by simp
 | c::r=>by have:=lD c;have:=gY r;rw [List.flatMap_cons,List.length_append,List.length_cons];omega
def cF (c k:Nat):Prop:=(1<=k->c≠34)/\(2<=k->c≠92)/\(4<=k->c≠8)/\(5<=k->c≠12)/\(6<=k->c≠10)/\(7<=k->c≠13)/\(8<=k->c≠9)
theorem qR {c:Nat} (h:cF c 8):kp c=none:=by
 simp only [cF] at h;unfold kp;rw [if_neg (by omega),if_neg (by omega),if_neg (by omega),if_neg (by omega),if_neg (by omega),if_neg (by omega),if_neg (by omega)]
theorem xD (k:Nat) (h:k<(⟨#[48,49,50,51,52,53,54,55,56,57,97,98,99,100,101,102]⟩:ByteArray).size):(⟨#[48,49,50,51,52,53,54,55,56,57,97,98,99,100,101,102]⟩:ByteArray)[k].toNat=(UInt8.ofNat (jA k)).toNat:=by
 have key:∀ k:Fin 16,(⟨#[48,49,50,51,52,53,54,55,56,57,97,98,99,100,101,102]⟩:ByteArray)[k.1].toNat=(UInt8.ofNat (jA k.1)).toNat:=by decide
 exact key ⟨k,h⟩
theorem Rd.lit {W:World} {t:TypeId} {cs:Array Value} {xs:List Value} (h:xs=cs.toList):Rd (W.alloc (.cells cs t)) (some ⟨W.heap.size,0,none⟩) xs:=by
 subst h;exact Rd.of_blk (Blk.new W t cs)
theorem ew {B g ib p:Nat} {w0:World} {S:ByteArray} {l:List UInt8} (cs:List UInt8) (arr:Array Value) (n k:Nat) (W:World) (hq:QSt B g ib w0 S p l W) (ha:arr=(al cs).toArray) (hn:cs.length=n) (hk:k=W.heap.size) (hb:l.length+6<=140737488355328) (hn6:n<=6) :
  Calls Tryz.prog 183 #[.slice (some ⟨k,0,none⟩) n n,.pointer (some ⟨g,0,none⟩)] (W.alloc (.cells arr 5)) λ e w'=>e=.returned (.tuple #[])/\QSt B g ib w0 S p (l++cs) w':=by
 subst hk ha hn;refine (kF B g l cs _ _ _ _ ((hq.alloc _).1) (by intro h;cases h) rfl (Rd.lit (by simp)) (by omega) ((hq.alloc _).2.2.2.2)).mono ?_;intro e w' h;exact ⟨h.1,(hq.alloc _).lay h⟩
theorem tK {S:ByteArray} {s u:List UInt8} {p:Nat} (hS:S.data.toList=s) (h:s.drop p=u):S.data.toList.drop p=u:=by rw [hS];exact h
def qb (s:List UInt8) (w:World) (e:Ending) (w':World):Prop:=e=.returned (.tuple #[.string ⟨(eI s).toArray⟩,.int .i64 0])/\Below w.heap.size w w'
theorem oI (s:List UInt8) (w:World) (hG:GOK w) (ht:aL s=true) (hl:s.length<=4194304):Calls Tryz.prog 156 #[.string ⟨s.toArray⟩] w (qb s w):=by
 obtain ⟨hcp,hcs⟩:=fu ht;obtain ⟨cs,hcse⟩:∃ cs,dc s=cs:=⟨_,rfl⟩
 rw [hcse] at hcp hcs;have hcl:=pE hcp;rw [← hcs] at hcl;have HCK:=aW (fX s w hG hl);have HE:=aW (show dR s=0 by unfold dR;rw [if_pos ht]);have HQT:=aW (show eI s=34::cs.flatMap aB++[34] by unfold eI;rw [hcse]);have HCP:=aW hcp;have HCS:=aW hcs;have HCL:=aW hcl;obtain ⟨S,hS⟩:∃ S:ByteArray,S=⟨s.toArray⟩:=⟨_,rfl⟩
 have HSL:=aW (show S.data.toList=s by rw [hS]);have HSZ:=aW (show S.size=s.length by rw [hS];simp [ByteArray.size]);rw [← hS] at HCK ⊢;clear hcp hcs hG ht hS hcse hcl;obtain ⟨B,hB⟩:∃ B,B=w.heap.size:=⟨_,rfl⟩
 have HBB:=aW hB;clear hB;go_enter Tryz.func156,Tryz.ntmps156;go_wp2;go_step3;go_wp2_with fail;refine HCK.out.mono ?_;rintro e w1 ⟨⟨pz,rfl⟩,hb1⟩;rw [HE.out];have HST0:Hid (QSt B (w1.heap.size+1) (w1.heap.size+1+1) w S 0 [34] (((w1.alloc (.cells #[.int .u8 34] 5)).alloc (.cells #[.slice (some ⟨w1.heap.size,0,none⟩) 1 1] 76)).iter S 0)):=aW (by
  have hB1:B<=w1.heap.size:=by rw [HBB.out];exact hb1.size
  have hb9:Below B w (((w1.alloc (.cells #[.int .u8 34] 5)).alloc (.cells #[.slice (some ⟨w1.heap.size,0,none⟩) 1 1] 76)).iter S 0):=by
   rw [← HBB.out] at hb1;exact ((hb1.alloc hB1 _).alloc (by simp;omega) _).alloc (by simp;omega) _
  have ho:(w1.alloc (.cells #[.int .u8 34] 5)).ownsRow B 5 1 (.slice (some ⟨w1.heap.size,0,none⟩) 1 1) 1 (al [34]) :=
   ⟨rfl,.inr ⟨w1.heap.size,1,_,rfl,hB1,Blk.new w1 5 #[.int .u8 34],Nat.le_refl _,by decide,rfl,rfl⟩⟩
  have hk:=Blk.new (w1.alloc (.cells #[.int .u8 34] 5)) 76 #[.slice (some ⟨w1.heap.size,0,none⟩) 1 1];rw [World.size_alloc] at hk;have hO:o8 B (w1.heap.size+1) [34] ((w1.alloc (.cells #[.int .u8 34] 5)).alloc (.cells #[.slice (some ⟨w1.heap.size,0,none⟩) 1 1] 76)):=⟨by omega,_,hk,ho.alloc _⟩
  have hi:=World.iter_heap ((w1.alloc (.cells #[.int .u8 34] 5)).alloc (.cells #[.slice (some ⟨w1.heap.size,0,none⟩) 1 1] 76)) S 0;rw [World.size_alloc,World.size_alloc] at hi;exact ⟨hO.bel ((Below.refl _ _).alloc (Nat.le_refl _) _),hi,hb9,by omega,by simp [World.iter];omega⟩)
 clear hb1;go_wp2;go_step3;go_wp2;go_loopg [9] cs.length (λ gk s9 wr => ∃ (p:Nat) (pre suf:List Nat),gk=suf.length/\Hid (cs=pre++suf)/\Hid (s.drop p=suf.flatMap ai)/\p<=s.length/\Hid (QSt B (w1.heap.size+1) (w1.heap.size+1+1) w S p (34::pre.flatMap aB) wr))
 case atStart=>exact ⟨0,[],cs,rfl,aW rfl,aW (by rw [List.drop_zero];exact HCS.out),Nat.zero_le _,HST0⟩
 case round =>
  obtain ⟨p,pre,suf,hgk,HPS,HD,hp,HQ⟩:=hrel;have HG:=aW hgk;clear hgk HST0;cases suf with
  |nil =>
   have hpe:¬ p<S.size:=by
    have h:=HD.out;have h2:=congrArg List.length h;rw [List.length_drop] at h2;simp at h2;rw [HSZ.out];omega
   have HNX:=aW (λ ty=>Lib.run_next_end_at (P:=Tryz.prog) wr (w1.heap.size+1+1) S p ty HQ.out.2.1 hpe);have hnx:=HNX.out;have hpl:pre=cs:=by rw [HPS.out,List.append_nil]
   subst hpl;have hq6:=gY pre;have hbd:(34::pre.flatMap aB).length+1<=140737488355328:=by have:=HCL.out;rw [List.length_cons];omega
   have HBD:=aW hbd;clear hpe hq6 hbd;go_wp2_with fail;refine (kF B (w1.heap.size+1) (34::pre.flatMap aB) [34] _ _ _ _ ((HQ.out.alloc _).1) (by intro h;cases h) rfl (Rd.lit rfl) HBD.out ((HQ.out.alloc _).2.2.2.2)).mono ?_;rintro e w5 hlay;have HQ5:=aW ((HQ.out.alloc _).lay hlay);obtain ⟨rfl,⟨_,v,hbv,hov⟩,_,_⟩:=hlay;obtain ⟨A5,c5,rfl,hr5,hc5⟩:=Rd.of_own hov;have hcv:=BS.conv (show BS w5 (.slice A5 (34::pre.flatMap aB++[34]).length c5) (34::pre.flatMap aB++[34]) from ⟨_,_,rfl,hr5,hc5⟩);rw [← HQT.out] at hcv;obtain ⟨n5,hn5⟩:∃ n5,(34::pre.flatMap aB++[34]).length=n5:=⟨_,rfl⟩
   obtain ⟨n6,hn6⟩:∃ n6,(eI s).length=n6:=⟨_,rfl⟩
   rw [hn6] at hcv;rw [← HQT.out,hn6] at hbv;obtain ⟨c6,f6,l6⟩:=hbv.rules;clear hov hbv hr5 hc5 hn5 hn6 hnx;go_wp2;rw [Exit.noGoto_ret];go_ret2;exact ⟨rfl,by rw [← HBB.out];exact HQ5.out.2.2.1⟩
  |cons c suf =>
   have hcc:=HCP.out c (by rw [HPS.out];simp);have hlt:p<S.size:=by
    have h2:=congrArg List.length HD.out;rw [List.length_drop,List.flatMap_cons,List.length_append] at h2;have:=(bX c [] hcc).2.1;rw [HSZ.out];omega
   have hdec:=qM hcc (tK HSL.out (HD.out.trans List.flatMap_cons));have HNX:=aW (λ ty=>show (Instr.next (.pointer (some ⟨w1.heap.size+1+1,0,none⟩)) true ty).run Tryz.prog wr=.ok (.tuple #[.bool true,.int .i64 p,.int .i32 c]) (wr.iterAt (w1.heap.size+1+1) S (p+(ai c).length)) by
    rw [Lib.run_next_any_at (P:=Tryz.prog) wr (w1.heap.size+1+1) S p ty HQ.out.2.1 hlt,hdec])
   have HQ2:=aW (HQ.out.next (p+(ai c).length));have hnx:=HNX.out;clear hdec hlt;obtain ⟨W3,hW3⟩:∃ W3,wr.iterAt (w1.heap.size+1+1) S (p+(ai c).length)=W3:=⟨_,rfl⟩
   rw [hW3] at HQ2 hnx;have hbd:(34::pre.flatMap aB).length+6<=140737488355328:=by have:=HCL.out;have:=gY pre;have:=congrArg List.length HPS.out;rw [List.length_append,List.length_cons] at this;rw [List.length_cons];omega
   have hp2:p+(ai c).length<=s.length:=by
    have h2:=congrArg List.length HD.out;rw [List.length_drop,List.flatMap_cons,List.length_append] at h2;have:=(bX c [] hcc).2.1;omega
   have HD2:=aW (show s.drop (p+(ai c).length)=suf.flatMap ai by rw [← List.drop_drop,HD.out,List.flatMap_cons,List.drop_left]);have HPS2:=aW (show cs=(pre++[c])++suf by rw [HPS.out];simp);have HND:=aW (λ (W:World) (hq:QSt B (w1.heap.size+1) (w1.heap.size+1+1) w S (p+(ai c).length) (34::pre.flatMap aB++aB c) W)=>show ∃ (p':Nat) (pre' suf':List Nat),suf.length=suf'.length/\Hid (cs=pre'++suf')/\Hid (s.drop p'=suf'.flatMap ai)/\p'<=s.length/\Hid (QSt B (w1.heap.size+1) (w1.heap.size+1+1) w S p' (34::pre'.flatMap aB) W) from
    ⟨_,pre++[c],suf,rfl,HPS2,HD2,hp2,aW (by rw [List.flatMap_append,List.flatMap_cons,List.flatMap_nil,List.append_nil];exact hq)⟩)
   have hc21:=(d8 c).1 hcc;have HCC:=aW hcc;have HBD:=aW hbd;clear hW3 HNX hbd hp2 hcc;go_wp2_with fail;refine (n8 _).mono ?_;rintro e w4 ⟨rfl,hb4⟩;have HQ4:=aW (HQ2.out.bel hb4);clear hb4 hnx;unfold ng;go_wp2;go_loopg [28] 8 (λ gk s28 wx => ∃ k:Nat,gk=8-k/\k<=8/\s28=.int .i64 k/\Hid (cF c k)/\Hid (QSt B (w1.heap.size+1) (w1.heap.size+1+1) w S (p+(ai c).length) (34::pre.flatMap aB) wx))
   case atStart=>exact ⟨0,rfl,by omega,rfl,aW (by simp [cF]),HQ4⟩
   case round =>
    obtain ⟨k,hgk2,hk8,rfl,HL,HX⟩:=hrel;have HG2:=aW hgk2;clear hgk2 HQ4 HQ2;rcases (by omega:k=0∨k=1∨k=2∨k=3∨k=4∨k=5∨k=6∨k=7∨k=8) with rfl | rfl | rfl | rfl | rfl | rfl | rfl | rfl | rfl
    ·by_cases hh:c=34
     ·subst hh;have hqs:aB 34=[92,34]:=by decide
      rw [hqs] at HND;clear hqs;go_wp2_with fail;with_reducible refine (ew [92,34] _ 2 _ _ (HX.out.alloc _) ?la ?ln ?lk HBD.out (by decide)).mono ?_
      case la=>rfl
      case ln=>rfl
      case lk=>simp
      rintro e w5 ⟨rfl,hq5⟩;have HQ5:=aW hq5;clear hq5;go_wp2;go_roundg suf.length
      case measure=>rw [HG.out];simp
      case rel=>exact HND.out _ HQ5.out
     ·have e1:((c:Int) == 34)=false:=by simp;omega
      go_wp2;go_roundg 7
      case measure=>rw [HG2.out];omega
      case rel=>exact ⟨1,rfl,by omega,rfl,aW (by have h:=HL.out;simp only [cF] at h ⊢;omega),aW (HX.out.alloc _)⟩
    ·by_cases hh:c=92
     ·subst hh;have hqs:aB 92=[92,92]:=by decide
      rw [hqs] at HND;clear hqs;go_wp2_with fail;with_reducible refine (ew [92,92] _ 2 _ _ (HX.out.alloc _) ?la ?ln ?lk HBD.out (by decide)).mono ?_
      case la=>rfl
      case ln=>rfl
      case lk=>simp
      rintro e w5 ⟨rfl,hq5⟩;have HQ5:=aW hq5;clear hq5;go_wp2;go_roundg suf.length
      case measure=>rw [HG.out];simp
      case rel=>exact HND.out _ HQ5.out
     ·have e1:((c:Int) == 92)=false:=by simp;omega
      go_wp2;go_roundg 6
      case measure=>rw [HG2.out];omega
      case rel=>exact ⟨2,rfl,by omega,rfl,aW (by have h:=HL.out;simp only [cF] at h ⊢;omega),aW (HX.out.alloc _)⟩
    ·by_cases hh:c=47
     ·subst hh;go_wp2;go_roundg 5
      case measure=>rw [HG2.out];omega
      case rel=>exact ⟨3,rfl,by omega,rfl,aW (by have h:=HL.out;simp only [cF] at h ⊢;omega),aW (HX.out.alloc _)⟩
     ·have e1:((c:Int) == 47)=false:=by simp;omega
      go_wp2;go_roundg 5
      case measure=>rw [HG2.out];omega
      case rel=>exact ⟨3,rfl,by omega,rfl,aW (by have h:=HL.out;simp only [cF] at h ⊢;omega),aW (HX.out.alloc _)⟩
    ·by_cases hh:c=8
     ·subst hh;have hqs:aB 8=[92,98]:=by decide
      rw [hqs] at HND;clear hqs;go_wp2_with fail;with_reducible refine (ew [92,98] _ 2 _ _ (HX.out.alloc _) ?la ?ln ?lk HBD.out (by decide)).mono ?_
      case la=>rfl
      case ln=>rfl
      case lk=>simp
      rintro e w5 ⟨rfl,hq5⟩;have HQ5:=aW hq5;clear hq5;go_wp2;go_roundg suf.length
      case measure=>rw [HG.out];simp
      case rel=>exact HND.out _ HQ5.out
     ·have e1:((c:Int) == 8)=false:=by simp;omega
      go_wp2;go_roundg 4
      case measure=>rw [HG2.out];omega
      case rel=>exact ⟨4,rfl,by omega,rfl,aW (by have h:=HL.out;simp only [cF] at h ⊢;omega),aW (HX.out.alloc _)⟩
    ·by_cases hh:c=12
     ·subst hh;have hqs:aB 12=[92,102]:=by decide
      rw [hqs] at HND;clear hqs;go_wp2_with fail;with_reducible refine (ew [92,102] _ 2 _ _ (HX.out.alloc _) ?la ?ln ?lk HBD.out (by decide)).mono ?_
      case la=>rfl
      case ln=>rfl
      case lk=>simp
      rintro e w5 ⟨rfl,hq5⟩;have HQ5:=aW hq5;clear hq5;go_wp2;go_roundg suf.length
      case measure=>rw [HG.out];simp
      case rel=>exact HND.out _ HQ5.out
     ·have e1:((c:Int) == 12)=false:=by simp;omega
      go_wp2;go_roundg 3
      case measure=>rw [HG2.out];omega
      case rel=>exact ⟨5,rfl,by omega,rfl,aW (by have h:=HL.out;simp only [cF] at h ⊢;omega),aW (HX.out.alloc _)⟩
    ·by_cases hh:c=10
     ·subst hh;have hqs:aB 10=[92,110]:=by decide
      rw [hqs] at HND;clear hqs;go_wp2_with fail;with_reducible refine (ew [92,110] _ 2 _ _ (HX.out.alloc _) ?la ?ln ?lk HBD.out (by decide)).mono ?_
      case la=>rfl
      case ln=>rfl
      case lk=>simp
      rintro e w5 ⟨rfl,hq5⟩;have HQ5:=aW hq5;clear hq5;go_wp2;go_roundg suf.length
      case measure=>rw [HG.out];simp
      case rel=>exact HND.out _ HQ5.out
     ·have e1:((c:Int) == 10)=false:=by simp;omega
      go_wp2;go_roundg 2
      case measure=>rw [HG2.out];omega
      case rel=>exact ⟨6,rfl,by omega,rfl,aW (by have h:=HL.out;simp only [cF] at h ⊢;omega),aW (HX.out.alloc _)⟩
    ·by_cases hh:c=13
     ·subst hh;have hqs:aB 13=[92,114]:=by decide
      rw [hqs] at HND;clear hqs;go_wp2_with fail;with_reducible refine (ew [92,114] _ 2 _ _ (HX.out.alloc _) ?la ?ln ?lk HBD.out (by decide)).mono ?_
      case la=>rfl
      case ln=>rfl
      case lk=>simp
      rintro e w5 ⟨rfl,hq5⟩;have HQ5:=aW hq5;clear hq5;go_wp2;go_roundg suf.length
      case measure=>rw [HG.out];simp
      case rel=>exact HND.out _ HQ5.out
     ·have e1:((c:Int) == 13)=false:=by simp;omega
      go_wp2;go_roundg 1
      case measure=>rw [HG2.out];omega
      case rel=>exact ⟨7,rfl,by omega,rfl,aW (by have h:=HL.out;simp only [cF] at h ⊢;omega),aW (HX.out.alloc _)⟩
    ·by_cases hh:c=9
     ·subst hh;have hqs:aB 9=[92,116]:=by decide
      rw [hqs] at HND;clear hqs;go_wp2_with fail;with_reducible refine (ew [92,116] _ 2 _ _ (HX.out.alloc _) ?la ?ln ?lk HBD.out (by decide)).mono ?_
      case la=>rfl
      case ln=>rfl
      case lk=>simp
      rintro e w5 ⟨rfl,hq5⟩;have HQ5:=aW hq5;clear hq5;go_wp2;go_roundg suf.length
      case measure=>rw [HG.out];simp
      case rel=>exact HND.out _ HQ5.out
     ·have e1:((c:Int) == 9)=false:=by simp;omega
      go_wp2;go_roundg 0
      case measure=>rw [HG2.out];omega
      case rel=>exact ⟨8,rfl,by omega,rfl,aW (by have h:=HL.out;simp only [cF] at h ⊢;omega),aW (HX.out.alloc _)⟩
    ·have hesc:=qR HL.out;have hqs:aB c=(if c<32 then [92,117,48,48,UInt8.ofNat (48+c / 16),UInt8.ofNat (jA (c % 16))] else ai c):=by unfold aB;rw [hesc]
     clear hesc;by_cases h32:c<32
     ·rw [if_pos h32] at hqs;rw [hqs] at HND;clear hqs hc21;go_wp2_with fail;with_reducible refine (ew [92,117,48,48,UInt8.ofNat (48+c / 16),UInt8.ofNat (jA (c % 16))] _ 6 _ _ HX.out ?la ?ln rfl HBD.out (by decide)).mono ?_
      case la =>
       have e1:=oN8 (48+c / 16) (by omega);rw [xD];simp only [al,List.map_cons,List.map_nil,e1];rfl
      case ln=>rfl
      rintro e w5 ⟨rfl,hq5⟩;have HQ5:=aW hq5;clear hq5;go_wp2;go_roundg suf.length
      case measure=>rw [HG.out];simp
      case rel=>exact HND.out _ HQ5.out
     ·rw [if_neg h32] at hqs;rw [hqs] at HND;have hen:=qo HCC.out;obtain ⟨T,hT⟩:∃ T,Utf8.encode (c:Int)=T:=⟨_,rfl⟩
      rw [hT] at hen;obtain ⟨capb,Wb,hcvb,hcb1,hcb2,hcb3,hcb4⟩:=dI (P:=Tryz.prog) wr 9 76 5 T Tryz.underlying9 Tryz.underlying76 Tryz.underlying5;have hTs:sl T=ai c:=by rw [hen]
      have hTn:T.size=(ai c).length:=by rw [← hTs,bR]
      rw [hTs] at hcb4;rw [hTn] at hcvb hcb1;have HQ6:=aW (HX.out.bel hcb2);have HRB:=aW hcb4;have HB4:=aW (iX c);obtain ⟨nb,hnb⟩:∃ nb,(ai c).length=nb:=⟨_,rfl⟩
      rw [hnb] at hcvb;have HNB:=aW hnb;have h32i:¬ (c:Int)<32:=by omega
      have HTT:=aW hT;have HCV:=aW hcvb;clear hqs hc21 hen hTs hTn hcb1 hcb2 hcb3 hcb4 hnb hT hcvb h32;go_upto_region 17 with (fail);have hT:=HTT.out;have hcvb:=HCV.out;go_wp2_with fail;clear hT hcvb;refine (kF B (w1.heap.size+1) (34::pre.flatMap aB) (ai c) _ nb capb Wb HQ6.out.1 (by intro h;cases h) HNB.out HRB.out (by have h1:=HBD.out;have h2:=HB4.out;have h3:=HNB.out;omega) HQ6.out.2.2.2.2).mono ?_;rintro e w5 hlay;have HQ7:=aW (HQ6.out.lay hlay);obtain rfl:=hlay.1;clear hlay;go_wp2;go_roundg suf.length
      case measure=>rw [HG.out];simp
      case rel=>exact HND.out _ HQ7.out
end Go.Proofs.YtgolomgmnanbpaaGreatDoor
namespace Go.Proofs.YtgolomgmnanbpaaGreatDoor
open Go.RowKit
attribute [local go_sem] aa ac ae ab
theorem lg (s:List UInt8) (w:World) (hG:GOK w) (ht:aL s=true) (hl:s.length<=4194304):Calls Tryz.prog 152 #[Zt ⟨s.toArray⟩] w λ e w'=>e=.returned (Zi Zq (eI s).length)/\Below w.heap.size w w':=by
 have HP:=aW (oI s w hG ht hl);obtain ⟨q,hq⟩:∃ q,eI s=q:=⟨_,rfl⟩
 unfold qb at HP;rw [hq] at HP ⊢;clear hG ht hl hq;go_enter Tryz.func152,Tryz.ntmps152;go_wp2_with fail;refine HP.out.mono ?_;rintro e w1 ⟨rfl,hb⟩;go_wp2;go_ret;refine ⟨?_,hb⟩;simp [ByteArray.size]
def WS (B g:Nat) (l:List UInt8) (w0 w:World):Prop:=WIs B g l w/\GOK w/\Below B w0 w/\mG g w0 w/\2<B/\B<=w.heap.size
section
variable {B g:Nat} {l m:List UInt8} {w0 w w':World}
theorem mG.of_bel (h:Below w.heap.size w w'):mG g w w':=λ k o hk _ _=>(h.block k (Array.getElem?_eq_some_iff.1 hk).1).trans hk
theorem mG.blk (h:mG g w w') {k:Nat} {t:TypeId} {cs:Array Value} (hk:Blk w k t cs) (ht:t≠5) (hg:k≠g):Blk w' k t cs :=
 h k _ hk (λ e=>hg (Option.some.inj e)) (λ c fz e=>ht (by injection e))
theorem WAt.bel {p:Value} (h:WAt B g p l w) (hb:Below w.heap.size w w'):WAt B g p l w':=by
 obtain ⟨h1,v,h2,h3,h4⟩:=h;exact ⟨h1,v,(hb.block g (Array.getElem?_eq_some_iff.1 h2).1).trans h2,dG h3 hb,h4⟩
theorem WIs.bel (h:WIs B g l w) (hb:Below w.heap.size w w'):WIs B g l w':=h.elim (λ x=>.inl (WAt.bel x hb)) (λ x=>.inr (WAt.bel x hb))
theorem WIs.ne (h:WIs B g l w) {k:Nat} {t:TypeId} {cs:Array Value} (hk:Blk w k t cs) (ht:t≠119):k≠g:=by
 rintro rfl;obtain ⟨p,_,v,h2,_⟩:=h.some_;unfold Blk at hk;rw [hk] at h2;injection h2 with h2
 injection h2 with _ h2
 exact ht h2
theorem WS.bel (h:WS B g l w0 w) (hb:Below w.heap.size w w'):WS B g l w0 w':=by
 obtain ⟨h1,h2,h3,h4,h5,h6⟩:=h;exact ⟨h1.bel hb,h2.keep hb,h3.trans (hb.mono h6),h4.trans (mG.of_bel hb),h5,Nat.le_trans h6 hb.size⟩
theorem WS.alloc (h:WS B g l w0 w) (o:Obj):WS B g l w0 (w.alloc o):=h.bel ((Below.refl _ w).alloc (Nat.le_refl _) o)
theorem WS.drew (h:WS B g l w0 w):WS B g l w0 w.drew:=h.bel (Below.refl _ w).drew
theorem WS.drewN (h:WS B g l w0 w) (n:Nat):WS B g l w0 (w.drewN n):=h.bel (av (Below.refl _ w) n)
theorem WS.step {r:Ending} {e:Ending} (h:WS B g l w0 w) (hp:nA B g m r w e w'):WS B g m w0 w':=by
 obtain ⟨h1,h2,h3,h4,h5,h6⟩:=h;obtain ⟨_,k1,k2,k3⟩:=hp;exact ⟨k1,h2.below k2 h5,h3.trans k2,h4.trans k3,h5,Nat.le_trans h6 k2.size⟩
theorem WS.post (h:WS B g l w0 w) {r:Ending}:nA B g l r w0 r w:=⟨rfl,h.1,h.2.2.1,h.2.2.2.1⟩
theorem WS.blk (h:WS B g l w0 w) (h0:WIs B g m w0) {k:Nat} {t:TypeId} {cs:Array Value} (hk:Blk w0 k t cs) (ht:t≠5) (ht':t≠119):Blk w k t cs :=
 h.2.2.2.1.blk hk ht (h0.ne hk ht')
theorem nA.back {r e:Ending} (h:nA B g l r w e w') (hb:Below w0.heap.size w0 w) (hB:B<=w0.heap.size):nA B g l r w0 e w' :=
 ⟨h.1,h.2.1,(hb.mono hB).trans h.2.2.1,(mG.of_bel hb).trans h.2.2.2⟩
end
end Go.Proofs.YtgolomgmnanbpaaGreatDoor
namespace Go.Proofs.YtgolomgmnanbpaaGreatDoor
open Go.RowKit
attribute [local go_sem] aa ac ae ab
structure Bxs (w:World) (g bw bv:Nat) (k n:Int) (s:ByteArray) (A:Option Addr) (nk ca:Nat) (A':Option Addr) (ny cb:Nat):Prop where
 pw:Blk w bw 140 #[Zp (some ⟨g,0,none⟩)]
 pv:Blk w bv 25 #[Zi Zq k,Zi Zq n,Zt s,Zs A nk ca,Zs A' ny cb]
section
variable {B g bw bv:Nat} {l m:List UInt8} {w0 w:World} {k n:Int} {s:ByteArray} {A A':Option Addr} {nk ca ny cb:Nat}
theorem Bxs.keep {w':World} (h:Bxs w g bw bv k n s A nk ca A' ny cb) (hw:WIs B g l w) (ho:mG g w w'):Bxs w' g bw bv k n s A nk ca A' ny cb :=
 ⟨ho.blk h.pw (by decide) (hw.ne h.pw (by decide)),ho.blk h.pv (by decide) (hw.ne h.pv (by decide))⟩
theorem Bxs.drew (h:Bxs w g bw bv k n s A nk ca A' ny cb):Bxs w.drew g bw bv k n s A nk ca A' ny cb:=⟨h.pw.drew,h.pv.drew⟩
theorem Bxs.bel {w':World} (h:Bxs w g bw bv k n s A nk ca A' ny cb) (hb:Below w.heap.size w w'):Bxs w' g bw bv k n s A nk ca A' ny cb:=⟨h.pw.keep hb,h.pv.keep hb⟩
end
end Go.Proofs.YtgolomgmnanbpaaGreatDoor
namespace Go.Proofs.YtgolomgmnanbpaaGreatDoor
section
open Go.RowKit
attribute [local go_sem] aa ac ae ab
def jl:List UInt8:=[101,109,105,116,32,105,102,32,101,108,115,101,32,102,111,114,32,105,110,32,111,114,32,97,110,100,32,110,111,116,32,115,105,122,101,32,107,105,110,100,32,116,114,117,101,32,102,97,108,115,101,32,110,117,108,108]
theorem kO:ed jl []=e8:=by decide
def iB:List UInt8:=[97,98,99,100,101,102,103,104,105,106,107,108,109,110,111,112,113,114,115,116,117,118,119,120,121,122]
def jC:List UInt8:=[48,49,50,51,52,53,54,55,56,57]
theorem sB {p:UInt8->Bool} (h:(List.range 256).all (λ n=>p (UInt8.ofNat n))=true) (c:UInt8):p c=true:=by
 have:=List.all_eq_true.1 h c.toNat (List.mem_range.2 c.toNat_lt);simpa using this
theorem lO (c:UInt8):iB.contains c=dj c:=by
 have:=sB (p:=λ c=>iB.contains c == dj c) (by decide +kernel) c;simpa using this
theorem nW (c:UInt8):jC.contains c=gB c:=by
 have:=sB (p:=λ c=>jC.contains c == gB c) (by decide +kernel) c;simpa using this
theorem nO (c:UInt8) (w:World):Calls Tryz.prog 87 #[Zi .u8 c.toNat,Zt ⟨#[97,98,99,100,101,102,103,104,105,106,107,108,109,110,111,112,113,114,115,116,117,118,119,120,121,122]⟩] w λ e w'=>e=.returned (.bool (dj c))/\w=w':=by
 have:=nv c ⟨iB.toArray⟩ w (by decide);rw [fW,lO] at this;exact this
theorem pm (c:UInt8) (w:World):Calls Tryz.prog 87 #[Zi .u8 c.toNat,Zt ⟨#[48,49,50,51,52,53,54,55,56,57]⟩] w λ e w'=>e=.returned (.bool (gB c))/\w=w':=by
 have:=nv c ⟨jC.toArray⟩ w (by decide);rw [fW,nW] at this;exact this
theorem qe (s:ByteArray) (w:World):Calls Tryz.prog 86 #[Zt s] w λ e w'=>e=.returned (.bool (fe (sl s)))/\w=w':=by
 have h:=oT s ⟨jl.toArray⟩ w (by decide);rw [fW,kO] at h;have H:=aW (show Calls Tryz.prog 135 #[Zt s,Zt ⟨jl.toArray⟩] w λ e w'=>e=.returned (.bool (fe (sl s)))/\w=w' from h);clear h;obtain ⟨b,hb⟩:∃ b,fe (sl s)=b:=⟨_,rfl⟩
 rw [hb] at H ⊢;clear hb;unfold jl at H;go_enter Tryz.func86,Tryz.ntmps86;go_wp2_with fail;refine H.out.mono ?_;rintro e w1 ⟨rfl,rfl⟩;go_wp2_with fail;go_ret;exact ⟨rfl,rfl⟩
theorem kW (s:ByteArray) (w:World):Calls Tryz.prog 44 #[Zt s] w λ e w'=>e=.returned (.bool (bF s))/\w=w':=by
 have HW:=aW (qe s);have HL:=aW nO;have HD:=aW pm;by_cases h1:s.size<1
 ·have HN:=aW (show bF s=false by rw [bF,decide_eq_false (show ¬ (1<=s.size/\s.size<=12) by omega)];simp);go_enter Tryz.func44,Tryz.ntmps44;go_wp2;go_ret;exact ⟨ap HN.out.symm,rfl⟩
 ·by_cases h2:12<s.size
  ·have HN:=aW (show bF s=false by rw [bF,decide_eq_false (show ¬ (1<=s.size/\s.size<=12) by omega)];simp);go_enter Tryz.func44,Tryz.ntmps44;go_wp2;go_ret;exact ⟨ap HN.out.symm,rfl⟩
  ·cases hw:fe (sl s) with
   |true =>
    have HN:=aW (show bF s=false by rw [bF,hw];simp);rw [hw] at HW;clear hw;go_enter Tryz.func44,Tryz.ntmps44;go_wp2_with (go_at_call 86;refine (HW.out _).mono ?_;rintro e w1 ⟨rfl,rfl⟩);go_ret;exact ⟨ap HN.out.symm,rfl⟩
   |false =>
    have hN0:bF s=aR 0 (sl s):=by rw [bF,hw,decide_eq_true (show 1<=s.size/\s.size<=12 by omega)];simp
    rw [hw] at HW;have h0:0<s.size:=by omega
    have hd0:sl s=s[0]::(sl s).drop 1:=by
     have:=List.drop_eq_getElem_cons (l:=sl s) (i:=0) (by rw [bR];exact h0);rw [List.drop_zero] at this;exact this
    obtain ⟨c,hc⟩:∃ c,s[0]=c:=⟨_,rfl⟩
    rw [hc] at hd0;cases hl:dj c with
    |false =>
     have HN:=aW (show bF s=false by rw [hN0,hd0,aR,hl];simp);have HC:=aW (HL.out c);rw [hl] at HC;clear hw hN0 hd0 hl HL;go_enter Tryz.func44,Tryz.ntmps44;go_wp2_with (first | (go_at_call 86;refine (HW.out _).mono ?_;rintro e w1 ⟨rfl,rfl⟩) | (go_at_call 87;refine (HC.out _).mono ?_;rintro e w1 ⟨rfl,rfl⟩));go_ret;exact ⟨ap HN.out.symm,rfl⟩
    |true =>
     have hN1:bF s=aR 1 ((sl s).drop 1):=by rw [hN0,hd0,aR,hl];simp
     obtain ⟨b,hb⟩:∃ b,bF s=b:=⟨_,rfl⟩
     rw [hb] at hN1 ⊢;have HN1:=aW hN1;have HC:=aW (HL.out c);rw [hl] at HC;have hs12:s.size<=12:=by omega
     clear hw hN0 hd0 hl hN1 hb h1 h2;go_enter Tryz.func44,Tryz.ntmps44;go_wp2_with (first | (go_at_call 86;refine (HW.out _).mono ?_;rintro e w1 ⟨rfl,rfl⟩) | (go_at_call 87;refine (HC.out _).mono ?_;rintro e w1 ⟨rfl,rfl⟩));clear hc;go_loopw [3] (λ i wr => ∃ k:Nat,k<=s.size/\1<=k/\i=Zi Zq k/\wr=w/\Hid (b=aR k ((sl s).drop k))) (λ i _=>s.size-(intOf i).toNat)
     case atStart=>exact ⟨1,by omega,by omega,rfl,rfl,HN1⟩
     case round =>
      obtain ⟨k,hk,hk1,rfl,rfl,hrb⟩:=hrel;by_cases hlt:k<s.size
      ·have hd:(sl s).drop k=s[k]::(sl s).drop (k+1):=List.drop_eq_getElem_cons (by rw [bR];exact hlt);obtain ⟨x,hx⟩:∃ x,s[k]=x:=⟨_,rfl⟩
       rw [hx] at hd;cases hxl:dj x with
       |true =>
        have HX:=aW (HL.out x);rw [hxl] at HX;have HR:=aW (show b=aR (k+1) ((sl s).drop (k+1)) by rw [hrb.out,hd,aR,hxl];simp);clear hd hxl hrb;go_wp2_with (go_at_call 87;refine (HX.out _).mono ?_;rintro e w1 ⟨rfl,rfl⟩);go_roundw
        case rel=>exact ⟨k+1,hlt,by omega,by go_num,by trivial,HR⟩
        case measure=>simp [intOf];omega
       |false =>
        have HX:=aW (HL.out x);rw [hxl] at HX;cases hxd:gB x with
        |true =>
         have HY:=aW (HD.out x);rw [hxd] at HY;have HR:=aW (show b=aR (k+1) ((sl s).drop (k+1)) by rw [hrb.out,hd,aR,hxl,hxd,decide_eq_true (show 0<k by omega)];simp);clear hd hxl hrb hxd;go_wp2_with fail;refine (HX.out _).mono ?_;rintro e w1 ⟨rfl,rfl⟩;go_wp2_with fail;refine (HY.out _).mono ?_;rintro e w1 ⟨rfl,rfl⟩;go_wp2_with fail;go_roundw
         case rel=>exact ⟨k+1,hlt,by omega,by go_num,by trivial,HR⟩
         case measure=>simp [intOf];omega
        |false =>
         have HY:=aW (HD.out x);rw [hxd] at HY;have HR:=aW (show b=false by rw [hrb.out,hd,aR,hxl,hxd];simp);clear hd hxl hrb hxd;go_wp2_with fail;refine (HX.out _).mono ?_;rintro e w1 ⟨rfl,rfl⟩;go_wp2_with fail;refine (HY.out _).mono ?_;rintro e w1 ⟨rfl,rfl⟩;go_wp2_with fail;go_ret;exact ⟨ap HR.out.symm,rfl⟩
      ·obtain rfl:k=s.size:=by omega
       have HR:=aW (show b=true by rw [hrb.out,List.drop_eq_nil_of_le (by rw [bR];exact Nat.le_refl _),aR]);clear hrb;go_wp2;go_ret;exact ⟨ap HR.out.symm,rfl⟩
end
end Go.Proofs.YtgolomgmnanbpaaGreatDoor
