import Derived.Test.YtgmnmnnoahdjnaaGreatDoorC29
open Go.Value renaming int → Zi, slice → Zs, string → Zt, pointer → Zp
open Go.IntKind renaming i64 → Zq
set_option maxRecDepth 100000
set_option maxHeartbeats 16000000
set_option linter.unusedVariables false
set_option linter.unusedSimpArgs false
namespace Go.Proofs.YtgmnmnnoahdjnaaGreatDoor
section
def kh (x:LX):Prop :=
 (x.1=1/\fe x.2.1=true/\x.2.2=0)∨(x.1=2/\x.2.1 ∈ cR/\x.2.2=0)∨(x.1=3/\0<=x.2.2/\x.2.2<=9223372036854775807/\x.2.1=ep x.2.2)∨(x.1=4/\dL x.2.1=true/\x.2.2=0)∨(x.1=5/\x.2.1 ∈ bH/\x.2.2=0)
def pO (x:LX) (r:List UInt8):Prop:=(x.1=1∨x.1=2->∀ c,r.head? = some c->df c=false)/\(x.1=3->ra r)/\(x.1=5->x.2.1=[60]->∀ c,r.head? = some c->c≠61)
theorem sK {f:UInt8->Bool}:∀ {t r:List UInt8},(∀ c ∈ t,f c=true)->(∀ c,r.head? = some c->f c=false)->(t++r).takeWhile f=t
 | [],[],_,_=>rfl
 | [],c::r,_,h=>by rw [List.nil_append,List.takeWhile_cons,h c rfl];rfl
 | d::t,r,h,h'=>by rw [List.cons_append,List.takeWhile_cons,h d List.mem_cons_self,if_pos rfl,sK (λ c hc=>h c (List.mem_cons_of_mem _ hc)) h']
theorem ip {l:List UInt8} {p:Nat} {c:UInt8} {r:List UInt8} (h:l.drop p=c::r):l[p]? = some c/\p<l.length:=by
 have h1:p<l.length:=by
  rcases Nat.lt_or_ge p l.length with h2 | h2
  ·exact h2
  ·rw [List.drop_of_length_le h2] at h;cases h
 have h2:=congrArg (·[0]?) h;simp only [List.getElem?_drop,Nat.add_zero,List.getElem?_cons_zero] at h2;exact ⟨h2,h1⟩
theorem pI {t:List UInt8} (h:t ∈ cR):(∀ c ∈ t,df c=true)/\∃ c r,t=c::r/\aN c=true:=by
 have:∀ t ∈ cR,(t.all df=true)/\aN (t.headD 0)=true/\t≠[]:=by decide
 obtain ⟨h1,h2,h3⟩:=this t h;refine ⟨List.all_eq_true.1 h1,?_⟩;cases t with
 | nil=>exact absurd rfl h3
 | cons c r=>exact ⟨c,r,rfl,h2⟩
theorem lI {t:List UInt8} (h:fe t=true):(∀ c ∈ t,df c=true)/\(∃ c r,t=c::r/\aN c=true)/\ey t=false:=by
 obtain ⟨h1,h2,_,h4⟩:=pc h;refine ⟨lf h1,?_,h4⟩;cases t with
 | nil=>simp at h2
 | cons c r=>exact ⟨c,r,rfl,mB h1⟩
theorem mu {c:UInt8} (h:aN c=true):97<=c.toNat/\c.toNat<=122:=of_decide_eq_true h
theorem lU {c:UInt8} (h:a9 c=true):48<=c.toNat/\c.toNat<=57:=of_decide_eq_true h
theorem eG {x:LX} (h:kh x):∃ c r,ay x=c::r/\du c=false/\c≠69/\(x.1=1∨x.1=2->aN c=true)/\(x.1=3->a9 c=true/\aN c=false)/\(x.1=4->c=34)/\(x.1=5->aN c=false/\a9 c=false/\c.toNat≠34):=by
 have nb:∀ c:UInt8,97<=c.toNat/\c.toNat<=122∨48<=c.toNat/\c.toNat<=57->du c=false/\c≠69:=λ c hc=>by
  refine ⟨by unfold du;rw [decide_eq_false_iff_not];omega,λ e=>?_⟩;rw [e] at hc;rcases hc with hc | hc
  ·exact absurd hc (by decide)
  ·exact absurd hc (by decide)
 rcases h with ⟨hk,hn,_⟩ | ⟨hk,hw,_⟩ | ⟨hk,h0,h1,ht⟩ | ⟨hk,ht,_⟩ | ⟨hk,hs,_⟩
 ·obtain ⟨_,⟨c,r,e,hl⟩,_⟩:=lI hn;obtain ⟨h2,h3⟩:=nb c (.inl (mu hl));exact ⟨c,r,by unfold ay;rw [if_neg (by omega)];exact e,h2,h3,λ _=>hl,λ h=>by omega,λ h=>by omega,λ h=>by omega⟩
 ·obtain ⟨_,c,r,e,hl⟩:=pI hw;obtain ⟨h2,h3⟩:=nb c (.inl (mu hl));exact ⟨c,r,by unfold ay;rw [if_neg (by omega)];exact e,h2,h3,λ _=>hl,λ h=>by omega,λ h=>by omega,λ h=>by omega⟩
 ·have e:ep x.2.2=dp x.2.2.natAbs:=by unfold ep;rw [if_neg (by omega)]
  cases hd:dp x.2.2.natAbs with
  | nil=>exact absurd hd (fh _)
  |cons c r =>
   have hdig:=jY x.2.2.natAbs c (by rw [hd];exact List.mem_cons_self);obtain ⟨h2,h3⟩:=nb c (.inr (lU hdig));refine ⟨c,r,by unfold ay;rw [if_neg (by omega),ht,e,hd],h2,h3,λ h=>by omega,λ _=>⟨hdig,?_⟩,λ h=>by omega,λ h=>by omega⟩;have:=lU hdig;unfold aN;rw [decide_eq_false_iff_not];omega
 ·refine ⟨34,(fA x.2.1).flatMap aQ++[34],by unfold ay iF;rw [if_pos hk];rfl,by decide,by decide,λ h=>by omega,λ h=>by omega,λ _=>rfl,λ h=>by omega⟩
 ·have:∀ t ∈ bH,t≠[]/\du (t.headD 0)=false/\t.headD 0≠69/\aN (t.headD 0)=false/\a9 (t.headD 0)=false/\(t.headD 0).toNat≠34:=by decide
  obtain ⟨h1,h2,h3,h4⟩:=this _ hs;cases ht:x.2.1 with
  | nil=>exact absurd ht h1
  |cons c r =>
   rw [ht] at h2 h3 h4;exact ⟨c,r,by unfold ay;rw [if_neg (by omega)];exact ht,h2,h3,λ h=>by omega,λ h=>by omega,λ h=>by omega,λ _=>h4⟩
theorem yy {l:List UInt8} {p:Nat} {t r:List UInt8} (ht:t ∈ bH) (h:l.drop p=t++r) (hr:t=[60]->∀ c,r.head? = some c->c≠61):de l p bH=some t:=by
 have hs:∀ s,dz l p s=decide ((t++r).take s.length=s):=λ s=>by unfold dz;rw [h]
 simp only [bH,List.mem_cons,List.not_mem_nil,or_false] at ht;unfold bH;rcases ht with rfl | rfl | rfl | rfl | rfl | rfl | rfl | rfl | rfl | rfl | rfl | rfl | rfl | rfl | rfl
 all_goals try (simp only [de,hs];simp;done)
 have hr:=hr rfl;cases r with
 | nil=>simp only [de,hs];simp
 | cons c r=>have:=hr c rfl;simp only [de,hs];simp [this]
theorem yD {l:List UInt8} {p:Nat} {x:LX} {r:List UInt8} (hx:kh x) (h:l.drop p=ay x++r) (hr:pO x r):dj l p=.inl (x.1,x.2.1,x.2.2,p+(ay x).length):=by
 obtain ⟨c,u,e,hb,_,hA,hB,hC,hD⟩:=eG hx;obtain ⟨hc,hp⟩:=ip (show l.drop p=c::(u++r) by rw [h,e];rfl);unfold dj;rw [hc];simp only;rcases hx with ⟨hk,hn,h0⟩ | ⟨hk,hw,h0⟩ | ⟨hk,h0,h1,ht⟩ | ⟨hk,ht,h0⟩ | ⟨hk,hs,h0⟩
 ·have es:ay x=x.2.1:=by unfold ay;rw [if_neg (by omega)]
  obtain ⟨h1,_,h2⟩:=lI hn;rw [if_pos (hA (.inl hk))];unfold fF;rw [h,es,sK h1 (hr.1 (.inl hk))];simp only;rw [if_neg (by rw [h2];decide),if_pos (show dg ⟨x.2.1.toArray⟩=true from hn),hk,h0]
 ·have es:ay x=x.2.1:=by unfold ay;rw [if_neg (by omega)]
  obtain ⟨h1,_⟩:=pI hw;rw [if_pos (hA (.inr hk))];unfold fF;rw [h,es,sK h1 (hr.1 (.inr hk))];simp only;rw [if_pos (by unfold ey;exact decide_eq_true hw),hk,h0]
 ·have es:ay x=ep x.2.2:=by unfold ay;rw [if_neg (by omega),ht]
  obtain ⟨h2,h3⟩:=hB hk;rw [if_neg (by rw [h3];decide),if_pos h2];unfold dP;rw [es] at h ⊢;rw [ws ⟨by omega,h1⟩ h (hr.2.1 hk)];simp only;rw [if_pos trivial,h,hk,ht,Int.toNat_natCast,Nat.add_sub_cancel_left,List.take_left]
 ·have es:ay x=iF x.2.1:=by unfold ay;rw [if_pos hk]
  have h34:=hC hk;subst h34;rw [if_neg (by decide),if_neg (by decide),if_pos (by decide)];unfold ie;rw [es] at h ⊢;rw [wT ht h];simp only;rw [if_pos trivial,hk,h0,Int.toNat_natCast]
 ·have es:ay x=x.2.1:=by unfold ay;rw [if_neg (by omega)]
  obtain ⟨h2,h3,h4⟩:=hD hk;rw [if_neg (by rw [h2];decide),if_neg (by rw [h3];decide),if_neg h4];unfold fU;rw [es] at h ⊢;rw [yy hs h (hr.2.2 hk)];simp only;rw [hk,h0]
def gL:List LX->Prop
 | []=>True
 | [x]=>kh x
 | x::y::r=>kh x/\(x.1=5->x.2.1=[60]->(ay y).headD 0≠61)/\gL (y::r)
theorem gL.head {x:LX} {r:List LX} (h:gL (x::r)):kh x:=by
 cases r with
 | nil=>exact h
 | cons y r=>exact h.1
theorem gL.tail {x:LX} {r:List LX} (h:gL (x::r)):gL r:=by
 cases r with
 | nil=>trivial
 | cons y r=>exact h.2.2
theorem wZ {x:LX} {r:List LX} (h:gL (x::r)):pO x (bF (ay x) (r.map ay)):=by
 cases r with
 | nil=>exact ⟨λ _ c e=>by simp [bF] at e,λ _ c e=>by simp [bF] at e,λ _ _ c e=>by simp [bF] at e⟩
 |cons y r =>
  obtain ⟨hx,hle,hy⟩:=h;obtain ⟨c,u,e,hb,h69,hA,hB,hC,hD⟩:=eG hy.head;have hd:(bF (ay x) ((y::r).map ay)).head? = some (if ml (ay x) (ay y)=true then 32 else c):=by
   show ((if ml (ay x) (ay y)=true then 32::ay y else ay y)++_).head? = _
   rw [e];split<;>rfl
  have hg:ml (ay x) (ay y)=((df ((ay x).getLastD 0) && df c) || (a9 ((ay x).headD 0) && ay y == [46])):=by unfold ml;rw [e];rfl
  have hlast:x.1=1∨x.1=2∨x.1=3->df ((ay x).getLastD 0)=true:=λ hk=>by
   have hall:(∀ c ∈ ay x,df c=true)/\ay x≠[]:=by
    obtain ⟨c',u',e',_⟩:=eG hx;refine ⟨?_,by rw [e'];simp⟩;have es:ay x=x.2.1:=by unfold ay;rw [if_neg (by omega)]
    rw [es];rcases hx with ⟨hk,hn,h0⟩ | ⟨hk,hw,h0⟩ | ⟨hk,h0,h1,ht⟩ | ⟨hk,ht,h0⟩ | ⟨hk,hs,h0⟩
    ·exact (lI hn).1
    ·exact (pI hw).1
    ·rw [ht];unfold ep;rw [if_neg (by omega)];intro c hc;unfold df;rw [jY _ c hc,Bool.or_true]
    ·omega
    ·omega
   rw [List.getLastD_eq_getLast?,List.getLast?_eq_some_getLast hall.2];exact hall.1 _ (List.getLast_mem _)
  refine ⟨λ hk c' hc'=>?_,λ hk c' hc'=>?_,λ hk ht c' hc'=>?_⟩
  ·rw [hd] at hc';split at hc'
   ·injection hc' with hc';rw [← hc'];decide
   ·rename_i hng
    injection hc' with hc'
    rw [hg,hlast (by omega)] at hng;simp only [Bool.true_and,Bool.or_eq_true,not_or,Bool.not_eq_true] at hng;rw [← hc'];exact hng.1
  ·rw [hd] at hc';split at hc'
   ·injection hc' with hc';rw [← hc'];decide
   ·rename_i hng
    injection hc' with hc'
    rw [hg,hlast (by omega)] at hng;simp only [Bool.true_and,Bool.or_eq_true,not_or,Bool.not_eq_true] at hng;have hdig:a9 ((ay x).headD 0)=true:=by
     obtain ⟨c3,u3,e3,_,_,_,hB3,_⟩:=eG hx;rw [e3];exact (hB3 hk).1
    rw [hdig] at hng;subst hc';have hld:=hng.1;unfold df at hld;rw [Bool.or_eq_false_iff] at hld;refine ⟨hld.2,λ h46=>?_,λ h101=>?_,h69⟩
    ·rcases hy.head with ⟨hk2,hn,h0⟩ | ⟨hk2,hw,h0⟩ | ⟨hk2,h0,h1,ht⟩ | ⟨hk2,ht,h0⟩ | ⟨hk2,hs,h0⟩
     ·have:=hA (.inl hk2);rw [hld.1] at this;cases this
     ·have:=hA (.inr hk2);rw [hld.1] at this;cases this
     ·have:=(hB hk2).1;rw [hld.2] at this;cases this
     ·have:=hC hk2;rw [h46] at this;cases this
     ·have es:ay y=y.2.1:=by unfold ay;rw [if_neg (by omega)]
      have hall:∀ t ∈ bH,t.headD 0=46->t=[46]:=by decide
      have h9:=hall _ hs (by rw [← es,e];exact h46);rw [es,h9] at hng;exact absurd hng.2 (by decide)
    ·rw [h101] at hld;exact absurd hld.1 (by decide)
  ·rw [hd] at hc';split at hc'
   ·injection hc' with hc';rw [← hc'];decide
   ·injection hc' with hc'
    have:=hle hk ht;rw [e] at this;rw [← hc'];exact this
theorem qi {l:List UInt8} {p:Nat} {a r:List UInt8} (h:l.drop p=a++r):l.drop (p+a.length)=r:=by
 rw [← List.drop_drop,h,List.drop_left]
theorem tn {l:List UInt8}:∀ (ls:List LX) (w:List UInt8) (k p:Nat),gL ls->l.drop p=bF w (ls.map ay)->p<=l.length->l.length-p<k ->
  ∃ T,fo l k p=(T++[(6,l.length,[],0)],none)/\T.length=ls.length/\∀ (i:Nat) (x:LX),ls[i]? = some x->∃ a,T[i]? = some (x.1,a,x.2.1,x.2.2)
 | _,_,0,_,_,_,_,h=>by omega
 |[],w,k+1,p,_,hd,hp,hk=>by
  have h0:l.length<=p:=by
   have h9:=congrArg List.length hd;rw [List.length_drop] at h9;have h8:(bF w (([]:List LX).map ay)).length=0:=rfl;omega
  refine ⟨[],?_,rfl,λ i x h=>by simp at h⟩;unfold fo;rw [if_neg (by have:=iG l p;omega)];rfl
 |y::r,w,k+1,p,hc,hd,hp,hk=>by
  obtain ⟨c,u,e,hb,_⟩:=eG hc.head;obtain ⟨q,hq1,hq2,hq3⟩:∃ q,cq l p=q/\p<=q/\l.drop q=ay y++bF (ay y) (r.map ay):=by
   have hd':l.drop p=(if ml w (ay y)=true then 32::ay y else ay y)++bF (ay y) (r.map ay):=hd;by_cases hg:ml w (ay y)=true
   ·rw [if_pos hg] at hd';have h1:=ip (show l.drop p=32::(ay y++bF (ay y) (r.map ay)) from hd');have h2:l.drop (p+1)=ay y++bF (ay y) (r.map ay):=qi (a:=[32]) hd';have h3:=ip (show l.drop (p+1)=c::(u++bF (ay y) (r.map ay)) by rw [h2,e];rfl);exact ⟨p+1,by rw [mU h1.1 (by decide),jF h3.1 hb],by omega,h2⟩
   ·rw [if_neg hg] at hd';have h3:=ip (show l.drop p=c::(u++bF (ay y) (r.map ay)) by rw [hd',e];rfl);exact ⟨p,jF h3.1 hb,Nat.le_refl _,hd'⟩
  have hql:q<l.length:=(ip (show l.drop q=c::(u++bF (ay y) (r.map ay)) by rw [hq3,e];rfl)).2;have ht:=yD hc.head hq3 (wZ hc);have hlen:(ay y).length<=l.length-q:=by
   have:=congrArg List.length hq3;rw [List.length_drop,List.length_append] at this;omega
  have hpos:0<(ay y).length:=by rw [e];simp
  obtain ⟨T,h1,h2,h3⟩:=tn r (ay y) k (q+(ay y).length) hc.tail (qi hq3) (by omega) (by omega);refine ⟨(y.1,q,y.2.1,y.2.2)::T,?_,by simp [h2],λ i x hx=>?_⟩
  ·unfold fo;rw [hq1,if_pos hql,ht];simp only;rw [h1];rfl
  ·cases i with
   |zero =>
    obtain rfl:y=x:=by simpa using hx
    exact ⟨q,rfl⟩
   | succ i=>exact h3 i x (by simpa using hx)
def xH (t:ak):Prop:=1<=t.1/\t.1<=5/\(t.1=2->t.2.2.1 ∈ cR)/\(t.1=5->t.2.2.1 ∉ cR)
theorem yF {l:List UInt8} {p:Nat} {k n:Int} {t:List UInt8} {m:Nat} (h:dj l p=.inl (k,t,n,m)) (a:Nat):xH (k,a,t,n):=by
 unfold dj at h;cases hc:l[p]? with
 | none=>rw [hc] at h;cases h
 |some c =>
  rw [hc] at h;simp only at h;split at h
  ·unfold fF at h;simp only at h;split at h
   ·rename_i hw
    simp only [Sum.inl.injEq,Prod.mk.injEq] at h;obtain ⟨rfl,rfl,rfl,rfl⟩:=h;exact ⟨by show (1:Int)<=2;decide,by show (2:Int)<=5;decide,λ _=>of_decide_eq_true hw,λ h=>absurd h (by show ¬ (2:Int)=5;decide)⟩
   ·split at h
    ·simp only [Sum.inl.injEq,Prod.mk.injEq] at h;obtain ⟨rfl,rfl,rfl,rfl⟩:=h;exact ⟨by show (1:Int)<=1;decide,by show (1:Int)<=5;decide,λ h=>absurd h (by show ¬ (1:Int)=2;decide),λ h=>absurd h (by show ¬ (1:Int)=5;decide)⟩
    ·cases h
  ·split at h
   ·unfold dP at h;simp only at h;split at h
    ·simp only [Sum.inl.injEq,Prod.mk.injEq] at h;obtain ⟨rfl,rfl,rfl,rfl⟩:=h;exact ⟨by show (1:Int)<=3;decide,by show (3:Int)<=5;decide,λ h=>absurd h (by show ¬ (3:Int)=2;decide),λ h=>absurd h (by show ¬ (3:Int)=5;decide)⟩
    ·cases h
   ·split at h
    ·unfold ie at h;simp only at h;split at h
     ·simp only [Sum.inl.injEq,Prod.mk.injEq] at h;obtain ⟨rfl,rfl,rfl,rfl⟩:=h;exact ⟨by show (1:Int)<=4;decide,by show (4:Int)<=5;decide,λ h=>absurd h (by show ¬ (4:Int)=2;decide),λ h=>absurd h (by show ¬ (4:Int)=5;decide)⟩
     ·cases h
    ·unfold fU at h;cases hf:de l p bH with
     | none=>rw [hf] at h;cases h
     |some s =>
      rw [hf] at h;simp only [Sum.inl.injEq,Prod.mk.injEq] at h;obtain ⟨rfl,rfl,rfl,rfl⟩:=h;have hall:∀ s ∈ bH,s ∉ cR:=by decide
      exact ⟨by show (1:Int)<=5;decide,by show (5:Int)<=5;decide,λ h=>absurd h (by show ¬ (5:Int)=2;decide),λ _=>hall s (fO hf).1⟩
theorem sv {l:List UInt8}:∀ (k p:Nat) (T:List ak),fo l k p=(T,none)->l.length-p<k->∃ T',T=T'++[(6,l.length,[],0)]/\∀ t ∈ T',xH t
 | 0,_,_,_,h=>by omega
 |k+1,p,T,hr,hk=>by
  unfold fo at hr;split at hr
  ·rename_i hq
   cases hv:dj l (cq l p) with
   | inr e=>rw [hv] at hr;injection hr with _ h2;cases h2
   |inl r =>
    obtain ⟨kd,t,n,m⟩:=r;rw [hv] at hr;simp only at hr;injection hr with h1 h2
    have hm:=kc hq hv;have hg:=iG l p;obtain ⟨T',e,h3⟩:=sv k m (fo l k m).1 (by rw [← h2]) (by omega);refine ⟨(kd,cq l p,t,n)::T',by rw [← h1,e];rfl,λ x hx=>?_⟩;rcases List.mem_cons.1 hx with rfl | hx
    ·exact yF hv _
    ·exact h3 x hx
  ·injection hr with h1 _
   exact ⟨[],h1.symm,λ t h=>by cases h⟩
theorem WT.of {T':List ak} {n:Nat} (h:∀ t ∈ T',xH t):WT (T'++[(6,n,[],0)]):=by
 have hlt:∀ p,p<T'.length->∃ t,(T'++[((6:Int),n,([]:List UInt8),(0:Int))])[p]? = some t/\xH t:=λ p hp=>by
  rw [List.getElem?_append_left hp];exact ⟨_,List.getElem?_eq_getElem hp,h _ (List.getElem_mem hp)⟩
 have hge:∀ p,T'.length<=p->tkK (T'++[((6:Int),n,([]:List UInt8),(0:Int))]) p=6:=λ p hp=>by
  unfold tkK;rcases Nat.eq_or_lt_of_le hp with rfl | hp
  ·simp
  ·rw [List.getElem?_eq_none (by simp;omega)]
 refine ⟨⟨T'.length,by simp,hge _ (Nat.le_refl _)⟩,λ p hp=>?_,λ p hk=>?_,λ p hk=>?_,λ p=>?_⟩
 ·obtain ⟨t,h1,h2⟩:=hlt p (by simp at hp;omega);unfold tkK;rw [h1];have:=h2.2.1;show t.1≠6;omega
 ·rcases Nat.lt_or_ge p T'.length with hp | hp
  ·obtain ⟨t,h1,h2⟩:=hlt p hp;unfold tkK at hk;rw [h1] at hk;unfold tkT;rw [h1];exact h2.2.2.1 hk
  ·rw [hge p hp] at hk;omega
 ·rcases Nat.lt_or_ge p T'.length with hp | hp
  ·obtain ⟨t,h1,h2⟩:=hlt p hp;unfold tkK at hk;rw [h1] at hk;unfold tkT;rw [h1];exact h2.2.2.2 hk
  ·rw [hge p hp] at hk;omega
 ·rcases Nat.lt_or_ge p T'.length with hp | hp
  ·obtain ⟨t,h1,h2⟩:=hlt p hp;unfold tkK;rw [h1];exact ⟨h2.1,by have:=h2.2.1;show t.1<=6;omega⟩
  ·rw [hge p hp];omega
theorem vY {ls:List LX} (h:gL ls) (hl:(rh (ls.map ay)).length<=512):∃ T,gh (rh (ls.map ay))=(T,0,0)/\WT T/\At T 0 ls/\T.length=ls.length+1:=by
 obtain ⟨l,hle⟩:∃ l,rh (ls.map ay)=l:=⟨_,rfl⟩
 rw [hle] at hl ⊢;have hrun:∃ T',fo l (l.length+1) 0=(T'++[(6,l.length,[],0)],none)/\T'.length=ls.length/\∀ (i:Nat) (x:LX),ls[i]? = some x->∃ a,T'[i]? = some (x.1,a,x.2.1,x.2.2):=by
  refine tn ls [] (l.length+1) 0 h ?_ (Nat.zero_le _) (by omega);rw [List.drop_zero,← hle];cases ls with
  | nil=>rfl
  |cons x r =>
   show ay x++bF (ay x) (r.map ay)=(if ml [] (ay x)=true then 32::ay x else ay x)++bF (ay x) (r.map ay)
   rw [if_neg];unfold ml;simp [df,aN,a9,cQ]
 obtain ⟨T',h1,h2,h3⟩:=hrun;obtain ⟨T2,e,h4⟩:=sv _ _ _ h1 (by omega);have e2:=List.append_inj_left' e rfl;subst e2;refine ⟨T'++[(6,l.length,[],0)],?_,WT.of h4,λ i x hx=>?_,by simp [h2]⟩
 ·unfold gh cC;rw [if_neg (by omega),Nat.sub_zero,h1]
 ·obtain ⟨a,ha⟩:=h3 i x hx;have hi:i<T'.length:=(List.getElem?_eq_some_iff.1 ha).1;unfold rdT tkK tkT tkN;rw [Nat.zero_add,List.getElem?_append_left hi,ha]
theorem vK {α:Type} {a b:List α} (hb:b≠[]):(a++b).getLast? = b.getLast?:=by
 rw [List.getLast?_append];cases h:b.getLast? with
 | none=>rw [List.getLast?_eq_none_iff] at h;exact absurd h hb
 | some v=>rfl
theorem gL.app:∀ {a b:List LX},gL a->gL b->(∀ x y,a.getLast? = some x->b.head? = some y->x.1=5->x.2.1=[60]->(ay y).headD 0≠61)->gL (a++b)
 | [],b,_,hb,_=>hb
 | [x],[],hx,_,_=>hx
 | [x],y::r,hx,hb,h=>⟨hx,h x y rfl rfl,hb⟩
 | x::z::r,b,ha,hb,h=>⟨ha.1,ha.2.1,gL.app (a:=z::r) ha.2.2 hb (λ u y hu hy=>h u y (by rw [List.getLast?_cons_cons];exact hu) hy)⟩
structure Seg (l:List LX):Prop where
 ok:gL l
 ne:l≠[]
 fst:∀ y,l.head? = some y->(ay y).headD 0≠61
 lst:∀ x,l.getLast? = some x->x.1=5->x.2.1≠[60]
theorem Seg.app {a b:List LX} (ha:Seg a) (hb:Seg b):Seg (a++b):=by
 refine ⟨ha.ok.app hb.ok (λ x y hx _ h5 h=>absurd h (ha.lst x hx h5)),by simp [ha.ne],λ y hy=>?_,λ x hx=>?_⟩
 ·cases a with
  | nil=>exact absurd rfl ha.ne
  | cons z r=>exact ha.fst y hy
 ·cases b with
  | nil=>exact absurd rfl hb.ne
  | cons z r=>rw [vK (List.cons_ne_nil _ _)] at hx;exact hb.lst x hx
theorem Seg.one {x:LX} (h:kh x) (h1:(ay x).headD 0≠61) (h2:x.1=5->x.2.1≠[60]):Seg [x] :=
 ⟨h,by simp,λ y hy=>by
  obtain rfl:x=y:=by simpa using hy
  exact h1,λ y hy=>by
   obtain rfl:x=y:=by simpa using hy
   exact h2⟩
theorem Seg.op {a b:List LX} {o:LX} (ha:Seg a) (ho:kh o) (hb:Seg b):Seg (a++o::b):=by
 have h1:gL (o::b):=by
  cases b with
  | nil=>exact absurd rfl hb.ne
  | cons y r=>exact ⟨ho,λ _ _=>hb.fst y rfl,hb.ok⟩
 refine ⟨ha.ok.app h1 (λ x y hx _ h5 h=>absurd h (ha.lst x hx h5)),by simp,λ y hy=>?_,λ x hx=>?_⟩
 ·cases a with
  | nil=>exact absurd rfl ha.ne
  | cons z r=>exact ha.fst y hy
 ·cases b with
  | nil=>exact absurd rfl hb.ne
  |cons z r =>
   rw [vK (List.cons_ne_nil _ _),List.getLast?_cons_cons] at hx;exact hb.lst x hx
theorem fi {t:List UInt8} (h:t ∈ bH):kh (ap t):=.inr (.inr (.inr (.inr ⟨rfl,h,rfl⟩)))
theorem gF {t:List UInt8} (h:t ∈ cR):kh (aS t):=.inr (.inl ⟨rfl,h,rfl⟩)
theorem eW {t:List UInt8} (h:t ∈ bH) (h1:t.headD 0≠61) (h2:t≠[60]):Seg [ap t]:=.one (fi h) h1 (λ _=>h2)
theorem eX {t:List UInt8} (h:t ∈ cR):Seg [aS t]:=by
 have hall:∀ t ∈ cR,t.headD 0≠61/\t≠[60]:=by decide
 exact .one (gF h) (hall t h).1 (λ _=>(hall t h).2)
theorem mR {s:List UInt8} (h:fe s=true):Seg [eR s]:=by
 obtain ⟨_,⟨c,r,rfl,hl⟩,_⟩:=lI h;have hb:=mu hl;refine .one (.inl ⟨rfl,h,rfl⟩) ?_ (λ e=>absurd e (by show ¬ (1:Int)=5;decide));show c≠61
 rintro rfl;exact absurd hb (by decide)
theorem zY {k:Int} (hk:5<=k/\k<=15):kh (opK k):=by
 have h11:k=5∨k=6∨k=7∨k=8∨k=9∨k=10∨k=11∨k=12∨k=13∨k=14∨k=15:=by omega
 rcases h11 with rfl | rfl | rfl | rfl | rfl | rfl | rfl | rfl | rfl | rfl | rfl
 ·exact gF (by decide)
 ·exact gF (by decide)
 ·exact gF (by decide)
 ·exact fi (by decide)
 ·exact fi (by decide)
 ·exact fi (by decide)
 ·exact fi (by decide)
 ·exact fi (by decide)
 ·exact fi (by decide)
 ·exact gF (by decide)
 ·exact gF (by decide)
theorem yp {k:Int} (hk:5<=k/\k<=7):Seg [opK k]:=by
 have h3:k=5∨k=6∨k=7:=by omega
 rcases h3 with rfl | rfl | rfl<;>exact eX (by decide)
theorem yi {v:JV} (h:fR v=true) (hc:dq v):Seg [gU v]:=by
 rcases kB h with ⟨n,hn,rfl⟩ | ⟨s,hs,rfl⟩ | rfl | ⟨b,rfl⟩
 ·have hi:=hc.out.2.1;have hok:kh (gU (nr n)):=.inr (.inr (.inl ⟨rfl,hn,hi.2,rfl⟩));obtain ⟨c,r,e,_,_,_,hB,_⟩:=eG hok;have hd:=lU (hB rfl).1;refine .one hok ?_ (λ e=>absurd e (by show ¬ (3:Int)=5;decide));rw [e];show c≠61
  rintro rfl;exact absurd hd (by decide)
 ·refine .one (.inr (.inr (.inr (.inl ⟨rfl,hs,rfl⟩)))) ?_ (λ e=>absurd e (by show ¬ (4:Int)=5;decide));show (iF s).headD 0≠61
  unfold iF;exact (by decide:(34:UInt8)≠61)
 ·exact eX (by decide)
 ·cases b<;>exact eX (by decide)
theorem Seg.wrap {f:Nat} {x:Nat × List LX} (h:Seg x.2):Seg (bu f x):=by
 unfold bu;split
 ·exact (eW (t:=[40]) (by decide) (by decide) (by decide)).app (h.app (eW (t:=[41]) (by decide) (by decide) (by decide)))
 ·exact h
theorem om:∀ {ks:List (List LX)},ks≠[]->(∀ k ∈ ks,Seg k)->Seg (bg ks)
 | [],h,_=>absurd rfl h
 | [a],_,h=>h a List.mem_cons_self
 | a::b::r,_,h=>(h a List.mem_cons_self).op (fi (by decide)) (om (List.cons_ne_nil _ _) (λ k hk=>h k (List.mem_cons_of_mem _ hk)))
theorem oC:∀ (r:Nat) (x:EJ),bw r x≠0->cd x->Seg (az x).2
 | 0,x,h,_=>absurd (by cases x;rfl) h
 |r+1,.mk k v s kids,h,hc=>by
  obtain ⟨_,hk,hkids⟩:=cG h;unfold cd at hc;obtain ⟨_,hcv,_,_,hck⟩:=hc;have ih:∀ y ∈ kids,Seg (az y).2:=λ y hy=>oC r y (hkids y hy) (cc.1 hck y hy)
  rw [gX];simp only;rcases kG hk with ⟨rfl,hl,rfl,hk0⟩ | ⟨rfl,⟨rfl,hn,hk0⟩ | ⟨rfl,hn,hk1⟩ | ⟨rfl,rfl⟩ | ⟨h5,h7,rfl,hk1⟩ | ⟨h8,h15,rfl,hk2⟩⟩
  ·exact yi hl hcv
  ·exact mR hn
  ·obtain ⟨y,rfl⟩:=List.length_eq_one_iff.1 hk1;show Seg (bu 8 (az y)++[ap [46],eR s])
   exact (ih y List.mem_cons_self).wrap.app ((eW (t:=[46]) (by decide) (by decide) (by decide)).app (mR hn))
  ·show Seg (ap [91]::(bg ((kids.map az).map (bu 1))++[ap [93]]))
   have ho:=eW (t:=[91]) (by decide) (by decide) (by decide);have hcl:=eW (t:=[93]) (by decide) (by decide) (by decide);cases kids with
   | nil=>exact ho.app hcl
   |cons y l =>
    refine ho.app ((om (by simp) λ k hk=>?_).app hcl);rw [List.map_map] at hk;obtain ⟨z,hz,rfl⟩:=List.mem_map.1 hk;exact (ih z hz).wrap
  ·obtain ⟨y,rfl⟩:=List.length_eq_one_iff.1 hk1;have e:cI k cn [] ([y].map az)=[opK k]++aw (a8 k) y:=by
    unfold cI;rw [if_neg (by omega),if_neg (by omega),if_neg (by omega),if_neg (by omega)];rfl
   rw [e];exact (yp ⟨h5,h7⟩).app (ih y List.mem_cons_self).wrap
  ·match kids,hk2,ih with
   |[y,z],_,ih =>
    have e:cI k cn [] ([y,z].map az)=aw (mj (a8 k)) y++opK k::aw (a8 k+1) z:=by
     unfold cI;rw [if_neg (by omega),if_neg (by omega),if_neg (by omega),if_neg (by omega)];rfl
    rw [e];exact (ih y List.mem_cons_self).wrap.op (zY ⟨by omega,h15⟩) (ih z (List.mem_cons_of_mem _ List.mem_cons_self)).wrap
theorem rk {x:EJ} (h:o4 x) (hc:cd x) (f:Nat):Seg (aw f x):=(oC 12 x h hc).wrap
theorem iK {d:Nat} (ih:d≠0->∀ l:List SJ,cF (d-1) l=true->aK l->l=[]∨Seg (aq l)):∀ l:List SJ,cF d l=true->aK l->l=[]∨Seg (aq l)
 | [],_,_=>.inl rfl
 | .mk k s a b body els::l,hm,hc=>by
  right;unfold cF at hm;unfold aK fy at hc;rw [Bool.and_eq_true] at hm;obtain ⟨hx,hl⟩:=hm;obtain ⟨⟨_,_,hca,hcb,_,_,hcbo,hcel⟩,hcl⟩:=hc;unfold ly at hx;rw [Bool.and_eq_true,Bool.and_eq_true,decide_eq_true_eq,decide_eq_true_eq] at hx;obtain ⟨hd,hfa,hk⟩:=hx;have hb:∀ l:List SJ,cF (d-1) l=true->aK l->Seg (ap [123]::(aq l++[ap [125]])):=λ l h1 h2=>by
   have ho:=eW (t:=[123]) (by decide) (by decide) (by decide);have hcl:=eW (t:=[125]) (by decide) (by decide) (by decide);rcases ih hd l h1 h2 with rfl | h
   ·exact ho.app hcl
   ·exact ho.app (h.app hcl)
  have hA:=rk hfa hca 1;have hS:Seg (dA (.mk k s a b body els)):=by
   unfold dA;by_cases h1:k=1
   ·rw [if_pos h1] at hk ⊢;rw [Bool.and_eq_true,decide_eq_true_eq] at hk;exact (eX (t:=dF) (by decide)).app (hA.op (fi (by decide)) ((rk hk.1 hcb 1).app (eW (t:=[59]) (by decide) (by decide) (by decide))))
   ·rw [if_neg h1] at hk ⊢;by_cases h2:k=2
    ·rw [if_pos h2,Bool.and_eq_true,Bool.and_eq_true,Bool.and_eq_true] at hk;rw [if_neg (by omega)];refine (eX (t:=wIf) (by decide)).app (hA.app ?_);by_cases he:els.length=0
     ·rw [if_pos he];exact hb body hk.2.2.1 hcbo
     ·rw [if_neg he];have e:ap [123]::(aq body++ap [125]::aS dc::ap [123]::(aq els++[ap [125]]))=(ap [123]::(aq body++[ap [125]]))++([aS dc]++(ap [123]::(aq els++[ap [125]]))):=by simp
      rw [e];exact (hb body hk.2.2.1 hcbo).app ((eX (t:=dc) (by decide)).app (hb els hk.2.2.2 hcel))
    ·rw [if_neg h2] at hk;by_cases h3:k=3
     ·rw [if_pos h3,Bool.and_eq_true,Bool.and_eq_true,Bool.and_eq_true,decide_eq_true_eq] at hk;rw [if_pos h3,if_pos hk.2.2.2];exact ((eX (t:=fJ) (by decide)).app ((mR hk.2.1).app (eX (t:=wIn) (by decide)))).app (hA.app (hb body hk.2.2.1 hcbo))
     ·rw [if_neg h3] at hk;cases hk
  unfold aq;rcases iK ih l hl hcl with rfl | h
  ·unfold aq;rw [List.append_nil];exact hS
  ·exact hS.app h
theorem m5:∀ (d:Nat) (l:List SJ),cF d l=true->aK l->l=[]∨Seg (aq l)
 | 0,l,h,hc=>iK (λ h=>absurd rfl h) l h hc
 | d+1,l,h,hc=>iK (d:=d+1) (λ _ l=>m5 d l) l h hc
theorem tG {d:Nat} {l:List SJ} (h:cF d l=true) (hc:aK l):gL (aq l):=by
 rcases m5 d l h hc with rfl | h
 ·unfold aq;trivial
 ·exact h.ok
def cO (l:List UInt8):List SJ × Int × Int :=
 if (gh l).2.2≠0 then ([],(gh l).2.1,(gh l).2.2)
 else match gJ (gh l).1 with
  | .bad p=>([],(tkA (gh l).1 p:Nat),330)
  | .ok b _=>if fG b=true then (b,0,0) else ([],0,331)
theorem qP {l:List SJ} (h:fG l=true) (hc:aK l) (hl:(ff l).length<=512):cO (ff l)=(l,0,0):=by
 obtain ⟨T,h1,hT,hA,hn⟩:=vY (tG h hc) hl;unfold cO;rw [show gh (ff l)=(T,0,0) from h1];simp only;rw [if_neg (by decide),uv hT h hA hn];simp only;rw [if_pos h]
def bT (l:List LX):Nat:=(l.map λ x=>(ay x).length+1).sum
theorem aG (a b:List LX):bT (a++b)=bT a+bT b:=by unfold bT;rw [List.map_append,List.sum_append]
theorem aj (x:LX) (b:List LX):bT (x::b)=(ay x).length+1+bT b:=by unfold bT;rw [List.map_cons,List.sum_cons]
theorem bm:bT []=0:=rfl
theorem cU (st:List UInt8 × Bool) (s:List UInt8):(bc st s).1.length<=st.1.length+(s.length+1):=by
 unfold bc;simp only [List.length_append];split<;>simp<;>omega
theorem qT:∀ (l:List LX) (st:List UInt8 × Bool),((l.map ay).foldl bc st).1.length<=st.1.length+bT l
 | [],st=>by simp [bT]
 |x::r,st=>by
  rw [List.map_cons,List.foldl_cons,aj];have h1:=qT r (bc st (ay x));have h2:=cU st (ay x);omega
theorem pZ:∀ (f:Nat) (l:List UInt8),(lS f l).length<=l.length
 | _,[]=>by unfold lS;exact Nat.le_refl _
 | 0,_::_=>by unfold lS;simp
 |f+1,c::r=>by
  unfold lS;split
  ·simp
  ·have:=pZ f ((c::r).drop (ar (c::r)).2);rw [List.length_drop] at this;simp only [List.length_cons] at *;omega
theorem Bf (c:Nat):(aQ c).length<=6:=by
 unfold aQ;split
 ·simp
 ·split
  ·simp
  ·unfold ag
   repeat' split
   all_goals simp
theorem za:∀ l:List Nat,(l.flatMap aQ).length<=6*l.length
 | []=>by simp
 |c::r=>by
  rw [List.flatMap_cons,List.length_append,List.length_cons];have:=Bf c;have:=za r;omega
theorem wS (s:List UInt8):(iF s).length<=6*s.length+2:=by
 unfold iF;have h1:=za (fA s);have h2:(fA s).length<=s.length:=pZ _ _;simp only [List.length_append,List.length_cons,List.length_nil];omega
theorem sc {n:Int} (h:iw n):(ep n).length<=20:=by
 unfold iw at h;have h1:=mC (N:=n.natAbs) (k:=19) (by show n.natAbs<10000000000000000000;omega) (by decide);unfold ep;split
 ·rw [List.length_cons];omega
 ·omega
theorem yh {v:JV} (h:dq v):(ay (gU v)).length+9<=40*b8 v:=by
 obtain ⟨k,n,s,kids,keys⟩:=v;obtain ⟨_,hn,_⟩:=h.out;have h1:=wS s;have h2:=sc hn;by_cases k3:k=3
 ·rw [show gU (.mk k n s kids keys)=(3,ep n,n) from if_pos k3];show (ep n).length+9<=_;unfold b8;omega
 by_cases k4:k=4
 ·rw [show gU (.mk k n s kids keys)=(4,s,0) from (if_neg k3).trans (if_pos k4)];show (iF s).length+9<=_;unfold b8;omega
 by_cases k1:k=1
 ·rw [show gU (.mk k n s kids keys)=aS nw from (if_neg k3).trans ((if_neg k4).trans (if_pos k1))];show (4:Nat)+9<=_;unfold b8;omega
 by_cases n1:n=1
 ·rw [show gU (.mk k n s kids keys)=aS jm from (if_neg k3).trans ((if_neg k4).trans ((if_neg k1).trans (if_pos n1)))];show (4:Nat)+9<=_;unfold b8;omega
 ·rw [show gU (.mk k n s kids keys)=aS gi from (if_neg k3).trans ((if_neg k4).trans ((if_neg k1).trans (if_neg n1)))];show (5:Nat)+9<=_;unfold b8;omega
theorem rt (f:Nat) (x:Nat × List LX):bT (bu f x)<=bT x.2+4:=by
 unfold bu;split
 ·rw [aj,aG];show 2+(bT x.2+2)<=_;omega
 ·omega
theorem nE:∀ l:List (List LX),bT (bg l)<=(l.map λ x=>bT x+2).sum
 | []=>Nat.le_refl _
 | [a]=>by simp [bg]
 |a::b::r=>by
  rw [bg,aG,aj,List.map_cons,List.sum_cons];have:=nE (b::r);show bT a+(2+bT (bg (b::r)))<=_
  omega
theorem zZ (k:Int):(ay (opK k)).length<=4:=by
 unfold opK
 repeat' split
 all_goals decide
theorem qE:∀ x:EJ,cd x->bT (az x).2+8<=40*bZ x
 | .mk k v s kids,h=>by
  unfold cd at h;obtain ⟨g1,hv,g2,g3,hk⟩:=h;clear g1 g2 g3;have hK:∀ y ∈ kids,∀ f,bT (bu f (az y))+4<=40*bZ y:=λ y hy f=>by
   have h1:=qE y (cc.1 hk y hy);have h2:=rt f (az y);omega
  have hb:=nz v;have hop:=zZ k;have hl:=yh hv;unfold az bZ;rw [jf];simp only;unfold cI;split
  ·rw [aj,bm];omega
  split
  ·rw [aj,bm];show s.length+1+0+8<=_;omega
  split
  ·cases kids with
   | nil=>rw [aG,aj,aj,bm];show bT []+(2+(s.length+1+0))+8<=_;rw [bm];omega
   |cons y r =>
    have h1:=hK y List.mem_cons_self 8;rw [aG,aj,aj,bm];unfold bM;show bT (bu 8 (az y))+(2+(s.length+1+0))+8<=_
    omega
  split
  ·rw [aj,aG,aj,bm];have h1:=nE ((kids.map az).map (bu 1));have h2:(((kids.map az).map (bu 1)).map λ x=>bT x+2).sum<=40*bM kids:=by
    clear h1 hl hop hb hv
    induction kids with
    | nil=>simp [bM]
    |cons y r ih =>
     have g1:=hK y List.mem_cons_self 1;unfold ic at hk;have g2:=ih hk.2 λ z hz f=>hK z (List.mem_cons_of_mem _ hz) f
     simp only [List.map_cons,List.sum_cons];unfold bM;omega
   show 2+(bT (bg ((kids.map az).map (bu 1)))+(2+0))+8<=_
   omega
  split
  ·rename_i a he
   obtain ⟨y,rfl⟩:∃ y,kids=[y]:=by
    match kids,he with
    | [y],_=>exact ⟨y,rfl⟩
   obtain rfl:az y=a:=by simpa using he
   have h1:=hK y List.mem_cons_self (a8 k);rw [aj];unfold bM bM;omega
  ·rename_i a b he
   obtain ⟨y,z,rfl⟩:∃ y z,kids=[y,z]:=by
    match kids,he with
    | [y,z],_=>exact ⟨y,z,rfl⟩
   obtain ⟨rfl,rfl⟩:az y=a/\az z=b:=by simpa using he
   have h1:=hK y List.mem_cons_self (mj (a8 k));have h2:=hK z (List.mem_cons_of_mem _ List.mem_cons_self) (a8 k+1);rw [aG,aj];unfold bM bM bM;omega
  ·rw [bm];omega
theorem qF (f:Nat) (x:EJ) (h:cd x):bT (aw f x)<=40*bZ x:=by
 have h1:=qE x h;have h2:=rt f (az x);unfold aw;omega
mutual
theorem vX:∀ x:SJ,fy x->bT (dA x)<=40*eI x
 | .mk k s a b body els,h=>by
  unfold fy at h;obtain ⟨_,_,ha,hb,_,_,hB,hE⟩:=h;have h1:=qF 1 a ha;have h2:=qF 1 b hb;have h3:=iV body hB;have h4:=iV els hE;unfold dA eI;split
  ·rw [aj,aG,aj,aG,aj,bm];show 5+(bT (aw 1 a)+(2+(bT (aw 1 b)+(2+0))))<=_
   omega
  ·have e1:bT (if k=3 then [aS fJ,eR s,aS wIn] else [aS wIf])<=8+s.length:=by
    split
    ·rw [aj,aj,aj,bm];show 4+(s.length+1+(3+0))<=_;omega
    ·rw [aj,bm];show 3+0<=_;omega
   have e2:bT (if els.length=0 then [] else aS dc::ap [123]::(aq els++[ap [125]]))<=9+bT (aq els):=by
    split
    ·rw [bm];omega
    ·rw [aj,aj,aG,aj,bm];show 5+(2+(bT (aq els)+(2+0)))<=_;omega
   rw [aG,aG,aj,aG,aj];show bT (if k=3 then [aS fJ,eR s,aS wIn] else [aS wIf])+(bT (aw 1 a)+(2+(bT (aq body)+(2+bT (if els.length=0 then [] else aS dc::ap [123]::(aq els++[ap [125]]))))))<=_
   omega
theorem iV:∀ l:List SJ,aK l->bT (aq l)<=40*aA l
 | [],_=>by unfold aq;exact Nat.zero_le _
 |x::r,h=>by
  unfold aK at h;unfold aq aA;rw [aG];have h1:=vX x h.1;have h2:=iV r h.2;omega
end
theorem zQ {x:LX} (h:kh x):vd (ay x):=by
 obtain ⟨c,r,e,_,_,h1,h2,h3,h4⟩:=eG h;refine ⟨by rw [e];simp,λ h46=>?_⟩;have hc:c=46:=by rw [e] at h46;simpa using h46
 subst hc;rcases h with ⟨hk,_⟩ | ⟨hk,_⟩ | ⟨hk,_⟩ | ⟨hk,_⟩ | ⟨hk,hs,_⟩
 ·exact absurd (h1 (.inl hk)) (by decide)
 ·exact absurd (h1 (.inr hk)) (by decide)
 ·exact absurd (h2 hk).1 (by decide)
 ·exact absurd (h3 hk) (by decide)
 ·have e2:ay x=x.2.1:=by unfold ay;rw [if_neg (by omega)]
  have:∀ t ∈ bH,t.headD 0=46->t=[46]:=by decide
  rw [e2] at h46 ⊢;exact this _ hs h46
theorem gL.all:∀ {l:List LX},gL l->∀ x ∈ l,kh x
 |y::r,h,x,hx=>by
  rcases List.mem_cons.1 hx with rfl | hx
  ·exact h.head
  ·exact h.tail.all x hx
theorem wM {d:Nat} {l:List SJ} (h:cF d l=true) (hc:aK l):(((aq l).map ay).foldl bc ([],false)).1=ff l:=by
 refine wN _ λ s hs=>?_
 obtain ⟨x,hx,rfl⟩:=List.mem_map.1 hs;exact zQ ((tG h hc).all x hx)
def eD (l:List SJ):List UInt8 × Int:=if fG l=true then (if 512<(ff l).length then ([],3) else (ff l,0)) else ([],332)
end
section
open Go.RowKit
attribute [local go_sem] aa ac ae ab
theorem mW (s:List UInt8):Lib.strCells ⟨s.toArray⟩=am s:=by unfold Lib.strCells am;simp
section
variable {P:Program} (w:World)
theorem lA (base:Nat) (t u ty e:TypeId) (i:TypeInfo) (ht:P.underlying t=some (.slice e)) (hu:P.underlying u=some .string) (hi:P.info? e=some i) (hz:i.zero=some (Zi .u8 0)) (hsize:i.size=1) (hby:i.bytes=1)
  (v:Value) (n:Nat) (xs:List Value) (hown:w.ownsRow base e 1 v n xs) (s:ByteArray) (h63:n+s.size<=maxLen) (hbytes:n+s.size<=140737488355328) (hbase:base<=w.heap.size) :
  ∃ v' w',(Builtin.append_ #[t,u] ty #[v,Zt s]).run P w=.ok v' w'/\w'.ownsRow base e 1 v' (n+s.size) (xs++Lib.strCells s)/\w.grownBy w' v.ownBlock/\(v'.ownBlock=v.ownBlock∨∃ k,v'.ownBlock=some k/\w.heap.size<=k):=by
 obtain ⟨v',w',hr,h1,h2,h3⟩:=Lib.run_append_own_string (P:=P) w base t u ty e i ht hu hi hz hsize hby v n xs hown s h63 hbytes hbase;refine ⟨v',w',hr,h1,h2,?_⟩;rcases hown.2 with ⟨rfl,rfl⟩ | ⟨g,cap,cur,rfl,hbg,hg,hnc,hcm,hcs,htake⟩
 ·obtain ⟨v2,w2,hr2,k1,_,_⟩:=Lib.run_append_own_string (P:=P) w w.heap.size t u ty e i ht hu hi hz hsize hby (Zs none 0 0) 0 [] (World.ownsRow_nil _ _ _ _) s (by omega) (by omega) (Nat.le_refl _);rw [hr] at hr2;injection hr2 with e1 e2
  subst e1 e2;cases ho:v'.ownBlock with
  | none=>exact .inl rfl
  | some k=>exact .inr ⟨k,rfl,(k1.lt k ho).1⟩
 ·have hxl:xs.length=n:=by simpa using hown.1
  by_cases hroom:n+s.size<=cap
  ·have hcs':cur.size=cap:=by simpa using hcs
   have hr2:=Lib.run_append_room_string (P:=P) w t u ty e i ht hu hi hsize g n cap cur hg s hroom (by omega);rw [hr] at hr2;injection hr2 with e1 e2
   subst e1;exact .inl rfl
  ·have holds:∀ j u,xs[j]? = some u->w.cell? ((⟨g,0,none⟩:Addr).add j)=some u:=hown.cells (g:=g) rfl;unfold maxLen at h63;have hr2:=Lib.run_append_grow_string (P:=P) w t u ty e i (Zi .u8 0) ht hu hi hz ⟨g,0,none⟩ n cap xs (by rw [hsize];simpa using hxl) holds s (by omega) (by omega) (by rw [hby];exact growslice_fits (by omega) (by omega));rw [hr] at hr2;injection hr2 with e1 e2
   subst e1;exact .inr ⟨_,rfl,Nat.le_refl _⟩
theorem jn {o:Oper} {a:Act} {K:Act->World->Prop} {Q:Exit->Act->World->Prop} (s x:Operand) (t u:TypeId)
  (ho:o.op=.call { callee:=.builtin .append,args:=#[s,x],argTypes:=#[t,u] })
  (base:Nat) (e:TypeId) (i:TypeInfo) (ht:P.underlying t=some (.slice e)) (hu:P.underlying u=some .string) (hi:P.info? e=some i) (hz:i.zero=some (Zi .u8 0)) (hsize:i.size=1) (hby:i.bytes=1)
  (v:Value) (n:Nat) (xs:List Value) (hs:a.eval s=v) (hown:w.ownsRow base e 1 v n xs) (str:ByteArray) (hx:a.eval x=Zt str)
  (h63:n+str.size<=maxLen) (hbytes:n+str.size<=140737488355328) (hbase:base<=w.heap.size)
  (h:∀ v' w',w'.ownsRow base e 1 v' (n+str.size) (xs++Lib.strCells str)->w.grownBy w' v.ownBlock->(v'.ownBlock=v.ownBlock∨∃ k,v'.ownBlock=some k/\w.heap.size<=k)->K (a.put o.dst v') w'):o.wp P a w K Q:=by
 obtain ⟨v',w',hrun,h2,h3,h4⟩:=lA (P:=P) w base t u o.type e i ht hu hi hz hsize hby v n xs hown str h63 hbytes hbase;unfold Oper.wp execOp;simp only [ho,resolve,invoke,builtin,Sem.run_bind,Sem.run_pure,Result.andThen_ok,List.map_toArray,List.map_cons,List.map_nil,hs,hx,hrun];exact h v' w' h2 h3 h4
end
structure WP (w:World) (g:Nat) (row:Value) (n:Nat) (out:List UInt8) (num:Bool):Prop where
 blk:Blk w g 71 #[row,.bool num]
 own:jh (g+1) row n out w
 gob:∃ w0:World,GOE w0/\w0.heap.size<=g/\Below w0.heap.size w0 w
section
variable {w w':World} {g:Nat} {row row':Value} {n n':Nat} {out out':List UInt8} {num num':Bool}
theorem WP.goe (h:WP w g row n out num):GOE w:=by obtain ⟨w0,h1,_,h2⟩:=h.gob;exact h1.keep h2
theorem WP.keep (h:WP w g row n out num) (hb:Below w.heap.size w w'):WP w' g row n out num:=by
 obtain ⟨w0,h1,h2,h3⟩:=h.gob;exact ⟨h.blk.keep hb,h.own.bel hb,w0,h1,h2,h3.trans (hb.mono (by have:=h.blk.lt;omega))⟩
theorem WP.ge (h:WP w g row n out num):∀ k,row.ownBlock=some k->g+1<=k/\k<w.heap.size:=λ k e=>h.own.2.1.lt k e
theorem WP.step (h:WP w g row n out num) (hg:MG g row w row' w') (hb:Blk w' g 71 #[row',.bool num']) (ho:jh (g+1) row' n' out' w'):WP w' g row' n' out' num':=by
 obtain ⟨w0,h1,h2,h3⟩:=h.gob;exact ⟨hb,ho,w0,h1,h2,h3.trans (hg.below (by have:=h.blk.lt;omega) h2 (λ k e=>by have:=(h.ge k e).1;omega))⟩
theorem WP.ne (h:WP w g row n out num):some g≠row.ownBlock:=λ e=>by have:=(h.ge g e.symm).1;omega
end
theorem aT.mg {L:List (Nat × TypeId × Array Value)} {w0 W W':World} {g:Nat} {a b:Value} (h:aT L w0 W) (hg:MG g a W b W') (hb:w0.heap.size<=g) (ho:∀ k,a.ownBlock=some k->w0.heap.size<=k) (hL:∀ x ∈ L,x.1≠g/\some x.1≠a.ownBlock):aT L w0 W' :=
 ⟨h.1.trans (hg.below h.1.size hb ho),λ x hx=>hg.blk (h.2 x hx) (hL x hx).1 (hL x hx).2⟩
theorem tM (c:UInt8) (w:World):Calls Tryz.prog 111 #[Zi .u8 c.toNat] w λ e w'=>e=.returned (.bool (cQ c))/\w'=w:=by
 have hc:=c.toNat_lt;obtain ⟨n,hn⟩:∃ n,c.toNat=n:=⟨_,rfl⟩
 have HB:=aW (show cQ c=(decide (97<=n/\n<=122) || decide (48<=n/\n<=57)) by unfold cQ aN a9;rw [hn]);rw [hn] at hc ⊢;clear hn;by_cases h1:97<=n
 ·by_cases h2:n<=122
  ·have HT:=aW (show cQ c=true by rw [HB.out];simp;omega);go_enter Tryz.func111,Tryz.ntmps111;go_wp2;go_ret;exact ⟨av (by rw [HT.out]),rfl⟩
  ·have HT:=aW (show cQ c=false by rw [HB.out];simp;omega);go_enter Tryz.func111,Tryz.ntmps111;go_wp2;go_ret;exact ⟨av (by rw [HT.out];try (simp;omega)),rfl⟩
 ·by_cases h2:48<=n
  ·by_cases h3:n<=57
   ·have HT:=aW (show cQ c=true by rw [HB.out];simp;omega);go_enter Tryz.func111,Tryz.ntmps111;go_wp2;go_ret;exact ⟨av (by rw [HT.out];try (simp;omega)),rfl⟩
   ·have HT:=aW (show cQ c=false by rw [HB.out];simp;omega);go_enter Tryz.func111,Tryz.ntmps111;go_wp2;go_ret;exact ⟨av (by rw [HT.out];try (simp;omega)),rfl⟩
  ·have HT:=aW (show cQ c=false by rw [HB.out];simp;omega);go_enter Tryz.func111,Tryz.ntmps111;go_wp2;go_ret;exact ⟨av (by rw [HT.out];try (simp;omega)),rfl⟩
end
end Go.Proofs.YtgmnmnnoahdjnaaGreatDoor
