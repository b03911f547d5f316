import Derived.Test.YtgmnmnnoahdjnaaGreatDoorQ25
import Derived.Test.YtgmnmnnoahdjnaaGreatDoorQ22
import Derived.Test.YtgmnmnnoahdjnaaGreatDoorQ24
open Go.Value renaming int → Zi, slice → Zs, string → Zt, pointer → Zp
open Go.IntKind renaming i64 → Zq
set_option maxRecDepth 100000
set_option maxHeartbeats 16000000
set_option linter.unusedVariables false
set_option linter.unusedSimpArgs false
namespace Go.Proofs.YtgmnmnnoahdjnaaGreatDoor
section
def jq (x:LX):Prop :=
 (x.1=1/\dv x.2.1=true/\x.2.2=0)∨(x.1=2/\x.2.1 ∈ cL/\x.2.2=0)∨(x.1=3/\0<=x.2.2/\x.2.2<=9223372036854775807/\x.2.1=cQ x.2.2)∨(x.1=4/\cc x.2.1=true/\x.2.2=0)∨(x.1=5/\x.2.1 ∈ cn/\x.2.2=0)
def uN (x:LX) (r:List UInt8):Prop:=(x.1=1∨x.1=2->∀ c,r.head? = some c->dK c=false)/\(x.1=3->AX r)/\(x.1=5->x.2.1=[60]->∀ c,r.head? = some c->c≠61)
theorem yq {t:List UInt8} (h:t ∈ cL):(∀ c ∈ t,dK c=true)/\∃ c r,t=c::r/\aL c=true:=by
 have:∀ t ∈ cL,(t.all dK=true)/\aL (t.headD 0)=true/\t≠[]:=by decide
 obtain ⟨h1,h2,h3⟩:=this t h;refine ⟨List.all_eq_true.1 h1,?_⟩;cases t with
 | nil=>exact absurd rfl h3
 | cons c r=>exact ⟨c,r,rfl,h2⟩
theorem tg {t:List UInt8} (h:dv t=true):(∀ c ∈ t,dK c=true)/\(∃ c r,t=c::r/\aL c=true)/\dG t=false:=by
 obtain ⟨h1,h2,_,h4⟩:=py h;refine ⟨ll h1,?_,h4⟩;cases t with
 | nil=>simp at h2
 | cons c r=>exact ⟨c,r,rfl,mJ h1⟩
theorem mE {c:UInt8} (h:aL c=true):97<=c.toNat/\c.toNat<=122:=of_decide_eq_true h
theorem mj {c:UInt8} (h:bc c=true):48<=c.toNat/\c.toNat<=57:=of_decide_eq_true h
theorem oL {x:LX} (h:jq x):∃ c r,aF x=c::r/\dq c=false/\c≠69/\(x.1=1∨x.1=2->aL c=true)/\(x.1=3->bc c=true/\aL c=false)/\(x.1=4->c=34)/\(x.1=5->aL c=false/\bc c=false/\c.toNat≠34):=by
 have nb:∀ c:UInt8,97<=c.toNat/\c.toNat<=122∨48<=c.toNat/\c.toNat<=57->dq c=false/\c≠69:=λ c hc=>by
  refine ⟨by unfold dq;rw [decide_eq_false_iff_not];omega,λ e=>?_⟩;rw [e] at hc;rcases hc with hc | hc
  ·exact absurd hc (by decide)
  ·exact absurd hc (by decide)
 rcases h with ⟨hk,hn,_⟩ | ⟨hk,hw,_⟩ | ⟨hk,h0,h1,ht⟩ | ⟨hk,ht,_⟩ | ⟨hk,hs,_⟩
 ·obtain ⟨_,⟨c,r,e,hl⟩,_⟩:=tg hn;obtain ⟨h2,h3⟩:=nb c (.inl (mE hl));exact ⟨c,r,by unfold aF;rw [if_neg (by omega)];exact e,h2,h3,λ _=>hl,λ h=>by omega,λ h=>by omega,λ h=>by omega⟩
 ·obtain ⟨_,c,r,e,hl⟩:=yq hw;obtain ⟨h2,h3⟩:=nb c (.inl (mE hl));exact ⟨c,r,by unfold aF;rw [if_neg (by omega)];exact e,h2,h3,λ _=>hl,λ h=>by omega,λ h=>by omega,λ h=>by omega⟩
 ·have e:cQ x.2.2=fe x.2.2.natAbs:=by unfold cQ;rw [if_neg (by omega)]
  cases hd:fe x.2.2.natAbs with
  | nil=>exact absurd hd (iW _)
  |cons c r =>
   have hdig:=vN x.2.2.natAbs c (by rw [hd];exact List.mem_cons_self);obtain ⟨h2,h3⟩:=nb c (.inr (mj hdig));refine ⟨c,r,by unfold aF;rw [if_neg (by omega),ht,e,hd],h2,h3,λ h=>by omega,λ _=>⟨hdig,?_⟩,λ h=>by omega,λ h=>by omega⟩;have:=mj hdig;unfold aL;rw [decide_eq_false_iff_not];omega
 ·refine ⟨34,(eb x.2.1).flatMap aE++[34],by unfold aF jB;rw [if_pos hk];rfl,by decide,by decide,λ h=>by omega,λ h=>by omega,λ _=>rfl,λ h=>by omega⟩
 ·have:∀ t ∈ cn,t≠[]/\dq (t.headD 0)=false/\t.headD 0≠69/\aL (t.headD 0)=false/\bc (t.headD 0)=false/\(t.headD 0).toNat≠34:=by decide
  obtain ⟨h1,h2,h3,h4⟩:=this _ hs;cases ht:x.2.1 with
  | nil=>exact absurd ht h1
  |cons c r =>
   rw [ht] at h2 h3 h4;exact ⟨c,r,by unfold aF;rw [if_neg (by omega)];exact ht,h2,h3,λ h=>by omega,λ h=>by omega,λ h=>by omega,λ _=>h4⟩
def jh:List LX->Prop
 | []=>True
 | [x]=>jq x
 | x::y::r=>jq x/\(x.1=5->x.2.1=[60]->(aF y).headD 0≠61)/\jh (y::r)
theorem jh.head {x:LX} {r:List LX} (h:jh (x::r)):jq x:=by
 cases r with
 | nil=>exact h
 | cons y r=>exact h.1
theorem jh.tail {x:LX} {r:List LX} (h:jh (x::r)):jh r:=by
 cases r with
 | nil=>trivial
 | cons y r=>exact h.2.2
def xd (t:aq):Prop:=1<=t.1/\t.1<=5/\(t.1=2->t.2.2.1 ∈ cL)/\(t.1=5->t.2.2.1 ∉ cL)
theorem ye {l:List UInt8} {p:Nat} {k n:Int} {t:List UInt8} {m:Nat} (h:dz l p=.inl (k,t,n,m)) (a:Nat):xd (k,a,t,n):=by
 unfold dz at h;cases hc:l[p]? with
 | none=>rw [hc] at h;cases h
 |some c =>
  rw [hc] at h;simp only at h;split at h
  ·unfold gJ at h;simp only at h;split at h
   ·rename_i hw
    simp only [Sum.inl.injEq,Prod.mk.injEq] at h;obtain ⟨rfl,rfl,rfl,rfl⟩:=h;exact ⟨by show (1:Int)<=2;decide,by show (2:Int)<=5;decide,λ _=>of_decide_eq_true hw,λ h=>absurd h (by show ¬ (2:Int)=5;decide)⟩
   ·split at h
    ·simp only [Sum.inl.injEq,Prod.mk.injEq] at h;obtain ⟨rfl,rfl,rfl,rfl⟩:=h;exact ⟨by show (1:Int)<=1;decide,by show (1:Int)<=5;decide,λ h=>absurd h (by show ¬ (1:Int)=2;decide),λ h=>absurd h (by show ¬ (1:Int)=5;decide)⟩
    ·cases h
  ·split at h
   ·unfold eo at h;simp only at h;split at h
    ·simp only [Sum.inl.injEq,Prod.mk.injEq] at h;obtain ⟨rfl,rfl,rfl,rfl⟩:=h;exact ⟨by show (1:Int)<=3;decide,by show (3:Int)<=5;decide,λ h=>absurd h (by show ¬ (3:Int)=2;decide),λ h=>absurd h (by show ¬ (3:Int)=5;decide)⟩
    ·cases h
   ·split at h
    ·unfold iL at h;simp only at h;split at h
     ·simp only [Sum.inl.injEq,Prod.mk.injEq] at h;obtain ⟨rfl,rfl,rfl,rfl⟩:=h;exact ⟨by show (1:Int)<=4;decide,by show (4:Int)<=5;decide,λ h=>absurd h (by show ¬ (4:Int)=2;decide),λ h=>absurd h (by show ¬ (4:Int)=5;decide)⟩
     ·cases h
    ·unfold gL at h;cases hf:ed l p cn with
     | none=>rw [hf] at h;cases h
     |some s =>
      rw [hf] at h;simp only [Sum.inl.injEq,Prod.mk.injEq] at h;obtain ⟨rfl,rfl,rfl,rfl⟩:=h;have hall:∀ s ∈ cn,s ∉ cL:=by decide
      exact ⟨by show (1:Int)<=5;decide,by show (5:Int)<=5;decide,λ h=>absurd h (by show ¬ (5:Int)=2;decide),λ _=>hall s (fQ hf).1⟩
theorem wv {l:List UInt8}:∀ (k p:Nat) (T:List aq),gK l k p=(T,none)->l.length-p<k->∃ T',T=T'++[(6,l.length,[],0)]/\∀ t ∈ T',xd t
 | 0,_,_,_,h=>by omega
 |k+1,p,T,hr,hk=>by
  unfold gK at hr;split at hr
  ·rename_i hq
   cases hv:dz l (aM l p) with
   | inr e=>rw [hv] at hr;injection hr with _ h2;cases h2
   |inl r =>
    obtain ⟨kd,t,n,m⟩:=r;rw [hv] at hr;simp only at hr;injection hr with h1 h2
    have hm:=ki hq hv;have hg:=j7 l p;obtain ⟨T',e,h3⟩:=wv k m (gK l k m).1 (by rw [← h2]) (by omega);refine ⟨(kd,aM l p,t,n)::T',by rw [← h1,e];rfl,λ x hx=>?_⟩;rcases List.mem_cons.1 hx with rfl | hx
    ·exact ye hv _
    ·exact h3 x hx
  ·injection hr with h1 _
   exact ⟨[],h1.symm,λ t h=>by cases h⟩
theorem WT.of {T':List aq} {n:Nat} (h:∀ t ∈ T',xd t):WT (T'++[(6,n,[],0)]):=by
 have hlt:∀ p,p<T'.length->∃ t,(T'++[((6:Int),n,([]:List UInt8),(0:Int))])[p]? = some t/\xd t:=λ p hp=>by
  rw [List.getElem?_append_left hp];exact ⟨_,List.getElem?_eq_getElem hp,h _ (List.getElem_mem hp)⟩
 have hge:∀ p,T'.length<=p->tkK (T'++[((6:Int),n,([]:List UInt8),(0:Int))]) p=6:=λ p hp=>by
  unfold tkK;rcases Nat.eq_or_lt_of_le hp with rfl | hp
  ·simp
  ·rw [List.getElem?_eq_none (by simp;omega)]
 refine ⟨⟨T'.length,by simp,hge _ (Nat.le_refl _)⟩,λ p hp=>?_,λ p hk=>?_,λ p hk=>?_,λ p=>?_⟩
 ·obtain ⟨t,h1,h2⟩:=hlt p (by simp at hp;omega);unfold tkK;rw [h1];have:=h2.2.1;show t.1≠6;omega
 ·rcases Nat.lt_or_ge p T'.length with hp | hp
  ·obtain ⟨t,h1,h2⟩:=hlt p hp;unfold tkK at hk;rw [h1] at hk;unfold tkT;rw [h1];exact h2.2.2.1 hk
  ·rw [hge p hp] at hk;omega
 ·rcases Nat.lt_or_ge p T'.length with hp | hp
  ·obtain ⟨t,h1,h2⟩:=hlt p hp;unfold tkK at hk;rw [h1] at hk;unfold tkT;rw [h1];exact h2.2.2.2 hk
  ·rw [hge p hp] at hk;omega
 ·rcases Nat.lt_or_ge p T'.length with hp | hp
  ·obtain ⟨t,h1,h2⟩:=hlt p hp;unfold tkK;rw [h1];exact ⟨h2.1,by have:=h2.2.1;show t.1<=6;omega⟩
  ·rw [hge p hp];omega
end
section
open Go.RowKit
attribute [local go_sem] aa ac ae ab
theorem wk (v:JV) (cs:List Value) (F:Nat->Prop) (w:World) (hv:VR w F cs v):Calls Tryz.prog 117 #[.agg cs.toArray] w (cC (cV v) w):=by
 obtain ⟨k,n,s,kids,keys⟩:=v;obtain ⟨A,B,a,b,css,rfl,_⟩:=hv.out;obtain ⟨nk,hnk⟩:∃ q,kids.length=q:=⟨_,rfl⟩
 obtain ⟨ny,hny⟩:∃ q,keys.length=q:=⟨_,rfl⟩
 obtain ⟨g,hg⟩:∃ g,cV (.mk k n s kids keys)=g:=⟨_,rfl⟩
 have hz:g=decide (k=0/\n=0/\s=[]/\nk+ny=0):=by rw [← hg,cV,hnk,hny]
 obtain ⟨sv,hsv⟩:∃ b:ByteArray,(⟨s.toArray⟩:ByteArray)=b:=⟨_,rfl⟩
 have hse:sv.toList=s:=by rw [← hsv,ByteArray.toList_eq]
 rw [hg,hnk,hny,hsv];clear hv hnk hny hsv hg;by_cases h1:k=0;rotate_left
 ·have e1:(k == 0)=false:=by simp [h1]
  obtain rfl:g=false:=by rw [hz];exact decide_eq_false λ h=>h1 h.1
  have HH0:=aW ((aH.nil w).push 42 #[Zi Zq k,Zi Zq n,Zt sv,Zs A nk a,Zs B ny b] (g:=w.heap.size) rfl);obtain ⟨c0,f0,l0⟩:=HH0.out.b0.rules;clear h1 hse hz;go_enter Tryz.func117,Tryz.ntmps117;go_wp2;go_ret;exact ⟨rfl,HH0.out.1⟩
 subst h1;by_cases h2:n=0;rotate_left
 ·have e1:(n == 0)=false:=by simp [h2]
  obtain rfl:g=false:=by rw [hz];exact decide_eq_false λ h=>h2 h.2.1
  have HH0:=aW ((aH.nil w).push 42 #[Zi Zq 0,Zi Zq n,Zt sv,Zs A nk a,Zs B ny b] (g:=w.heap.size) rfl);obtain ⟨c0,f0,l0⟩:=HH0.out.b0.rules;clear h2 hse hz;go_enter Tryz.func117,Tryz.ntmps117;go_wp2;go_ret;exact ⟨rfl,HH0.out.1⟩
 subst h2;by_cases h3:s=[];rotate_left
 ·have hsn:¬ sv.toList=[]:=by rw [hse];exact h3
  obtain rfl:g=false:=by rw [hz];exact decide_eq_false λ h=>h3 h.2.2.1
  have HH0:=aW ((aH.nil w).push 42 #[Zi Zq 0,Zi Zq 0,Zt sv,Zs A nk a,Zs B ny b] (g:=w.heap.size) rfl);obtain ⟨c0,f0,l0⟩:=HH0.out.b0.rules;clear h3 hz hse;go_enter Tryz.func117,Tryz.ntmps117;go_wp2;go_ret;exact ⟨rfl,HH0.out.1⟩
 have hsy:sv.toList=[]:=by rw [hse];exact h3
 clear hse;by_cases h4:nk=0;rotate_left
 ·have e1:((nk:Int) == 0)=false:=by simp;omega
  obtain rfl:g=false:=by rw [hz];exact decide_eq_false λ h=>by omega
  have HH0:=aW ((aH.nil w).push 42 #[Zi Zq 0,Zi Zq 0,Zt sv,Zs A nk a,Zs B ny b] (g:=w.heap.size) rfl);obtain ⟨c0,f0,l0⟩:=HH0.out.b0.rules;clear h3 hz;go_enter Tryz.func117,Tryz.ntmps117;go_wp2;go_ret;exact ⟨rfl,HH0.out.1⟩
 subst h4;by_cases h5:ny=0;rotate_left
 ·have e1:((ny:Int) == 0)=false:=by simp;omega
  obtain rfl:g=false:=by rw [hz];exact decide_eq_false λ h=>by omega
  have HH0:=aW ((aH.nil w).push 42 #[Zi Zq 0,Zi Zq 0,Zt sv,Zs A 0 a,Zs B ny b] (g:=w.heap.size) rfl);obtain ⟨c0,f0,l0⟩:=HH0.out.b0.rules;clear h3 hz;go_enter Tryz.func117,Tryz.ntmps117;go_wp2;go_ret;exact ⟨rfl,HH0.out.1⟩
 subst h5;obtain rfl:g=true:=by rw [hz];exact decide_eq_true ⟨rfl,rfl,h3,rfl⟩
 have HH0:=aW ((aH.nil w).push 42 #[Zi Zq 0,Zi Zq 0,Zt sv,Zs A 0 a,Zs B 0 b] (g:=w.heap.size) rfl);obtain ⟨c0,f0,l0⟩:=HH0.out.b0.rules;clear h3 hz;go_enter Tryz.func117,Tryz.ntmps117;go_wp2;go_ret;exact ⟨rfl,HH0.out.1⟩
theorem AP (k:Int) (q:Int) (hq:fT k=q) (w:World):Calls Tryz.prog 160 #[Zi Zq k] w λ e w'=>e=.returned (Zi Zq q)/\w=w':=by
 have HQ:=aW hq;clear hq;have hk:k=1∨k=2∨k=3∨k=5∨k=6∨k=7∨k=4∨((k == 1)=false/\(k == 2)=false/\(k == 3)=false/\(k == 5)=false/\(k == 6)=false/\(k == 7)=false/\(k == 4)=false):=by
  simp only [beq_eq_false_iff_ne];omega
 rcases hk with rfl | rfl | rfl | rfl | rfl | rfl | rfl | ⟨h1,h2,h3,h5,h6,h7,h4⟩
 rotate_right
 ·obtain rfl:q=2:=by
   have g1:=beq_eq_false_iff_ne.1 h1;have g2:=beq_eq_false_iff_ne.1 h2;have g3:=beq_eq_false_iff_ne.1 h3;have g4:=beq_eq_false_iff_ne.1 h4;have g5:=beq_eq_false_iff_ne.1 h5;have g6:=beq_eq_false_iff_ne.1 h6;have g7:=beq_eq_false_iff_ne.1 h7;rw [← HQ.out];unfold fT;rw [if_neg (by omega),if_neg (by omega),if_neg (by omega)]
  clear HQ;go_enter Tryz.func160,Tryz.ntmps160;go_wp2;go_ret;exact ⟨rfl,rfl⟩
 all_goals
  obtain rfl:=HQ.out.symm.trans (by rfl:fT _=_);clear HQ;go_enter Tryz.func160,Tryz.ntmps160;go_wp2;go_ret;exact ⟨rfl,rfl⟩
theorem rR {v:JV} (h:good v=true):1<=v.kind/\v.kind<=6:=by
 obtain ⟨k,n,s,kids,keys⟩:=v;have h1:=(fm (rQ h).1).1;show 1<=k/\k<=6
 unfold bO at h1;split at h1
 ·omega
 split at h1
 ·omega
 split at h1
 ·omega
 split at h1
 ·omega
 split at h1
 ·omega
 split at h1
 ·omega
 cases h1
theorem Bs (v:JV) (cs:List Value) (F:Nat->Prop) (w:World) (hv:VR w F cs v) (hc:cW v):Calls Tryz.prog 161 #[.agg cs.toArray] w (cC (dM v) w):=by
 have HRI:=aW (λ (W:World) (h:Below w.heap.size w W)=>xT v cs F W (hv.bel h) hc);have HK:=aW (λ (h:good v=true)=>rR h);have HLT:=aW (show dM v=(good v && (decide (v.kind=3/\0<=v.num) || decide (v.kind=1∨v.kind=2∨v.kind=4))) from rfl);obtain ⟨g,hg⟩:∃ g,dM v=g:=⟨_,rfl⟩
 obtain ⟨k,n,s,kids,keys⟩:=v;obtain ⟨A,B,a,b,css,rfl,_⟩:=hv.out;have HH0:=aW ((aH.nil w).push 42 #[Zi Zq k,Zi Zq n,Zt ⟨s.toArray⟩,Zs A kids.length a,Zs B keys.length b] (g:=w.heap.size) rfl);rw [hg] at HLT ⊢;clear hv hc hg;obtain ⟨c0,f0,l0⟩:=HH0.out.b0.rules;obtain ⟨gd,hgd⟩:∃ q,good (.mk k n s kids keys)=q:=⟨_,rfl⟩
 rw [hgd] at HRI HLT HK;clear hgd;cases gd with
 |false =>
  obtain rfl:g=false:=HLT.out;clear HLT HK;go_enter Tryz.func161,Tryz.ntmps161;go_wp2_with fail;refine (HRI.out _ HH0.out.1).mono ?_;rintro e w1 ⟨rfl,hb1⟩;have HH1:=aW (HH0.out.keep hb1);clear hb1 c0 f0 l0;go_wp2;go_ret;exact ⟨rfl,HH1.out.1⟩
 |true =>
  have hk:1<=k/\k<=6:=HK.out rfl;have hgv:g=(decide (k=3/\0<=n) || decide (k=1∨k=2∨k=4)):=HLT.out;clear HLT HK;by_cases h4:4<k
  ·have e4:¬ k<=4:=by omega
   have e5:decide (k<=4)=false:=decide_eq_false e4;obtain rfl:g=false:=by rw [hgv,decide_eq_false (by omega),decide_eq_false (by omega)];rfl
   clear hgv;go_enter Tryz.func161,Tryz.ntmps161;go_wp2_with fail;refine (HRI.out _ HH0.out.1).mono ?_;rintro e w1 ⟨rfl,hb1⟩;have HH1:=aW (HH0.out.keep hb1);clear hb1 c0 f0 l0;obtain ⟨c0,f0,l0⟩:=HH1.out.b0.rules;go_wp2;go_ret;exact ⟨rfl,HH1.out.1⟩
  have e4:k<=4:=by omega
  have e5:decide (k<=4)=true:=decide_eq_true e4;by_cases h3:k=3;rotate_left
  ·have e3:(k != 3)=true:=by simp [h3]
   obtain rfl:g=true:=by rw [hgv,decide_eq_true (p:=k=1∨k=2∨k=4) (by omega),Bool.or_true]
   clear hgv;go_enter Tryz.func161,Tryz.ntmps161;go_wp2_with fail;refine (HRI.out _ HH0.out.1).mono ?_;rintro e w1 ⟨rfl,hb1⟩;have HH1:=aW (HH0.out.keep hb1);clear hb1 c0 f0 l0;obtain ⟨c0,f0,l0⟩:=HH1.out.b0.rules;go_wp2;go_ret;exact ⟨rfl,HH1.out.1⟩
  subst h3;have HGV:=aW (show g=decide (0<=n) by rw [hgv];simp);by_cases h0:0<=n
  ·obtain rfl:g=true:=by rw [HGV.out];exact decide_eq_true h0
   have e0:decide (0<=n)=true:=decide_eq_true h0;clear hgv HGV;go_enter Tryz.func161,Tryz.ntmps161;go_wp2_with fail;refine (HRI.out _ HH0.out.1).mono ?_;rintro e w1 ⟨rfl,hb1⟩;have HH1:=aW (HH0.out.keep hb1);clear hb1 c0 f0 l0;obtain ⟨c0,f0,l0⟩:=HH1.out.b0.rules;go_wp2;go_ret;exact ⟨rfl,HH1.out.1⟩
  ·obtain rfl:g=false:=by rw [HGV.out];exact decide_eq_false h0
   have e0:decide (0<=n)=false:=decide_eq_false h0;clear hgv HGV;go_enter Tryz.func161,Tryz.ntmps161;go_wp2_with fail;refine (HRI.out _ HH0.out.1).mono ?_;rintro e w1 ⟨rfl,hb1⟩;have HH1:=aW (HH0.out.keep hb1);clear hb1 c0 f0 l0;obtain ⟨c0,f0,l0⟩:=HH1.out.b0.rules;go_wp2;go_ret;exact ⟨rfl,HH1.out.1⟩
end
end Go.Proofs.YtgmnmnnoahdjnaaGreatDoor
