import Derived.Test.YtgmnmnnoahdjnaaGreatDoorH27
import Derived.Test.YtgmnmnnoahdjnaaGreatDoorH28
open Go.Value renaming int → Zi, slice → Zs, string → Zt, pointer → Zp
open Go.IntKind renaming i64 → Zq
set_option maxRecDepth 100000
set_option maxHeartbeats 16000000
set_option linter.unusedVariables false
set_option linter.unusedSimpArgs false
namespace Go.Proofs.YtgmnmnnoahdjnaaGreatDoor
section
mutual
/-- how much an expression is in all -/
def bG:EJ->Nat | .mk _ v s kids=>1+bW v+s.length+cj kids
def cj:List EJ->Nat | []=>0 | x::r=>bG x+cj r
end
mutual
/-- how much a statement is in all -/
def dv:SJ->Nat | .mk _ s a b body els=>1+s.length+bG a+bG b+ap body+ap els
def ap:List SJ->Nat | []=>0 | x::r=>dv x+ap r
end
theorem jq:∀ l:List EJ,cj l=(l.map bG).sum
 | []=>rfl
 | x::r=>by unfold cj;rw [jq r];rfl
theorem gK:∀ l:List SJ,ap l=(l.map dv).sum
 | []=>rfl
 | x::r=>by unfold ap;rw [gK r];rfl
theorem jr:∀ a b:List SJ,ap (a++b)=ap a+ap b
 | [],b=>by simp [ap]
 | x::r,b=>by rw [List.cons_append,ap,ap,jr r b];omega
theorem kS:∀ (n:Nat) (l:List SJ),ap (l.take n)<=ap l
 | 0,l=>by simp [ap]
 | n+1,[]=>Nat.le_refl _
 | n+1,x::r=>by have:=kS n r;rw [List.take_succ_cons,ap,ap];omega
end
section
open Go.RowKit
attribute [local go_sem] ab ae af ac
theorem xH:∀ r,r<=12->vM r
 | 0,h=>vE 0 h (λ h0=>absurd rfl h0)
 | r+1,h=>vE (r+1) h (λ _=>xH r (by omega))
def dV (l:List SJ):Int:=if ff l=true then 0 else 332
def rY (q:Int) (w:World) (e:Ending) (w':World):Prop:=e=.returned (Zi Zq q)/\Below w.heap.size w w'
theorem mw (l:List SJ) (css:List (List Value)) (A:Option Addr) (n ca:Nat) (F:Nat->Prop) (w:World) (hG:GOE w) (hS:SRs w F css l) (hln:l.length=n) (hnc:n<=ca) (hR:RdF w F A css.flatten) (hC:aZ l) (hn:n<=4194304) :
  Calls Tryz.prog 18 #[.agg #[Zs A n ca]] w (rY (dV l) w):=by
 have HM:=aW (λ (W:World) (h:Below w.heap.size w W)=>xH 12 (by omega) l css A n ca F W (hG.keep h) (RR.imp hS λ c x hc=>hc.bel h) hln hnc (hR.keep (aj.of_below h)) hC hn);obtain ⟨b,hb⟩:∃ b,bR 12 l=b:=⟨_,rfl⟩
 have HQ:=aW (show dV l=(if b=true then 0 else 332) by unfold dV ff;rw [hb]);unfold vN at HM;rw [hb] at HM;obtain ⟨q,hq⟩:∃ q,dV l=q:=⟨_,rfl⟩
 rw [hq] at HQ ⊢;clear hq;have HH0:=aW ((aH.nil w).push 24 #[Zs A n ca] (g:=w.heap.size) rfl);clear hG hS hln hnc hR hC hn hb;go_enter Tryz.func18,Tryz.ntmps18;go_wp2_with fail;refine (HM.out _ HH0.out.1).mono ?_;rintro e w1 ⟨rfl,hb1⟩;have HH1:=aW (HH0.out.keep hb1);clear hb1;cases b
 ·go_wp2;go_ret;exact ⟨by rw [HQ.out];rfl,HH1.out.1⟩
 ·go_wp2;go_ret;exact ⟨by rw [HQ.out];rfl,HH1.out.1⟩
end
section
def uf (t:al):Prop:=1<=t.1/\t.1<=5/\(t.1=2->t.2.2.1 ∈ cT)/\(t.1=5->t.2.2.1 ∉ cT)
theorem vk {l:List UInt8} {p:Nat} {k n:Int} {t:List UInt8} {m:Nat} (h:cK l p=.inl (k,t,n,m)) (a:Nat):uf (k,a,t,n):=by
 unfold cK at h;cases hc:l[p]? with
 | none=>rw [hc] at h;cases h
 |some c =>
  rw [hc] at h;simp only at h;split at h
  ·unfold fl at h;simp only at h;split at h
   ·rename_i hw
    simp only [Sum.inl.injEq,Prod.mk.injEq] at h;obtain ⟨rfl,rfl,rfl,rfl⟩:=h;exact ⟨by show (1:Int)<=2;decide,by show (2:Int)<=5;decide,λ _=>of_decide_eq_true hw,λ h=>absurd h (by show ¬ (2:Int)=5;decide)⟩
   ·split at h
    ·simp only [Sum.inl.injEq,Prod.mk.injEq] at h;obtain ⟨rfl,rfl,rfl,rfl⟩:=h;exact ⟨by show (1:Int)<=1;decide,by show (1:Int)<=5;decide,λ h=>absurd h (by show ¬ (1:Int)=2;decide),λ h=>absurd h (by show ¬ (1:Int)=5;decide)⟩
    ·cases h
  ·split at h
   ·unfold dw at h;simp only at h;split at h
    ·simp only [Sum.inl.injEq,Prod.mk.injEq] at h;obtain ⟨rfl,rfl,rfl,rfl⟩:=h;exact ⟨by show (1:Int)<=3;decide,by show (3:Int)<=5;decide,λ h=>absurd h (by show ¬ (3:Int)=2;decide),λ h=>absurd h (by show ¬ (3:Int)=5;decide)⟩
    ·cases h
   ·split at h
    ·unfold gi at h;simp only at h;split at h
     ·simp only [Sum.inl.injEq,Prod.mk.injEq] at h;obtain ⟨rfl,rfl,rfl,rfl⟩:=h;exact ⟨by show (1:Int)<=4;decide,by show (4:Int)<=5;decide,λ h=>absurd h (by show ¬ (4:Int)=2;decide),λ h=>absurd h (by show ¬ (4:Int)=5;decide)⟩
     ·cases h
    ·unfold fo at h;cases hf:dn l p cc with
     | none=>rw [hf] at h;cases h
     |some s =>
      rw [hf] at h;simp only [Sum.inl.injEq,Prod.mk.injEq] at h;obtain ⟨rfl,rfl,rfl,rfl⟩:=h;have hall:∀ s ∈ cc,s ∉ cT:=by decide
      exact ⟨by show (1:Int)<=5;decide,by show (5:Int)<=5;decide,λ h=>absurd h (by show ¬ (5:Int)=2;decide),λ _=>hall s (eD hf).1⟩
theorem tG {l:List UInt8}:∀ (k p:Nat) (T:List al),fm l k p=(T,none)->l.length-p<k->∃ T',T=T'++[(6,l.length,[],0)]/\∀ t ∈ T',uf t
 | 0,_,_,_,h=>by omega
 |k+1,p,T,hr,hk=>by
  unfold fm at hr;split at hr
  ·rename_i hq
   cases hv:cK l (bM l p) with
   | inr e=>rw [hv] at hr;injection hr with _ h2;cases h2
   |inl r =>
    obtain ⟨kd,t,n,m⟩:=r;rw [hv] at hr;simp only at hr;injection hr with h1 h2
    have hm:=iT hq hv;have hg:=iJ l p;obtain ⟨T',e,h3⟩:=tG k m (fm l k m).1 (by rw [← h2]) (by omega);refine ⟨(kd,bM l p,t,n)::T',by rw [← h1,e];rfl,λ x hx=>?_⟩;rcases List.mem_cons.1 hx with rfl | hx
    ·exact vk hv _
    ·exact h3 x hx
  ·injection hr with h1 _
   exact ⟨[],h1.symm,λ t h=>by cases h⟩
theorem WT.of {T':List al} {n:Nat} (h:∀ t ∈ T',uf t):WT (T'++[(6,n,[],0)]):=by
 have hlt:∀ p,p<T'.length->∃ t,(T'++[((6:Int),n,([]:List UInt8),(0:Int))])[p]? = some t/\uf t:=λ p hp=>by
  rw [List.getElem?_append_left hp];exact ⟨_,List.getElem?_eq_getElem hp,h _ (List.getElem_mem hp)⟩
 have hge:∀ p,T'.length<=p->tkK (T'++[((6:Int),n,([]:List UInt8),(0:Int))]) p=6:=λ p hp=>by
  unfold tkK;rcases Nat.eq_or_lt_of_le hp with rfl | hp
  ·simp
  ·rw [List.getElem?_eq_none (by simp;omega)]
 refine ⟨⟨T'.length,by simp,hge _ (Nat.le_refl _)⟩,λ p hp=>?_,λ p hk=>?_,λ p hk=>?_,λ p=>?_⟩
 ·obtain ⟨t,h1,h2⟩:=hlt p (by simp at hp;omega);unfold tkK;rw [h1];have:=h2.2.1;show t.1≠6;omega
 ·rcases Nat.lt_or_ge p T'.length with hp | hp
  ·obtain ⟨t,h1,h2⟩:=hlt p hp;unfold tkK at hk;rw [h1] at hk;unfold tkT;rw [h1];exact h2.2.2.1 hk
  ·rw [hge p hp] at hk;omega
 ·rcases Nat.lt_or_ge p T'.length with hp | hp
  ·obtain ⟨t,h1,h2⟩:=hlt p hp;unfold tkK at hk;rw [h1] at hk;unfold tkT;rw [h1];exact h2.2.2.2 hk
  ·rw [hge p hp] at hk;omega
 ·rcases Nat.lt_or_ge p T'.length with hp | hp
  ·obtain ⟨t,h1,h2⟩:=hlt p hp;unfold tkK;rw [h1];exact ⟨h2.1,by have:=h2.2.1;show t.1<=6;omega⟩
  ·rw [hge p hp];omega
def cB (l:List UInt8):List SJ × Int × Int :=
 if (fD l).2.2≠0 then ([],(fD l).2.1,(fD l).2.2)
 else match fZ (fD l).1 with
  | .bad p=>([],(tkA (fD l).1 p:Nat),330)
  | .ok b _=>if ff b=true then (b,0,0) else ([],0,331)
end
section
open Go.RowKit
attribute [local go_sem] ab ae af ac
section
variable {P:Program} (w:World)
end
section
variable {w w':World} {g:Nat} {row row':Value} {n n':Nat} {out out':List UInt8} {num num':Bool}
end
section
variable {w W W':World} {g:Nat} {row0 row row':Value} {st st':List UInt8 × Bool} {bx bo:Nat} {X O:Array Value} {A:Option Addr} {css:List (List Value)} {kids:List EJ}
end
end
section
end
section
open Go.RowKit
attribute [local go_sem] ab ae af ac
end
section
open Go.RowKit
end
section
open Go.RowKit Go.Shelf
attribute [local go_sem] ab ae af ac
theorem tO (x:SJ):1<=dv x:=by cases x;unfold dv;omega
end
section
open Go.RowKit
attribute [local go_sem] ab ae af ac
section
variable {w W W':World} {base:Nat} {row:Value} {l m:List (List UInt8)}
end
section
variable {w W W':World} {t:TypeId} {X:Array Value}
end
theorem vI (x:EJ) (cs:List Value) (w:World) (hx:ER w TT cs x) (hc:cG x):Calls Tryz.prog 76 #[.agg cs.toArray] w (cP (decide (iq x)) w):=by
 obtain ⟨d,hd⟩:∃ d:Nat,dpR 13 x=d:=⟨_,rfl⟩
 have HDP:=aW (λ (W:World) (h:Below w.heap.size w W)=>show Calls Tryz.prog 116 #[.agg cs.toArray,Zi Zq 13] W (DpS (d:Nat) W) by rw [← hd];exact xP 13 x cs 13 W rfl (Nat.le_refl _) (hx.bel h) hc);have HMY:=aW (show (1<=d/\d<=12) ↔ iq x by rw [← hd];exact sj x);obtain ⟨g,hg⟩:∃ g,decide (iq x)=g:=⟨_,rfl⟩
 have hgd:g=decide (1<=d/\d<=12):=by rw [← hg,decide_eq_decide];exact HMY.out.symm
 rw [hg];obtain ⟨k,k1,n1,s1,A1,na1,ca1,B1,nb1,cb1,s,A,nr,ca,rfl⟩:=hx.form;have HH0:=aW ((aH.nil w).push 45 #[Zi Zq k,Zi Zq k1,Zi Zq n1,Zt s1,Zs A1 na1 ca1,Zs B1 nb1 cb1,Zt s,Zs A nr ca] (g:=w.heap.size) rfl);clear hx hc hd hg HMY;obtain ⟨c0,f0,l0⟩:=HH0.out.b0.rules;go_enter Tryz.func76,Tryz.ntmps76;go_wp2_with fail;refine (HDP.out _ HH0.out.1).mono ?_;rintro e w1 ⟨rfl,hb1⟩;have HH1:=aW (HH0.out.keep hb1);clear hb1 c0 f0 l0;by_cases h1:1<=d
 ·have e1:decide ((1:Int)<=(d:Int))=true:=decide_eq_true (by omega);have e1':(1:Int)<=(d:Int):=by omega
  by_cases h2:d<=12
  ·have e2:decide ((d:Int)<=12)=true:=decide_eq_true (by omega);have e2':(d:Int)<=12:=by omega
   obtain rfl:g=true:=by rw [hgd];exact decide_eq_true ⟨h1,h2⟩
   clear hgd;go_wp2;go_ret;exact ⟨rfl,HH1.out.1⟩
  ·have e2:decide ((d:Int)<=12)=false:=decide_eq_false (by omega);have e2':¬ (d:Int)<=12:=by omega
   obtain rfl:g=false:=by rw [hgd];exact decide_eq_false (by omega)
   clear hgd;go_wp2;go_ret;exact ⟨rfl,HH1.out.1⟩
 ·have e1:decide ((1:Int)<=(d:Int))=false:=decide_eq_false (by omega);have e1':¬ (1:Int)<=(d:Int):=by omega
  obtain rfl:g=false:=by rw [hgd];exact decide_eq_false (by omega)
  clear hgd;go_wp2;go_ret;exact ⟨rfl,HH1.out.1⟩
theorem wU (x:EJ) (cs:List Value) (w:World) (hx:ER w TT cs x):Calls Tryz.prog 77 #[.agg cs.toArray] w (cP (dD x) w):=by
 obtain ⟨k,v,s,kids⟩:=x;obtain ⟨k1,n1,s1,A1,na1,ca1,B1,nb1,cb1,A,ca,css0,rfl,hv,_⟩:=hx.out;have HZE:=aW (λ (W:World) (h:Below w.heap.size w W)=>tu v _ TT W (hv.bel h));obtain ⟨nr,hnr⟩:∃ q,kids.length=q:=⟨_,rfl⟩
 obtain ⟨g,hg⟩:∃ g,dD (.mk k v s kids)=g:=⟨_,rfl⟩
 have hgv:g=(decide (k=0/\s=[]/\nr=0) && dz v):=by rw [← hg,dD,hnr]
 rw [hg,hnr];clear hx hv hg hnr;obtain ⟨z,hz⟩:∃ z,dz v=z:=⟨_,rfl⟩
 rw [hz] at HZE hgv;clear hz;by_cases h1:k=0;rotate_left
 ·have e1:(k == 0)=false:=by simp [h1]
  obtain rfl:g=false:=by rw [hgv,decide_eq_false (λ h=>h1 h.1)];rfl
  have HH0:=aW ((aH.nil w).push 45 #[Zi Zq k,Zi Zq k1,Zi Zq n1,Zt s1,Zs A1 na1 ca1,Zs B1 nb1 cb1,Zt ⟨s.toArray⟩,Zs A nr ca] (g:=w.heap.size) rfl);obtain ⟨c0,f0,l0⟩:=HH0.out.b0.rules;clear h1 hgv;go_enter Tryz.func77,Tryz.ntmps77;go_wp2;go_ret;exact ⟨rfl,HH0.out.1⟩
 subst h1;by_cases h2:s=[];rotate_left
 ·have hse:s.isEmpty=false:=by simpa using h2
  obtain rfl:g=false:=by rw [hgv,decide_eq_false (λ h=>h2 h.2.1)];rfl
  have HH0:=aW ((aH.nil w).push 45 #[Zi Zq 0,Zi Zq k1,Zi Zq n1,Zt s1,Zs A1 na1 ca1,Zs B1 nb1 cb1,Zt ⟨s.toArray⟩,Zs A nr ca] (g:=w.heap.size) rfl);obtain ⟨c0,f0,l0⟩:=HH0.out.b0.rules;clear hgv;go_enter Tryz.func77,Tryz.ntmps77;go_wp2;go_ret;exact ⟨rfl,HH0.out.1⟩
 subst h2;by_cases h3:nr=0;rotate_left
 ·have e3:((nr:Int) == 0)=false:=by simp;omega
  obtain rfl:g=false:=by rw [hgv,decide_eq_false (λ h=>h3 h.2.2)];rfl
  have HH0:=aW ((aH.nil w).push 45 #[Zi Zq 0,Zi Zq k1,Zi Zq n1,Zt s1,Zs A1 na1 ca1,Zs B1 nb1 cb1,Zt ⟨([]:List UInt8).toArray⟩,Zs A nr ca] (g:=w.heap.size) rfl);obtain ⟨c0,f0,l0⟩:=HH0.out.b0.rules;clear hgv;go_enter Tryz.func77,Tryz.ntmps77;go_wp2;go_ret;exact ⟨rfl,HH0.out.1⟩
 subst h3;obtain rfl:g=z:=by rw [hgv,decide_eq_true ⟨rfl,rfl,rfl⟩];rfl
 have HH0:=aW ((aH.nil w).push 45 #[Zi Zq 0,Zi Zq k1,Zi Zq n1,Zt s1,Zs A1 na1 ca1,Zs B1 nb1 cb1,Zt ⟨([]:List UInt8).toArray⟩,Zs A 0 ca] (g:=w.heap.size) rfl);obtain ⟨c0,f0,l0⟩:=HH0.out.b0.rules;clear hgv;go_enter Tryz.func77,Tryz.ntmps77;go_wp2_with fail;refine (HZE.out _ HH0.out.1).mono ?_;rintro e w1 ⟨rfl,hb1⟩;have HH1:=aW (HH0.out.keep hb1);clear hb1 c0 f0 l0;go_wp2;go_ret;exact ⟨rfl,HH1.out.1⟩
end
section
open Go.RowKit Go.Shelf
attribute [local go_sem] ab ae af ac
end
end Go.Proofs.YtgmnmnnoahdjnaaGreatDoor
