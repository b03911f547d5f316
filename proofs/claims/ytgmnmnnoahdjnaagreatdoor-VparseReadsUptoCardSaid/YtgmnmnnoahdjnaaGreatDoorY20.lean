import Derived.Test.YtgmnmnnoahdjnaaGreatDoorY18
open Go.Value renaming int → Zi, slice → Zs, string → Zt, pointer → Zp
open Go.IntKind renaming i64 → Zq
set_option maxRecDepth 100000
set_option maxHeartbeats 16000000
set_option linter.unusedVariables false
set_option linter.unusedSimpArgs false
namespace Go.Proofs.YtgmnmnnoahdjnaaGreatDoor
section
open Go.RowKit
attribute [local go_sem] aa ac ae ab
theorem fq {W:World} {F:Nat->Prop} {css:List (List Value)} {xs:List EJ} {A:Option Addr} (h:ERs W F css xs) (hr:RdF W F A css.flatten) {i:Nat} {x:EJ} (hx:xs[i]? = some x) :
  ∃ (b o:Nat) (k k1 n1:Int) (s1:ByteArray) (A1:Option Addr) (na1 ca1:Nat) (B1:Option Addr) (nb1 cb1:Nat) (s:ByteArray) (A2:Option Addr) (n2 ca2:Nat),A=some ⟨b,o,none⟩/\b<W.heap.size /\
   ER W F [Zi Zq k,Zi Zq k1,Zi Zq n1,Zt s1,Zs A1 na1 ca1,Zs B1 nb1 cb1,Zt s,Zs A2 n2 ca2] x /\
   ∀ W',Below W.heap.size W W'->W'.cell? ⟨b,o+i*8,none⟩=some (Zi Zq k)/\W'.cell? ⟨b,o+i*8+1,none⟩=some (Zi Zq k1)/\W'.cell? ⟨b,o+i*8+2,none⟩=some (Zi Zq n1)/\W'.cell? ⟨b,o+i*8+3,none⟩=some (Zt s1) /\
    W'.cell? ⟨b,o+i*8+4,none⟩=some (Zs A1 na1 ca1)/\W'.cell? ⟨b,o+i*8+5,none⟩=some (Zs B1 nb1 cb1)/\W'.cell? ⟨b,o+i*8+6,none⟩=some (Zt s)/\W'.cell? ⟨b,o+i*8+7,none⟩=some (Zs A2 n2 ca2):=by
 obtain ⟨b,o,c,rfl,hb,_,hc,hv,hz⟩:=h.cell (λ c x h=>h.len) (by decide) hr hx;obtain ⟨k,k1,n1,s1,A1,na1,ca1,B1,nb1,cb1,s,A2,n2,ca2,rfl⟩:=hv.form;refine ⟨b,o,k,k1,n1,s1,A1,na1,ca1,B1,nb1,cb1,s,A2,n2,ca2,rfl,hb,hv,λ W' hW=>?_⟩;have z:=λ (j:Nat) u (hj:j<8) hu=>(hW.cell (p:=⟨b,o+(i*8+j),none⟩) hb).trans (hz j u hj hu)
 exact ⟨z 0 _ (by decide) rfl,z 1 _ (by decide) rfl,z 2 _ (by decide) rfl,z 3 _ (by decide) rfl,z 4 _ (by decide) rfl,z 5 _ (by decide) rfl,z 6 _ (by decide) rfl,z 7 _ (by decide) rfl⟩
mutual
/-- what came in: an expression all parts of which are of a size -/
def cj:EJ->Prop | .mk k v s kids=>iw k/\dc v/\s.length<=4194304/\kids.length<=4194304/\kE kids
def kE:List EJ->Prop | []=>True | x::r=>cj x/\kE r
end
theorem bU:∀ {xs:List EJ},kE xs ↔ ∀ x ∈ xs,cj x
 | []=>by simp [kE]
 | x::r=>by simp [kE,bU (xs:=r)]
theorem xV (x:EJ) (cs:List Value) (F:Nat->Prop) (w:World) (hx:ER w F cs x) (hc:cj x):Calls Tryz.prog 80 #[.agg cs.toArray] w λ e w'=>e=.returned (.bool (dN x))/\Below w.heap.size w w':=by
 obtain ⟨k,v,s,kids⟩:=x;have HX:=aW (λ (W:World) (h:Below w.heap.size w W)=>hx.bel h);obtain ⟨k1,n1,s1,A1,na1,ca1,B1,nb1,cb1,A,ca,css,rfl,hv,h1,h2,h3,h4⟩:=hx.out;unfold cj at hc;obtain ⟨_,hcv,_,hck,_⟩:=hc;have HZ:=aW (λ (W:World) (h:Below w.heap.size w W)=>uz v _ F W (hv.bel h) hcv);obtain ⟨nk,hnk⟩:∃ q,kids.length=q:=⟨_,rfl⟩
 obtain ⟨z,hz⟩:∃ z,dj v=z:=⟨_,rfl⟩
 have HR:=aW (show dN (.mk k v s kids)=(decide (k=0/\s=[]/\nk=0) && z) by unfold dN;simp only [hz,hnk]);rw [HR.out,hnk];rw [hnk] at hck;rw [hz] at HZ;have HH0:=aW ((az.nil w).push 45 #[Zi Zq k,Zi Zq k1,Zi Zq n1,Zt s1,Zs A1 na1 ca1,Zs B1 nb1 cb1,Zt ⟨s.toArray⟩,Zs A nk ca] (g:=w.heap.size) rfl);clear hx hv h1 h2 h3 h4 hcv hnk hz HR HX;by_cases h1:k=0
 ·have e1:(k == 0)=true:=by simp [h1]
  have H1:=aW h1;clear h1;by_cases hs:s=[];rotate_left
  ·go_enter Tryz.func80,Tryz.ntmps80;go_wp2;go_ret;exact ⟨am (by simp [hs]),HH0.out.1⟩
  ·subst hs;by_cases h4:nk=0
   ·have e4:((nk:Int) == 0)=true:=by rw [beq_iff_eq];omega
    have H4:=aW h4;clear h4;go_enter Tryz.func80,Tryz.ntmps80;go_wp2_with fail;refine (HZ.out _ HH0.out.1).mono ?_;rintro e w1 ⟨rfl,hb1⟩;have HH1:=aW (HH0.out.keep hb1);clear hb1;go_wp2;go_ret;exact ⟨am (by simp [H1.out,H4.out]),HH1.out.1⟩
   ·have e4:((nk:Int) == 0)=false:=by rw [beq_eq_false_iff_ne];omega
    have H4:=aW h4;clear h4;go_enter Tryz.func80,Tryz.ntmps80;go_wp2;go_ret;exact ⟨am (by simp [H4.out]),HH0.out.1⟩
 ·have e1:(k == 0)=false:=by simp [h1]
  have H1:=aW h1;clear h1;go_enter Tryz.func80,Tryz.ntmps80;go_wp2;go_ret;exact ⟨am (by simp [H1.out]),HH0.out.1⟩
mutual
theorem pB:∀ (r:Nat) (x:EJ),bM r x<=r
 |r,.mk k v s kids=>by
  rw [bM];split
  ·omega
  ·split
   ·have h:=pC (r-1) kids;split
    ·omega
    ·rename_i m hm;have:=h m hm;omega
   ·omega
theorem pC:∀ (r:Nat) (l:List EJ) (m:Nat),cy r l=some m->m<=r
 | r,[],m,h=>by rw [cy] at h;have:=Option.some.inj h;omega
 |r,x::l,m,h=>by
  rw [cy] at h;split at h
  ·cases h
  ·split at h
   ·cases h
   ·rename_i m' hm'
    have h1:=pC r l m' hm';have h2:=pB r x;have:=Option.some.inj h;omega
end
theorem lB {r:Nat} {x:EJ}:∀ {l:List EJ} {m:Nat},cy r l=some m->bM r x≠0->cy r (l++[x])=some (max m (bM r x))
 |[],m,h,hx=>by
  rw [cy] at h;have:m=0:=(Option.some.inj h).symm;subst this;show cy r [x]=_
  rw [cy,if_neg hx,cy];simp
 |y::l,m,h,hx=>by
  show cy r (y::(l++[x]))=_
  rw [cy] at h ⊢;split at h
  ·cases h
  ·rename_i hy
   rw [if_neg hy];cases hd:cy r l with
   | none=>rw [hd] at h;cases h
   |some m' =>
    rw [hd] at h;rw [lB hd hx];have:=Option.some.inj h;simp only [Option.some.injEq];omega
theorem rA {k:Int} (h:5<=k/\k<=15):∃ t l,ofJ k=(t,k,l)/\sh l=(if k<=7 then 1 else 2):=by
 obtain rfl | rfl | rfl | rfl | rfl | rfl | rfl | rfl | rfl | rfl | rfl:k=5∨k=6∨k=7∨k=8∨k=9∨k=10∨k=11∨k=12∨k=13∨k=14∨k=15:=by omega
 all_goals exact ⟨_,_,by rfl,by rfl⟩
theorem ki {k:Int} (h:¬ (5<=k/\k<=15)):ofJ k=fB:=by
 unfold ofJ;refine oO λ j hj=>?_
 have hj:j<11:=hj;obtain rfl | rfl | rfl | rfl | rfl | rfl | rfl | rfl | rfl | rfl | rfl:j=0∨j=1∨j=2∨j=3∨j=4∨j=5∨j=6∨j=7∨j=8∨j=9∨j=10:=by omega
 all_goals (show (_:Int)≠k;simp only [fU,List.getD_cons_zero,List.getD_cons_succ];omega)
def xN (n:Nat) (w:World) (e:Ending) (w':World):Prop:=e=.returned (Zi Zq n)/\Below w.heap.size w w'
def vY (r:Nat):Prop:=∀ (x:EJ) (cs:List Value) (F:Nat->Prop) (w:World),GOE w->ER w F cs x->cj x->Calls Tryz.prog 79 #[.agg cs.toArray,Zi Zq (r:Int)] w (xN (bM r x) w)
theorem xW:vY 0:=by
 intro x cs F w hG hx hc;obtain ⟨k,v,s,kids⟩:=x;obtain ⟨k1,n1,s1,A1,na1,ca1,B1,nb1,cb1,A,ca,css,rfl,_⟩:=hx.out;have HZ:=aW (show bM 0 (.mk k v s kids)=0 by rw [bM,if_pos rfl]);rw [HZ.out];obtain ⟨nk,hnk⟩:∃ q,kids.length=q:=⟨_,rfl⟩
 rw [hnk];have HH0:=aW ((az.nil w).push 45 #[Zi Zq k,Zi Zq k1,Zi Zq n1,Zt s1,Zs A1 na1 ca1,Zs B1 nb1 cb1,Zt ⟨s.toArray⟩,Zs A nk ca] (g:=w.heap.size) rfl);clear hx hc hG hnk;show Calls _ _ #[_,Zi Zq 0] _ _
 go_enter Tryz.func79,Tryz.ntmps79;go_wp2;go_ret;exact ⟨rfl,HH0.out.1⟩
theorem xX (r:Nat) (hr:r<12) (ih:vY r):vY (r+1):=by
 intro x cs F w hG hx hc;obtain ⟨k,v,s,kids⟩:=x;have HX:=aW (λ (W:World) (h:Below w.heap.size w W)=>hx.bel h);obtain ⟨k1,n1,s1,A1,na1,ca1,B1,nb1,cb1,A,ca,css,rfl,hv,h1,h2,h3,h4⟩:=hx.out;have hc':=hc;unfold cj at hc';obtain ⟨_,hcv,hsl,hck,hcl⟩:=hc';have HZ:=aW (λ (W:World) (h:Below w.heap.size w W)=>uz v _ F W (hv.bel h) hcv);have HL:=aW (λ (W:World) (h:Below w.heap.size w W)=>uw v _ F W (hG.keep h) (hv.bel h) hcv);have HKD:=aW (And.intro h1 (And.intro h4 (bU.1 hcl)));obtain ⟨nk,hnk⟩:∃ q,kids.length=q:=⟨_,rfl⟩
 have HNK:=aW hnk;obtain ⟨ok,hok⟩:∃ z,okX k v s nk=z:=⟨_,rfl⟩
 have HOK:=aW hok;have HG:=aW hG;rw [hnk] at hck ⊢;have HH0:=aW ((az.nil w).push 45 #[Zi Zq k,Zi Zq k1,Zi Zq n1,Zt s1,Zs A1 na1 ca1,Zs B1 nb1 cb1,Zt ⟨s.toArray⟩,Zs A nk ca] (g:=w.heap.size) rfl);obtain ⟨R,hR⟩:∃ R:Int,((r+1:Nat):Int)=R:=⟨_,rfl⟩
 have hR0:(R == 0)=false:=by rw [beq_eq_false_iff_ne];omega
 have HR:=aW hR;have HDE:=aW (show bM (r+1) (.mk k v s kids)=(if ok=true then (match cy r kids with | none=>0 | some m=>m+1) else 0) by rw [bM,if_neg (by omega),hnk,hok];rfl);obtain ⟨D,hD⟩:∃ D,bM (r+1) (.mk k v s kids)=D:=⟨_,rfl⟩
 rw [hD] at HDE ⊢;have hsub:IntKind.i64.wrap (R-1)=(r:Int):=by rw [IntWalk.i64_in _ (by omega)];omega
 have HSUB:=aW hsub;rw [hR];clear hD hsub;obtain ⟨⟨ot,oa,ol⟩,hof⟩:∃ o,ofJ k=o:=⟨_,rfl⟩
 have HOF:=aW (λ W (h:Below w.heap.size w W)=>eOf k W (hG.keep h));unfold OfP at HOF;rw [hof] at HOF;unfold cL at HOF;simp only at HOF;have HOO:=aW hof;clear hG hx hc hv h1 h2 h3 h4 hcv hcl hnk hok hR hof;obtain ⟨c0,f0,l0⟩:=HH0.out.b0.rules;go_enter Tryz.func79,Tryz.ntmps79;go_wp2_with fail;refine (HOF.out _ HH0.out.1).mono ?_;rintro e w1 ⟨rfl,hb1⟩;have HH1:=aW ((HH0.out.keep hb1).push 154 #[Zt ⟨ot.toArray⟩,Zi Zq oa,Zi Zq ol] (g:=w1.heap.size) rfl);clear hb1 c0 f0 l0 HH0;go_upto_block 0 with fail;go_cut [5] (λ s5 wx=>s5=.bool ok/\Hid (az [(w1.heap.size,154,#[Zt ⟨ot.toArray⟩,Zi Zq oa,Zi Zq ol]),(w.heap.size,45,#[Zi Zq k,Zi Zq k1,Zi Zq n1,Zt s1,Zs A1 na1 ca1,Zs B1 nb1 cb1,Zt ⟨s.toArray⟩,Zs A nk ca])] w wx))
 case first =>
  obtain ⟨c1,f1,l1⟩:=HH1.out.b1.rules;obtain ⟨c0,f0,l0⟩:=HH1.out.b0.rules;by_cases hk1:k=1
  ·have ek1:(k == 1)=true:=by simp [hk1]
   have HK1:=aW hk1;clear hk1;obtain ⟨b,hb⟩:∃ b,ee v=b:=⟨_,rfl⟩
   rw [hb] at HL;have HB:=aW hb;clear hb;go_wp2_with fail;refine (HL.out _ HH1.out.1).mono ?_;rintro e w2 ⟨rfl,hb2⟩;have HH2:=aW (HH1.out.keep hb2);clear hb2 c0 f0 l0 c1 f1 l1;obtain ⟨c1,f1,l1⟩:=HH2.out.b1.rules;obtain ⟨c0,f0,l0⟩:=HH2.out.b0.rules;cases b
   ·go_wp2;go_meet
    case rel=>exact ⟨by rw [← HOK.out];unfold okX;simp [HK1.out,HB.out],aW HH2.out⟩
   ·by_cases hs:s=[]
    ·subst hs;by_cases hn:nk=0
     ·have en:((nk:Int) == 0)=true:=by rw [beq_iff_eq];omega
      have HN:=aW hn;clear hn;go_wp2;go_meet
      case rel=>exact ⟨by rw [← HOK.out];unfold okX;simp [HK1.out,HB.out,HN.out],aW HH2.out⟩
     ·have en:((nk:Int) == 0)=false:=by rw [beq_eq_false_iff_ne];omega
      have HN:=aW hn;clear hn;go_wp2;go_meet
      case rel=>exact ⟨by rw [← HOK.out];unfold okX;simp [HK1.out,HB.out,HN.out],aW HH2.out⟩
    ·go_wp2;go_meet
     case rel=>exact ⟨by rw [← HOK.out];unfold okX;simp [HK1.out,HB.out,hs],aW HH2.out⟩
  ·have ek1:(k == 1)=false:=by simp [hk1]
   have HK1:=aW hk1;clear hk1;obtain ⟨zb,hzb⟩:∃ b,dj v=b:=⟨_,rfl⟩
   rw [hzb] at HZ;have HZB:=aW hzb;clear hzb;go_wp2_with fail;refine (HZ.out _ HH1.out.1).mono ?_;rintro e w2 ⟨rfl,hb2⟩;have HH2:=aW (HH1.out.keep hb2);clear hb2 c0 f0 l0 c1 f1 l1;obtain ⟨c1,f1,l1⟩:=HH2.out.b1.rules;obtain ⟨c0,f0,l0⟩:=HH2.out.b0.rules;cases zb
   ·go_wp2;go_meet
    case rel=>exact ⟨by rw [← HOK.out];unfold okX;simp [HK1.out,HZB.out],aW HH2.out⟩
   ·by_cases hk2:k=2
    ·have ek2:(k == 2)=true:=by simp [hk2]
     have HK2:=aW hk2;clear hk2;obtain ⟨b,hb⟩:∃ b,dB s=b:=⟨_,rfl⟩
     have HNM:=aW (λ W=>ia ⟨s.toArray⟩ W);rw [show bc ⟨s.toArray⟩=b from hb] at HNM;have HB:=aW hb;clear hb;go_wp2_with fail;refine (HNM.out _).mono ?_;rintro e w3 ⟨rfl,hb3⟩;have HH3:=aW (HH2.out.keep hb3);clear hb3 c0 f0 l0 c1 f1 l1;obtain ⟨c1,f1,l1⟩:=HH3.out.b1.rules;cases b
     ·go_wp2;go_meet
      case rel=>exact ⟨by rw [← HOK.out];unfold okX;simp [HK1.out,HZB.out,HK2.out,HB.out],aW HH3.out⟩
     ·by_cases hn:nk=0
      ·have en:((nk:Int) == 0)=true:=by rw [beq_iff_eq];omega
       have HN:=aW hn;clear hn;go_wp2;go_meet
       case rel=>exact ⟨by rw [← HOK.out];unfold okX;simp [HK1.out,HZB.out,HK2.out,HB.out,HN.out],aW HH3.out⟩
      ·have en:((nk:Int) == 0)=false:=by rw [beq_eq_false_iff_ne];omega
       have HN:=aW hn;clear hn;go_wp2;go_meet
       case rel=>exact ⟨by rw [← HOK.out];unfold okX;simp [HK1.out,HZB.out,HK2.out,HB.out,HN.out],aW HH3.out⟩
    ·have ek2:(k == 2)=false:=by simp [hk2]
     have HK2:=aW hk2;clear hk2;by_cases hk3:k=3
     ·have ek3:(k == 3)=true:=by simp [hk3]
      have HK3:=aW hk3;clear hk3;obtain ⟨b,hb⟩:∃ b,dB s=b:=⟨_,rfl⟩
      have HNM:=aW (λ W=>ia ⟨s.toArray⟩ W);rw [show bc ⟨s.toArray⟩=b from hb] at HNM;have HB:=aW hb;clear hb;go_wp2_with fail;refine (HNM.out _).mono ?_;rintro e w3 ⟨rfl,hb3⟩;have HH3:=aW (HH2.out.keep hb3);clear hb3 c0 f0 l0 c1 f1 l1;obtain ⟨c1,f1,l1⟩:=HH3.out.b1.rules;cases b
      ·go_wp2;go_meet
       case rel=>exact ⟨by rw [← HOK.out];unfold okX;simp [HK1.out,HZB.out,HK2.out,HK3.out,HB.out],aW HH3.out⟩
      ·by_cases hn:nk=1
       ·have en:((nk:Int) == 1)=true:=by rw [beq_iff_eq];omega
        have HN:=aW hn;clear hn;go_wp2;go_meet
        case rel=>exact ⟨by rw [← HOK.out];unfold okX;simp [HK1.out,HZB.out,HK2.out,HK3.out,HB.out,HN.out],aW HH3.out⟩
       ·have en:((nk:Int) == 1)=false:=by rw [beq_eq_false_iff_ne];omega
        have HN:=aW hn;clear hn;go_wp2;go_meet
        case rel=>exact ⟨by rw [← HOK.out];unfold okX;simp [HK1.out,HZB.out,HK2.out,HK3.out,HB.out,HN.out],aW HH3.out⟩
     ·have ek3:(k == 3)=false:=by simp [hk3]
      have HK3:=aW hk3;clear hk3;by_cases hk4:k=4
      ·have ek4:(k == 4)=true:=by simp [hk4]
       have HK4:=aW hk4;clear hk4;by_cases hs:s=[]
       ·subst hs;go_wp2;go_meet
        case rel=>exact ⟨by rw [← HOK.out];unfold okX;simp [HK1.out,HZB.out,HK2.out,HK3.out,HK4.out],aW HH2.out⟩
       ·go_wp2;go_meet
        case rel=>exact ⟨by rw [← HOK.out];unfold okX;simp [HK1.out,HZB.out,HK2.out,HK3.out,HK4.out,hs],aW HH2.out⟩
      ·have ek4:(k == 4)=false:=by simp [hk4]
       have HK4:=aW hk4;clear hk4;by_cases hop:5<=k/\k<=15
       ·obtain ⟨t',l',ho,hkk⟩:=rA hop;have hoo:=HOO.out;rw [ho] at hoo;simp only [Prod.mk.injEq] at hoo;obtain ⟨rfl,rfl,rfl⟩:=hoo;have HOP:=aW hop;have HKK:=aW hkk;have ea:(k == 0)=false:=by rw [beq_eq_false_iff_ne];omega
        have hg:=HG.out.keep HH2.out.1;have hg0:=hg.c0;have hg1:=hg.c1;have hg2:=hg.c2;clear hg hop hkk ho;by_cases hs:s=[]
        ·subst hs;obtain ⟨kk,hkk⟩:∃ q,sh l'=q:=⟨_,rfl⟩
         have HKO:=aW (λ W=>zk ⟨t'.toArray⟩ k l' W);rw [hkk] at HKO;have HKE:=aW hkk;clear hkk;go_wp2;go_region_held3 (λ w'=>w'.cell? ⟨w.heap.size,6,none⟩=some (Zt ⟨#[]⟩)/\w'.cell? ⟨w.heap.size,7,none⟩=some (Zs A nk ca)/\w'.cell? ⟨w1.heap.size,0,none⟩=some (Zt ⟨t'.toArray⟩)/\w'.cell? ⟨w1.heap.size,1,none⟩=some (Zi Zq k)/\w'.cell? ⟨w1.heap.size,2,none⟩=some (Zi Zq l')) (go_keep) ((go_at_call 121;refine (HKO.out _).mono ?_;rintro e w3 ⟨rfl,hb3⟩;have hx3:=HH2.out.drew.keep hb3;have d6:=hx3.b1.cell 6;have d7:=hx3.b1.cell 7;have d0:=hx3.b0.cell 0;have d1:=hx3.b0.cell 1;have d2:=hx3.b0.cell 2;simp at d6 d7 d0 d1 d2));go_wp2;go_meet
         case rel =>
          refine ⟨?_,aW hx3⟩;have h5:=HOP.out;rw [← HOK.out];congr 1;unfold okX;rw [if_neg HK1.out,HZB.out,if_neg (by simp),if_neg HK2.out,if_neg HK3.out,if_neg HK4.out];rw [← HKE.out,HKK.out];rw [Bool.eq_iff_iff];by_cases h7:k<=7
          ·rw [if_pos h7,if_pos ⟨h5.1,h7⟩];simp;omega
          ·rw [if_neg h7,if_neg (by omega),if_pos ⟨by omega,h5.2⟩];simp;omega
        ·have HS:=aW hs;go_wp2;go_quiet (fail);go_wp2;go_meet
         case rel =>
          refine ⟨?_,aW (HH2.out.drewN _)⟩;have h5:=HOP.out;rw [← HOK.out];unfold okX;rw [if_neg HK1.out,HZB.out,if_neg (by simp),if_neg HK2.out,if_neg HK3.out,if_neg HK4.out];by_cases h7:k<=7
          ·rw [if_pos ⟨h5.1,h7⟩];simp [HS.out]
          ·rw [if_neg (by omega),if_pos ⟨by omega,h5.2⟩];simp [HS.out]
       ·have hoo:=HOO.out;rw [ki hop] at hoo;unfold fB at hoo;simp only [Prod.mk.injEq] at hoo;obtain ⟨rfl,rfl,rfl⟩:=hoo;have hg:=HG.out.keep HH2.out.1;have hg0:=hg.c0;have hg1:=hg.c1;have hg2:=hg.c2;clear hg;have HOP:=aW hop;clear hop;go_wp2;go_meet
        case rel=>exact ⟨by rw [← HOK.out];have h:=HOP.out;unfold okX;rw [if_neg HK1.out,HZB.out,if_neg (by simp),if_neg HK2.out,if_neg HK3.out,if_neg HK4.out,if_neg (by omega),if_neg (by omega)],aW HH2.out⟩
 case rest =>
  obtain ⟨rfl,HC⟩:=hcut;cases ok
  ·have HD0:=aW (show D=0 by rw [HDE.out];rfl);go_wp2;go_ret;exact ⟨by rw [HD0.out];rfl,HC.out.1⟩
  ·have HD1:=aW (show D=(match cy r kids with | none=>0 | some m=>m+1) by rw [HDE.out];rfl);obtain ⟨c1,f1,l1⟩:=HC.out.b1.rules;go_wp2;clear c1 f1 l1;go_loopw [7,92] (λ s7 s92 wr => ∃ i m:Nat,i<=nk/\m<=r/\s92=Zi Zq (i:Int)/\s7=Zi Zq (m:Int)/\Hid (Below w.heap.size w wr)/\Hid (cy r (kids.take i)=some m)) (λ _ s92 _=>nk-(intOf s92).toNat)
   case atStart=>exact ⟨0,0,by omega,by omega,rfl,rfl,aW HC.out.1,aW (by rw [List.take_zero,cy])⟩
   case round =>
    obtain ⟨i,m,hi,hm,rfl,rfl,HB,HM⟩:=hrel;by_cases hin:i<nk
    ·obtain ⟨x,hx⟩:∃ x,kids[i]? = some x:=⟨_,List.getElem?_eq_getElem (by rw [HNK.out];exact hin)⟩
     have hxm:=List.mem_of_getElem? hx;have HCX:=aW (HKD.out.2.2 x hxm);obtain ⟨b,o,k',k1',n1',s1',A1',na1',ca1',B1',nb1',cb1',s',A2',n2',ca2',rfl,hb,hER,hz⟩:=fq HKD.out.1 HKD.out.2.1 hx;obtain ⟨z0,z1,z2,z3,z4,z5,z6,z7⟩:=hz wr HB.out;have HTK:=aW (show kids.take (i+1)=kids.take i++[x] by rw [List.take_add_one,hx];rfl);have HXN:=aW (show bM r x=0->cy r kids=none from λ h0=>by
      cases hd:cy r kids with
      | none=>rfl
      | some q=>exact absurd h0 (iF.1 (by rw [hd];simp) x hxm))
     have HE:=aW (λ (W:World) (h:Below w.heap.size w W)=>ih x _ F W (HG.out.keep h) (hER.bel h) HCX.out);obtain ⟨d,hd⟩:∃ d,bM r x=d:=⟨_,rfl⟩
     have hdr:d<=r:=by rw [← hd];exact pB r x
     unfold xN at HE;rw [hd] at HE HXN;have HDX:=aW hd;have hlb:b<wr.heap.size:=Nat.lt_of_lt_of_le hb HB.out.size;have hs:=HSUB.out;clear hz hER hx hxm hd hb;go_wp2_with fail;refine (HE.out _ (HB.out.alloc HB.out.size _)).mono ?_;rintro e w4 ⟨rfl,hb4⟩;have HB4:=aW (Below.trans (HB.out.alloc HB.out.size _) (hb4.mono (by have:=HB.out.size;simp;omega)));clear hb4 z0 z1 z2 z3 z4 z5 z6 z7;by_cases hd0:d=0
     ·subst hd0;have HD0:=aW (show D=0 by rw [HD1.out,HXN.out rfl]);go_wp2;go_ret;exact ⟨by rw [HD0.out];rfl,HB4.out⟩
     ·have hdn:((d:Int) == 0)=false:=by rw [beq_eq_false_iff_ne];omega
      have HNX:=aW (show cy r (kids.take (i+1))=some (max m d) by rw [HTK.out,lB HM.out (by rw [HDX.out];exact hd0),HDX.out]);have HD0:=aW hd0;clear hd0;by_cases hmd:m<d
      ·have hmi:(m:Int)<(d:Int):=by omega
       have HNX2:=aW (show cy r (kids.take (i+1))=some d by rw [HNX.out,Nat.max_eq_right (by omega)]);go_wp2;go_roundw
       case rel=>exact ⟨i+1,d,by omega,by omega,by go_num,by go_num,HB4,HNX2⟩
       case measure=>simp [intOf];omega
      ·have hmi:¬ (m:Int)<(d:Int):=by omega
       have HNX2:=aW (show cy r (kids.take (i+1))=some m by rw [HNX.out,Nat.max_eq_left (by omega)]);go_wp2;go_roundw
       case rel=>exact ⟨i+1,m,by omega,by omega,by go_num,by go_num,HB4,HNX2⟩
       case measure=>simp [intOf];omega
    ·obtain rfl:i=nk:=by omega
     have HF:=aW (show D=m+1 by
      have h:=HM.out;rw [List.take_of_length_le (Nat.le_of_eq HNK.out)] at h;rw [HD1.out,h])
     go_wp2;go_ret;exact ⟨by rw [HF.out];rfl,HB.out⟩
theorem ur:∀ r,r<=12->vY r
 | 0,_=>xW
 | r+1,h=>xX r (by omega) (ur r (by omega))
end
end Go.Proofs.YtgmnmnnoahdjnaaGreatDoor
