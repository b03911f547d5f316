import Derived.Test.YtgmnmnnoahdjnaaGreatDoorH24
import Derived.Test.YtgmnmnnoahdjnaaGreatDoorH22
import Derived.Test.YtgmnmnnoahdjnaaGreatDoorH23
open Go.Value renaming int → Zi, slice → Zs, string → Zt, pointer → Zp
open Go.IntKind renaming i64 → Zq
set_option maxRecDepth 100000
set_option maxHeartbeats 16000000
set_option linter.unusedVariables false
set_option linter.unusedSimpArgs false
namespace Go.Proofs.YtgmnmnnoahdjnaaGreatDoor
section
open Go.RowKit
attribute [local go_sem] ab ae af ac
theorem gU {W:World} {F:Nat->Prop} {css:List (List Value)} {xs:List EJ} {A:Option Addr} (h:ERs W F css xs) (hr:RdF W F A css.flatten) {i:Nat} {x:EJ} (hx:xs[i]? = some x) :
  ∃ (b o:Nat) (k k1 n1:Int) (s1:ByteArray) (A1:Option Addr) (na1 ca1:Nat) (B1:Option Addr) (nb1 cb1:Nat) (s:ByteArray) (A2:Option Addr) (n2 ca2:Nat),A=some ⟨b,o,none⟩/\b<W.heap.size /\
   ER W F [Zi Zq k,Zi Zq k1,Zi Zq n1,Zt s1,Zs A1 na1 ca1,Zs B1 nb1 cb1,Zt s,Zs A2 n2 ca2] x /\
   ∀ W',Below W.heap.size W W'->W'.cell? ⟨b,o+i*8,none⟩=some (Zi Zq k)/\W'.cell? ⟨b,o+i*8+1,none⟩=some (Zi Zq k1)/\W'.cell? ⟨b,o+i*8+2,none⟩=some (Zi Zq n1)/\W'.cell? ⟨b,o+i*8+3,none⟩=some (Zt s1) /\
    W'.cell? ⟨b,o+i*8+4,none⟩=some (Zs A1 na1 ca1)/\W'.cell? ⟨b,o+i*8+5,none⟩=some (Zs B1 nb1 cb1)/\W'.cell? ⟨b,o+i*8+6,none⟩=some (Zt s)/\W'.cell? ⟨b,o+i*8+7,none⟩=some (Zs A2 n2 ca2):=by
 obtain ⟨b,o,c,rfl,hb,_,hc,hv,hz⟩:=h.cell (λ c x h=>h.len) (by decide) hr hx;obtain ⟨k,k1,n1,s1,A1,na1,ca1,B1,nb1,cb1,s,A2,n2,ca2,rfl⟩:=hv.form;refine ⟨b,o,k,k1,n1,s1,A1,na1,ca1,B1,nb1,cb1,s,A2,n2,ca2,rfl,hb,hv,λ W' hW=>?_⟩;have z:=λ (j:Nat) u (hj:j<8) hu=>(hW.cell (p:=⟨b,o+(i*8+j),none⟩) hb).trans (hz j u hj hu)
 exact ⟨z 0 _ (by decide) rfl,z 1 _ (by decide) rfl,z 2 _ (by decide) rfl,z 3 _ (by decide) rfl,z 4 _ (by decide) rfl,z 5 _ (by decide) rfl,z 6 _ (by decide) rfl,z 7 _ (by decide) rfl⟩
mutual
/-- what came in: an expression all parts of which are of a size -/
def cG:EJ->Prop | .mk k v s kids=>iw k/\cN v/\s.length<=4194304/\kids.length<=4194304/\fH kids
def fH:List EJ->Prop | []=>True | x::r=>cG x/\fH r
end
theorem eV:∀ {xs:List EJ},fH xs ↔ ∀ x ∈ xs,cG x
 | []=>by simp [fH]
 | x::r=>by simp [fH,eV (xs:=r)]
theorem vY (x:EJ) (cs:List Value) (F:Nat->Prop) (w:World) (hx:ER w F cs x) (hc:cG x):Calls Tryz.prog 80 #[.agg cs.toArray] w λ e w'=>e=.returned (.bool (dD x))/\Below w.heap.size w w':=by
 obtain ⟨k,v,s,kids⟩:=x;have HX:=aW (λ (W:World) (h:Below w.heap.size w W)=>hx.bel h);obtain ⟨k1,n1,s1,A1,na1,ca1,B1,nb1,cb1,A,ca,css,rfl,hv,h1,h2,h3,h4⟩:=hx.out;unfold cG at hc;obtain ⟨_,hcv,_,hck,_⟩:=hc;have HZ:=aW (λ (W:World) (h:Below w.heap.size w W)=>sB v _ F W (hv.bel h) hcv);obtain ⟨nk,hnk⟩:∃ q,kids.length=q:=⟨_,rfl⟩
 obtain ⟨z,hz⟩:∃ z,dz v=z:=⟨_,rfl⟩
 have HR:=aW (show dD (.mk k v s kids)=(decide (k=0/\s=[]/\nk=0) && z) by unfold dD;simp only [hz,hnk]);rw [HR.out,hnk];rw [hnk] at hck;rw [hz] at HZ;have HH0:=aW ((aH.nil w).push 45 #[Zi Zq k,Zi Zq k1,Zi Zq n1,Zt s1,Zs A1 na1 ca1,Zs B1 nb1 cb1,Zt ⟨s.toArray⟩,Zs A nk ca] (g:=w.heap.size) rfl);clear hx hv h1 h2 h3 h4 hcv hnk hz HR HX;by_cases h1:k=0
 ·have e1:(k == 0)=true:=by simp [h1]
  have H1:=aW h1;clear h1;by_cases hs:s=[];rotate_left
  ·go_enter Tryz.func80,Tryz.ntmps80;go_wp2;go_ret;exact ⟨ak (by simp [hs]),HH0.out.1⟩
  ·subst hs;by_cases h4:nk=0
   ·have e4:((nk:Int) == 0)=true:=by rw [beq_iff_eq];omega
    have H4:=aW h4;clear h4;go_enter Tryz.func80,Tryz.ntmps80;go_wp2_with fail;refine (HZ.out _ HH0.out.1).mono ?_;rintro e w1 ⟨rfl,hb1⟩;have HH1:=aW (HH0.out.keep hb1);clear hb1;go_wp2;go_ret;exact ⟨ak (by simp [H1.out,H4.out]),HH1.out.1⟩
   ·have e4:((nk:Int) == 0)=false:=by rw [beq_eq_false_iff_ne];omega
    have H4:=aW h4;clear h4;go_enter Tryz.func80,Tryz.ntmps80;go_wp2;go_ret;exact ⟨ak (by simp [H4.out]),HH0.out.1⟩
 ·have e1:(k == 0)=false:=by simp [h1]
  have H1:=aW h1;clear h1;go_enter Tryz.func80,Tryz.ntmps80;go_wp2;go_ret;exact ⟨ak (by simp [H1.out]),HH0.out.1⟩
mutual
theorem nv:∀ (r:Nat) (x:EJ),bY r x<=r
 |r,.mk k v s kids=>by
  rw [bY];split
  ·omega
  ·split
   ·have h:=nw (r-1) kids;split
    ·omega
    ·rename_i m hm;have:=h m hm;omega
   ·omega
theorem nw:∀ (r:Nat) (l:List EJ) (m:Nat),bO r l=some m->m<=r
 | r,[],m,h=>by rw [bO] at h;have:=Option.some.inj h;omega
 |r,x::l,m,h=>by
  rw [bO] at h;split at h
  ·cases h
  ·split at h
   ·cases h
   ·rename_i m' hm'
    have h1:=nw r l m' hm';have h2:=nv r x;have:=Option.some.inj h;omega
end
theorem j6 {r:Nat} {x:EJ}:∀ {l:List EJ} {m:Nat},bO r l=some m->bY r x≠0->bO r (l++[x])=some (max m (bY r x))
 |[],m,h,hx=>by
  rw [bO] at h;have:m=0:=(Option.some.inj h).symm;subst this;show bO r [x]=_
  rw [bO,if_neg hx,bO];simp
 |y::l,m,h,hx=>by
  show bO r (y::(l++[x]))=_
  rw [bO] at h ⊢;split at h
  ·cases h
  ·rename_i hy
   rw [if_neg hy];cases hd:bO r l with
   | none=>rw [hd] at h;cases h
   |some m' =>
    rw [hd] at h;rw [j6 hd hx];have:=Option.some.inj h;simp only [Option.some.injEq];omega
theorem pv {k:Int} (h:5<=k/\k<=15):∃ t l,ofJ k=(t,k,l)/\qo l=(if k<=7 then 1 else 2):=by
 obtain rfl | rfl | rfl | rfl | rfl | rfl | rfl | rfl | rfl | rfl | rfl:k=5∨k=6∨k=7∨k=8∨k=9∨k=10∨k=11∨k=12∨k=13∨k=14∨k=15:=by omega
 all_goals exact ⟨_,_,by rfl,by rfl⟩
theorem wQ {k:Int} (h:¬ (5<=k/\k<=15)):ofJ k=fY:=by
 unfold ofJ;refine mA λ j hj=>?_
 have hj:j<11:=hj;obtain rfl | rfl | rfl | rfl | rfl | rfl | rfl | rfl | rfl | rfl | rfl:j=0∨j=1∨j=2∨j=3∨j=4∨j=5∨j=6∨j=7∨j=8∨j=9∨j=10:=by omega
 all_goals (show (_:Int)≠k;simp only [eJ,List.getD_cons_zero,List.getD_cons_succ];omega)
def vL (n:Nat) (w:World) (e:Ending) (w':World):Prop:=e=.returned (Zi Zq n)/\Below w.heap.size w w'
def ua (r:Nat):Prop:=∀ (x:EJ) (cs:List Value) (F:Nat->Prop) (w:World),GOE w->ER w F cs x->cG x->Calls Tryz.prog 79 #[.agg cs.toArray,Zi Zq (r:Int)] w (vL (bY r x) w)
theorem vZ:ua 0:=by
 intro x cs F w hG hx hc;obtain ⟨k,v,s,kids⟩:=x;obtain ⟨k1,n1,s1,A1,na1,ca1,B1,nb1,cb1,A,ca,css,rfl,_⟩:=hx.out;have HZ:=aW (show bY 0 (.mk k v s kids)=0 by rw [bY,if_pos rfl]);rw [HZ.out];obtain ⟨nk,hnk⟩:∃ q,kids.length=q:=⟨_,rfl⟩
 rw [hnk];have HH0:=aW ((aH.nil w).push 45 #[Zi Zq k,Zi Zq k1,Zi Zq n1,Zt s1,Zs A1 na1 ca1,Zs B1 nb1 cb1,Zt ⟨s.toArray⟩,Zs A nk ca] (g:=w.heap.size) rfl);clear hx hc hG hnk;show Calls _ _ #[_,Zi Zq 0] _ _
 go_enter Tryz.func79,Tryz.ntmps79;go_wp2;go_ret;exact ⟨rfl,HH0.out.1⟩
theorem wa (r:Nat) (hr:r<12) (ih:ua r):ua (r+1):=by
 intro x cs F w hG hx hc;obtain ⟨k,v,s,kids⟩:=x;have HX:=aW (λ (W:World) (h:Below w.heap.size w W)=>hx.bel h);obtain ⟨k1,n1,s1,A1,na1,ca1,B1,nb1,cb1,A,ca,css,rfl,hv,h1,h2,h3,h4⟩:=hx.out;have hc':=hc;unfold cG at hc';obtain ⟨_,hcv,hsl,hck,hcl⟩:=hc';have HZ:=aW (λ (W:World) (h:Below w.heap.size w W)=>sB v _ F W (hv.bel h) hcv);have HL:=aW (λ (W:World) (h:Below w.heap.size w W)=>sy v _ F W (hG.keep h) (hv.bel h) hcv);have HKD:=aW (And.intro h1 (And.intro h4 (eV.1 hcl)));obtain ⟨nk,hnk⟩:∃ q,kids.length=q:=⟨_,rfl⟩
 have HNK:=aW hnk;obtain ⟨ok,hok⟩:∃ z,okX k v s nk=z:=⟨_,rfl⟩
 have HOK:=aW hok;have HG:=aW hG;rw [hnk] at hck ⊢;have HH0:=aW ((aH.nil w).push 45 #[Zi Zq k,Zi Zq k1,Zi Zq n1,Zt s1,Zs A1 na1 ca1,Zs B1 nb1 cb1,Zt ⟨s.toArray⟩,Zs A nk ca] (g:=w.heap.size) rfl);obtain ⟨R,hR⟩:∃ R:Int,((r+1:Nat):Int)=R:=⟨_,rfl⟩
 have hR0:(R == 0)=false:=by rw [beq_eq_false_iff_ne];omega
 have HR:=aW hR;have HDE:=aW (show bY (r+1) (.mk k v s kids)=(if ok=true then (match bO r kids with | none=>0 | some m=>m+1) else 0) by rw [bY,if_neg (by omega),hnk,hok];rfl);obtain ⟨D,hD⟩:∃ D,bY (r+1) (.mk k v s kids)=D:=⟨_,rfl⟩
 rw [hD] at HDE ⊢;have hsub:IntKind.i64.wrap (R-1)=(r:Int):=by rw [IntWalk.i64_in _ (by omega)];omega
 have HSUB:=aW hsub;rw [hR];clear hD hsub;obtain ⟨⟨ot,oa,ol⟩,hof⟩:∃ o,ofJ k=o:=⟨_,rfl⟩
 have HOF:=aW (λ W (h:Below w.heap.size w W)=>eOf k W (hG.keep h));unfold OfP at HOF;rw [hof] at HOF;unfold fx at HOF;simp only at HOF;have HOO:=aW hof;clear hG hx hc hv h1 h2 h3 h4 hcv hcl hnk hok hR hof;obtain ⟨c0,f0,l0⟩:=HH0.out.b0.rules;go_enter Tryz.func79,Tryz.ntmps79;go_wp2_with fail;refine (HOF.out _ HH0.out.1).mono ?_;rintro e w1 ⟨rfl,hb1⟩;have HH1:=aW ((HH0.out.keep hb1).push 154 #[Zt ⟨ot.toArray⟩,Zi Zq oa,Zi Zq ol] (g:=w1.heap.size) rfl);clear hb1 c0 f0 l0 HH0;go_upto_block 0 with fail;go_cut [5] (λ s5 wx=>s5=.bool ok/\Hid (aH [(w1.heap.size,154,#[Zt ⟨ot.toArray⟩,Zi Zq oa,Zi Zq ol]),(w.heap.size,45,#[Zi Zq k,Zi Zq k1,Zi Zq n1,Zt s1,Zs A1 na1 ca1,Zs B1 nb1 cb1,Zt ⟨s.toArray⟩,Zs A nk ca])] w wx))
 case first =>
  obtain ⟨c1,f1,l1⟩:=HH1.out.b1.rules;obtain ⟨c0,f0,l0⟩:=HH1.out.b0.rules;by_cases hk1:k=1
  ·have ek1:(k == 1)=true:=by simp [hk1]
   have HK1:=aW hk1;clear hk1;obtain ⟨b,hb⟩:∃ b,fW v=b:=⟨_,rfl⟩
   rw [hb] at HL;have HB:=aW hb;clear hb;go_wp2_with fail;refine (HL.out _ HH1.out.1).mono ?_;rintro e w2 ⟨rfl,hb2⟩;have HH2:=aW (HH1.out.keep hb2);clear hb2 c0 f0 l0 c1 f1 l1;obtain ⟨c1,f1,l1⟩:=HH2.out.b1.rules;obtain ⟨c0,f0,l0⟩:=HH2.out.b0.rules;cases b
   ·go_wp2;go_meet
    case rel=>exact ⟨by rw [← HOK.out];unfold okX;simp [HK1.out,HB.out],aW HH2.out⟩
   ·by_cases hs:s=[]
    ·subst hs;by_cases hn:nk=0
     ·have en:((nk:Int) == 0)=true:=by rw [beq_iff_eq];omega
      have HN:=aW hn;clear hn;go_wp2;go_meet
      case rel=>exact ⟨by rw [← HOK.out];unfold okX;simp [HK1.out,HB.out,HN.out],aW HH2.out⟩
     ·have en:((nk:Int) == 0)=false:=by rw [beq_eq_false_iff_ne];omega
      have HN:=aW hn;clear hn;go_wp2;go_meet
      case rel=>exact ⟨by rw [← HOK.out];unfold okX;simp [HK1.out,HB.out,HN.out],aW HH2.out⟩
    ·go_wp2;go_meet
     case rel=>exact ⟨by rw [← HOK.out];unfold okX;simp [HK1.out,HB.out,hs],aW HH2.out⟩
  ·have ek1:(k == 1)=false:=by simp [hk1]
   have HK1:=aW hk1;clear hk1;obtain ⟨zb,hzb⟩:∃ b,dz v=b:=⟨_,rfl⟩
   rw [hzb] at HZ;have HZB:=aW hzb;clear hzb;go_wp2_with fail;refine (HZ.out _ HH1.out.1).mono ?_;rintro e w2 ⟨rfl,hb2⟩;have HH2:=aW (HH1.out.keep hb2);clear hb2 c0 f0 l0 c1 f1 l1;obtain ⟨c1,f1,l1⟩:=HH2.out.b1.rules;obtain ⟨c0,f0,l0⟩:=HH2.out.b0.rules;cases zb
   ·go_wp2;go_meet
    case rel=>exact ⟨by rw [← HOK.out];unfold okX;simp [HK1.out,HZB.out],aW HH2.out⟩
   ·by_cases hk2:k=2
    ·have ek2:(k == 2)=true:=by simp [hk2]
     have HK2:=aW hk2;clear hk2;obtain ⟨b,hb⟩:∃ b,eH s=b:=⟨_,rfl⟩
     have HNM:=aW (λ W=>fG ⟨s.toArray⟩ W);rw [show bm ⟨s.toArray⟩=b from hb] at HNM;have HB:=aW hb;clear hb;go_wp2_with fail;refine (HNM.out _).mono ?_;rintro e w3 ⟨rfl,hb3⟩;have HH3:=aW (HH2.out.keep hb3);clear hb3 c0 f0 l0 c1 f1 l1;obtain ⟨c1,f1,l1⟩:=HH3.out.b1.rules;cases b
     ·go_wp2;go_meet
      case rel=>exact ⟨by rw [← HOK.out];unfold okX;simp [HK1.out,HZB.out,HK2.out,HB.out],aW HH3.out⟩
     ·by_cases hn:nk=0
      ·have en:((nk:Int) == 0)=true:=by rw [beq_iff_eq];omega
       have HN:=aW hn;clear hn;go_wp2;go_meet
       case rel=>exact ⟨by rw [← HOK.out];unfold okX;simp [HK1.out,HZB.out,HK2.out,HB.out,HN.out],aW HH3.out⟩
      ·have en:((nk:Int) == 0)=false:=by rw [beq_eq_false_iff_ne];omega
       have HN:=aW hn;clear hn;go_wp2;go_meet
       case rel=>exact ⟨by rw [← HOK.out];unfold okX;simp [HK1.out,HZB.out,HK2.out,HB.out,HN.out],aW HH3.out⟩
    ·have ek2:(k == 2)=false:=by simp [hk2]
     have HK2:=aW hk2;clear hk2;by_cases hk3:k=3
     ·have ek3:(k == 3)=true:=by simp [hk3]
      have HK3:=aW hk3;clear hk3;obtain ⟨b,hb⟩:∃ b,eH s=b:=⟨_,rfl⟩
      have HNM:=aW (λ W=>fG ⟨s.toArray⟩ W);rw [show bm ⟨s.toArray⟩=b from hb] at HNM;have HB:=aW hb;clear hb;go_wp2_with fail;refine (HNM.out _).mono ?_;rintro e w3 ⟨rfl,hb3⟩;have HH3:=aW (HH2.out.keep hb3);clear hb3 c0 f0 l0 c1 f1 l1;obtain ⟨c1,f1,l1⟩:=HH3.out.b1.rules;cases b
      ·go_wp2;go_meet
       case rel=>exact ⟨by rw [← HOK.out];unfold okX;simp [HK1.out,HZB.out,HK2.out,HK3.out,HB.out],aW HH3.out⟩
      ·by_cases hn:nk=1
       ·have en:((nk:Int) == 1)=true:=by rw [beq_iff_eq];omega
        have HN:=aW hn;clear hn;go_wp2;go_meet
        case rel=>exact ⟨by rw [← HOK.out];unfold okX;simp [HK1.out,HZB.out,HK2.out,HK3.out,HB.out,HN.out],aW HH3.out⟩
       ·have en:((nk:Int) == 1)=false:=by rw [beq_eq_false_iff_ne];omega
        have HN:=aW hn;clear hn;go_wp2;go_meet
        case rel=>exact ⟨by rw [← HOK.out];unfold okX;simp [HK1.out,HZB.out,HK2.out,HK3.out,HB.out,HN.out],aW HH3.out⟩
     ·have ek3:(k == 3)=false:=by simp [hk3]
      have HK3:=aW hk3;clear hk3;by_cases hk4:k=4
      ·have ek4:(k == 4)=true:=by simp [hk4]
       have HK4:=aW hk4;clear hk4;by_cases hs:s=[]
       ·subst hs;go_wp2;go_meet
        case rel=>exact ⟨by rw [← HOK.out];unfold okX;simp [HK1.out,HZB.out,HK2.out,HK3.out,HK4.out],aW HH2.out⟩
       ·go_wp2;go_meet
        case rel=>exact ⟨by rw [← HOK.out];unfold okX;simp [HK1.out,HZB.out,HK2.out,HK3.out,HK4.out,hs],aW HH2.out⟩
      ·have ek4:(k == 4)=false:=by simp [hk4]
       have HK4:=aW hk4;clear hk4;by_cases hop:5<=k/\k<=15
       ·obtain ⟨t',l',ho,hkk⟩:=pv hop;have hoo:=HOO.out;rw [ho] at hoo;simp only [Prod.mk.injEq] at hoo;obtain ⟨rfl,rfl,rfl⟩:=hoo;have HOP:=aW hop;have HKK:=aW hkk;have ea:(k == 0)=false:=by rw [beq_eq_false_iff_ne];omega
        have hg:=HG.out.keep HH2.out.1;have hg0:=hg.c0;have hg1:=hg.c1;have hg2:=hg.c2;clear hg hop hkk ho;by_cases hs:s=[]
        ·subst hs;obtain ⟨kk,hkk⟩:∃ q,qo l'=q:=⟨_,rfl⟩
         have HKO:=aW (λ W=>xD ⟨t'.toArray⟩ k l' W);rw [hkk] at HKO;have HKE:=aW hkk;clear hkk;go_wp2;go_region_held3 (λ w'=>w'.cell? ⟨w.heap.size,6,none⟩=some (Zt ⟨#[]⟩)/\w'.cell? ⟨w.heap.size,7,none⟩=some (Zs A nk ca)/\w'.cell? ⟨w1.heap.size,0,none⟩=some (Zt ⟨t'.toArray⟩)/\w'.cell? ⟨w1.heap.size,1,none⟩=some (Zi Zq k)/\w'.cell? ⟨w1.heap.size,2,none⟩=some (Zi Zq l')) (go_keep) ((go_at_call 121;refine (HKO.out _).mono ?_;rintro e w3 ⟨rfl,hb3⟩;have hx3:=HH2.out.drew.keep hb3;have d6:=hx3.b1.cell 6;have d7:=hx3.b1.cell 7;have d0:=hx3.b0.cell 0;have d1:=hx3.b0.cell 1;have d2:=hx3.b0.cell 2;simp at d6 d7 d0 d1 d2));go_wp2;go_meet
         case rel =>
          refine ⟨?_,aW hx3⟩;have h5:=HOP.out;rw [← HOK.out];congr 1;unfold okX;rw [if_neg HK1.out,HZB.out,if_neg (by simp),if_neg HK2.out,if_neg HK3.out,if_neg HK4.out];rw [← HKE.out,HKK.out];rw [Bool.eq_iff_iff];by_cases h7:k<=7
          ·rw [if_pos h7,if_pos ⟨h5.1,h7⟩];simp;omega
          ·rw [if_neg h7,if_neg (by omega),if_pos ⟨by omega,h5.2⟩];simp;omega
        ·have HS:=aW hs;go_wp2;go_quiet (fail);go_wp2;go_meet
         case rel =>
          refine ⟨?_,aW (HH2.out.drewN _)⟩;have h5:=HOP.out;rw [← HOK.out];unfold okX;rw [if_neg HK1.out,HZB.out,if_neg (by simp),if_neg HK2.out,if_neg HK3.out,if_neg HK4.out];by_cases h7:k<=7
          ·rw [if_pos ⟨h5.1,h7⟩];simp [HS.out]
          ·rw [if_neg (by omega),if_pos ⟨by omega,h5.2⟩];simp [HS.out]
       ·have hoo:=HOO.out;rw [wQ hop] at hoo;unfold fY at hoo;simp only [Prod.mk.injEq] at hoo;obtain ⟨rfl,rfl,rfl⟩:=hoo;have hg:=HG.out.keep HH2.out.1;have hg0:=hg.c0;have hg1:=hg.c1;have hg2:=hg.c2;clear hg;have HOP:=aW hop;clear hop;go_wp2;go_meet
        case rel=>exact ⟨by rw [← HOK.out];have h:=HOP.out;unfold okX;rw [if_neg HK1.out,HZB.out,if_neg (by simp),if_neg HK2.out,if_neg HK3.out,if_neg HK4.out,if_neg (by omega),if_neg (by omega)],aW HH2.out⟩
 case rest =>
  obtain ⟨rfl,HC⟩:=hcut;cases ok
  ·have HD0:=aW (show D=0 by rw [HDE.out];rfl);go_wp2;go_ret;exact ⟨by rw [HD0.out];rfl,HC.out.1⟩
  ·have HD1:=aW (show D=(match bO r kids with | none=>0 | some m=>m+1) by rw [HDE.out];rfl);obtain ⟨c1,f1,l1⟩:=HC.out.b1.rules;go_wp2;clear c1 f1 l1;go_loopw [7,92] (λ s7 s92 wr => ∃ i m:Nat,i<=nk/\m<=r/\s92=Zi Zq (i:Int)/\s7=Zi Zq (m:Int)/\Hid (Below w.heap.size w wr)/\Hid (bO r (kids.take i)=some m)) (λ _ s92 _=>nk-(intOf s92).toNat)
   case atStart=>exact ⟨0,0,by omega,by omega,rfl,rfl,aW HC.out.1,aW (by rw [List.take_zero,bO])⟩
   case round =>
    obtain ⟨i,m,hi,hm,rfl,rfl,HB,HM⟩:=hrel;by_cases hin:i<nk
    ·obtain ⟨x,hx⟩:∃ x,kids[i]? = some x:=⟨_,List.getElem?_eq_getElem (by rw [HNK.out];exact hin)⟩
     have hxm:=List.mem_of_getElem? hx;have HCX:=aW (HKD.out.2.2 x hxm);obtain ⟨b,o,k',k1',n1',s1',A1',na1',ca1',B1',nb1',cb1',s',A2',n2',ca2',rfl,hb,hER,hz⟩:=gU HKD.out.1 HKD.out.2.1 hx;obtain ⟨z0,z1,z2,z3,z4,z5,z6,z7⟩:=hz wr HB.out;have HTK:=aW (show kids.take (i+1)=kids.take i++[x] by rw [List.take_add_one,hx];rfl);have HXN:=aW (show bY r x=0->bO r kids=none from λ h0=>by
      cases hd:bO r kids with
      | none=>rfl
      | some q=>exact absurd h0 (gq.1 (by rw [hd];simp) x hxm))
     have HE:=aW (λ (W:World) (h:Below w.heap.size w W)=>ih x _ F W (HG.out.keep h) (hER.bel h) HCX.out);obtain ⟨d,hd⟩:∃ d,bY r x=d:=⟨_,rfl⟩
     have hdr:d<=r:=by rw [← hd];exact nv r x
     unfold vL at HE;rw [hd] at HE HXN;have HDX:=aW hd;have hlb:b<wr.heap.size:=Nat.lt_of_lt_of_le hb HB.out.size;have hs:=HSUB.out;clear hz hER hx hxm hd hb;go_wp2_with fail;refine (HE.out _ (HB.out.alloc HB.out.size _)).mono ?_;rintro e w4 ⟨rfl,hb4⟩;have HB4:=aW (Below.trans (HB.out.alloc HB.out.size _) (hb4.mono (by have:=HB.out.size;simp;omega)));clear hb4 z0 z1 z2 z3 z4 z5 z6 z7;by_cases hd0:d=0
     ·subst hd0;have HD0:=aW (show D=0 by rw [HD1.out,HXN.out rfl]);go_wp2;go_ret;exact ⟨by rw [HD0.out];rfl,HB4.out⟩
     ·have hdn:((d:Int) == 0)=false:=by rw [beq_eq_false_iff_ne];omega
      have HNX:=aW (show bO r (kids.take (i+1))=some (max m d) by rw [HTK.out,j6 HM.out (by rw [HDX.out];exact hd0),HDX.out]);have HD0:=aW hd0;clear hd0;by_cases hmd:m<d
      ·have hmi:(m:Int)<(d:Int):=by omega
       have HNX2:=aW (show bO r (kids.take (i+1))=some d by rw [HNX.out,Nat.max_eq_right (by omega)]);go_wp2;go_roundw
       case rel=>exact ⟨i+1,d,by omega,by omega,by go_num,by go_num,HB4,HNX2⟩
       case measure=>simp [intOf];omega
      ·have hmi:¬ (m:Int)<(d:Int):=by omega
       have HNX2:=aW (show bO r (kids.take (i+1))=some m by rw [HNX.out,Nat.max_eq_left (by omega)]);go_wp2;go_roundw
       case rel=>exact ⟨i+1,m,by omega,by omega,by go_num,by go_num,HB4,HNX2⟩
       case measure=>simp [intOf];omega
    ·obtain rfl:i=nk:=by omega
     have HF:=aW (show D=m+1 by
      have h:=HM.out;rw [List.take_of_length_le (Nat.le_of_eq HNK.out)] at h;rw [HD1.out,h])
     go_wp2;go_ret;exact ⟨by rw [HF.out];rfl,HB.out⟩
theorem su:∀ r,r<=12->ua r
 | 0,_=>vZ
 | r+1,h=>wa r (by omega) (su r (by omega))
end
section
theorem ta {d:Nat} {l m:List SJ}:bR d (l++m)=(bR d l && bR d m):=by
 induction l with
 | nil=>simp [bR]
 | cons x r ih=>show (iE d x && bR d (r++m))=_;rw [ih,bR,Bool.and_assoc]
end
section
open Go.RowKit Go.Shelf
attribute [local go_sem] ab ae af ac Oper.semAt_some
theorem pS (w0:World) (g rb wb:Nat) (A:Option Addr) (cap:Nat) (l:List UInt8) (p0:Nat) (w:World) (hG:GOK w0) (hr:Rd w0 A (aq l)) (hcap:l.length<=cap) (hlen:l.length<=4194304)
  (hp0:p0<=l.length) (hgr:g≠rb) (hgw:g≠wb) (hg0:w0.heap.size<=g) (hW:aI (· < w0.heap.size) w0 w)
  (hV:VB w g A cap l p0 0) (hrb:Blk w rb 109 #[Zp (some ⟨g,0,none⟩)]) (hwb:Blk w wb 165 (jH g)) :
  ly Fence.wide 2 Tryz.prog 134 #[Zp (some ⟨rb,0,none⟩),Zp (some ⟨wb,0,none⟩)] sC
   (StV g A cap l) (KpV w0.heap.size g rb wb) (λ pre x=>pre++[x] <+: (bP l p0).1) (vx g A cap l p0) (λ pre _=>pre <+: (bP l p0).1) w:=by
 intro k J Jx W hW2 hJ _ hY h0;exact oK w0 g rb wb A cap l p0 k J Jx W hG hr hcap hlen hp0 hgr hgw hg0 (hW.trans (aI.of_below hW2 (λ i hi=>Nat.lt_of_lt_of_le hi hW.1))) hJ hY (hV.keep hW2) (hrb.keep hW2) (hwb.keep hW2) h0
def fD (l:List UInt8):List al × Int × Int :=
 if 512<l.length then ([],0,3) else match (bP l 0).2 with | none=>((bP l 0).1,0,0) | some e=>([],e.1,e.2)
def jQ (r:List al × Int × Int) (w:World) (e:Ending) (w':World):Prop :=
 ∃ v,e=.returned (.tuple #[v,Zi Zq r.2.1,Zi Zq r.2.2])/\TS w' v r.1/\Below w.heap.size w w'
theorem oN (l:List UInt8):∀ (k p:Nat),(fm l k p).1.length<=k
 | 0,_=>by simp [fm]
 |k+1,p=>by
  unfold fm;split
  ·cases hv:cK l (bM l p) with
   | inr e=>simp
   |inl r =>
    obtain ⟨kd,t,n,m⟩:=r;have:=oN l k m;simp;omega
  ·simp
theorem ml (l:List UInt8) (p:Nat):(bP l p).1.length<=l.length+1-p:=oN l _ p
theorem Rd.below_at {W W':World} {b o N:Nat} {xs:List Value} (h:Rd W (some ⟨b,o,none⟩) xs) (hb:Below N W W') (hN:b<N):Rd W' (some ⟨b,o,none⟩) xs:=λ hn=>by
 obtain ⟨b',o',e,hlt,hx⟩:=h hn;obtain ⟨rfl,rfl⟩:b=b'/\o=o':=by simpa using e
 exact ⟨b,o,rfl,Nat.lt_of_lt_of_le hlt hb.size,λ i hi=>by rw [← hx i hi];exact World.cell?_of_block (w:=W) (hb.block b hN)⟩
def jI (w:World) (A:Option Addr) (cap:Nat) (l:List UInt8) (pre:List al) (W:World):Prop :=
 (∃ v,Boxed W (w.heap.size+2) 77 v/\W.ownsRow (w.heap.size+1) 86 4 v pre.length (aS pre))/\Below w.heap.size w W/\(∃ p why,VB W (w.heap.size+1) A cap l p why) /\
  Blk W (w.heap.size+3) 109 #[Zp (some ⟨w.heap.size+1,0,none⟩)]/\Blk W (w.heap.size+4) 165 (jH (w.heap.size+1))/\w.heap.size+5<=W.heap.size
theorem VB.putObj {W:World} {g:Nat} {A:Option Addr} {cap:Nat} {l:List UInt8} {p why:Int} {k:Nat} {o:Obj} (o':Obj) (h:VB W g A cap l p why) (ho:W.heap[k]? = some o) (hc:o.isCells=false):VB (W.putObj k o') g A cap l p why :=
 ⟨h.1.putObj o' ho hc,h.2.putObj o' ho hc⟩
theorem jI.putObj {w:World} {A:Option Addr} {cap:Nat} {l:List UInt8} {pre:List al} {W:World} {k:Nat} {o:Obj} (o':Obj) (h:jI w A cap l pre W) (hk:w.heap.size<=k) (ho:W.heap[k]? = some o) (hc:o.isCells=false):jI w A cap l pre (W.putObj k o'):=by
 obtain ⟨⟨v,hv,hr⟩,hb,⟨p,why,hV⟩,h1,h2,h3⟩:=h;exact ⟨⟨v,Blk.putObj o' hv ho hc,ownsRow_putObj hr o' ho hc⟩,aT hb k o' hk,⟨p,why,hV.putObj o' ho hc⟩,h1.putObj o' ho hc,h2.putObj o' ho hc,by simpa [World.putObj] using h3⟩
theorem jI.alloc {w:World} {A:Option Addr} {cap:Nat} {l:List UInt8} {pre:List al} {W:World} (h:jI w A cap l pre W) (o:Obj):jI w A cap l pre (W.alloc o):=by
 obtain ⟨⟨v,hv,hr⟩,hb,⟨p,why,hV⟩,h1,h2,h3⟩:=h;exact ⟨⟨v,Blk.alloc hv o,hr.alloc o⟩,hb.alloc hb.size o,⟨p,why,hV.keep ((Below.refl _ W).alloc (Nat.le_refl _) o)⟩,h1.alloc o,h2.alloc o,by simp;omega⟩
theorem jI.step {w:World} {A:Option Addr} {cap:Nat} {l:List UInt8} {pre:List al} {W W':World} (h:jI w A cap l pre W) (hs:StV (w.heap.size+1) A cap l W W'):jI w A cap l pre W':=by
 obtain ⟨⟨v,hv,hr⟩,hb,⟨p,why,hV⟩,h1,h2,h3⟩:=h;have hne:=dN hr hV.1 (by decide);exact ⟨⟨v,hv.kept hs.1 (by simp),hr.kept hs.1 (.inr (Ne.symm hne))⟩,hb.grown hs.1 hb.size (λ k e=>by cases e;omega),hs.2 ⟨p,why,hV⟩,h1.grown hs.1 (by simp),h2.grown hs.1 (by simp),Nat.le_trans h3 hs.1.size⟩
theorem wy (s:ByteArray) (w:World) (hG:GOK w) (hs:s.size<=512):Calls Tryz.prog 50 #[Zt s] w (jQ (fD (sl s)) w):=by
 obtain ⟨i0,hi,hz0,hz1,hz2⟩:=info_parts uG;refine (callsIn_wide (n:=3)).1 ?_;refine callsIn_of_wp_marks Tryz.func50 rfl trivial ?_ rfl;simp only [Tryz.ntmps50,List.size_toArray,List.length_cons,List.length_nil,Nat.reduceAdd,Nat.reduceSub,Array.replicate_succ,Array.replicate_zero,List.push_toArray,List.append_toArray,List.nil_append,List.cons_append];refine wpIn_wide.2 ?_;obtain ⟨cap,W1,hcv,hcap,hb1,hs1,hr1⟩:=gS (P:=Tryz.prog) w 9 67 5 s Tryz.underlying9 Tryz.underlying67 Tryz.underlying5;rw [← cd s] at hcap;have hlen:(sl s).length<=512:=by rw [cd];exact hs
 obtain ⟨l,hl⟩:∃ l,sl s=l:=⟨_,rfl⟩
 have hsz:s.size=l.length:=by rw [← hl,cd]
 rw [hl] at hr1 hcap hlen;rw [hsz] at hcv;have HSZ:=aW hsz;have HSL:=aW hl;have hsi:(512:Int)<(s.size:Int)->False:=by omega
 have hs512:(s.size:Int)<=512:=by omega
 clear hsz hl hs;have HR:=aW hr1;have HB1:=aW hb1;have HG:=aW hG;clear hr1 hb1 hG;go_wp2_with (go_at_call 84;refine (pR _ _).mono ?_;rintro e w2 ⟨rfl,hrb,hwb,hs2,hb2⟩);rw [show w.heap.size+1+1+1+1=w.heap.size+4 from rfl,show w.heap.size+1+1+1=w.heap.size+3 from rfl,show w.heap.size+1+1=w.heap.size+2 from rfl];have hbr:=Blk.new W1 113 (bN (some ⟨w.heap.size,0,none⟩) l.length cap 0 0);have hbo:=Blk.new (W1.alloc (.cells (bN (some ⟨w.heap.size,0,none⟩) l.length cap 0 0) 113)) 77 #[Zs none 0 0];rw [hs1] at hbr;simp only [World.size_alloc,hs1] at hrb hwb hs2 hb2 hbo;have hb3:Below W1.heap.size W1 w2:=(((Below.refl _ W1).alloc (Nat.le_refl _) _).alloc (by simp) _).trans (hb2.mono (by omega));have hV2:VB w2 (w.heap.size+1) (some ⟨w.heap.size,0,none⟩) cap l 0 0:=⟨((hbr.alloc _).below hb2 (by omega)),(HR.out.below hb3)⟩
 have hI0:jI w (some ⟨w.heap.size,0,none⟩) cap l [] w2:=⟨⟨_,hbo.below hb2 (by omega),World.ownsRow_nil _ _ _ _⟩,HB1.out.trans (hb3.mono HB1.out.size),⟨0,0,hV2⟩,hrb,hwb,by omega⟩
 clear hbr hbo hb2;refine (wpIn_wide (n:=3)).1 ?_;refine oT rfl (by omega) (gf:=134) (lb:=#[Zp (some ⟨w.heap.size+3,0,none⟩),Zp (some ⟨w.heap.size+4,0,none⟩)]) rfl trivial (enters_of Tryz.func134 (by kernel_rfl) rfl)
  (pS W1 (w.heap.size+1) (w.heap.size+3) (w.heap.size+4) (some ⟨w.heap.size,0,none⟩) cap l 0 w2 (HG.out.keep HB1.out) HR.out hcap (by omega) (Nat.zero_le _) (by omega) (by omega) (by omega) (aI.of_below hb3 (λ _ h=>h)) hV2 hrb hwb) (Below.refl _ _) (λ _=>rfl)
  (λ A B k o hs hk ho _=>(hs.1.block k (Array.getElem?_eq_some_iff.1 ho).1 (by simp;omega)).trans ho)
  (λ h k=>h.trans k) (λ W k o o' hk _ _=>aI.putObj (N:=w2.heap.size) (by intro j hj;omega) W k o' hk)
  (λ xs W k o o' _ ho hc h=>by obtain ⟨h1,q,er,h2,h3⟩:=h;exact ⟨h1,q,er,h2.putObj o' ho hc,h3⟩) (λ _ _ _ _ _ _ _ _ h=>h)
  (jI w (some ⟨w.heap.size,0,none⟩) cap l) (λ _ _ _=>False) (λ s A B hs h=>h.step hs) (λ _ _ _ _ _ h=>h) (λ s W k o o' hk ho hc h=>h.putObj o' (by omega) ho hc) (λ _ _ _ _ _ _ _ _ _ h=>h) (λ o o'=>(hI0.alloc o).alloc o')
  (λ pre x a1 W => ∃ tb,a1={ tmps:=#[Zt s,undef,Zs none 0 0,Zi Zq 0,Zi Zq 0,Zp (some ⟨w.heap.size+1,0,none⟩),Zp (some ⟨w.heap.size+2,0,none⟩),Zp (some ⟨tb,0,none⟩),Zt s,Zi Zq s.size,.bool (decide (512<(s.size:Int))),Zt s,Zs (some ⟨w.heap.size,0,none⟩) l.length cap,
   .agg #[Zi Zq 0,Zi Zq 0,Zs (some ⟨w.heap.size,0,none⟩) l.length cap],Zp (some ⟨w.heap.size+1,0,none⟩),Zp (some ⟨w.heap.size+1,0,none⟩),.func (.func 134) #[] #[Zp (some ⟨w.heap.size+3,0,none⟩),Zp (some ⟨w.heap.size+4,0,none⟩)],.agg #[Zi Zq x.1,Zi Zq x.2.1,Zt ⟨x.2.2.1.toArray⟩,Zi Zq x.2.2.2],undef,undef,undef,undef,undef,undef,undef,undef,undef,undef,undef,undef,undef,undef,undef,undef,undef,undef,undef,undef,undef],defers:=[] }/\Blk W tb 86 #[Zi Zq x.1,Zi Zq x.2.1,Zt ⟨x.2.2.1.toArray⟩,Zi Zq x.2.2.2]/\jI w (some ⟨w.heap.size,0,none⟩) cap l pre W)
  ?hI1p ?assign ?body ?done ?stop
 case hI1p =>
  rintro pre x a1 W k o o' hk ho hc ⟨tb,e,h1,h2⟩;exact ⟨tb,e,h1.putObj o' ho hc,h2.putObj o' (by omega) ho hc⟩
 case assign =>
  intro k pre x W hI hadm;have hIA:=hI.alloc (.cells #[Zi Zq x.1,Zi Zq x.2.1,Zt ⟨x.2.2.1.toArray⟩,Zi Zq x.2.2.2] 86);have HIA:=aW hIA;clear hIA;simp only [sC,rz];gi_wp2;have hba:Below W.heap.size W (W.alloc (.cells #[Zi Zq x.1,Zi Zq x.2.1,Zt ⟨x.2.2.1.toArray⟩,Zi Zq x.2.2.2] 86)):=(Below.refl _ W).alloc (Nat.le_refl _) _;exact ⟨⟨W.heap.size,rfl,Blk.new _ _ _,HIA.out⟩,KeepsFrom.below_ hba,aI.of_below hba (λ k hk=>by have:=hI.2.2.2.2.2;omega)⟩
 case body =>
  rintro k pre x a1 W ⟨tb,rfl,htb,hI⟩ hadm;obtain ⟨⟨v,hv,hrow⟩,hB,⟨p,why,hV⟩,h1,h2,h3⟩:=hI;have hpl:pre.length+1<=513:=by have:=hadm.length_le;have:=ml l 0;simp at *;omega
  have hc:=hv.cell;have hlt:=hv.lt;obtain ⟨c1,f1,l1⟩:=htb.rules;have hnews:∀ j u,(jO x)[j]? = some u->(W.alloc (.cells #[Zi Zq x.1,Zi Zq x.2.1,Zt ⟨x.2.2.1.toArray⟩,Zi Zq x.2.2.2] 86)).cell? ((⟨W.heap.size,0,none⟩:Addr).add j)=some u:=by
   obtain ⟨ad,e,h⟩:=(Rd.of_blk (Blk.new W 86 #[Zi Zq x.1,Zi Zq x.2.1,Zt ⟨x.2.2.1.toArray⟩,Zi Zq x.2.2.2])).at_ (by simp);cases e
   exact h
  have HW:=aW (And.intro hnews (And.intro hV (And.intro h1 (And.intro h2 hB))));clear hnews hV h1 h2 hB;gi_wp2_with (gi_at_builtin;refine wpListIn_append_own _ rfl _ _ 77 rfl (w.heap.size+1) 86 i0 _ 4 40 Tryz.underlying77 hi hz0 hz1 hz2 rfl (by decide) _ _ _ rfl (hrow.alloc _) ⟨W.heap.size,0,none⟩ 1 1 (jO x) rfl rfl HW.out.1 (by have:=mW [x];simpa [aS] using this) (by unfold maxLen;omega) (by omega) (by simp;omega) ?_;intro v' w1 hown' hgrow _;obtain ⟨g',cap',rfl⟩:=ownsRow_succ hown';obtain ⟨hv1,hv2,hr2,hk2,hb2⟩:=hv.appended (by decide) hrow (by omega) (by omega) hown' hgrow;have hc1:=hv1.cell;have hf1:=hv1.frozen);obtain ⟨_,hV,h1,h2,hB⟩:=HW.out;have hV':Blk (w1.setCell ⟨w.heap.size+2,0,none⟩ (Zs (some ⟨g',0,none⟩) (pre.length+1) cap')) (w.heap.size+1) 113 _:=((hV.1.alloc _).grown hgrow (dN hrow hV.1 (by decide))).far (by simp) _;have h1':Blk (w1.setCell ⟨w.heap.size+2,0,none⟩ (Zs (some ⟨g',0,none⟩) (pre.length+1) cap')) (w.heap.size+3) 109 _:=((h1.alloc _).grown hgrow (dN hrow h1 (by decide))).far (by simp) _;have h2':Blk (w1.setCell ⟨w.heap.size+2,0,none⟩ (Zs (some ⟨g',0,none⟩) (pre.length+1) cap')) (w.heap.size+4) 165 _:=((h2.alloc _).grown hgrow (dN hrow h2 (by decide))).far (by simp) _;refine ⟨hk2.from _,⟨hb2.size,?_⟩,⟨_,hv2,?_⟩,hB.trans (hb2.mono (by omega)),⟨p,why,hV',hV.2.below_at hb2 (by omega)⟩,h1',h2',Nat.le_trans h3 hb2.size⟩
  ·rintro k (hk | rfl | rfl | rfl)
   ·exact hb2.block k (by omega)
   ·exact fS hV.1 hV'
   ·exact fS h1 h1'
   ·exact fS h2 h2'
  ·have e:aS (pre++[x])=aS pre++jO x:=by rw [mV];simp [aS]
   rw [e,List.length_append,List.length_singleton];exact hr2
 case done =>
  rintro D xs W hD ⟨rfl,q,er,hV,hend⟩ hI hK;obtain ⟨⟨v,hv,hrow⟩,hB,_,_,_,h3⟩:=hI;obtain ⟨c1,f1,l1⟩:=hV.1.rules;unfold bN at c1;have c2:=hv.cell;by_cases her:er=0
  ·subst her;rw [if_pos rfl] at hend;have HS:=aW (show fD l=((bP l 0).1,0,0) by unfold fD;rw [if_neg (by omega),hend]);clear hend;go_wp2;refine ⟨by simp,.inl ⟨_,_,rfl,run_takeDeferred hK,?_⟩⟩;refine ⟨.tuple #[v,Zi Zq 0,Zi Zq 0],by simp only [results,Tryz.results50];go_simp,?_⟩;rw [HSL.out,HS.out];exact ⟨v,rfl,TS.of_own (ownsRow_putObj hrow (.deferred none) hK rfl),aT hB D _ (by omega)⟩
  ·have her':(er != 0)=true:=by simpa using her
   rw [if_neg her] at hend;have HS:=aW (show fD l=([],q,er) by unfold fD;rw [if_neg (by omega),hend]);clear hend;go_wp2;go_quiet (fail);go_wp2;have hK1:(W.drewN nq).heap[D]? = some (.deferred (some [])):=hK;refine ⟨by simp,.inl ⟨_,_,rfl,run_takeDeferred hK1,?_⟩⟩;refine ⟨.tuple #[Zs none 0 0,Zi Zq q,Zi Zq er],by simp only [results,Tryz.results50];go_simp,?_⟩;rw [HSL.out,HS.out];exact ⟨_,rfl,TS.nil,aT (ah hB _) D _ (by omega)⟩
 case stop =>
  rintro D c pre W _ _ h _;exact h.elim
theorem uL (s:ByteArray) (w:World) (hG:GOK w) (hs:s.size<=4194304):Calls Tryz.prog 50 #[Zt s] w (jQ (fD (sl s)) w):=by
 by_cases h:s.size<=512
 ·exact wy s w hG h
 ·have HS:=aW (show fD (sl s)=([],0,3) by unfold fD;rw [if_pos (by rw [cd];omega)]);go_enter Tryz.func50,Tryz.ntmps50;go_wp2;go_ret3;rw [HS.out];exact ⟨_,rfl,TS.nil,Below.refl _ _⟩
end
section
open Go.RowKit
end
section
end
section
open Go.RowKit
end
section
open Go.RowKit
attribute [local go_sem] ab ae af ac
end
section
end
end Go.Proofs.YtgmnmnnoahdjnaaGreatDoor
