import Derived.Test.YtgmnmnnoahdjnaaGreatDoorC22
import Derived.Deep.CutBlock
open Go.Value renaming int → Zi, slice → Zs, string → Zt, pointer → Zp
open Go.IntKind renaming i64 → Zq
set_option maxRecDepth 100000
set_option maxHeartbeats 16000000
set_option linter.unusedVariables false
set_option linter.unusedSimpArgs false
namespace Go.Proofs.YtgmnmnnoahdjnaaGreatDoor
section
open Go.RowKit
attribute [local go_sem] aa ac ae ab
mutual
theorem p8:∀ (r:Nat) (x:EJ),bw r x<=r
 |r,.mk k v s kids=>by
  rw [bw];split
  ·omega
  ·split
   ·have h:=p9 (r-1) kids;split
    ·omega
    ·rename_i m hm;have:=h m hm;omega
   ·omega
theorem p9:∀ (r:Nat) (l:List EJ) (m:Nat),cJ r l=some m->m<=r
 | r,[],m,h=>by rw [cJ] at h;have:=Option.some.inj h;omega
 |r,x::l,m,h=>by
  rw [cJ] at h;split at h
  ·cases h
  ·split at h
   ·cases h
   ·rename_i m' hm'
    have h1:=p9 r l m' hm';have h2:=p8 r x;have:=Option.some.inj h;omega
end
theorem lT {r:Nat} {x:EJ}:∀ {l:List EJ} {m:Nat},cJ r l=some m->bw r x≠0->cJ r (l++[x])=some (max m (bw r x))
 |[],m,h,hx=>by
  rw [cJ] at h;have:m=0:=(Option.some.inj h).symm;subst this;show cJ r [x]=_
  rw [cJ,if_neg hx,cJ];simp
 |y::l,m,h,hx=>by
  show cJ r (y::(l++[x]))=_
  rw [cJ] at h ⊢;split at h
  ·cases h
  ·rename_i hy
   rw [if_neg hy];cases hd:cJ r l with
   | none=>rw [hd] at h;cases h
   |some m' =>
    rw [hd] at h;rw [lT hd hx];have:=Option.some.inj h;simp only [Option.some.injEq];omega
theorem se {k:Int} (h:5<=k/\k<=15):∃ t l,ofJ k=(t,k,l)/\th l=(if k<=7 then 1 else 2):=by
 obtain rfl | rfl | rfl | rfl | rfl | rfl | rfl | rfl | rfl | rfl | rfl:k=5∨k=6∨k=7∨k=8∨k=9∨k=10∨k=11∨k=12∨k=13∨k=14∨k=15:=by omega
 all_goals exact ⟨_,_,by rfl,by rfl⟩
theorem kF {k:Int} (h:¬ (5<=k/\k<=15)):ofJ k=fH:=by
 unfold ofJ;refine oZ λ j hj=>?_
 have hj:j<11:=hj;obtain rfl | rfl | rfl | rfl | rfl | rfl | rfl | rfl | rfl | rfl | rfl:j=0∨j=1∨j=2∨j=3∨j=4∨j=5∨j=6∨j=7∨j=8∨j=9∨j=10:=by omega
 all_goals (show (_:Int)≠k;simp only [gc,List.getD_cons_zero,List.getD_cons_succ];omega)
def zh (n:Nat) (w:World) (e:Ending) (w':World):Prop:=e=.returned (Zi Zq n)/\Below w.heap.size w w'
def xC (r:Nat):Prop:=∀ (x:EJ) (cs:List Value) (F:Nat->Prop) (w:World),GOE w->ER w F cs x->cd x->Calls Tryz.prog 79 #[.agg cs.toArray,Zi Zq (r:Int)] w (zh (bw r x) w)
theorem zz:xC 0:=by
 intro x cs F w hG hx hc;obtain ⟨k,v,s,kids⟩:=x;obtain ⟨k1,n1,s1,A1,na1,ca1,B1,nb1,cb1,A,ca,css,rfl,_⟩:=hx.out;have HZ:=aW (show bw 0 (.mk k v s kids)=0 by rw [bw,if_pos rfl]);rw [HZ.out];obtain ⟨nk,hnk⟩:∃ q,kids.length=q:=⟨_,rfl⟩
 rw [hnk];have HH0:=aW ((aT.nil w).push 45 #[Zi Zq k,Zi Zq k1,Zi Zq n1,Zt s1,Zs A1 na1 ca1,Zs B1 nb1 cb1,Zt ⟨s.toArray⟩,Zs A nk ca] (g:=w.heap.size) rfl);clear hx hc hG hnk;show Calls _ _ #[_,Zi Zq 0] _ _
 go_enter Tryz.func79,Tryz.ntmps79;go_wp2;go_ret;exact ⟨rfl,HH0.out.1⟩
theorem zA (r:Nat) (hr:r<12) (ih:xC r):xC (r+1):=by
 intro x cs F w hG hx hc;obtain ⟨k,v,s,kids⟩:=x;have HX:=aW (λ (W:World) (h:Below w.heap.size w W)=>hx.bel h);obtain ⟨k1,n1,s1,A1,na1,ca1,B1,nb1,cb1,A,ca,css,rfl,hv,h1,h2,h3,h4⟩:=hx.out;have hc':=hc;unfold cd at hc';obtain ⟨_,hcv,hsl,hck,hcl⟩:=hc';have HZ:=aW (λ (W:World) (h:Below w.heap.size w W)=>vB v _ F W (hv.bel h) hcv);have HL:=aW (λ (W:World) (h:Below w.heap.size w W)=>vz v _ F W (hG.keep h) (hv.bel h) hcv);have HKD:=aW (And.intro h1 (And.intro h4 (cc.1 hcl)));obtain ⟨nk,hnk⟩:∃ q,kids.length=q:=⟨_,rfl⟩
 have HNK:=aW hnk;obtain ⟨ok,hok⟩:∃ z,okX k v s nk=z:=⟨_,rfl⟩
 have HOK:=aW hok;have HG:=aW hG;rw [hnk] at hck ⊢;have HH0:=aW ((aT.nil w).push 45 #[Zi Zq k,Zi Zq k1,Zi Zq n1,Zt s1,Zs A1 na1 ca1,Zs B1 nb1 cb1,Zt ⟨s.toArray⟩,Zs A nk ca] (g:=w.heap.size) rfl);obtain ⟨R,hR⟩:∃ R:Int,((r+1:Nat):Int)=R:=⟨_,rfl⟩
 have hR0:(R == 0)=false:=by rw [beq_eq_false_iff_ne];omega
 have HR:=aW hR;have HDE:=aW (show bw (r+1) (.mk k v s kids)=(if ok=true then (match cJ r kids with | none=>0 | some m=>m+1) else 0) by rw [bw,if_neg (by omega),hnk,hok];rfl);obtain ⟨D,hD⟩:∃ D,bw (r+1) (.mk k v s kids)=D:=⟨_,rfl⟩
 rw [hD] at HDE ⊢;have hsub:IntKind.i64.wrap (R-1)=(r:Int):=by rw [IntWalk.i64_in _ (by omega)];omega
 have HSUB:=aW hsub;rw [hR];clear hD hsub;obtain ⟨⟨ot,oa,ol⟩,hof⟩:∃ o,ofJ k=o:=⟨_,rfl⟩
 have HOF:=aW (λ W (h:Below w.heap.size w W)=>eOf k W (hG.keep h));unfold OfP at HOF;rw [hof] at HOF;unfold cT at HOF;simp only at HOF;have HOO:=aW hof;clear hG hx hc hv h1 h2 h3 h4 hcv hcl hnk hok hR hof;obtain ⟨c0,f0,l0⟩:=HH0.out.b0.rules;go_enter Tryz.func79,Tryz.ntmps79;go_wp2_with fail;refine (HOF.out _ HH0.out.1).mono ?_;rintro e w1 ⟨rfl,hb1⟩;have HH1:=aW ((HH0.out.keep hb1).push 154 #[Zt ⟨ot.toArray⟩,Zi Zq oa,Zi Zq ol] (g:=w1.heap.size) rfl);clear hb1 c0 f0 l0 HH0;go_upto_block 0 with fail;go_cut [5] (λ s5 wx=>s5=.bool ok/\Hid (aT [(w1.heap.size,154,#[Zt ⟨ot.toArray⟩,Zi Zq oa,Zi Zq ol]),(w.heap.size,45,#[Zi Zq k,Zi Zq k1,Zi Zq n1,Zt s1,Zs A1 na1 ca1,Zs B1 nb1 cb1,Zt ⟨s.toArray⟩,Zs A nk ca])] w wx))
 case first =>
  obtain ⟨c1,f1,l1⟩:=HH1.out.b1.rules;obtain ⟨c0,f0,l0⟩:=HH1.out.b0.rules;by_cases hk1:k=1
  ·have ek1:(k == 1)=true:=by simp [hk1]
   have HK1:=aW hk1;clear hk1;obtain ⟨b,hb⟩:∃ b,fR v=b:=⟨_,rfl⟩
   rw [hb] at HL;have HB:=aW hb;clear hb;go_wp2_with fail;refine (HL.out _ HH1.out.1).mono ?_;rintro e w2 ⟨rfl,hb2⟩;have HH2:=aW (HH1.out.keep hb2);clear hb2 c0 f0 l0 c1 f1 l1;obtain ⟨c1,f1,l1⟩:=HH2.out.b1.rules;obtain ⟨c0,f0,l0⟩:=HH2.out.b0.rules;cases b
   ·go_wp2;go_meet
    case rel=>exact ⟨by rw [← HOK.out];unfold okX;simp [HK1.out,HB.out],aW HH2.out⟩
   ·by_cases hs:s=[]
    ·subst hs;by_cases hn:nk=0
     ·have en:((nk:Int) == 0)=true:=by rw [beq_iff_eq];omega
      have HN:=aW hn;clear hn;go_wp2;go_meet
      case rel=>exact ⟨by rw [← HOK.out];unfold okX;simp [HK1.out,HB.out,HN.out],aW HH2.out⟩
     ·have en:((nk:Int) == 0)=false:=by rw [beq_eq_false_iff_ne];omega
      have HN:=aW hn;clear hn;go_wp2;go_meet
      case rel=>exact ⟨by rw [← HOK.out];unfold okX;simp [HK1.out,HB.out,HN.out],aW HH2.out⟩
    ·go_wp2;go_meet
     case rel=>exact ⟨by rw [← HOK.out];unfold okX;simp [HK1.out,HB.out,hs],aW HH2.out⟩
  ·have ek1:(k == 1)=false:=by simp [hk1]
   have HK1:=aW hk1;clear hk1;obtain ⟨zb,hzb⟩:∃ b,ig v=b:=⟨_,rfl⟩
   rw [hzb] at HZ;have HZB:=aW hzb;clear hzb;go_wp2_with fail;refine (HZ.out _ HH1.out.1).mono ?_;rintro e w2 ⟨rfl,hb2⟩;have HH2:=aW (HH1.out.keep hb2);clear hb2 c0 f0 l0 c1 f1 l1;obtain ⟨c1,f1,l1⟩:=HH2.out.b1.rules;obtain ⟨c0,f0,l0⟩:=HH2.out.b0.rules;cases zb
   ·go_wp2;go_meet
    case rel=>exact ⟨by rw [← HOK.out];unfold okX;simp [HK1.out,HZB.out],aW HH2.out⟩
   ·by_cases hk2:k=2
    ·have ek2:(k == 2)=true:=by simp [hk2]
     have HK2:=aW hk2;clear hk2;obtain ⟨b,hb⟩:∃ b,fe s=b:=⟨_,rfl⟩
     have HNM:=aW (λ W=>il ⟨s.toArray⟩ W);rw [show dg ⟨s.toArray⟩=b from hb] at HNM;have HB:=aW hb;clear hb;go_wp2_with fail;refine (HNM.out _).mono ?_;rintro e w3 ⟨rfl,hb3⟩;have HH3:=aW (HH2.out.keep hb3);clear hb3 c0 f0 l0 c1 f1 l1;obtain ⟨c1,f1,l1⟩:=HH3.out.b1.rules;cases b
     ·go_wp2;go_meet
      case rel=>exact ⟨by rw [← HOK.out];unfold okX;simp [HK1.out,HZB.out,HK2.out,HB.out],aW HH3.out⟩
     ·by_cases hn:nk=0
      ·have en:((nk:Int) == 0)=true:=by rw [beq_iff_eq];omega
       have HN:=aW hn;clear hn;go_wp2;go_meet
       case rel=>exact ⟨by rw [← HOK.out];unfold okX;simp [HK1.out,HZB.out,HK2.out,HB.out,HN.out],aW HH3.out⟩
      ·have en:((nk:Int) == 0)=false:=by rw [beq_eq_false_iff_ne];omega
       have HN:=aW hn;clear hn;go_wp2;go_meet
       case rel=>exact ⟨by rw [← HOK.out];unfold okX;simp [HK1.out,HZB.out,HK2.out,HB.out,HN.out],aW HH3.out⟩
    ·have ek2:(k == 2)=false:=by simp [hk2]
     have HK2:=aW hk2;clear hk2;by_cases hk3:k=3
     ·have ek3:(k == 3)=true:=by simp [hk3]
      have HK3:=aW hk3;clear hk3;obtain ⟨b,hb⟩:∃ b,fe s=b:=⟨_,rfl⟩
      have HNM:=aW (λ W=>il ⟨s.toArray⟩ W);rw [show dg ⟨s.toArray⟩=b from hb] at HNM;have HB:=aW hb;clear hb;go_wp2_with fail;refine (HNM.out _).mono ?_;rintro e w3 ⟨rfl,hb3⟩;have HH3:=aW (HH2.out.keep hb3);clear hb3 c0 f0 l0 c1 f1 l1;obtain ⟨c1,f1,l1⟩:=HH3.out.b1.rules;cases b
      ·go_wp2;go_meet
       case rel=>exact ⟨by rw [← HOK.out];unfold okX;simp [HK1.out,HZB.out,HK2.out,HK3.out,HB.out],aW HH3.out⟩
      ·by_cases hn:nk=1
       ·have en:((nk:Int) == 1)=true:=by rw [beq_iff_eq];omega
        have HN:=aW hn;clear hn;go_wp2;go_meet
        case rel=>exact ⟨by rw [← HOK.out];unfold okX;simp [HK1.out,HZB.out,HK2.out,HK3.out,HB.out,HN.out],aW HH3.out⟩
       ·have en:((nk:Int) == 1)=false:=by rw [beq_eq_false_iff_ne];omega
        have HN:=aW hn;clear hn;go_wp2;go_meet
        case rel=>exact ⟨by rw [← HOK.out];unfold okX;simp [HK1.out,HZB.out,HK2.out,HK3.out,HB.out,HN.out],aW HH3.out⟩
     ·have ek3:(k == 3)=false:=by simp [hk3]
      have HK3:=aW hk3;clear hk3;by_cases hk4:k=4
      ·have ek4:(k == 4)=true:=by simp [hk4]
       have HK4:=aW hk4;clear hk4;by_cases hs:s=[]
       ·subst hs;go_wp2;go_meet
        case rel=>exact ⟨by rw [← HOK.out];unfold okX;simp [HK1.out,HZB.out,HK2.out,HK3.out,HK4.out],aW HH2.out⟩
       ·go_wp2;go_meet
        case rel=>exact ⟨by rw [← HOK.out];unfold okX;simp [HK1.out,HZB.out,HK2.out,HK3.out,HK4.out,hs],aW HH2.out⟩
      ·have ek4:(k == 4)=false:=by simp [hk4]
       have HK4:=aW hk4;clear hk4;by_cases hop:5<=k/\k<=15
       ·obtain ⟨t',l',ho,hkk⟩:=se hop;have hoo:=HOO.out;rw [ho] at hoo;simp only [Prod.mk.injEq] at hoo;obtain ⟨rfl,rfl,rfl⟩:=hoo;have HOP:=aW hop;have HKK:=aW hkk;have ea:(k == 0)=false:=by rw [beq_eq_false_iff_ne];omega
        have hg:=HG.out.keep HH2.out.1;have hg0:=hg.c0;have hg1:=hg.c1;have hg2:=hg.c2;clear hg hop hkk ho;by_cases hs:s=[]
        ·subst hs;obtain ⟨kk,hkk⟩:∃ q,th l'=q:=⟨_,rfl⟩
         have HKO:=aW (λ W=>AQ ⟨t'.toArray⟩ k l' W);rw [hkk] at HKO;have HKE:=aW hkk;clear hkk;go_wp2;go_region_held3 (λ w'=>w'.cell? ⟨w.heap.size,6,none⟩=some (Zt ⟨#[]⟩)/\w'.cell? ⟨w.heap.size,7,none⟩=some (Zs A nk ca)/\w'.cell? ⟨w1.heap.size,0,none⟩=some (Zt ⟨t'.toArray⟩)/\w'.cell? ⟨w1.heap.size,1,none⟩=some (Zi Zq k)/\w'.cell? ⟨w1.heap.size,2,none⟩=some (Zi Zq l')) (go_keep) ((go_at_call 121;refine (HKO.out _).mono ?_;rintro e w3 ⟨rfl,hb3⟩;have hx3:=HH2.out.drew.keep hb3;have d6:=hx3.b1.cell 6;have d7:=hx3.b1.cell 7;have d0:=hx3.b0.cell 0;have d1:=hx3.b0.cell 1;have d2:=hx3.b0.cell 2;simp at d6 d7 d0 d1 d2));go_wp2;go_meet
         case rel =>
          refine ⟨?_,aW hx3⟩;have h5:=HOP.out;rw [← HOK.out];congr 1;unfold okX;rw [if_neg HK1.out,HZB.out,if_neg (by simp),if_neg HK2.out,if_neg HK3.out,if_neg HK4.out];rw [← HKE.out,HKK.out];rw [Bool.eq_iff_iff];by_cases h7:k<=7
          ·rw [if_pos h7,if_pos ⟨h5.1,h7⟩];simp;omega
          ·rw [if_neg h7,if_neg (by omega),if_pos ⟨by omega,h5.2⟩];simp;omega
        ·have HS:=aW hs;go_wp2;go_quiet (fail);go_wp2;go_meet
         case rel =>
          refine ⟨?_,aW (HH2.out.drewN _)⟩;have h5:=HOP.out;rw [← HOK.out];unfold okX;rw [if_neg HK1.out,HZB.out,if_neg (by simp),if_neg HK2.out,if_neg HK3.out,if_neg HK4.out];by_cases h7:k<=7
          ·rw [if_pos ⟨h5.1,h7⟩];simp [HS.out]
          ·rw [if_neg (by omega),if_pos ⟨by omega,h5.2⟩];simp [HS.out]
       ·have hoo:=HOO.out;rw [kF hop] at hoo;unfold fH at hoo;simp only [Prod.mk.injEq] at hoo;obtain ⟨rfl,rfl,rfl⟩:=hoo;have hg:=HG.out.keep HH2.out.1;have hg0:=hg.c0;have hg1:=hg.c1;have hg2:=hg.c2;clear hg;have HOP:=aW hop;clear hop;go_wp2;go_meet
        case rel=>exact ⟨by rw [← HOK.out];have h:=HOP.out;unfold okX;rw [if_neg HK1.out,HZB.out,if_neg (by simp),if_neg HK2.out,if_neg HK3.out,if_neg HK4.out,if_neg (by omega),if_neg (by omega)],aW HH2.out⟩
 case rest =>
  obtain ⟨rfl,HC⟩:=hcut;cases ok
  ·have HD0:=aW (show D=0 by rw [HDE.out];rfl);go_wp2;go_ret;exact ⟨by rw [HD0.out];rfl,HC.out.1⟩
  ·have HD1:=aW (show D=(match cJ r kids with | none=>0 | some m=>m+1) by rw [HDE.out];rfl);obtain ⟨c1,f1,l1⟩:=HC.out.b1.rules;go_wp2;clear c1 f1 l1;go_loopw [7,92] (λ s7 s92 wr => ∃ i m:Nat,i<=nk/\m<=r/\s92=Zi Zq (i:Int)/\s7=Zi Zq (m:Int)/\Hid (Below w.heap.size w wr)/\Hid (cJ r (kids.take i)=some m)) (λ _ s92 _=>nk-(intOf s92).toNat)
   case atStart=>exact ⟨0,0,by omega,by omega,rfl,rfl,aW HC.out.1,aW (by rw [List.take_zero,cJ])⟩
   case round =>
    obtain ⟨i,m,hi,hm,rfl,rfl,HB,HM⟩:=hrel;by_cases hin:i<nk
    ·obtain ⟨x,hx⟩:∃ x,kids[i]? = some x:=⟨_,List.getElem?_eq_getElem (by rw [HNK.out];exact hin)⟩
     have hxm:=List.mem_of_getElem? hx;have HCX:=aW (HKD.out.2.2 x hxm);obtain ⟨b,o,k',k1',n1',s1',A1',na1',ca1',B1',nb1',cb1',s',A2',n2',ca2',rfl,hb,hER,hz⟩:=gT HKD.out.1 HKD.out.2.1 hx;obtain ⟨z0,z1,z2,z3,z4,z5,z6,z7⟩:=hz wr HB.out;have HTK:=aW (show kids.take (i+1)=kids.take i++[x] by rw [List.take_add_one,hx];rfl);have HXN:=aW (show bw r x=0->cJ r kids=none from λ h0=>by
      cases hd:cJ r kids with
      | none=>rfl
      | some q=>exact absurd h0 (km.1 (by rw [hd];simp) x hxm))
     have HE:=aW (λ (W:World) (h:Below w.heap.size w W)=>ih x _ F W (HG.out.keep h) (hER.bel h) HCX.out);obtain ⟨d,hd⟩:∃ d,bw r x=d:=⟨_,rfl⟩
     have hdr:d<=r:=by rw [← hd];exact p8 r x
     unfold zh at HE;rw [hd] at HE HXN;have HDX:=aW hd;have hlb:b<wr.heap.size:=Nat.lt_of_lt_of_le hb HB.out.size;have hs:=HSUB.out;clear hz hER hx hxm hd hb;go_wp2_with fail;refine (HE.out _ (HB.out.alloc HB.out.size _)).mono ?_;rintro e w4 ⟨rfl,hb4⟩;have HB4:=aW (Below.trans (HB.out.alloc HB.out.size _) (hb4.mono (by have:=HB.out.size;simp;omega)));clear hb4 z0 z1 z2 z3 z4 z5 z6 z7;by_cases hd0:d=0
     ·subst hd0;have HD0:=aW (show D=0 by rw [HD1.out,HXN.out rfl]);go_wp2;go_ret;exact ⟨by rw [HD0.out];rfl,HB4.out⟩
     ·have hdn:((d:Int) == 0)=false:=by rw [beq_eq_false_iff_ne];omega
      have HNX:=aW (show cJ r (kids.take (i+1))=some (max m d) by rw [HTK.out,lT HM.out (by rw [HDX.out];exact hd0),HDX.out]);have HD0:=aW hd0;clear hd0;by_cases hmd:m<d
      ·have hmi:(m:Int)<(d:Int):=by omega
       have HNX2:=aW (show cJ r (kids.take (i+1))=some d by rw [HNX.out,Nat.max_eq_right (by omega)]);go_wp2;go_roundw
       case rel=>exact ⟨i+1,d,by omega,by omega,by go_num,by go_num,HB4,HNX2⟩
       case measure=>simp [intOf];omega
      ·have hmi:¬ (m:Int)<(d:Int):=by omega
       have HNX2:=aW (show cJ r (kids.take (i+1))=some m by rw [HNX.out,Nat.max_eq_left (by omega)]);go_wp2;go_roundw
       case rel=>exact ⟨i+1,m,by omega,by omega,by go_num,by go_num,HB4,HNX2⟩
       case measure=>simp [intOf];omega
    ·obtain rfl:i=nk:=by omega
     have HF:=aW (show D=m+1 by
      have h:=HM.out;rw [List.take_of_length_le (Nat.le_of_eq HNK.out)] at h;rw [HD1.out,h])
     go_wp2;go_ret;exact ⟨by rw [HF.out];rfl,HB.out⟩
theorem vx:∀ r,r<=12->xC r
 | 0,_=>zz
 | r+1,h=>zA r (by omega) (vx r (by omega))
mutual
/-- what came in: a statement all parts of which are of a size -/
def fy:SJ->Prop | .mk k s a b body els=>iw k/\s.length<=4194304/\cd a/\cd b/\body.length<=4194304/\els.length<=4194304/\aK body/\aK els
def aK:List SJ->Prop | []=>True | x::r=>fy x/\aK r
end
theorem cV:∀ {xs:List SJ},aK xs ↔ ∀ x ∈ xs,fy x
 | []=>by simp [aK]
 | x::r=>by simp [aK,cV (xs:=r)]
theorem ul {d:Nat} {l:List SJ} {x:SJ}:cF d (l++[x])=(cF d l && ly d x):=by rw [wi];simp [cF]
theorem fC {W:World} {F:Nat->Prop} {css:List (List Value)} {xs:List SJ} {A:Option Addr} (h:SRs W F css xs) (hr:RdF W F A css.flatten) {i:Nat} {k:Int} {s:List UInt8} {a b:EJ} {body els:List SJ} (hx:xs[i]? = some (.mk k s a b body els)) :
  ∃ (bl o:Nat) (ka kva nva:Int) (sva:ByteArray) (Ava:Option Addr) (nka cka:Nat) (Bva:Option Addr) (nya cya:Nat) (sa:ByteArray) (Ca:Option Addr) (nxa cxa:Nat)
   (kb kvb nvb:Int) (svb:ByteArray) (Avb:Option Addr) (nkb ckb:Nat) (Bvb:Option Addr) (nyb cyb:Nat) (sb:ByteArray) (Cb:Option Addr) (nxb cxb:Nat) (BA EA:Option Addr) (cb ce:Nat) (bss ess:List (List Value)),
   A=some ⟨bl,o,none⟩/\bl<W.heap.size/\F bl/\ER W F [Zi Zq ka,Zi Zq kva,Zi Zq nva,Zt sva,Zs Ava nka cka,Zs Bva nya cya,Zt sa,Zs Ca nxa cxa] a/\ER W F [Zi Zq kb,Zi Zq kvb,Zi Zq nvb,Zt svb,Zs Avb nkb ckb,Zs Bvb nyb cyb,Zt sb,Zs Cb nxb cxb] b /\
   (SRs W F bss body/\body.length<=cb/\RdF W F BA bss.flatten)/\(SRs W F ess els/\els.length<=ce/\RdF W F EA ess.flatten) /\
   SR W F [Zi Zq k,Zt ⟨s.toArray⟩,Zi Zq ka,Zi Zq kva,Zi Zq nva,Zt sva,Zs Ava nka cka,Zs Bva nya cya,Zt sa,Zs Ca nxa cxa,Zi Zq kb,Zi Zq kvb,Zi Zq nvb,Zt svb,Zs Avb nkb ckb,Zs Bvb nyb cyb,Zt sb,Zs Cb nxb cxb,Zs BA body.length cb,Zs EA els.length ce] (.mk k s a b body els) /\
   ∀ (j:Nat) u,([Zi Zq k,Zt ⟨s.toArray⟩,Zi Zq ka,Zi Zq kva,Zi Zq nva,Zt sva,Zs Ava nka cka,Zs Bva nya cya,Zt sa,Zs Ca nxa cxa,Zi Zq kb,Zi Zq kvb,Zi Zq nvb,Zt svb,Zs Avb nkb ckb,Zs Bvb nyb cyb,Zt sb,Zs Cb nxb cxb,Zs BA body.length cb,Zs EA els.length ce]:List Value)[j]? = some u->W.cell? ⟨bl,o+(i*20+j),none⟩=some u:=by
 obtain ⟨bl,o,c,rfl,hb,hf,hc,hv,hz⟩:=h.cell (λ c x h=>h.len) (by decide) hr hx;have hv':=hv;obtain ⟨acs,bcs,BA,EA,cb,ce,bss,ess,rfl,ha,hbb,⟨g1,g2,g3,g4⟩,g5,g6,g7,g8⟩:=hv.out;obtain ⟨ka,kva,nva,sva,Ava,nka,cka,Bva,nya,cya,sa,Ca,nxa,cxa,rfl⟩:=ha.form;obtain ⟨kb,kvb,nvb,svb,Avb,nkb,ckb,Bvb,nyb,cyb,sb,Cb,nxb,cxb,rfl⟩:=hbb.form;refine ⟨bl,o,ka,kva,nva,sva,Ava,nka,cka,Bva,nya,cya,sa,Ca,nxa,cxa,kb,kvb,nvb,svb,Avb,nkb,ckb,Bvb,nyb,cyb,sb,Cb,nxb,cxb,BA,EA,cb,ce,bss,ess,rfl,hb,hf,ha,hbb,⟨g1,g2,g4⟩,⟨g5,g6,g8⟩,hv',λ j u hu=>hz j u ?_ hu⟩;have:=(List.getElem?_eq_some_iff.1 hu).1;simpa using this
theorem cz {P:Program} {ops:Array Oper} {rest:List Oper} {op:Oper} {a:Act} {w:World} {Q:Exit->Act->World->Prop} (hgd:op.guard=none) (ty:TypeId) (x y:Operand) (ho:op.op=.store ty x y)
  (old cells:Array Value) (hx:a.eval x=Zp (some ⟨w.heap.size,0,none⟩)) (hy:a.eval y=.agg cells)
  (hi:(P.info? ty).map (·.size)=some cells.size) (hs:old.size=cells.size) (h1:cells.all (·.oneCell')=true)
  (h:wpList P ops Q rest (a.put op.dst undef) (w.alloc (.cells cells ty))):wpList P ops Q (op::rest) a (w.alloc (.cells old ty)) :=
 wpList_plain hgd λ _ hK=>kg ty x y ho old cells hx hy hi hs h1 (hK _ _ h)
def zk (b:Bool) (w:World) (e:Ending) (w':World):Prop:=e=.returned (.bool b)/\Below w.heap.size w w'
def zj (r:Nat):Prop:=∀ (l:List SJ) (css:List (List Value)) (A:Option Addr) (n ca:Nat) (F:Nat->Prop) (w:World),GOE w->SRs w F css l->l.length=n->n<=ca->RdF w F A css.flatten->aK l->n<=4194304 ->
 Calls Tryz.prog 46 #[Zs A n ca,Zi Zq (r:Int)] w (zk (cF r l) w)
theorem yY (r:Nat) (hr:r<=12) (ih:r≠0->zj (r-1)):zj r:=by
 intro l css A n ca F w hG hS hln hnc hR hC hn;have HG:=aW hG;have HKD:=aW (And.intro hS hR);have HNK:=aW hln;have HCL:=aW (cV.1 hC);obtain ⟨R,hRr⟩:∃ R:Int,(r:Int)=R:=⟨_,rfl⟩
 have HRR:=aW hRr;obtain ⟨D,hD⟩:∃ D,cF r l=D:=⟨_,rfl⟩
 have HDD:=aW hD;have hsub:IntKind.i64.wrap (R-1)=R-1:=IntWalk.i64_in _ (by omega);have HSUB:=aW hsub;rw [hRr,hD];clear hG hS hln hR hC hRr hD hsub;go_enter Tryz.func46,Tryz.ntmps46;go_wp2;go_loopw [10] (λ s10 wr => ∃ i:Nat,i<=n/\s10=Zi Zq (i:Int)/\Hid (Below w.heap.size w wr)/\Hid (cF r (l.take i)=true)) (λ s10 _=>n-(intOf s10).toNat)
 case atStart=>exact ⟨0,by omega,rfl,aW (Below.refl _ _),aW (by rw [List.take_zero,cF])⟩
 case round =>
  obtain ⟨i,hi,rfl,HB,HM⟩:=hrel;by_cases hin:i<n
  ·obtain ⟨x,hx⟩:∃ x,l[i]? = some x:=⟨_,List.getElem?_eq_getElem (by rw [HNK.out];exact hin)⟩
   have hxm:=List.mem_of_getElem? hx;have hcx:=HCL.out x hxm;have HTK:=aW (show cF r (l.take (i+1))=ly r x by rw [List.take_add_one,hx];show cF r (l.take i++[x])=_;rw [ul,HM.out,Bool.true_and]);have HXN:=aW (show ly r x=false->D=false from λ h0=>by
    rw [← HDD.out];cases hd:cF r l with
    | false=>rfl
    | true=>have:=my.1 hd x hxm;rw [h0] at this;cases this)
   obtain ⟨k,s,a,b,body,els⟩:=x;obtain ⟨bl,o,ka,kva,nva,sva,Ava,nka,cka,Bva,nya,cya,sa,Ca,nxa,cxa,kb,kvb,nvb,svb,Avb,nkb,ckb,Bvb,nyb,cyb,sb,Cb,nxb,cxb,BA,EA,cb,ce,bss,ess,rfl,hbl,_,hEA,hEB,⟨hb1,hb2,hb3⟩,⟨he1,he2,he3⟩,hSR,hz⟩:=fC HKD.out.1 HKD.out.2 hx;unfold fy at hcx;obtain ⟨hik,hsl,hca,hcb,hbl4,hel4,hcbo,hcel⟩:=hcx;obtain ⟨nb,hnb⟩:∃ q,body.length=q:=⟨_,rfl⟩
   obtain ⟨ne,hne⟩:∃ q,els.length=q:=⟨_,rfl⟩
   rw [hnb] at hb2 hbl4 hz;rw [hne] at he2 hel4 hz;obtain ⟨da,hda⟩:∃ d,bw 12 a=d:=⟨_,rfl⟩
   obtain ⟨db,hdb⟩:∃ d,bw 12 b=d:=⟨_,rfl⟩
   obtain ⟨bk,hbk⟩:∃ z,fW b=z:=⟨_,rfl⟩
   obtain ⟨nm,hnm⟩:∃ z,fe s=z:=⟨_,rfl⟩
   obtain ⟨mb,hmb⟩:∃ z,cF (r-1) body=z:=⟨_,rfl⟩
   obtain ⟨me,hme⟩:∃ z,cF (r-1) els=z:=⟨_,rfl⟩
   have HDA:=aW (λ (W:World) (h:Below w.heap.size w W)=>vx 12 (by omega) a _ F W (HG.out.keep h) (hEA.bel h) hca);have HDB:=aW (λ (W:World) (h:Below w.heap.size w W)=>vx 12 (by omega) b _ F W (HG.out.keep h) (hEB.bel h) hcb);have HBK:=aW (λ (W:World) (h:Below w.heap.size w W)=>zy b _ F W (hEB.bel h) hcb);have HNM:=aW (λ (W:World) (h:Below w.heap.size w W)=>il ⟨s.toArray⟩ W);have HMB:=aW (λ (h0:r≠0) (W:World) (h:Below w.heap.size w W)=>ih h0 body bss BA nb cb F W (HG.out.keep h) (RR.imp hb1 λ c x hc=>hc.bel h) hnb hb2 (hb3.keep (ah.of_below h)) hcbo hbl4);have HME:=aW (λ (h0:r≠0) (W:World) (h:Below w.heap.size w W)=>ih h0 els ess EA ne ce F W (HG.out.keep h) (RR.imp he1 λ c x hc=>hc.bel h) hne he2 (he3.keep (ah.of_below h)) hcel hel4);rw [show dg ⟨s.toArray⟩=nm from hnm] at HNM;rw [hbk] at HBK;unfold zh at HDA HDB;rw [hda] at HDA;rw [hdb] at HDB;rw [hmb] at HMB;rw [hme] at HME;unfold zk at HMB HME;have HMS:=aW (show ly r (.mk k s a b body els)=(decide (r≠0) && (decide (da≠0) && (if k=1 then decide (db≠0) && decide (s=[]/\nb+ne=0) else if k=2 then bk && (decide (s=[]) && (mb && me)) else if k=3 then bk && (nm && (mb && decide (ne=0))) else false))) by
    unfold ly o4;simp only [hda,hdb,hbk,hnm,hmb,hme,hnb,hne])
   obtain ⟨M,hM⟩:∃ M,ly r (.mk k s a b body els)=M:=⟨_,rfl⟩
   rw [hM] at HMS HTK HXN;have hlb:bl<wr.heap.size:=Nat.lt_of_lt_of_le hbl HB.out.size;have hz':=λ (j:Nat) u (hu:([Zi Zq k,Zt ⟨s.toArray⟩,Zi Zq ka,Zi Zq kva,Zi Zq nva,Zt sva,Zs Ava nka cka,Zs Bva nya cya,Zt sa,Zs Ca nxa cxa,Zi Zq kb,Zi Zq kvb,Zi Zq nvb,Zt svb,Zs Avb nkb ckb,Zs Bvb nyb cyb,Zt sb,Zs Cb nxb cxb,Zs BA nb cb,Zs EA ne ce]:List Value)[j]? = some u)=>(HB.out.cell (p:=⟨bl,o+(i*20+j),none⟩) hbl).trans (hz j u hu)
   have HRG:=aW (show wr.rangeAt bl (o+i*20) [Zi Zq k,Zt ⟨s.toArray⟩,Zi Zq ka,Zi Zq kva,Zi Zq nva,Zt sva,Zs Ava nka cka,Zs Bva nya cya,Zt sa,Zs Ca nxa cxa,Zi Zq kb,Zi Zq kvb,Zi Zq nvb,Zt svb,Zs Avb nkb ckb,Zs Bvb nyb cyb,Zt sb,Zs Cb nxb cxb,Zs BA nb cb,Zs EA ne ce] from λ j v hv=>by rw [Nat.add_assoc];exact hz' j v hv);clear hz hz' hSR hEA hEB hb1 hb2 hb3 he1 he2 he3 hca hcb hcbo hcel hnb hne hda hdb hbk hnm hmb hme hM hx hxm hbl;have HH1:=aW ((aT.nil wr).push 48 #[Zi Zq k,Zt ⟨s.toArray⟩,Zi Zq ka,Zi Zq kva,Zi Zq nva,Zt sva,Zs Ava nka cka,Zs Bva nya cya,Zt sa,Zs Ca nxa cxa,Zi Zq kb,Zi Zq kvb,Zi Zq nvb,Zt svb,Zs Avb nkb ckb,Zs Bvb nyb cyb,Zt sb,Zs Cb nxb cxb,Zs BA nb cb,Zs EA ne ce] (g:=wr.heap.size) rfl);go_upto_region 3 with fail;go_step;go_step;go_step;go_step;refine wpList_load_mid rfl 48 (.tmp 12) rfl bl (o+i*20) rfl [Zi Zq k,Zt ⟨s.toArray⟩,Zi Zq ka,Zi Zq kva,Zi Zq nva,Zt sva,Zs Ava nka cka,Zs Bva nya cya,Zt sa,Zs Ca nxa cxa,Zi Zq kb,Zi Zq kvb,Zi Zq nvb,Zt svb,Zs Avb nkb ckb,Zs Bvb nyb cyb,Zt sb,Zs Cb nxb cxb,Zs BA nb cb,Zs EA ne ce] _ HRG.out Tryz.underlying48 rfl (by kernel_rfl) ?_;go_step;go_step;go_step;refine cz rfl 48 (.tmp 6) (.tmp 13) rfl _ _ rfl rfl (by kernel_rfl) (by kernel_rfl) (by first | kernel_rfl | simp [Value.oneCell']) ?_;obtain ⟨c0,f0,l0⟩:=HH1.out.b0.rules;by_cases hr0:r=0
   ·have hR0:¬ (0:Int)<R:=by have:=HRR.out;omega
    have HR0:=aW hr0;clear hr0;go_upto_block 2 with fail;go_cut [7] (λ s7 wx=>s7=.bool M/\Hid (Below w.heap.size w wx))
    case first =>
     by_cases hk1:k=1
     ·have ek1:(k == 1)=true:=by simp [hk1]
      have HK1:=aW hk1;clear hk1;go_wp2;go_meet
      case rel=>exact ⟨by rw [HMS.out];simp [HR0.out],aW (HB.out.trans (HH1.out.1.mono HB.out.size))⟩
     ·have ek1:(k == 1)=false:=by simp [hk1]
      have HK1:=aW hk1;clear hk1;by_cases hk2:k=2
      ·have ek2:(k == 2)=true:=by simp [hk2]
       have HK2:=aW hk2;clear hk2;go_wp2;go_meet
       case rel=>exact ⟨by rw [HMS.out];simp [HR0.out],aW (HB.out.trans (HH1.out.1.mono HB.out.size))⟩
      ·have ek2:(k == 2)=false:=by simp [hk2]
       have HK2:=aW hk2;clear hk2;by_cases hk3:k=3
       ·have ek3:(k == 3)=true:=by simp [hk3]
        have HK3:=aW hk3;clear hk3;go_wp2;go_meet
        case rel=>exact ⟨by rw [HMS.out];simp [HR0.out],aW (HB.out.trans (HH1.out.1.mono HB.out.size))⟩
       ·have ek3:(k == 3)=false:=by simp [hk3]
        have HK3:=aW hk3;clear hk3;go_wp2;go_meet
        case rel=>exact ⟨by rw [HMS.out];simp [HR0.out],aW (HB.out.trans (HH1.out.1.mono HB.out.size))⟩
    case rest =>
     obtain ⟨rfl,HBX⟩:=hcut;cases M
     ·have HD0:=aW (HXN.out rfl);go_wp2;go_ret;exact ⟨by rw [HD0.out];rfl,HBX.out⟩
     ·go_wp2;go_roundw
      case rel=>exact ⟨i+1,by omega,by go_num,HBX,HTK⟩
      case measure=>simp [intOf];omega
   ·have hR0:(0:Int)<R:=by have:=HRR.out;omega
    have HR0:=aW hr0;have hs1:=HSUB.out;have hs2:((r-1:Nat):Int)=R-1:=by have:=HRR.out;omega
    rw [hs2] at HMB HME;clear hr0 hs2;go_wp2_with fail;refine (HDA.out _ (HB.out.trans (HH1.out.1.mono HB.out.size))).mono ?_;rintro e w10 ⟨rfl,hq10⟩;have HH10:=aW (HH1.out.keep hq10);clear hq10 c0 f0 l0;obtain ⟨c0,f0,l0⟩:=HH10.out.b0.rules;by_cases hda0:da=0
    ·have e0:¬ (0:Int)<(da:Int):=by omega
     have HDA0:=aW hda0;clear hda0;go_upto_block 2 with fail;go_cut [7] (λ s7 wx=>s7=.bool M/\Hid (Below w.heap.size w wx))
     case first =>
      by_cases hk1:k=1
      ·have ek1:(k == 1)=true:=by simp [hk1]
       have HK1:=aW hk1;clear hk1;go_wp2;go_meet
       case rel=>exact ⟨by rw [HMS.out];simp [HDA0.out],aW (HB.out.trans (HH10.out.1.mono HB.out.size))⟩
      ·have ek1:(k == 1)=false:=by simp [hk1]
       have HK1:=aW hk1;clear hk1;by_cases hk2:k=2
       ·have ek2:(k == 2)=true:=by simp [hk2]
        have HK2:=aW hk2;clear hk2;go_wp2;go_meet
        case rel=>exact ⟨by rw [HMS.out];simp [HDA0.out],aW (HB.out.trans (HH10.out.1.mono HB.out.size))⟩
       ·have ek2:(k == 2)=false:=by simp [hk2]
        have HK2:=aW hk2;clear hk2;by_cases hk3:k=3
        ·have ek3:(k == 3)=true:=by simp [hk3]
         have HK3:=aW hk3;clear hk3;go_wp2;go_meet
         case rel=>exact ⟨by rw [HMS.out];simp [HDA0.out],aW (HB.out.trans (HH10.out.1.mono HB.out.size))⟩
        ·have ek3:(k == 3)=false:=by simp [hk3]
         have HK3:=aW hk3;clear hk3;go_wp2;go_meet
         case rel=>exact ⟨by rw [HMS.out];simp [HDA0.out],aW (HB.out.trans (HH10.out.1.mono HB.out.size))⟩
     case rest =>
      obtain ⟨rfl,HBX⟩:=hcut;cases M
      ·have HD0:=aW (HXN.out rfl);go_wp2;go_ret;exact ⟨by rw [HD0.out];rfl,HBX.out⟩
      ·go_wp2;go_roundw
       case rel=>exact ⟨i+1,by omega,by go_num,HBX,HTK⟩
       case measure=>simp [intOf];omega
    ·have e0:(0:Int)<(da:Int):=by omega
     have HDA0:=aW hda0;clear hda0;go_upto_block 2 with fail;go_cut [7] (λ s7 wx=>s7=.bool M/\Hid (Below w.heap.size w wx))
     case first =>
      by_cases hk1:k=1
      ·have ek1:(k == 1)=true:=by simp [hk1]
       have HK1:=aW hk1;clear hk1;go_wp2_with fail;refine (HDB.out _ (HB.out.trans (HH10.out.1.mono HB.out.size))).mono ?_;rintro e w11 ⟨rfl,hq11⟩;have HH11:=aW (HH10.out.keep hq11);clear hq11 c0 f0 l0;obtain ⟨c0,f0,l0⟩:=HH11.out.b0.rules;by_cases hdb0:db=0
       ·have e0:¬ (0:Int)<(db:Int):=by omega
        have HDB0:=aW hdb0;clear hdb0;go_wp2;go_meet
        case rel=>exact ⟨by rw [HMS.out];simp [HDA0.out,HR0.out,HK1.out,HDB0.out],aW (HB.out.trans (HH11.out.1.mono HB.out.size))⟩
       ·have e0:(0:Int)<(db:Int):=by omega
        have HDB0:=aW hdb0;clear hdb0;by_cases hs:s=[];rotate_left
        ·go_wp2;go_meet
         case rel=>exact ⟨by rw [HMS.out];simp [HDA0.out,HR0.out,HK1.out,HDB0.out,hs],aW (HB.out.trans (HH11.out.1.mono HB.out.size))⟩
        ·subst hs;by_cases hnz:nb+ne=0
         ·have enz:((nb:Int)+ne == 0)=true:=by rw [beq_iff_eq];omega
          have HNz:=aW hnz;clear hnz;go_wp2;go_meet
          case rel=>exact ⟨by rw [HMS.out];have hz9:=HNz.out;simp [HDA0.out,HR0.out,HK1.out,HDB0.out];omega,aW (HB.out.trans (HH11.out.1.mono HB.out.size))⟩
         ·have enz:((nb:Int)+ne == 0)=false:=by rw [beq_eq_false_iff_ne];omega
          have HNz:=aW hnz;clear hnz;go_wp2;go_meet
          case rel=>exact ⟨by rw [HMS.out];have hz9:=HNz.out;simp [HDA0.out,HR0.out,HK1.out,HDB0.out];omega,aW (HB.out.trans (HH11.out.1.mono HB.out.size))⟩
      ·have ek1:(k == 1)=false:=by simp [hk1]
       have HK1:=aW hk1;clear hk1;by_cases hk2:k=2
       ·have ek2:(k == 2)=true:=by simp [hk2]
        have HK2:=aW hk2;clear hk2;go_wp2_with fail;refine (HBK.out _ (HB.out.trans (HH10.out.1.mono HB.out.size))).mono ?_;rintro e w12 ⟨rfl,hq12⟩;have HH12:=aW (HH10.out.keep hq12);clear hq12 c0 f0 l0;obtain ⟨c0,f0,l0⟩:=HH12.out.b0.rules;cases bk
        ·go_wp2;go_meet
         case rel=>exact ⟨by rw [HMS.out];simp [HDA0.out,HR0.out,HK1.out,HK2.out],aW (HB.out.trans (HH12.out.1.mono HB.out.size))⟩
        ·by_cases hs:s=[];rotate_left
         ·go_wp2;go_meet
          case rel=>exact ⟨by rw [HMS.out];simp [HDA0.out,HR0.out,HK1.out,HK2.out,hs],aW (HB.out.trans (HH12.out.1.mono HB.out.size))⟩
         ·subst hs;go_wp2_with fail;refine (HMB.out HR0.out _ (HB.out.trans (HH12.out.1.mono HB.out.size))).mono ?_;rintro e w13 ⟨rfl,hq13⟩;have HH13:=aW (HH12.out.keep hq13);clear hq13 c0 f0 l0;obtain ⟨c0,f0,l0⟩:=HH13.out.b0.rules;cases mb
          ·go_wp2;go_meet
           case rel=>exact ⟨by rw [HMS.out];simp [HDA0.out,HR0.out,HK1.out,HK2.out],aW (HB.out.trans (HH13.out.1.mono HB.out.size))⟩
          ·go_wp2_with fail;refine (HME.out HR0.out _ (HB.out.trans (HH13.out.1.mono HB.out.size))).mono ?_;rintro e w14 ⟨rfl,hq14⟩;have HH14:=aW (HH13.out.keep hq14);clear hq14 c0 f0 l0;obtain ⟨c0,f0,l0⟩:=HH14.out.b0.rules;cases me
           ·go_wp2;go_meet
            case rel=>exact ⟨by rw [HMS.out];simp [HDA0.out,HR0.out,HK1.out,HK2.out],aW (HB.out.trans (HH14.out.1.mono HB.out.size))⟩
           ·go_wp2;go_meet
            case rel=>exact ⟨by rw [HMS.out];simp [HDA0.out,HR0.out,HK1.out,HK2.out],aW (HB.out.trans (HH14.out.1.mono HB.out.size))⟩
       ·have ek2:(k == 2)=false:=by simp [hk2]
        have HK2:=aW hk2;clear hk2;by_cases hk3:k=3
        ·have ek3:(k == 3)=true:=by simp [hk3]
         have HK3:=aW hk3;clear hk3;go_wp2_with fail;refine (HBK.out _ (HB.out.trans (HH10.out.1.mono HB.out.size))).mono ?_;rintro e w15 ⟨rfl,hq15⟩;have HH15:=aW (HH10.out.keep hq15);clear hq15 c0 f0 l0;obtain ⟨c0,f0,l0⟩:=HH15.out.b0.rules;cases bk
         ·go_wp2;go_meet
          case rel=>exact ⟨by rw [HMS.out];simp [HDA0.out,HR0.out,HK1.out,HK2.out,HK3.out],aW (HB.out.trans (HH15.out.1.mono HB.out.size))⟩
         ·go_wp2_with fail;refine (HNM.out _ (HB.out.trans (HH15.out.1.mono HB.out.size))).mono ?_;rintro e w16 ⟨rfl,hq16⟩;have HH16:=aW (HH15.out.keep hq16);clear hq16 c0 f0 l0;obtain ⟨c0,f0,l0⟩:=HH16.out.b0.rules;cases nm
          ·go_wp2;go_meet
           case rel=>exact ⟨by rw [HMS.out];simp [HDA0.out,HR0.out,HK1.out,HK2.out,HK3.out],aW (HB.out.trans (HH16.out.1.mono HB.out.size))⟩
          ·go_wp2_with fail;refine (HMB.out HR0.out _ (HB.out.trans (HH16.out.1.mono HB.out.size))).mono ?_;rintro e w17 ⟨rfl,hq17⟩;have HH17:=aW (HH16.out.keep hq17);clear hq17 c0 f0 l0;obtain ⟨c0,f0,l0⟩:=HH17.out.b0.rules;cases mb
           ·go_wp2;go_meet
            case rel=>exact ⟨by rw [HMS.out];simp [HDA0.out,HR0.out,HK1.out,HK2.out,HK3.out],aW (HB.out.trans (HH17.out.1.mono HB.out.size))⟩
           ·by_cases hny:ne=0
            ·have eny:((ne:Int) == 0)=true:=by rw [beq_iff_eq];omega
             have HNy:=aW hny;clear hny;go_wp2;go_meet
             case rel=>exact ⟨by rw [HMS.out];simp [HDA0.out,HR0.out,HK1.out,HK2.out,HK3.out,HNy.out],aW (HB.out.trans (HH17.out.1.mono HB.out.size))⟩
            ·have eny:((ne:Int) == 0)=false:=by rw [beq_eq_false_iff_ne];omega
             have HNy:=aW hny;clear hny;go_wp2;go_meet
             case rel=>exact ⟨by rw [HMS.out];simp [HDA0.out,HR0.out,HK1.out,HK2.out,HK3.out,HNy.out],aW (HB.out.trans (HH17.out.1.mono HB.out.size))⟩
        ·have ek3:(k == 3)=false:=by simp [hk3]
         have HK3:=aW hk3;clear hk3;go_wp2;go_meet
         case rel=>exact ⟨by rw [HMS.out];simp [HDA0.out,HR0.out,HK1.out,HK2.out,HK3.out],aW (HB.out.trans (HH10.out.1.mono HB.out.size))⟩
     case rest =>
      obtain ⟨rfl,HBX⟩:=hcut;cases M
      ·have HD0:=aW (HXN.out rfl);go_wp2;go_ret;exact ⟨by rw [HD0.out];rfl,HBX.out⟩
      ·go_wp2;go_roundw
       case rel=>exact ⟨i+1,by omega,by go_num,HBX,HTK⟩
       case measure=>simp [intOf];omega
  ·obtain rfl:i=n:=by omega
   have HF:=aW (show D=true by
    have h:=HM.out;rw [List.take_of_length_le (Nat.le_of_eq HNK.out),HDD.out] at h;exact h)
   go_wp2;go_ret;exact ⟨by rw [HF.out];rfl,HB.out⟩
end
end Go.Proofs.YtgmnmnnoahdjnaaGreatDoor
