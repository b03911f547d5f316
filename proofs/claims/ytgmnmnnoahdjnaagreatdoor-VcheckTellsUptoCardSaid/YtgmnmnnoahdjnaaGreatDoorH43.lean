import Derived.Test.YtgmnmnnoahdjnaaGreatDoorH42
open Go.Value renaming int → Zi, slice → Zs, string → Zt, pointer → Zp
open Go.IntKind renaming i64 → Zq
set_option maxRecDepth 100000
set_option maxHeartbeats 16000000
set_option linter.unusedVariables false
set_option linter.unusedSimpArgs false
namespace Go.Proofs.YtgmnmnnoahdjnaaGreatDoor
section
open Go.RowKit
attribute [local go_sem] ab ae af ac
mutual
theorem uv:∀ x:SJ,deS x<=dv x
 | .mk k s a b body els=>by
  have h1:=ip body;have h2:=ip els;rw [deS,dv];split<;>omega
theorem ip:∀ l:List SJ,cV l<=ap l
 | []=>Nat.le_refl _
 |x::r=>by
  have h1:=uv x;have h2:=ip r;rw [cV,ap];omega
end
theorem wl {p:List SJ} {A:Option Addr} {n ca:Nat} {W:World} (h:di W A n ca p) (hC:aZ p) (hs:ap p<4194304):Calls Tryz.prog 28 #[.agg #[Zs A n ca]] W (rY (cX p) W):=by
 have HR:=aW (λ (w:World) (hb:Below W.heap.size W w)=>sL (h.bel hb) hC (by omega));have HG:=aW (λ (w:World) (hb:Below W.heap.size W w) (KA:Option Addr) (kc:Nat) (hk:Rd w KA (ar (knw [])))=>show Calls Tryz.prog 62 #[Zs A n ca,Zs KA 2 kc,Zi Zq 0] w (λ e w'=>e=.returned (Zi Zq (rgL (knw []) 0 p))/\Below w.heap.size w w') from by
  obtain ⟨css,h1,h2,h3,h4⟩:=h.bel hb;have hn:n<=4194304:=by have:=bD p;omega
  exact xS 4194304 (Nat.le_refl _) p css A n ca (knw []) KA 2 kc 0 w hs h1 h3 h4 h2 hn rfl (by omega) (by omega) hk)
 have HH0:=aW ((aH.nil W).push 24 #[Zs A n ca] (g:=W.heap.size) rfl);have he:=qS p;obtain ⟨g,hg⟩:∃ g,ff p=g:=⟨_,rfl⟩
 obtain ⟨q,hq⟩:∃ q,rgL (knw []) 0 p=q:=⟨_,rfl⟩
 rw [hq] at he HG;rw [hg] at HR he;rw [he];obtain ⟨r,hr⟩:∃ r,(if g=true then q else 332)=r:=⟨_,rfl⟩
 rw [hr];have HRR:=aW hr;clear h hC hs hg hq he hr;obtain ⟨c0,f0,l0⟩:=HH0.out.b0.rules;go_enter Tryz.func28,Tryz.ntmps28;go_wp2_with fail;refine (HR.out _ HH0.out.1).mono ?_;rintro e w1 ⟨rfl,hb1⟩;have HH1:=aW (HH0.out.keep hb1);clear hb1 c0 f0 l0;cases g
 ·obtain rfl:r=332:=by have h:=HRR.out;simpa using h.symm
  go_wp2;go_ret;exact ⟨rfl,HH1.out.1⟩
 ·obtain rfl:r=q:=by have h:=HRR.out;simpa using h.symm
  obtain ⟨c0,f0,l0⟩:=HH1.out.b0.rules;obtain ⟨gA,hgA⟩:∃ z,w1.heap.size=z:=⟨_,rfl⟩
  obtain ⟨xA,hxA⟩:∃ z,w1.alloc (.cells #[Zt ⟨#[100,111,99]⟩,Zt ⟨#[105,100]⟩] 9)=z:=⟨_,rfl⟩
  have HBA:=aW (show Below W.heap.size W xA by rw [← hxA];exact HH1.out.1.alloc HH1.out.1.size _);have HC:=aW (HG.out xA HBA.out (some ⟨gA,0,none⟩) 2 (by rw [← hxA,← hgA];exact Rd.of_blk (Blk.new w1 9 _)));have HXA:=aW (And.intro hxA hgA);clear hxA hgA;go_wp2_with fail;rw [HXA.out.1,HXA.out.2];refine HC.out.mono ?_;rintro e w2 ⟨rfl,hb⟩;have HE:=aW (HBA.out.trans (hb.mono HBA.out.size));clear hb c0 f0 l0;go_wp2;go_ret;exact ⟨rfl,HE.out⟩
theorem uu {l:List SJ} {i:Nat} {x:SJ} (h:l[i]? = some x):cV (l.take (i+1))=max (cV (l.take i)) (deS x):=by
 rw [List.take_add_one,h,nu];congr 1;show cV [x]=_
 rw [cV,cV];omega
def rM (M:Nat):Prop:=∀ (l:List SJ) (css:List (List Value)) (A:Option Addr) (n ca:Nat) (w:World),ap l<M->SRs w TT css l->l.length=n->n<=ca->RdF w TT A css.flatten->n<=4194304 ->
 Calls Tryz.prog 69 #[Zs A n ca] w λ e w'=>e=.returned (Zi Zq (cV l:Int))/\Below w.heap.size w w'
theorem uY (M:Nat) (hM4:M<=4194304) (ih:rM M):rM (M+1):=by
 intro l css A n ca w hM hS hln hnc hR hn;have HS:=aW (And.intro hS hR);have HL:=aW hln;have HI:=aW ih;have HM:=aW hM;clear hS hR hln ih hM;go_enter Tryz.func69,Tryz.ntmps69;go_wp2_with fail;go_loopg [3,4] n (λ gk s3 s4 wr => ∃ (i:Nat) (m:Int),i<=n/\gk=n-i/\s3=Zi Zq m/\s4=Zi Zq (i:Int)/\Hid ((cV (l.take i):Int)=m)/\Hid (Below w.heap.size w wr))
 case atStart=>exact ⟨0,0,Nat.zero_le _,rfl,rfl,by go_num,aW rfl,aW (Below.refl _ _)⟩
 case round =>
  obtain ⟨i,m,hi,hgk,rfl,rfl,HV,HB⟩:=hrel;have HGK:=aW hgk;clear hgk;by_cases hlt:i<n;rotate_left
  ·obtain rfl:i=n:=by omega
   have hf:(cV l:Int)=m:=by
    have h:=HV.out;rwa [List.take_of_length_le (by rw [HL.out];exact Nat.le_refl _)] at h
   go_wp2_with fail;go_ret;exact ⟨congrArg (λ b=>Ending.returned (Zi Zq b)) hf.symm,HB.out⟩
  obtain ⟨⟨k,s,a,b,body,els⟩,hx⟩:∃ x,l[i]? = some x:=⟨_,List.getElem?_eq_getElem (by rw [HL.out];exact hlt)⟩
  obtain ⟨bl,o,ka,kva,nva,sva,Ava,nka,cka,Bva,nya,cya,sa,Ca,nxa,cxa,kb,kvb,nvb,svb,Avb,nkb,ckb,Bvb,nyb,cyb,sb,Cb,nxb,cxb,BA,EA,cbo,cel,bss,ess,rfl,hbl,hblo,hEA,hEB,⟨hb1,hb2_,hb3⟩,⟨he1,he2,he3⟩,hSR,hz⟩:=dH HS.out.1 HS.out.2 hx;obtain ⟨nbo,hnbo⟩:∃ q,body.length=q:=⟨_,rfl⟩
  obtain ⟨nel,hnel⟩:∃ q,els.length=q:=⟨_,rfl⟩
  rw [hnbo] at hb2_ hz hSR;rw [hnel] at he2 hz hSR;have hsum:=iO hx;rw [dv] at hsum;have hAT:=uu hx;rw [deS] at hAT;have hM9:=HM.out;have hbn:nbo<=4194304/\nel<=4194304:=by
   have h1:=bD body;have h2:=bD els;omega
  have hdb:cV body<=4194304:=by have:=ip body;omega
  have HZC:=aW (λ (W:World) (h:Below w.heap.size w W)=>show W.cell? ⟨bl,o+i*20,none⟩=some (Zi Zq k)/\W.cell? ⟨bl,o+i*20+18,none⟩=some (Zs BA nbo cbo)/\W.cell? ⟨bl,o+i*20+19,none⟩=some (Zs EA nel cel) from by
   have z:=λ (j:Nat) u hu=>(h.cell (p:=⟨bl,o+(i*20+j),none⟩) hbl).trans (hz j u hu)
   exact ⟨z 0 _ rfl,z 18 _ rfl,z 19 _ rfl⟩)
  have HIB:=aW (λ (W:World) (h:Below w.heap.size w W)=>HI.out body bss BA nbo cbo W (by omega) (RR.imp hb1 λ c x hc=>hc.bel h) hnbo hb2_ (hb3.keep (aj.of_below h)) hbn.1);have HIE:=aW (λ (W:World) (h:Below w.heap.size w W)=>HI.out els ess EA nel cel W (by omega) (RR.imp he1 λ c x hc=>hc.bel h) hnel he2 (he3.keep (aj.of_below h)) hbn.2);have hMx:((cV (l.take (i+1)):Nat):Int)=max m (max ((cV body:Int)+if k=3 then 1 else 0) (cV els:Int)):=by
   have h0:=HV.out;rw [hAT];split<;>omega
  obtain ⟨d1,hd1⟩:∃ z:Nat,cV body=z:=⟨_,rfl⟩
  obtain ⟨d2,hd2⟩:∃ z:Nat,cV els=z:=⟨_,rfl⟩
  rw [hd1] at HIB hMx hdb;rw [hd2] at HIE hMx;have HMX:=aW hMx;clear hz hSR hEA hEB hb1 hb2_ hb3 he1 he2 he3 hnbo hnel hbl hblo hx hsum hM9 hbn hAT hMx hd1 hd2;obtain ⟨z0,z18,z19⟩:=HZC.out wr HB.out;go_wp2_with fail;refine (HIB.out wr HB.out).mono ?_;rintro e Y1 ⟨rfl,hb⟩;have HB1:=aW (HB.out.trans (hb.mono HB.out.size));clear hb z0 z18 z19 HB HIB;obtain ⟨z0,z18,z19⟩:=HZC.out Y1 HB1.out;by_cases hk:k=3
  ·subst hk;replace HMX:=aW (show ((cV (l.take (i+1)):Nat):Int)=max m (max ((d1:Int)+1) (d2:Int)) from by have h:=HMX.out;rwa [if_pos (by trivial)] at h);go_wp2_with fail;refine (HIE.out Y1 HB1.out).mono ?_;rintro e Y2 ⟨rfl,hb⟩;have HB2:=aW (HB1.out.trans (hb.mono HB1.out.size));clear hb z0 z18 z19 HB1 HIE HZC;by_cases h2:(d1:Int)+1<(d2:Int)
   ·by_cases h3:m<(d2:Int)
    ·go_wp2_with fail;go_roundg (n-(i+1))
     case measure=>rw [HGK.out];omega
     case rel=>exact ⟨i+1,_,hlt,rfl,rfl,by go_num,aW (by rw [HMX.out];omega),HB2⟩
    ·go_wp2_with fail;go_roundg (n-(i+1))
     case measure=>rw [HGK.out];omega
     case rel=>exact ⟨i+1,_,hlt,rfl,rfl,by go_num,aW (by rw [HMX.out];omega),HB2⟩
   ·by_cases h3:m<(d1:Int)+1
    ·go_wp2_with fail;go_roundg (n-(i+1))
     case measure=>rw [HGK.out];omega
     case rel=>exact ⟨i+1,_,hlt,rfl,rfl,by go_num,aW (by rw [HMX.out];omega),HB2⟩
    ·go_wp2_with fail;go_roundg (n-(i+1))
     case measure=>rw [HGK.out];omega
     case rel=>exact ⟨i+1,_,hlt,rfl,rfl,by go_num,aW (by rw [HMX.out];omega),HB2⟩
  ·have hkb:(k == 3)=false:=by simpa using hk
   replace HMX:=aW (show ((cV (l.take (i+1)):Nat):Int)=max m (max (d1:Int) (d2:Int)) from by have h:=HMX.out;rwa [if_neg hk,Int.add_zero] at h);go_wp2_with fail;refine (HIE.out Y1 HB1.out).mono ?_;rintro e Y2 ⟨rfl,hb⟩;have HB2:=aW (HB1.out.trans (hb.mono HB1.out.size));clear hb z0 z18 z19 HB1 HIE HZC;by_cases h2:(d1:Int)<(d2:Int)
   ·by_cases h3:m<(d2:Int)
    ·go_wp2_with fail;go_roundg (n-(i+1))
     case measure=>rw [HGK.out];omega
     case rel=>exact ⟨i+1,_,hlt,rfl,rfl,by go_num,aW (by rw [HMX.out];omega),HB2⟩
    ·go_wp2_with fail;go_roundg (n-(i+1))
     case measure=>rw [HGK.out];omega
     case rel=>exact ⟨i+1,_,hlt,rfl,rfl,by go_num,aW (by rw [HMX.out];omega),HB2⟩
   ·by_cases h3:m<(d1:Int)
    ·go_wp2_with fail;go_roundg (n-(i+1))
     case measure=>rw [HGK.out];omega
     case rel=>exact ⟨i+1,_,hlt,rfl,rfl,by go_num,aW (by rw [HMX.out];omega),HB2⟩
    ·go_wp2_with fail;go_roundg (n-(i+1))
     case measure=>rw [HGK.out];omega
     case rel=>exact ⟨i+1,_,hlt,rfl,rfl,by go_num,aW (by rw [HMX.out];omega),HB2⟩
theorem tv:∀ M,M<=4194304->rM M
 | 0,_=>λ l css A n ca w hM=>absurd hM (Nat.not_lt_zero _)
 | M+1,h=>uY M (by omega) (tv M (by omega))
theorem wn {p:List SJ} {A:Option Addr} {n ca:Nat} {W:World} (h:di W A n ca p) (hs:ap p<4194304):Calls Tryz.prog 33 #[.agg #[Zs A n ca]] W (λ e w'=>e=.returned (Zi Zq (dJ p:Int))/\Below W.heap.size W w'):=by
 have HG:=aW (λ (w:World) (hb:Below W.heap.size W w)=>show Calls Tryz.prog 69 #[Zs A n ca] w (λ e w'=>e=.returned (Zi Zq (dJ p:Int))/\Below w.heap.size w w') from by
  obtain ⟨css,h1,h2,h3,h4⟩:=h.bel hb;have hn:n<=4194304:=by have:=bD p;omega
  rw [ra];exact tv 4194304 (Nat.le_refl _) p css A n ca w hs h1 h3 h4 h2 hn)
 have HH0:=aW ((aH.nil W).push 24 #[Zs A n ca] (g:=W.heap.size) rfl);clear h hs;obtain ⟨c0,f0,l0⟩:=HH0.out.b0.rules;go_enter Tryz.func33,Tryz.ntmps33;go_wp2_with fail;refine (HG.out _ HH0.out.1).mono ?_;rintro e w1 ⟨rfl,hb1⟩;have HE:=aW (HH0.out.1.trans (hb1.mono HH0.out.1.size));clear hb1 c0 f0 l0;go_wp2;go_ret;exact ⟨rfl,HE.out⟩
end
end Go.Proofs.YtgmnmnnoahdjnaaGreatDoor
