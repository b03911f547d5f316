import Derived.Test.YtgmnmnnoahdjnaaGreatDoorH35
open Go.Value renaming int → Zi, slice → Zs, string → Zt, pointer → Zp
open Go.IntKind renaming i64 → Zq
set_option maxRecDepth 100000
set_option maxHeartbeats 16000000
set_option linter.unusedVariables false
set_option linter.unusedSimpArgs false
namespace Go.Proofs.YtgmnmnnoahdjnaaGreatDoor
section
open Go.RowKit
attribute [local go_sem] ab ae af ac
theorem sP:(Tryz.prog.info? 48).map (λ i=>(i.zero,i.size,i.bytes))=some (some (.agg #[Zi Zq 0,Zt ⟨#[]⟩,Zi Zq 0,Zi Zq 0,Zi Zq 0,Zt ⟨#[]⟩,Zs none 0 0,Zs none 0 0,Zt ⟨#[]⟩,Zs none 0 0,Zi Zq 0,Zi Zq 0,Zi Zq 0,Zt ⟨#[]⟩,Zs none 0 0,Zs none 0 0,Zt ⟨#[]⟩,Zs none 0 0,Zs none 0 0,Zs none 0 0]),20,328):=by kernel_rfl
theorem SR.form9 {W:World} {F:Nat->Prop} {cs:List Value} {x:SJ} (h:SR W F cs x):∃ (ks:Int) (ss:ByteArray) (ka k1a n1a:Int) (s1a:ByteArray) (A1a:Option Addr) (na1a ca1a:Nat) (B1a:Option Addr) (nb1a cb1a:Nat) (sa:ByteArray) (A2a:Option Addr) (n2a ca2a:Nat) (kb k1b n1b:Int) (s1b:ByteArray) (A1b:Option Addr) (na1b ca1b:Nat) (B1b:Option Addr) (nb1b cb1b:Nat) (sb:ByteArray) (A2b:Option Addr) (n2b ca2b:Nat) (BA:Option Addr) (nb cb:Nat) (LA:Option Addr) (nl cl:Nat),cs=[Zi Zq ks,Zt ss,Zi Zq ka,Zi Zq k1a,Zi Zq n1a,Zt s1a,Zs A1a na1a ca1a,Zs B1a nb1a cb1a,Zt sa,Zs A2a n2a ca2a,Zi Zq kb,Zi Zq k1b,Zi Zq n1b,Zt s1b,Zs A1b na1b ca1b,Zs B1b nb1b cb1b,Zt sb,Zs A2b n2b ca2b,Zs BA nb cb,Zs LA nl cl]:=by
 obtain ⟨k,s,a,b,body,els⟩:=x;obtain ⟨acs,bcs,A,B,ca,cb,css,dss,e,ha,hb,_⟩:=h.out;obtain ⟨ka,k1a,n1a,s1a,A1a,na1a,ca1a,B1a,nb1a,cb1a,sa,A2a,n2a,ca2a,rfl⟩:=ha.form;obtain ⟨kb,k1b,n1b,s1b,A1b,na1b,ca1b,B1b,nb1b,cb1b,sb,A2b,n2b,ca2b,rfl⟩:=hb.form;exact ⟨k,_,ka,k1a,n1a,s1a,A1a,na1a,ca1a,B1a,nb1a,cb1a,sa,A2a,n2a,ca2a,kb,k1b,n1b,s1b,A1b,na1b,ca1b,B1b,nb1b,cb1b,sb,A2b,n2b,ca2b,A,_,ca,B,_,cb,e⟩
set_option maxHeartbeats 32000000 in
theorem qG (g:Nat) (A:Option Addr) (nT cap:Nat) (T:List al) (M:Nat) (hT:WT T) (hB:nf g A nT cap T M) (hn:nT<=1000) (p:Nat) (w:World) (hV:VP w g A nT cap T p) (hp:p<nT) (hM:nT-p<=M+1) :
  Calls Tryz.prog 86 #[Zp (some ⟨g,0,none⟩)] w (gR (eS T [] p) g A nT cap T w):=by
 obtain ⟨r,hr⟩:∃ r,eS T [] p=r:=⟨_,rfl⟩
 have HR0:=aW hr.symm;rw [hr];have HN:=aW hn;have HL:=aW hV.len;have HM:=aW hM;have hgl:=hV.blk.lt;have hxg:w.heap.size≠g:=by omega
 have HV:=aW hV;have HKE:=aW (λ p' W (h:VP W g A nT cap T p') (h1:p'<nT)=>xg g A nT cap T hT hn p' W h h1);have HKI:=aW (λ p' W (h:VP W g A nT cap T p') (h1:p'<nT) (h2:p<p')=>tU g A nT cap T M hT hB hn p' W h h1 (by omega));have HKF:=aW (λ p' W (h:VP W g A nT cap T p') (h1:p'<nT) (h2:p<p')=>xh g A nT cap T M hT hB hn p' W h h1 (by omega));clear hV hr hM;go_enter Tryz.func86,Tryz.ntmps86;go_wp2;go_step3;go_wp2;obtain ⟨W1,hW1⟩:∃ W',w.alloc (.cells #[Zt ⟨#[101,109,105,116]⟩,.func (.func 136) #[] #[],Zt ⟨#[105,102]⟩,.func (.func 137) #[] #[],Zt ⟨#[102,111,114]⟩,.func (.func 138) #[] #[]] 171)=W':=⟨_,rfl⟩
 go_step3;go_wp2;have hb1:Below w.heap.size w W1:=by rw [← hW1];exact (Below.refl _ w).alloc (Nat.le_refl _) _
 have HB1:=aW (show Blk W1 w.heap.size 171 #[Zt ⟨#[101,109,105,116]⟩,.func (.func 136) #[] #[],Zt ⟨#[105,102]⟩,.func (.func 137) #[] #[],Zt ⟨#[102,111,114]⟩,.func (.func 138) #[] #[]] by rw [← hW1];exact Blk.new _ _ _);have HV1:=aW (HV.out.keep hb1);have HG1:=aW (aw hb1 (some g));have HS1:=aW (show w.heap.size+1<=W1.heap.size by rw [← hW1];simp)
 try rw [hW1]
 clear hW1 hb1;obtain ⟨i0,hi,hz0,hz1,hz2⟩:=info_parts sP;have HI:=aW hi;clear hi;go_loopg [2,5,10,11] (nT-p) (λ gk s2 s5 s10 s11 wr => ∃ (p':Nat) (acc:List SJ) (row:Value) (css:List (List Value)),row=s2/\p<=p'/\p'<nT/\acc.length<=p'/\gk=nT-p'/\Hid (r=eS T acc p')/\Hid (VP wr g A nT cap T p')/\Hid (Blk wr w.heap.size 171 #[Zt ⟨#[101,109,105,116]⟩,.func (.func 136) #[] #[],Zt ⟨#[105,102]⟩,.func (.func 137) #[] #[],Zt ⟨#[102,111,114]⟩,.func (.func 138) #[] #[]]) /\
  Hid (wr.ownsRow (w.heap.size+1) 48 20 row acc.length css.flatten)/\Hid (SRs wr (FO (λ b=>w.heap.size+1<=b) row) css acc)/\Hid (w.grownBy wr (some g))/\Hid (w.heap.size+1<=wr.heap.size))
 case atStart=>exact ⟨p,[],_,[],rfl,Nat.le_refl _,hp,Nat.zero_le _,rfl,HR0,HV1,HB1,aW (World.ownsRow_nil _ _ _ _),aW RR.nil,HG1,HS1⟩
 case round =>
  obtain ⟨p',acc,row,css,rfl,hpp,hpn,hal,hgk,HRP,HVP,HKB,HO,HSR,HGP,HSW⟩:=hrel;have HGK:=aW hgk;have hn9:=HN.out;clear hgk HR0 HV1 HB1 HG1 HS1;obtain ⟨wo,hwo⟩:∃ wo:World,wo=wr:=⟨_,rfl⟩
  rw [← hwo] at HVP HKB HO HSR HGP HSW ⊢;clear hwo;obtain ⟨y0,y1,y2⟩:=HKB.out.rules;have HQ0:=aW (Below.refl wo.heap.size wo);go_wp2;go_loopw [2,5,11] (λ s2 _ s11 wq => ∃ j:Nat,row=s2/\j<=3/\s11=Zi Zq (j:Int)/\Hid (Below wo.heap.size wo wq)/\Hid (match j with | 0=>True | 1=>ao T p' fB=false | 2=>ao T p' fB=false/\ao T p' wIf=false | _=>ao T p' fB=false/\ao T p' wIf=false/\ao T p' lu=false)) (λ _ _ s11 _=>3-(intOf s11).toNat)
  case atStart=>exact ⟨0,rfl,by omega,rfl,HQ0,aW trivial⟩
  case round =>
   obtain ⟨j,rfl,hj,rfl,HBQ,HNO⟩:=hrel;obtain ⟨wq,hwq⟩:∃ wo:World,wo=wr:=⟨_,rfl⟩
   rw [← hwq] at HBQ ⊢;clear hwq y0 y1 y2;have HVQ:=aW (HVP.out.keep HBQ.out);have HQL:=aW (Nat.le_trans HSW.out HBQ.out.size);rcases (by omega:j=0∨j=1∨j=2∨j=3) with rfl | rfl | rfl | rfl
   ·by_cases hs:ao T p' fB=true
    ·have hst:fM T p'=some (jv T (p'+1)):=by unfold fM;rw [if_pos hs]
     have hq1:p'+1<nT:=by have h9:=(eX hT (by rw [HL.out];exact hpn) hst).1;rw [HL.out] at h9;exact h9
     have HTY:=aW (eh fB _ g A nT cap T p' (HVQ.out.keep ((Below.refl _ wq).alloc (Nat.le_refl _) (.cells #[Zt ⟨#[101,109,105,116]⟩,.func (.func 136) #[] #[]] 170))) hpn HN.out hs);unfold fB at HTY;have HKC:=aW (λ W h=>HKE.out (p'+1) W h hq1);have HST:=aW hst;have HKBQ:=aW (Blk.new wq 170 #[Zt ⟨#[101,109,105,116]⟩,.func (.func 136) #[] #[]]);have HQB:=aW ((Below.refl wq.heap.size wq).alloc (Nat.le_refl _) (.cells #[Zt ⟨#[101,109,105,116]⟩,.func (.func 136) #[] #[]] 170));have hqg:wq.heap.size≠g:=by have:=HQL.out;omega
     clear hs hst;cases hrs:jv T (p'+1) with
     |bad q =>
      have HR:=aW (show r=.bad q by rw [HRP.out,kh hT (by rw [HL.out];exact hpn),HST.out];simp only [hrs]);rw [hrs] at HKC;unfold ik aG at HKC;clear hrs;go_wp2_with (first | (go_at_call 139;refine HTY.out.mono ?_;rintro e w3 ⟨rfl,hv3,hg3⟩;obtain ⟨y0,y1,y2⟩:=(HKBQ.out.grown hg3 (by simpa using hqg)).rules) | (go_at_call 136;refine (HKC.out _ hv3).mono ?_;rintro e w4 ⟨rfl,hg4⟩));rw [HR.out];exact ⟨rfl,rfl,ag (ag HGP.out (aw HBQ.out (some g))) (ag (ag (aw HQB.out (some g)) hg3) hg4)⟩
     |ok x q =>
      have hqq:=(eX hT (by rw [HL.out];exact hpn) HST.out).2;rw [hrs] at hqq;have hq2:p'<q/\q<nT:=by have h9:=hqq.1;have h8:=hqq.2;rw [HL.out] at h8;omega
      have HR:=aW (show r=eS T (acc++[x]) q by rw [HRP.out,kh hT (by rw [HL.out];exact hpn),HST.out];simp only [hrs]);rw [hrs] at HKC;unfold ik at HKC;clear hrs hqq;go_wp2_with (go_at_call 139;refine HTY.out.mono ?_;rintro e w3 ⟨rfl,hv3,hg3⟩;obtain ⟨y0,y1,y2⟩:=(HKBQ.out.grown hg3 (by simpa using hqg)).rules);refine (HKC.out _ hv3).mono ?_;rintro e w4 ⟨cs,rfl,hs4,hv4,hg4⟩;obtain ⟨ks,ss,ka,k1a,n1a,s1a,A1a,na1a,ca1a,B1a,nb1a,cb1a,sa,A2a,n2a,ca2a,kb,k1b,n1b,s1b,A1b,na1b,ca1b,B1b,nb1b,cb1b,sb,A2b,n2b,ca2b,BA,nb,cb,LA,nl,cl,rfl⟩:=hs4.form9;have hg34:=ag hg3 hg4;have hgw:wo.grownBy w4 (some g):=ag (aw (HBQ.out.trans (HQB.out.mono HBQ.out.size)) (some g)) hg34;have hrwg:row.ownBlock=none∨row.ownBlock≠some g:=by
       rcases hro:row.ownBlock with _ | j
       ·exact .inl rfl
       ·refine .inr λ e=>?_
        have:=(HO.out.lt j hro).1;injection e with e
        omega
      have hz:Below w4.heap.size w4 (w4.alloc (.cells #[Zi Zq ks,Zt ss,Zi Zq ka,Zi Zq k1a,Zi Zq n1a,Zt s1a,Zs A1a na1a ca1a,Zs B1a nb1a cb1a,Zt sa,Zs A2a n2a ca2a,Zi Zq kb,Zi Zq k1b,Zi Zq n1b,Zt s1b,Zs A1b na1b ca1b,Zs B1b nb1b cb1b,Zt sb,Zs A2b n2b ca2b,Zs BA nb cb,Zs LA nl cl] 48)):=(Below.refl _ w4).alloc (Nat.le_refl _) _;have hw3:wo.heap.size<=w3.heap.size:=Nat.le_trans (Nat.le_trans HBQ.out.size HQB.out.size) hg3.size;have HO4:=aW ((HO.out.kept hgw hrwg).alloc (.cells #[Zi Zq ks,Zt ss,Zi Zq ka,Zi Zq k1a,Zi Zq n1a,Zt s1a,Zs A1a na1a ca1a,Zs B1a nb1a cb1a,Zt sa,Zs A2a n2a ca2a,Zi Zq kb,Zi Zq k1b,Zi Zq n1b,Zt s1b,Zs A1b na1b ca1b,Zs B1b nb1b cb1b,Zt sb,Zs A2b n2b ca2b,Zs BA nb cb,Zs LA nl cl] 48));have HR6:=aW (Rd.of_blk (Blk.new w4 48 #[Zi Zq ks,Zt ss,Zi Zq ka,Zi Zq k1a,Zi Zq n1a,Zt s1a,Zs A1a na1a ca1a,Zs B1a nb1a cb1a,Zt sa,Zs A2a n2a ca2a,Zi Zq kb,Zi Zq k1b,Zi Zq n1b,Zt s1b,Zs A1b na1b ca1b,Zs B1b nb1b cb1b,Zt sb,Zs A2b n2b ca2b,Zs BA nb cb,Zs LA nl cl]));have H1C:=aW (show ∀ u ∈ ([Zi Zq ks,Zt ss,Zi Zq ka,Zi Zq k1a,Zi Zq n1a,Zt s1a,Zs A1a na1a ca1a,Zs B1a nb1a cb1a,Zt sa,Zs A2a n2a ca2a,Zi Zq kb,Zi Zq k1b,Zi Zq n1b,Zt s1b,Zs A1b na1b ca1b,Zs B1b nb1b cb1b,Zt sb,Zs A2b n2b ca2b,Zs BA nb cb,Zs LA nl cl]:List Value),u.oneCell'=true from hs4.one);have HBS:=aW (show w.heap.size+1<=(w4.alloc (.cells #[Zi Zq ks,Zt ss,Zi Zq ka,Zi Zq k1a,Zi Zq n1a,Zt s1a,Zs A1a na1a ca1a,Zs B1a nb1a cb1a,Zt sa,Zs A2a n2a ca2a,Zi Zq kb,Zi Zq k1b,Zi Zq n1b,Zt s1b,Zs A1b na1b ca1b,Zs B1b nb1b cb1b,Zt sb,Zs A2b n2b ca2b,Zs BA nb cb,Zs LA nl cl] 48)).heap.size from Nat.le_trans HSW.out (Nat.le_trans hgw.size hz.size));have HSQ:=aW (show SRs (w4.alloc (.cells #[Zi Zq ks,Zt ss,Zi Zq ka,Zi Zq k1a,Zi Zq n1a,Zt s1a,Zs A1a na1a ca1a,Zs B1a nb1a cb1a,Zt sa,Zs A2a n2a ca2a,Zi Zq kb,Zi Zq k1b,Zi Zq n1b,Zt s1b,Zs A1b na1b ca1b,Zs B1b nb1b cb1b,Zt sb,Zs A2b n2b ca2b,Zs BA nb cb,Zs LA nl cl] 48)) (FO (λ b=>w.heap.size+1<=b) row) (css++[([Zi Zq ks,Zt ss,Zi Zq ka,Zi Zq k1a,Zi Zq n1a,Zt s1a,Zs A1a na1a ca1a,Zs B1a nb1a cb1a,Zt sa,Zs A2a n2a ca2a,Zi Zq kb,Zi Zq k1b,Zi Zq n1b,Zt s1b,Zs A1b na1b ca1b,Zs B1b nb1b cb1b,Zt sb,Zs A2b n2b ca2b,Zs BA nb cb,Zs LA nl cl]:List Value)]) (acc++[x]) by
       refine RR.snoc (RR.imp HSR.out λ c y hc=>?_) ?_
       ·exact (SR.keep hc (aj.of_grown hgw λ k hk e=>by injection e with e;have:=hk.1;omega)).bel hz
       ·refine (hs4.bel hz).mono λ k _ hk=>⟨Nat.le_trans HSW.out (Nat.le_trans hw3 hk),λ e=>?_⟩
        have:=(HO.out.lt k e.symm).2;exact absurd (Nat.le_trans hw3 hk) (Nat.not_le.2 this))
      have HGZ:=aW (ag (ag HGP.out hgw) (aw hz (some g)));have HVZ:=aW (hv4.keep hz);have HKZ:=aW ((HKB.out.grown hgw (by simpa using hxg)).keep hz);have HLT:=aW (λ (j:Nat) (e:row.ownBlock=some j)=>(HO.out.lt j e).1);clear hg34 hgw hrwg hz hw3 hs4 hv4 hg4 hv3 hg3 y0 y1 y2;go_wp2_with (at_builtin;refine aD _ rfl _ _ 22 rfl (w.heap.size+1) 48 i0 _ 20 328 Tryz.underlying22 HI.out hz0 hz1 hz2 rfl (by decide) row acc.length css.flatten rfl HO4.out (some ⟨w4.heap.size,0,none⟩) 1 1 (λ h=>by cases h) [Zi Zq ks,Zt ss,Zi Zq ka,Zi Zq k1a,Zi Zq n1a,Zt s1a,Zs A1a na1a ca1a,Zs B1a nb1a cb1a,Zt sa,Zs A2a n2a ca2a,Zi Zq kb,Zi Zq k1b,Zi Zq n1b,Zt s1b,Zs A1b na1b ca1b,Zs B1b nb1b cb1b,Zt sb,Zs A2b n2b ca2b,Zs BA nb cb,Zs LA nl cl] rfl rfl HR6.out H1C.out (by unfold maxLen;omega) (by omega) HBS.out ?_;intro row2 w6 hown6 hgr6 hob6);have hrx:some w.heap.size≠row.ownBlock:=λ e=>by have:=HLT.out _ e.symm;omega
      have hrg:some g≠row.ownBlock:=λ e=>by have:=HLT.out _ e.symm;omega
      have hg6:=jU HGZ.out hgr6 (λ k e=>by have:=HLT.out k e;omega);go_roundg (nT-q)
      case measure=>have:=HGK.out;omega
      case rel =>
       refine ⟨q,acc++[x],row2,css++[([Zi Zq ks,Zt ss,Zi Zq ka,Zi Zq k1a,Zi Zq n1a,Zt s1a,Zs A1a na1a ca1a,Zs B1a nb1a cb1a,Zt sa,Zs A2a n2a ca2a,Zi Zq kb,Zi Zq k1b,Zi Zq n1b,Zt s1b,Zs A1b na1b ca1b,Zs B1b nb1b cb1b,Zt sb,Zs A2b n2b ca2b,Zs BA nb cb,Zs LA nl cl]:List Value)],rfl,by omega,hq2.2,by simp;omega,rfl,HR,aW (HV.out.step hg6 (HVZ.out.blk.grown hgr6 hrg)),aW (HKZ.out.grown hgr6 hrx),aW ?_,aW (jo HSQ.out hgr6 hob6),aW hg6,aW (Nat.le_trans HBS.out hgr6.size)⟩;rw [List.length_append,List.flatten_append];simpa using hown6
    ·have hs':ao T p' fB=false:=by simpa using hs
     have HTN:=aW (ef fB _ g A nT cap T p' (HVQ.out.keep ((Below.refl _ wq).alloc (Nat.le_refl _) (.cells #[Zt ⟨#[101,109,105,116]⟩,.func (.func 136) #[] #[]] 170))) hpn HN.out hs');have HQB:=aW ((Below.refl wq.heap.size wq).alloc (Nat.le_refl _) (.cells #[Zt ⟨#[101,109,105,116]⟩,.func (.func 136) #[] #[]] 170));have HNN:=aW (hs');unfold fB at HTN;clear hs hs';go_wp2_with (go_at_call 139;refine HTN.out.mono ?_;rintro e w3 ⟨rfl,hb3⟩);go_roundw
     case rel=>exact ⟨1,rfl,by omega,rfl,aW (HBQ.out.trans ((HQB.out.trans (hb3.mono HQB.out.size)).mono HBQ.out.size)),HNN⟩
     case measure=>simp [intOf]
   ·by_cases hs:ao T p' wIf=true
    ·have hst:fM T p'=some (eIf T (p'+1)):=by unfold fM;rw [if_neg (by rw [HNO.out];decide),if_pos hs]
     have hq1:p'+1<nT:=by have h9:=(eX hT (by rw [HL.out];exact hpn) hst).1;rw [HL.out] at h9;exact h9
     have HTY:=aW (eh wIf _ g A nT cap T p' (HVQ.out.keep ((Below.refl _ wq).alloc (Nat.le_refl _) (.cells #[Zt ⟨#[105,102]⟩,.func (.func 137) #[] #[]] 170))) hpn HN.out hs);unfold wIf at HTY;have HKC:=aW (λ W h=>HKI.out (p'+1) W h hq1 (by omega));have HST:=aW hst;have HKBQ:=aW (Blk.new wq 170 #[Zt ⟨#[105,102]⟩,.func (.func 137) #[] #[]]);have HQB:=aW ((Below.refl wq.heap.size wq).alloc (Nat.le_refl _) (.cells #[Zt ⟨#[105,102]⟩,.func (.func 137) #[] #[]] 170));have hqg:wq.heap.size≠g:=by have:=HQL.out;omega
     clear hs hst;cases hrs:eIf T (p'+1) with
     |bad q =>
      have HR:=aW (show r=.bad q by rw [HRP.out,kh hT (by rw [HL.out];exact hpn),HST.out];simp only [hrs]);rw [hrs] at HKC;unfold ik aG at HKC;clear hrs;go_wp2_with (first | (go_at_call 139;refine HTY.out.mono ?_;rintro e w3 ⟨rfl,hv3,hg3⟩;obtain ⟨y0,y1,y2⟩:=(HKBQ.out.grown hg3 (by simpa using hqg)).rules) | (go_at_call 137;refine (HKC.out _ hv3).mono ?_;rintro e w4 ⟨rfl,hg4⟩));rw [HR.out];exact ⟨rfl,rfl,ag (ag HGP.out (aw HBQ.out (some g))) (ag (ag (aw HQB.out (some g)) hg3) hg4)⟩
     |ok x q =>
      have hqq:=(eX hT (by rw [HL.out];exact hpn) HST.out).2;rw [hrs] at hqq;have hq2:p'<q/\q<nT:=by have h9:=hqq.1;have h8:=hqq.2;rw [HL.out] at h8;omega
      have HR:=aW (show r=eS T (acc++[x]) q by rw [HRP.out,kh hT (by rw [HL.out];exact hpn),HST.out];simp only [hrs]);rw [hrs] at HKC;unfold ik at HKC;clear hrs hqq;go_wp2_with (go_at_call 139;refine HTY.out.mono ?_;rintro e w3 ⟨rfl,hv3,hg3⟩;obtain ⟨y0,y1,y2⟩:=(HKBQ.out.grown hg3 (by simpa using hqg)).rules);refine (HKC.out _ hv3).mono ?_;rintro e w4 ⟨cs,rfl,hs4,hv4,hg4⟩;obtain ⟨ks,ss,ka,k1a,n1a,s1a,A1a,na1a,ca1a,B1a,nb1a,cb1a,sa,A2a,n2a,ca2a,kb,k1b,n1b,s1b,A1b,na1b,ca1b,B1b,nb1b,cb1b,sb,A2b,n2b,ca2b,BA,nb,cb,LA,nl,cl,rfl⟩:=hs4.form9;have hg34:=ag hg3 hg4;have hgw:wo.grownBy w4 (some g):=ag (aw (HBQ.out.trans (HQB.out.mono HBQ.out.size)) (some g)) hg34;have hrwg:row.ownBlock=none∨row.ownBlock≠some g:=by
       rcases hro:row.ownBlock with _ | j
       ·exact .inl rfl
       ·refine .inr λ e=>?_
        have:=(HO.out.lt j hro).1;injection e with e
        omega
      have hz:Below w4.heap.size w4 (w4.alloc (.cells #[Zi Zq ks,Zt ss,Zi Zq ka,Zi Zq k1a,Zi Zq n1a,Zt s1a,Zs A1a na1a ca1a,Zs B1a nb1a cb1a,Zt sa,Zs A2a n2a ca2a,Zi Zq kb,Zi Zq k1b,Zi Zq n1b,Zt s1b,Zs A1b na1b ca1b,Zs B1b nb1b cb1b,Zt sb,Zs A2b n2b ca2b,Zs BA nb cb,Zs LA nl cl] 48)):=(Below.refl _ w4).alloc (Nat.le_refl _) _;have hw3:wo.heap.size<=w3.heap.size:=Nat.le_trans (Nat.le_trans HBQ.out.size HQB.out.size) hg3.size;have HO4:=aW ((HO.out.kept hgw hrwg).alloc (.cells #[Zi Zq ks,Zt ss,Zi Zq ka,Zi Zq k1a,Zi Zq n1a,Zt s1a,Zs A1a na1a ca1a,Zs B1a nb1a cb1a,Zt sa,Zs A2a n2a ca2a,Zi Zq kb,Zi Zq k1b,Zi Zq n1b,Zt s1b,Zs A1b na1b ca1b,Zs B1b nb1b cb1b,Zt sb,Zs A2b n2b ca2b,Zs BA nb cb,Zs LA nl cl] 48));have HR6:=aW (Rd.of_blk (Blk.new w4 48 #[Zi Zq ks,Zt ss,Zi Zq ka,Zi Zq k1a,Zi Zq n1a,Zt s1a,Zs A1a na1a ca1a,Zs B1a nb1a cb1a,Zt sa,Zs A2a n2a ca2a,Zi Zq kb,Zi Zq k1b,Zi Zq n1b,Zt s1b,Zs A1b na1b ca1b,Zs B1b nb1b cb1b,Zt sb,Zs A2b n2b ca2b,Zs BA nb cb,Zs LA nl cl]));have H1C:=aW (show ∀ u ∈ ([Zi Zq ks,Zt ss,Zi Zq ka,Zi Zq k1a,Zi Zq n1a,Zt s1a,Zs A1a na1a ca1a,Zs B1a nb1a cb1a,Zt sa,Zs A2a n2a ca2a,Zi Zq kb,Zi Zq k1b,Zi Zq n1b,Zt s1b,Zs A1b na1b ca1b,Zs B1b nb1b cb1b,Zt sb,Zs A2b n2b ca2b,Zs BA nb cb,Zs LA nl cl]:List Value),u.oneCell'=true from hs4.one);have HBS:=aW (show w.heap.size+1<=(w4.alloc (.cells #[Zi Zq ks,Zt ss,Zi Zq ka,Zi Zq k1a,Zi Zq n1a,Zt s1a,Zs A1a na1a ca1a,Zs B1a nb1a cb1a,Zt sa,Zs A2a n2a ca2a,Zi Zq kb,Zi Zq k1b,Zi Zq n1b,Zt s1b,Zs A1b na1b ca1b,Zs B1b nb1b cb1b,Zt sb,Zs A2b n2b ca2b,Zs BA nb cb,Zs LA nl cl] 48)).heap.size from Nat.le_trans HSW.out (Nat.le_trans hgw.size hz.size));have HSQ:=aW (show SRs (w4.alloc (.cells #[Zi Zq ks,Zt ss,Zi Zq ka,Zi Zq k1a,Zi Zq n1a,Zt s1a,Zs A1a na1a ca1a,Zs B1a nb1a cb1a,Zt sa,Zs A2a n2a ca2a,Zi Zq kb,Zi Zq k1b,Zi Zq n1b,Zt s1b,Zs A1b na1b ca1b,Zs B1b nb1b cb1b,Zt sb,Zs A2b n2b ca2b,Zs BA nb cb,Zs LA nl cl] 48)) (FO (λ b=>w.heap.size+1<=b) row) (css++[([Zi Zq ks,Zt ss,Zi Zq ka,Zi Zq k1a,Zi Zq n1a,Zt s1a,Zs A1a na1a ca1a,Zs B1a nb1a cb1a,Zt sa,Zs A2a n2a ca2a,Zi Zq kb,Zi Zq k1b,Zi Zq n1b,Zt s1b,Zs A1b na1b ca1b,Zs B1b nb1b cb1b,Zt sb,Zs A2b n2b ca2b,Zs BA nb cb,Zs LA nl cl]:List Value)]) (acc++[x]) by
       refine RR.snoc (RR.imp HSR.out λ c y hc=>?_) ?_
       ·exact (SR.keep hc (aj.of_grown hgw λ k hk e=>by injection e with e;have:=hk.1;omega)).bel hz
       ·refine (hs4.bel hz).mono λ k _ hk=>⟨Nat.le_trans HSW.out (Nat.le_trans hw3 hk),λ e=>?_⟩
        have:=(HO.out.lt k e.symm).2;exact absurd (Nat.le_trans hw3 hk) (Nat.not_le.2 this))
      have HGZ:=aW (ag (ag HGP.out hgw) (aw hz (some g)));have HVZ:=aW (hv4.keep hz);have HKZ:=aW ((HKB.out.grown hgw (by simpa using hxg)).keep hz);have HLT:=aW (λ (j:Nat) (e:row.ownBlock=some j)=>(HO.out.lt j e).1);clear hg34 hgw hrwg hz hw3 hs4 hv4 hg4 hv3 hg3 y0 y1 y2;go_wp2_with (at_builtin;refine aD _ rfl _ _ 22 rfl (w.heap.size+1) 48 i0 _ 20 328 Tryz.underlying22 HI.out hz0 hz1 hz2 rfl (by decide) row acc.length css.flatten rfl HO4.out (some ⟨w4.heap.size,0,none⟩) 1 1 (λ h=>by cases h) [Zi Zq ks,Zt ss,Zi Zq ka,Zi Zq k1a,Zi Zq n1a,Zt s1a,Zs A1a na1a ca1a,Zs B1a nb1a cb1a,Zt sa,Zs A2a n2a ca2a,Zi Zq kb,Zi Zq k1b,Zi Zq n1b,Zt s1b,Zs A1b na1b ca1b,Zs B1b nb1b cb1b,Zt sb,Zs A2b n2b ca2b,Zs BA nb cb,Zs LA nl cl] rfl rfl HR6.out H1C.out (by unfold maxLen;omega) (by omega) HBS.out ?_;intro row2 w6 hown6 hgr6 hob6);have hrx:some w.heap.size≠row.ownBlock:=λ e=>by have:=HLT.out _ e.symm;omega
      have hrg:some g≠row.ownBlock:=λ e=>by have:=HLT.out _ e.symm;omega
      have hg6:=jU HGZ.out hgr6 (λ k e=>by have:=HLT.out k e;omega);go_roundg (nT-q)
      case measure=>have:=HGK.out;omega
      case rel =>
       refine ⟨q,acc++[x],row2,css++[([Zi Zq ks,Zt ss,Zi Zq ka,Zi Zq k1a,Zi Zq n1a,Zt s1a,Zs A1a na1a ca1a,Zs B1a nb1a cb1a,Zt sa,Zs A2a n2a ca2a,Zi Zq kb,Zi Zq k1b,Zi Zq n1b,Zt s1b,Zs A1b na1b ca1b,Zs B1b nb1b cb1b,Zt sb,Zs A2b n2b ca2b,Zs BA nb cb,Zs LA nl cl]:List Value)],rfl,by omega,hq2.2,by simp;omega,rfl,HR,aW (HV.out.step hg6 (HVZ.out.blk.grown hgr6 hrg)),aW (HKZ.out.grown hgr6 hrx),aW ?_,aW (jo HSQ.out hgr6 hob6),aW hg6,aW (Nat.le_trans HBS.out hgr6.size)⟩;rw [List.length_append,List.flatten_append];simpa using hown6
    ·have hs':ao T p' wIf=false:=by simpa using hs
     have HTN:=aW (ef wIf _ g A nT cap T p' (HVQ.out.keep ((Below.refl _ wq).alloc (Nat.le_refl _) (.cells #[Zt ⟨#[105,102]⟩,.func (.func 137) #[] #[]] 170))) hpn HN.out hs');have HQB:=aW ((Below.refl wq.heap.size wq).alloc (Nat.le_refl _) (.cells #[Zt ⟨#[105,102]⟩,.func (.func 137) #[] #[]] 170));have HNN:=aW (And.intro HNO.out hs');unfold wIf at HTN;clear hs hs';go_wp2_with (go_at_call 139;refine HTN.out.mono ?_;rintro e w3 ⟨rfl,hb3⟩);go_roundw
     case rel=>exact ⟨2,rfl,by omega,rfl,aW (HBQ.out.trans ((HQB.out.trans (hb3.mono HQB.out.size)).mono HBQ.out.size)),HNN⟩
     case measure=>simp [intOf]
   ·by_cases hs:ao T p' lu=true
    ·have hst:fM T p'=some (nC T (p'+1)):=by unfold fM;rw [if_neg (by rw [HNO.out.1];decide),if_neg (by rw [HNO.out.2];decide),if_pos hs]
     have hq1:p'+1<nT:=by have h9:=(eX hT (by rw [HL.out];exact hpn) hst).1;rw [HL.out] at h9;exact h9
     have HTY:=aW (eh lu _ g A nT cap T p' (HVQ.out.keep ((Below.refl _ wq).alloc (Nat.le_refl _) (.cells #[Zt ⟨#[102,111,114]⟩,.func (.func 138) #[] #[]] 170))) hpn HN.out hs);unfold lu at HTY;have HKC:=aW (λ W h=>HKF.out (p'+1) W h hq1 (by omega));have HST:=aW hst;have HKBQ:=aW (Blk.new wq 170 #[Zt ⟨#[102,111,114]⟩,.func (.func 138) #[] #[]]);have HQB:=aW ((Below.refl wq.heap.size wq).alloc (Nat.le_refl _) (.cells #[Zt ⟨#[102,111,114]⟩,.func (.func 138) #[] #[]] 170));have hqg:wq.heap.size≠g:=by have:=HQL.out;omega
     clear hs hst;cases hrs:nC T (p'+1) with
     |bad q =>
      have HR:=aW (show r=.bad q by rw [HRP.out,kh hT (by rw [HL.out];exact hpn),HST.out];simp only [hrs]);rw [hrs] at HKC;unfold ik aG at HKC;clear hrs;go_wp2_with (first | (go_at_call 139;refine HTY.out.mono ?_;rintro e w3 ⟨rfl,hv3,hg3⟩;obtain ⟨y0,y1,y2⟩:=(HKBQ.out.grown hg3 (by simpa using hqg)).rules) | (go_at_call 138;refine (HKC.out _ hv3).mono ?_;rintro e w4 ⟨rfl,hg4⟩));rw [HR.out];exact ⟨rfl,rfl,ag (ag HGP.out (aw HBQ.out (some g))) (ag (ag (aw HQB.out (some g)) hg3) hg4)⟩
     |ok x q =>
      have hqq:=(eX hT (by rw [HL.out];exact hpn) HST.out).2;rw [hrs] at hqq;have hq2:p'<q/\q<nT:=by have h9:=hqq.1;have h8:=hqq.2;rw [HL.out] at h8;omega
      have HR:=aW (show r=eS T (acc++[x]) q by rw [HRP.out,kh hT (by rw [HL.out];exact hpn),HST.out];simp only [hrs]);rw [hrs] at HKC;unfold ik at HKC;clear hrs hqq;go_wp2_with (go_at_call 139;refine HTY.out.mono ?_;rintro e w3 ⟨rfl,hv3,hg3⟩;obtain ⟨y0,y1,y2⟩:=(HKBQ.out.grown hg3 (by simpa using hqg)).rules);refine (HKC.out _ hv3).mono ?_;rintro e w4 ⟨cs,rfl,hs4,hv4,hg4⟩;obtain ⟨ks,ss,ka,k1a,n1a,s1a,A1a,na1a,ca1a,B1a,nb1a,cb1a,sa,A2a,n2a,ca2a,kb,k1b,n1b,s1b,A1b,na1b,ca1b,B1b,nb1b,cb1b,sb,A2b,n2b,ca2b,BA,nb,cb,LA,nl,cl,rfl⟩:=hs4.form9;have hg34:=ag hg3 hg4;have hgw:wo.grownBy w4 (some g):=ag (aw (HBQ.out.trans (HQB.out.mono HBQ.out.size)) (some g)) hg34;have hrwg:row.ownBlock=none∨row.ownBlock≠some g:=by
       rcases hro:row.ownBlock with _ | j
       ·exact .inl rfl
       ·refine .inr λ e=>?_
        have:=(HO.out.lt j hro).1;injection e with e
        omega
      have hz:Below w4.heap.size w4 (w4.alloc (.cells #[Zi Zq ks,Zt ss,Zi Zq ka,Zi Zq k1a,Zi Zq n1a,Zt s1a,Zs A1a na1a ca1a,Zs B1a nb1a cb1a,Zt sa,Zs A2a n2a ca2a,Zi Zq kb,Zi Zq k1b,Zi Zq n1b,Zt s1b,Zs A1b na1b ca1b,Zs B1b nb1b cb1b,Zt sb,Zs A2b n2b ca2b,Zs BA nb cb,Zs LA nl cl] 48)):=(Below.refl _ w4).alloc (Nat.le_refl _) _;have hw3:wo.heap.size<=w3.heap.size:=Nat.le_trans (Nat.le_trans HBQ.out.size HQB.out.size) hg3.size;have HO4:=aW ((HO.out.kept hgw hrwg).alloc (.cells #[Zi Zq ks,Zt ss,Zi Zq ka,Zi Zq k1a,Zi Zq n1a,Zt s1a,Zs A1a na1a ca1a,Zs B1a nb1a cb1a,Zt sa,Zs A2a n2a ca2a,Zi Zq kb,Zi Zq k1b,Zi Zq n1b,Zt s1b,Zs A1b na1b ca1b,Zs B1b nb1b cb1b,Zt sb,Zs A2b n2b ca2b,Zs BA nb cb,Zs LA nl cl] 48));have HR6:=aW (Rd.of_blk (Blk.new w4 48 #[Zi Zq ks,Zt ss,Zi Zq ka,Zi Zq k1a,Zi Zq n1a,Zt s1a,Zs A1a na1a ca1a,Zs B1a nb1a cb1a,Zt sa,Zs A2a n2a ca2a,Zi Zq kb,Zi Zq k1b,Zi Zq n1b,Zt s1b,Zs A1b na1b ca1b,Zs B1b nb1b cb1b,Zt sb,Zs A2b n2b ca2b,Zs BA nb cb,Zs LA nl cl]));have H1C:=aW (show ∀ u ∈ ([Zi Zq ks,Zt ss,Zi Zq ka,Zi Zq k1a,Zi Zq n1a,Zt s1a,Zs A1a na1a ca1a,Zs B1a nb1a cb1a,Zt sa,Zs A2a n2a ca2a,Zi Zq kb,Zi Zq k1b,Zi Zq n1b,Zt s1b,Zs A1b na1b ca1b,Zs B1b nb1b cb1b,Zt sb,Zs A2b n2b ca2b,Zs BA nb cb,Zs LA nl cl]:List Value),u.oneCell'=true from hs4.one);have HBS:=aW (show w.heap.size+1<=(w4.alloc (.cells #[Zi Zq ks,Zt ss,Zi Zq ka,Zi Zq k1a,Zi Zq n1a,Zt s1a,Zs A1a na1a ca1a,Zs B1a nb1a cb1a,Zt sa,Zs A2a n2a ca2a,Zi Zq kb,Zi Zq k1b,Zi Zq n1b,Zt s1b,Zs A1b na1b ca1b,Zs B1b nb1b cb1b,Zt sb,Zs A2b n2b ca2b,Zs BA nb cb,Zs LA nl cl] 48)).heap.size from Nat.le_trans HSW.out (Nat.le_trans hgw.size hz.size));have HSQ:=aW (show SRs (w4.alloc (.cells #[Zi Zq ks,Zt ss,Zi Zq ka,Zi Zq k1a,Zi Zq n1a,Zt s1a,Zs A1a na1a ca1a,Zs B1a nb1a cb1a,Zt sa,Zs A2a n2a ca2a,Zi Zq kb,Zi Zq k1b,Zi Zq n1b,Zt s1b,Zs A1b na1b ca1b,Zs B1b nb1b cb1b,Zt sb,Zs A2b n2b ca2b,Zs BA nb cb,Zs LA nl cl] 48)) (FO (λ b=>w.heap.size+1<=b) row) (css++[([Zi Zq ks,Zt ss,Zi Zq ka,Zi Zq k1a,Zi Zq n1a,Zt s1a,Zs A1a na1a ca1a,Zs B1a nb1a cb1a,Zt sa,Zs A2a n2a ca2a,Zi Zq kb,Zi Zq k1b,Zi Zq n1b,Zt s1b,Zs A1b na1b ca1b,Zs B1b nb1b cb1b,Zt sb,Zs A2b n2b ca2b,Zs BA nb cb,Zs LA nl cl]:List Value)]) (acc++[x]) by
       refine RR.snoc (RR.imp HSR.out λ c y hc=>?_) ?_
       ·exact (SR.keep hc (aj.of_grown hgw λ k hk e=>by injection e with e;have:=hk.1;omega)).bel hz
       ·refine (hs4.bel hz).mono λ k _ hk=>⟨Nat.le_trans HSW.out (Nat.le_trans hw3 hk),λ e=>?_⟩
        have:=(HO.out.lt k e.symm).2;exact absurd (Nat.le_trans hw3 hk) (Nat.not_le.2 this))
      have HGZ:=aW (ag (ag HGP.out hgw) (aw hz (some g)));have HVZ:=aW (hv4.keep hz);have HKZ:=aW ((HKB.out.grown hgw (by simpa using hxg)).keep hz);have HLT:=aW (λ (j:Nat) (e:row.ownBlock=some j)=>(HO.out.lt j e).1);clear hg34 hgw hrwg hz hw3 hs4 hv4 hg4 hv3 hg3 y0 y1 y2;go_wp2_with (at_builtin;refine aD _ rfl _ _ 22 rfl (w.heap.size+1) 48 i0 _ 20 328 Tryz.underlying22 HI.out hz0 hz1 hz2 rfl (by decide) row acc.length css.flatten rfl HO4.out (some ⟨w4.heap.size,0,none⟩) 1 1 (λ h=>by cases h) [Zi Zq ks,Zt ss,Zi Zq ka,Zi Zq k1a,Zi Zq n1a,Zt s1a,Zs A1a na1a ca1a,Zs B1a nb1a cb1a,Zt sa,Zs A2a n2a ca2a,Zi Zq kb,Zi Zq k1b,Zi Zq n1b,Zt s1b,Zs A1b na1b ca1b,Zs B1b nb1b cb1b,Zt sb,Zs A2b n2b ca2b,Zs BA nb cb,Zs LA nl cl] rfl rfl HR6.out H1C.out (by unfold maxLen;omega) (by omega) HBS.out ?_;intro row2 w6 hown6 hgr6 hob6);have hrx:some w.heap.size≠row.ownBlock:=λ e=>by have:=HLT.out _ e.symm;omega
      have hrg:some g≠row.ownBlock:=λ e=>by have:=HLT.out _ e.symm;omega
      have hg6:=jU HGZ.out hgr6 (λ k e=>by have:=HLT.out k e;omega);go_roundg (nT-q)
      case measure=>have:=HGK.out;omega
      case rel =>
       refine ⟨q,acc++[x],row2,css++[([Zi Zq ks,Zt ss,Zi Zq ka,Zi Zq k1a,Zi Zq n1a,Zt s1a,Zs A1a na1a ca1a,Zs B1a nb1a cb1a,Zt sa,Zs A2a n2a ca2a,Zi Zq kb,Zi Zq k1b,Zi Zq n1b,Zt s1b,Zs A1b na1b ca1b,Zs B1b nb1b cb1b,Zt sb,Zs A2b n2b ca2b,Zs BA nb cb,Zs LA nl cl]:List Value)],rfl,by omega,hq2.2,by simp;omega,rfl,HR,aW (HV.out.step hg6 (HVZ.out.blk.grown hgr6 hrg)),aW (HKZ.out.grown hgr6 hrx),aW ?_,aW (jo HSQ.out hgr6 hob6),aW hg6,aW (Nat.le_trans HBS.out hgr6.size)⟩;rw [List.length_append,List.flatten_append];simpa using hown6
    ·have hs':ao T p' lu=false:=by simpa using hs
     have HTN:=aW (ef lu _ g A nT cap T p' (HVQ.out.keep ((Below.refl _ wq).alloc (Nat.le_refl _) (.cells #[Zt ⟨#[102,111,114]⟩,.func (.func 138) #[] #[]] 170))) hpn HN.out hs');have HQB:=aW ((Below.refl wq.heap.size wq).alloc (Nat.le_refl _) (.cells #[Zt ⟨#[102,111,114]⟩,.func (.func 138) #[] #[]] 170));have HNN:=aW (And.intro HNO.out.1 (And.intro HNO.out.2 hs'));unfold lu at HTN;clear hs hs';go_wp2_with (go_at_call 139;refine HTN.out.mono ?_;rintro e w3 ⟨rfl,hb3⟩);go_roundw
     case rel=>exact ⟨3,rfl,by omega,rfl,aW (HBQ.out.trans ((HQB.out.trans (hb3.mono HQB.out.size)).mono HBQ.out.size)),HNN⟩
     case measure=>simp [intOf]
   ·obtain ⟨hs1,hs2,hs3⟩:=HNO.out;have HR:=aW (show r=.ok acc p' by rw [HRP.out,kh hT (by rw [HL.out];exact hpn)];unfold fM;rw [if_neg (by rw [hs1];decide),if_neg (by rw [hs2];decide),if_neg (by rw [hs3];decide)]);clear hs1 hs2 hs3;obtain ⟨RA,rc,hrow,hrc,hrn,hrr⟩:=bJ HO.out;have HF:=aW (show gR (.ok acc p') g A nT cap T w (.returned row) wq from by
     have hk:aj (λ b=>w.heap.size+1<=b) wo wq:=aj.of_below HBQ.out;exact ⟨RA,acc.length,rc,css,by rw [hrow],rfl,hrc,hrn,RR.imp HSR.out λ c y hc=>((SR.mono hc λ k _ hk=>hk.1).keep hk).mono λ k _ hk=>Nat.le_of_succ_le hk,(hrr.keep hk).mono λ k _ hk=>Nat.le_of_succ_le hk,HVQ.out,ag HGP.out (aw HBQ.out _)⟩)
    clear hrow hrc hrn hrr;go_wp2;refine bodyPost_ret (v:=row) (by simp only [results,Tryz.results86];go_simp) rfl ?_;rw [HR.out];exact HF.out
theorem vt (g:Nat) (A:Option Addr) (nT cap:Nat) (T:List al) (M:Nat) (hT:WT T) (hB:nf g A nT cap T M) (hn:nT<=1000) (p:Nat) (w:World) (hV:VP w g A nT cap T p) (hp:p<nT) (hM:nT-p<=M+1) :
  Calls Tryz.prog 173 #[Zp (some ⟨g,0,none⟩)] w (gR (eK T p) g A nT cap T w):=by
 obtain ⟨r,hr⟩:∃ r,eK T p=r:=⟨_,rfl⟩
 have HL:=aW hV.len;have HR0:=aW (show r=(if ao T p [123]=true then (match eS T [] (p+1) with
   | .bad q=>.bad q
   | .ok l q=>if ao T q [125]=true then .ok l (q+1) else .bad q)
  else .bad p) by rw [← hr];exact xC hT (by rw [HL.out];exact hp))
 rw [hr];have HV:=aW hV;by_cases hs:ao T p [123]=true;rotate_left
 ·have hs':ao T p [123]=false:=by simpa using hs
  have HR:=aW (show r=.bad p by rw [HR0.out,if_neg hs]);have hw:=fy [123] w g A nT cap T p hV hp hn hs';unfold aG at hw;have HW:=aW hw;clear hs hs' hw hV hr;rw [HR.out];go_enter Tryz.func173,Tryz.ntmps173;go_wp2_with (go_at_call 172;refine HW.out.mono ?_;rintro e w9 ⟨rfl,hb9⟩);exact ⟨rfl,rfl,aw hb9 _⟩
 have hp1:p+1<nT:=by have h9:=hT.next (p:=p) (by rw [HL.out];exact hp) (am hs);rw [HL.out] at h9;exact h9
 have HW:=aW (fz [123] w g A nT cap T p hV hp hn hs);have HR1:=aW (show r=(match eS T [] (p+1) with
   | .bad q=>.bad q
   | .ok l q=>if ao T q [125]=true then .ok l (q+1) else .bad q) by rw [HR0.out,if_pos hs])
 have HST:=aW (λ W (h:VP W g A nT cap T (p+1))=>qG g A nT cap T M hT hB hn (p+1) W h hp1 (by omega));clear hs hV hr HR0;cases hrs:eS T [] (p+1) with
 |bad q =>
  have HR:=aW (show r=.bad q by rw [HR1.out,hrs]);rw [hrs] at HST;unfold gR aG at HST;clear hrs;rw [HR.out];go_enter Tryz.func173,Tryz.ntmps173;go_wp2_with (first | (go_at_call 86;refine (HST.out _ hv2).mono ?_;rintro e w3 ⟨rfl,hg3⟩) | (go_at_call 172;refine HW.out.mono ?_;rintro e w2 ⟨rfl,hv2,hg2⟩));exact ⟨rfl,rfl,ag hg2 hg3⟩
 |ok l q =>
  have hq:=(qf hT (acc:=[]) (by rw [HL.out];exact hp1):(eS T [] (p+1)).In0 T (p+1))
  rw [hrs] at hq;have hqn:q<nT:=by have h9:=hq.2;rw [HL.out] at h9;exact h9
  have HR2:=aW (show r=if ao T q [125]=true then .ok l (q+1) else .bad q by rw [HR1.out,hrs]);rw [hrs] at HST;unfold gR at HST;clear hrs hq;by_cases hs2:ao T q [125]=true
  ·have HR:=aW (show r=.ok l (q+1) by rw [HR2.out,if_pos hs2]);have HW2:=aW (λ W (h:VP W g A nT cap T q)=>fz [125] W g A nT cap T q h hqn hn hs2);clear hs2;rw [HR.out];go_enter Tryz.func173,Tryz.ntmps173;go_wp2_with (first | (go_at_call 86;refine (HST.out _ hv2).mono ?_;rintro e w3 ⟨A3,n3,c3,css3,rfl,hl1,hl2,hl3,hl4,hl5,hv3,hg3⟩;have HL1:=aW hl1;clear hl1) | (go_at_call 172;refine (HW2.out _ hv3).mono ?_;rintro e w4 ⟨rfl,hv4,hg4⟩) | (go_at_call 172;refine HW.out.mono ?_;rintro e w2 ⟨rfl,hv2,hg2⟩));go_ret;have hgl:=HV.out.blk.lt;have hk:aj (NW w2) w3 w4:=aj.of_grown hg4 λ k hk e=>by injection e with e;have:=hg2.size;unfold NW at hk;omega
   have hm:∀ b,NW w2 b->NW w b:=λ b hb=>Nat.le_trans hg2.size hb
   exact ⟨A3,n3,c3,css3,rfl,HL1.out,hl2,hl3,RR.imp hl4 λ c y hc=>(SR.keep hc hk).mono λ b _ hb=>hm b hb,(hl5.keep hk).mono λ b _ hb=>hm b hb,hv4,ag (ag hg2 hg3) hg4⟩
  ·have hs':ao T q [125]=false:=by simpa using hs2
   have HR:=aW (show r=.bad q by rw [HR2.out,if_neg hs2]);have hw:=λ W (h:VP W g A nT cap T q)=>fy [125] W g A nT cap T q h hqn hn hs'
   unfold aG at hw;have HW2:=aW hw;clear hs2 hs' hw;rw [HR.out];go_enter Tryz.func173,Tryz.ntmps173;go_wp2_with (first | (go_at_call 86;refine (HST.out _ hv2).mono ?_;rintro e w3 ⟨A3,n3,c3,css3,rfl,hl1,hl2,hl3,hl4,hl5,hv3,hg3⟩;have HL1:=aW hl1;clear hl1) | (go_at_call 172;refine (HW2.out _ hv3).mono ?_;rintro e w4 ⟨rfl,hb4⟩) | (go_at_call 172;refine HW.out.mono ?_;rintro e w2 ⟨rfl,hv2,hg2⟩));exact ⟨rfl,rfl,ag (ag hg2 hg3) (aw hb4 _)⟩
theorem oO (g:Nat) (A:Option Addr) (nT cap:Nat) (T:List al) (hT:WT T) (hn:nT<=1000):∀ M,nf g A nT cap T M
 | 0=>λ p W hV hp h=>by omega
 | M+1=>λ p W hV hp h=>vt g A nT cap T M hT (oO g A nT cap T hT hn M) hn p W hV hp h
theorem pV (g:Nat) (A:Option Addr) (nT cap:Nat) (T:List al) (hT:WT T) (hn:nT<=1000) (p:Nat) (w:World) (hV:VP w g A nT cap T p) (hp:p<nT) :
  Calls Tryz.prog 86 #[Zp (some ⟨g,0,none⟩)] w (gR (eS T [] p) g A nT cap T w) :=
 qG g A nT cap T nT hT (oO g A nT cap T hT hn nT) hn p w hV hp (by omega)
end
end Go.Proofs.YtgmnmnnoahdjnaaGreatDoor
