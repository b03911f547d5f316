import Derived.Test.YtgmnmnnoahdjnaaGreatDoorY35
open Go.Value renaming int → Zi, slice → Zs, string → Zt, pointer → Zp
open Go.IntKind renaming i64 → Zq
set_option maxRecDepth 100000
set_option maxHeartbeats 16000000
set_option linter.unusedVariables false
set_option linter.unusedSimpArgs false
namespace Go.Proofs.YtgmnmnnoahdjnaaGreatDoor
section
open Go.RowKit
attribute [local go_sem] aa ac ae ab
structure BiX (w W:World) (gx:Nat) (A KA:Option Addr) (nT:Nat) (T:List ap) (ks:List Nat) (cx:Array Value) (cl:List Value) (ct:Array Value) (x:EJ):Prop where
 rx:ReX w W gx w.heap.size A nT T cx ct
 er:ER W (XF w gx w.heap.size) cl x
 kr:RdF W (XF w gx w.heap.size) KA (ma ks)
section
variable {w W W':World} {gx nT:Nat} {A KA:Option Addr} {T:List ap} {ks:List Nat} {cx ct:Array Value} {cl:List Value} {x:EJ}
theorem BiX.keep (h:BiX w W gx A KA nT T ks cx cl ct x) (hb:Below W.heap.size W W'):BiX w W' gx A KA nT T ks cx cl ct x:=⟨h.rx.keep hb,h.er.bel hb,h.kr.keep (af.of_below hb)⟩
theorem BiX.at_ {c0 c1 c2:Value} (h:BiX w W gx A KA nT T ks cx cl #[c0,c1,c2] x) (y:Value):BiX w (W.setCell ⟨w.heap.size,1,none⟩ y) gx A KA nT T ks cx cl #[c0,y,c2] x :=
 ⟨h.rx.at_ y,XF.at_ h.er _ _,h.kr.keep (af.set af.refl (λ k hk=>hk.2.2) _ _)⟩
theorem BiX.put {c0 c1 c2:Value} (h:BiX w W gx A KA nT T ks cx cl #[c0,c1,c2] x) (a b c:Value):BiX w (((W.setCell ⟨w.heap.size,0,none⟩ a).setCell ⟨w.heap.size,1,none⟩ b).setCell ⟨w.heap.size,2,none⟩ c) gx A KA nT T ks cx cl #[a,b,c] x :=
 ⟨h.rx.put a b c,XF.put h.er _ _ _,h.kr.keep (af.setC (λ k hk=>hk.2.2) [_,_,_] 0 af.refl)⟩
theorem BiX.x8 {c0 c1 c2 c3 c4 c5 c6 c7:Value} (h:BiX w W gx A KA nT T ks #[c0,c1,c2,c3,c4,c5,c6,c7] cl ct x) {y:EJ} (x0 x1 x2 x3 x4 x5 x6 x7:Value) (hE:ER W (XF w gx w.heap.size) [x0,x1,x2,x3,x4,x5,x6,x7] y) :
  BiX w ((((((((W.setCell ⟨gx,0,none⟩ x0).setCell ⟨gx,1,none⟩ x1).setCell ⟨gx,2,none⟩ x2).setCell ⟨gx,3,none⟩ x3).setCell ⟨gx,4,none⟩ x4).setCell ⟨gx,5,none⟩ x5).setCell ⟨gx,6,none⟩ x6).setCell ⟨gx,7,none⟩ x7) gx A KA nT T ks #[x0,x1,x2,x3,x4,x5,x6,x7] [x0,x1,x2,x3,x4,x5,x6,x7] ct y :=
 ⟨h.rx.x8 _ _ _ _ _ _ _ _,XF.x8 hE _ _ _ _ _ _ _ _,h.kr.keep (ed (λ k hk=>hk.2.1) af.refl _ _ _ _ _ _ _ _)⟩
end
theorem ll {b c:Bool} (h:(!b && c)=true):b=false/\c=true:=by cases b<;>cases c<;>simp_all
set_option maxHeartbeats 32000000 in
theorem vu (A:Option Addr) (nT cap:Nat) (T:List ap) (N:Nat) (hT:WT T) (hE:pt A nT cap T N) (lvl p:Nat) (q:Int) (w:World) (hV:bW w A nT T) (h37:¬ (lvl=3∨lvl=7)) (h8:¬ 8<=lvl) (h1:1<=lvl) (hp:p<nT) (hq:q=lvl) (hN:12*(nT-p)+(10-lvl)<=N+1) :
  Calls Tryz.prog 91 #[tkV A nT cap p false,Zi Zq q] w (RdX (eE T lvl p) A nT cap w):=by
 obtain ⟨r,hr⟩:∃ r,eE T lvl p=r:=⟨_,rfl⟩
 have HR0:=aW (show r=(match eE T (lvl+1) p with | .ok x q=>eB T lvl x q | .bad q=>.bad q) by rw [← hr];exact ut hT h37 h8 (by rw [hV.len];exact hp));rw [hr];obtain ⟨ks,hks⟩:∃ ks,kds lvl 11=ks:=⟨_,rfl⟩
 have hkl:ks.length<=11:=by rw [← hks];exact oU lvl 11
 have HOP:=aW (λ p=>show eo T lvl p=kj T p ks by rw [← hks];exact qf T p (by omega));have HKI:=aW (λ k (h:k ∈ ks)=>show 5<=k/\k<=15 by rw [← hks] at h;have:=uK h;omega);have HKD:=aW (λ (W:World)=>show Calls Tryz.prog 146 #[Zi Zq q] W (vZ ks W) by rw [hq,← hks];exact vo lvl W (by omega));have HC:=aW (λ (p':Nat) (W:World) (h:bW W A nT T) (h1:p<=p') (h2:p'<nT)=>hE (lvl+1) p' false (q+1) W h (by omega) (by omega) h2 (by omega) (by omega));have HB:=aW (λ (x:EJ) (p':Nat) (h:p'<nT)=>xz hT (lvl:=lvl) (x:=x) (p:=p') (by omega) (by rw [hV.len];exact h));have q3:(q == 3)=false:=by rw [beq_eq_false_iff_ne];omega
 have q7:(q == 7)=false:=by rw [beq_eq_false_iff_ne];omega
 have q8:(q == 8)=false:=by rw [beq_eq_false_iff_ne];omega
 have q9:(q == 9)=false:=by rw [beq_eq_false_iff_ne];omega
 have hqw:IntKind.i64.wrap (q+1)=q+1:=by rw [IntKind.wrap_i64];omega
 have HQ4:=aW (show (q == 4)=true ↔ lvl=4 by simp only [beq_iff_eq];omega);have hn9:=hV.few;have HV:=aW hV;have HL:=aW hV.len;have HP:=aW hp;have HH0:=aW ((((az.nil w).push 82 #[Zs A nT cap,Zi Zq p,.bool false] (g:=w.heap.size) rfl).push 45 #[Zi Zq 0,Zi Zq 0,Zi Zq 0,Zt ⟨#[]⟩,Zs none 0 0,Zs none 0 0,Zt ⟨#[]⟩,Zs none 0 0] (g:=w.heap.size+1) (by simp)).push 82 #[Zs none 0 0,Zi Zq 0,.bool false] (g:=w.heap.size+1+1) (by simp));obtain ⟨W0,hW0⟩:∃ W0,((w.alloc (.cells #[Zs A nT cap,Zi Zq p,.bool false] 82)).alloc (.cells #[Zi Zq 0,Zi Zq 0,Zi Zq 0,Zt ⟨#[]⟩,Zs none 0 0,Zs none 0 0,Zt ⟨#[]⟩,Zs none 0 0] 45)).alloc (.cells #[Zs none 0 0,Zi Zq 0,.bool false] 82)=W0:=⟨_,rfl⟩
 have HFX0:=aW (show bT w W0 (w.heap.size+1) (w.heap.size+1+1) #[Zi Zq 0,Zi Zq 0,Zi Zq 0,Zt ⟨#[]⟩,Zs none 0 0,Zs none 0 0,Zt ⟨#[]⟩,Zs none 0 0] #[Zs none 0 0,Zi Zq 0,.bool false] by rw [← hW0];exact ⟨HH0.out.b1,HH0.out.b0,HH0.out.1,by omega,by omega,by omega⟩);have HB0:=aW (show Blk W0 w.heap.size 82 #[Zs A nT cap,Zi Zq p,.bool false] by rw [← hW0];exact HH0.out.b2);have HS0:=aW (show W0.heap.size=w.heap.size+3 by rw [← hW0];simp);have HW0:=aW hW0;clear hW0 HH0;clear hV hr hE hN h37 h8 h1 hq hks;unfold tkV at HC ⊢;simp only [Bool.false_eq_true,if_false] at HC;go_enter Tryz.func91,Tryz.ntmps91;go_upto_region 1 with fail;rw [HW0.out];obtain ⟨c0,f0,l0⟩:=HB0.out.rules;clear HW0;go_wp2_with fail;refine (HKD.out _).mono ?_;rintro e w1 ⟨KA,kc,rfl,hkc,hkr,hb1⟩;have HFX1:=aW (HFX0.out.keep hb1);have HBX1:=aW (HB0.out.keep hb1);have HKR:=aW hkr;have HS1:=aW (show w.heap.size+3<=w1.heap.size by have:=hb1.size;have:=HS0.out;omega);clear c0 f0 l0 hkc hkr hb1 HFX0 HB0 HKD;obtain ⟨c0,f0,l0⟩:=HBX1.out.rules;go_wp2_with fail;refine (HC.out p _ (HV.out.keep HFX1.out.bel) (Nat.le_refl _) HP.out).mono ?_;rintro e w5 ⟨cs,x,q1,b1,rfl,he5,hb5,hq5,hr5⟩;unfold tkV;obtain ⟨k9,k19,n19,s19,A19,na19,ca19,B19,nb19,cb19,s9,A29,n29,ca29,rfl⟩:=he5.form;have HB5:=aW (And.intro hb5 (And.intro he5 (And.intro hq5 hr5)));have HFX5:=aW (HFX1.out.keep hb5);have HBX5:=aW (HBX1.out.keep hb5);clear he5 hb5 hq5 hr5 c0 f0 l0;obtain ⟨c0,f0,l0⟩:=HBX5.out.rules;go_upto_region 24 with fail;obtain ⟨hb5,he5,hq5,hr5⟩:=HB5.out;obtain ⟨W6,hW6⟩:∃ W',(((w5.setCell ⟨w.heap.size,0,none⟩ (Zs A nT cap)).setCell ⟨w.heap.size,1,none⟩ (Zi Zq q1)).setCell ⟨w.heap.size,2,none⟩ (.bool b1)).alloc (.cells #[Zi Zq k9,Zi Zq k19,Zi Zq n19,Zt s19,Zs A19 na19 ca19,Zs B19 nb19 cb19,Zt s9,Zs A29 n29 ca29] 45)=W':=⟨_,rfl⟩
 obtain ⟨gx,hgx⟩:∃ z,w5.heap.size=z:=⟨_,rfl⟩
 rw [hW6]
 try rw [hgx]
 have HG:=aW (show w.heap.size+3<=gx by have:=hb5.size;have:=HS1.out;omega);have HI6:=aW (show BiX w W6 gx A KA nT T ks #[Zi Zq k9,Zi Zq k19,Zi Zq n19,Zt s19,Zs A19 na19 ca19,Zs B19 nb19 cb19,Zt s9,Zs A29 n29 ca29] [Zi Zq k9,Zi Zq k19,Zi Zq n19,Zt s19,Zs A19 na19 ca19,Zs B19 nb19 cb19,Zt s9,Zs A29 n29 ca29] #[Zs A nT cap,Zi Zq q1,.bool b1] x by
  have hgg:=HG.out;obtain ⟨W5,hW5⟩:∃ W',((w5.setCell ⟨w.heap.size,0,none⟩ (Zs A nT cap)).setCell ⟨w.heap.size,1,none⟩ (Zi Zq q1)).setCell ⟨w.heap.size,2,none⟩ (.bool b1)=W':=⟨_,rfl⟩
  rw [hW5] at hW6;have hs5:W5.heap.size=w5.heap.size:=by rw [← hW5];simp [World.setCell]
  have hb6:Below W5.heap.size W5 W6:=by rw [← hW6];exact (Below.refl _ _).alloc (Nat.le_refl _) _
  refine ⟨⟨?_,?_,?_,HV.out,hgg,.inl rfl,by omega⟩,?_,?_⟩
  ·refine bT.keep ?_ hb6;rw [← hW5];exact ((HFX5.out.setG (.inl rfl) 0 _).setG (.inl rfl) 1 _).setG (.inl rfl) 2 _
  ·rw [← hW6,← hgx,← hs5];exact Blk.new _ _ _
  ·refine Blk.keep ?_ hb6;rw [← hW5];exact ((HBX5.out.set_ 0 _).set_ 1 _).set_ 2 _
  ·refine ER.bel ?_ hb6;rw [← hW5];exact XF.put (he5.mono' (F':=XF w gx w.heap.size) λ b hb hF=>by
    have h9:w1.heap.size<=b:=hF;have:=HS1.out;exact ⟨by omega,by omega,by omega⟩) _ _ _
  ·refine RdF.keep ?_ (af.of_below hb6);rw [← hW5];refine RdF.keep ?_ (af.setC (λ k hk=>hk.2.2) [_,_,_] 0 af.refl);refine RdF.keep ?_ (af.of_below hb5);refine HKR.out.mono λ b hb hF=>?_
   have h9:W0.heap.size<=b:=hF;have:=HS0.out;have:=hb5.size;exact ⟨by omega,by omega,by omega⟩)
 have HR6:=aW (show r=(if b1=true then .bad q1 else if true=true then eB T lvl x q1 else .ok x q1) by
  rw [HR0.out,hr5];cases b1<;>rfl)
 have HPQ:=aW (show p<=q1 by
  cases b1
  ·have h9:=dm hT (lvl:=lvl+1) (p:=p) (by rw [HL.out];exact HP.out) (q:=q1) (x:=x) hr5;omega
  ·have h9:=jn hT (lvl:=lvl+1) (p:=p) (by rw [HL.out];exact HP.out) (q:=q1) hr5;omega)
 clear hb5 he5 hr5 hW6 hgx c0 f0 l0 HB5 HFX5 HBX5 HKR HFX1 HBX1 HS0 HS1 HR0;go_wp2_with fail;go_loopg [15] (if true=true then 1+(nT-q1) else 0) (λ gk s15 wr => ∃ (p':Nat) (x':EJ) (bb more:Bool) (k9 k19 n19:Int) (s19:ByteArray) (A19:Option Addr) (na19 ca19:Nat) (B19:Option Addr) (nb19 cb19:Nat) (s9:ByteArray) (A29:Option Addr) (n29 ca29:Nat),s15=.bool more/\p<=p'/\p'<nT/\gk=(if more=true then 1+(nT-p') else 0) /\
  Hid (r=(if bb=true then .bad p' else if more=true then eB T lvl x' p' else .ok x' p'))/\Hid (BiX w wr gx A KA nT T ks #[Zi Zq k9,Zi Zq k19,Zi Zq n19,Zt s19,Zs A19 na19 ca19,Zs B19 nb19 cb19,Zt s9,Zs A29 n29 ca29] [Zi Zq k9,Zi Zq k19,Zi Zq n19,Zt s19,Zs A19 na19 ca19,Zs B19 nb19 cb19,Zt s9,Zs A29 n29 ca29] #[Zs A nT cap,Zi Zq p',.bool bb] x'))
 case atStart=>exact ⟨q1,x,b1,true,k9,k19,n19,s19,A19,na19,ca19,B19,nb19,cb19,s9,A29,n29,ca29,rfl,HPQ.out,hq5,rfl,HR6,HI6⟩
 case round =>
  obtain ⟨p',x',bb,more,k9,k19,n19,s19,A19,na19,ca19,B19,nb19,cb19,s9,A29,n29,ca29,rfl,hpp,hpn,hgk,HRP,HI⟩:=hrel;have hgk9:=aW hgk;have HPN:=aW (And.intro hpp hpn);clear hgk HR6 HI6 HPQ hq5 hpp;cases more
  ·have HR:=aW (show r=(if bb=true then .bad p' else .ok x' p') from HRP.out);obtain ⟨c0,f0,l0⟩:=HI.out.rx.tb.rules;go_upto_region 38 with fail;have HFX:=aW HI.out.rx.fin;clear c0 f0 l0;refine wp_region_held_drew (S:=λ w'=>Blk w' gx 45 #[Zi Zq k9,Zi Zq k19,Zi Zq n19,Zt s19,Zs A19 na19 ca19,Zs B19 nb19 cb19,Zt s9,Zs A29 n29 ca29]/\Blk w' w.heap.size 82 #[Zs A nT cap,Zi Zq p',.bool bb]) (by kernel_rfl) (by exact ⟨HI.out.rx.xb,HI.out.rx.tb⟩) (λ hHeld=>?_);refine aY 0 146 (.agg #[Zi Zq k9,Zi Zq k19,Zi Zq n19,Zt s19,Zs A19 na19 ca19,Zs B19 nb19 cb19,Zt s9,Zs A29 n29 ca29]) rfl ?_ ?_
   ·intro W hSw;obtain ⟨⟨c,f,l⟩,⟨c',f',l'⟩⟩:=And.intro hSw.1.rules hSw.2.rules;go_simp
   refine aY 1 147 (.agg #[Zs A nT cap,Zi Zq p',.bool bb]) rfl ?_ ?_
   ·intro W hSw;obtain ⟨⟨c,f,l⟩,⟨c',f',l'⟩⟩:=And.intro hSw.1.rules hSw.2.rules;go_simp
   refine aU 2 rfl (λ K hK=>?_);obtain ⟨c9,f9,l9⟩:=HFX.out.b1.rules;go_simp;refine hK.out _ _ (by exact ⟨(Blk.far8 (show Blk wr _ _ _ from hHeld.1) (by have:=HG.out;omega) _ _ _ _ _ _ _ _).drew,(Blk.far8 (show Blk wr _ _ _ from hHeld.2) (by have:=HG.out;omega) _ _ _ _ _ _ _ _).drew⟩) (λ hHeld=>?_);clear hK K
   try simp only [pU]
   refine ai (λ Y1 hY1=>?_);rw [← hY1] at hHeld;replace HFX:=aW (show bT w Y1 _ _ #[Zi Zq k9,Zi Zq k19,Zi Zq n19,Zt s19,Zs A19 na19 ca19,Zs B19 nb19 cb19,Zt s9,Zs A29 n29 ca29] _ by rw [hY1];exact (HFX.out.st1 _ _ _ _ _ _ _ _).drew);have HKF:=aW (show af (λ b=>w.heap.size+3<=b) wr Y1 by rw [hY1];exact (show af (λ b=>w.heap.size+3<=b) wr _ from ed (λ k hk=>by omega) af.refl _ _ _ _ _ _ _ _).drew9);clear hY1 c9 f9 l9;refine aU 3 rfl (λ K hK=>?_);obtain ⟨c9,f9,l9⟩:=HFX.out.b2.rules;go_simp;refine hK.out _ _ (by exact ⟨Blk.far3 (hHeld.1) (by have:=HG.out;omega) _ _ _,Blk.far3 (hHeld.2) (by have:=HG.out;omega) _ _ _⟩) (λ hHeld=>?_);clear hK K
   try simp only [pU]
   refine ai (λ Y2 hY2=>?_);replace HFX:=aW (show bT w Y2 _ _ _ #[Zs A nT cap,Zi Zq p',.bool bb] by rw [hY2];exact HFX.out.st2 _ _ _);replace HKF:=aW (show af (λ b=>w.heap.size+3<=b) wr Y2 by rw [hY2];exact af.setC (λ k hk=>by omega) [_,_,_] 0 HKF.out);clear hY2 c9 f9 l9 hHeld;refine aX ?_;obtain ⟨c8,f8,l8⟩:=HFX.out.b1.rules;obtain ⟨c9,f9,l9⟩:=HFX.out.b2.rules;go_wp2;refine bodyPost_ret (v:=.tuple #[.agg #[Zi Zq k9,Zi Zq k19,Zi Zq n19,Zt s19,Zs A19 na19 ca19,Zs B19 nb19 cb19,Zt s9,Zs A29 n29 ca29],.agg #[Zs A nT cap,Zi Zq p',.bool bb]]) (by simp only [results,Tryz.results91];go_simp) rfl ?_;exact ⟨_,x',p',bb,rfl,(HI.out.er.mono (F':=λ b=>w.heap.size+3<=b) λ b _ hb=>hb.1).keep HKF.out |>.mono λ b _ hb=>by unfold NW;omega,HFX.out.bel,HPN.out.2,HR.out⟩
  ·have HRP:=aW (show r=(if bb=true then .bad p' else eB T lvl x' p') from HRP.out);have HGK:=aW (λ (z:Nat) (h:z<1+(nT-p'))=>show z<gk by
    have h9:gk=1+(nT-p'):=by simpa using hgk9.out
    omega)
   clear hgk9;obtain ⟨t4,ht4⟩:∃ b,(q == 4)=b:=⟨_,rfl⟩
   have HT4:=aW (show t4=true ↔ lvl=4 by rw [← ht4];exact HQ4.out);go_wp2_with fail;go_loopg [15,16] ks.length (λ gi s15 s16 wi => ∃ (i p2:Nat) (x2:EJ) (b2 m2:Bool) (k9 k19 n19:Int) (s19:ByteArray) (A19:Option Addr) (na19 ca19:Nat) (B19:Option Addr) (nb19 cb19:Nat) (s9:ByteArray) (A29:Option Addr) (n29 ca29:Nat),i<=ks.length/\s15=.bool m2/\s16=Zi Zq (i:Int)/\gi=ks.length-i/\p'<=p2/\p2<nT /\
    Hid ((m2=false/\p2=p'/\b2=bb/\x2=x'/\∀ (j k:Nat),j<i->ks[j]? = some k->(!bb && al T p' (bF (opK (k:Int))))=false)∨(m2=true/\p'<p2/\r=(if b2=true then .bad p2 else if lvl=4 then .ok x2 p2 else eB T lvl x2 p2)))/\Hid (BiX w wi gx A KA nT T ks #[Zi Zq k9,Zi Zq k19,Zi Zq n19,Zt s19,Zs A19 na19 ca19,Zs B19 nb19 cb19,Zt s9,Zs A29 n29 ca29] [Zi Zq k9,Zi Zq k19,Zi Zq n19,Zt s19,Zs A19 na19 ca19,Zs B19 nb19 cb19,Zt s9,Zs A29 n29 ca29] #[Zs A nT cap,Zi Zq p2,.bool b2] x2))
   case atStart=>exact ⟨0,p',x',bb,false,k9,k19,n19,s19,A19,na19,ca19,B19,nb19,cb19,s9,A29,n29,ca29,Nat.zero_le _,rfl,rfl,rfl,Nat.le_refl _,hpn,aW (.inl ⟨rfl,rfl,rfl,rfl,λ j k h=>by omega⟩),HI⟩
   case round =>
    clear HI;obtain ⟨i,p2,x2,b2,m2,k9,k19,n19,s19,A19,na19,ca19,B19,nb19,cb19,s9,A29,n29,ca29,hi,rfl,rfl,hgi,hp2,hn2,HST,HI⟩:=hrel;have HGI:=aW hgi;have HP2:=aW (And.intro hp2 hn2);clear hgi hp2 hn2;by_cases hgo:i<ks.length/\m2=false
    ·obtain ⟨hlt,rfl⟩:=hgo;obtain ⟨rfl,rfl,rfl,HNO⟩:p2=p'/\b2=bb/\x2=x'/\Hid (∀ (j k:Nat),j<i->ks[j]? = some k->(!bb && al T p' (bF (opK (k:Int))))=false):=by
      rcases HST.out with ⟨_,h1,h2,h3,h4⟩ | ⟨h,_⟩
      ·exact ⟨h1,h2,h3,aW h4⟩
      ·cases h
     clear HST;obtain ⟨k,hk⟩:∃ k:Nat,ks[i]? = some k:=⟨ks[i],List.getElem?_eq_getElem hlt⟩
     obtain ⟨kb,ko,hka,hkb,hkF,hkc⟩:=kg HI.out.kr hk;have hk5:(5:Int)<=(k:Int)/\(k:Int)<=15:=by have:=HKI.out k (List.mem_of_getElem? hk);omega
     obtain ⟨wd,hwd⟩:∃ z,bF (opK (k:Int))=z:=⟨_,rfl⟩
     obtain ⟨cc,hcc⟩:∃ z,(!b2 && al T p2 wd)=z:=⟨_,rfl⟩
     have HWD:=aW (λ W=>xJ (k:Int) W hk5);have HSE:=aW (λ (W:World) (h:bW W A nT T)=>nV wd W A nT cap T p2 b2 h hpn);rw [hwd] at HWD;rw [hcc] at HSE;unfold tkV at HSE;have HK:=aW (λ (W:World) (h:Below wr.heap.size wr W)=>show (λ W'=>Blk W' w.heap.size 82 #[Zs A nT cap,Zi Zq p2,.bool b2]/\au W' ⟨kb,ko+i,none⟩ (Zi Zq (k:Int))) W from ⟨HI.out.rx.tb.keep h,hkc.keep h hkb⟩);have HHK:=aW (And.intro hk (And.intro hwd hcc));have HKA:=aW hka;have hilt:(i:Int)<(ks.length:Int):=by omega
     clear hkb hkF hkc hk5 hwd hcc hk hka;go_upto_region 30 with fail;refine wp_region_held_drew (S:=λ W'=>Blk W' w.heap.size 82 #[Zs A nT cap,Zi Zq p2,.bool b2]/\au W' ⟨kb,ko+i,none⟩ (Zi Zq (k:Int))) (by kernel_rfl) (by exact HK.out _ (Below.refl _ _).drew) (λ hHeld=>?_);refine ai (λ Y0 hw=>?_);have HZ:=aW (show Below wr.heap.size wr Y0 by rw [hw];exact (Below.refl _ _).drew);clear hw hHeld;have hHeld:=HK.out _ HZ.out;refine aY 0 117 (.agg #[Zs A nT cap,Zi Zq p2,.bool b2]) rfl ?_ ?_
     ·intro W hSw;have hka:=HKA.out;obtain ⟨⟨c,f,l⟩,z2⟩:=And.intro hSw.1.rules hSw.2;unfold au at z2;go_simp
     refine aY 1 118 (Zs KA ks.length kc) rfl ?_ ?_
     ·intro W hSw;have hka:=HKA.out;obtain ⟨⟨c,f,l⟩,z2⟩:=And.intro hSw.1.rules hSw.2;unfold au at z2;go_simp
     refine aY 2 119 (Zi Zq (i:Int)) rfl ?_ ?_
     ·intro W hSw;have hka:=HKA.out;obtain ⟨⟨c,f,l⟩,z2⟩:=And.intro hSw.1.rules hSw.2;unfold au at z2;go_simp
     refine aY 3 120 (Zp (some ⟨kb,ko+i,none⟩)) rfl ?_ ?_
     ·intro W hSw;have hka:=HKA.out;obtain ⟨⟨c,f,l⟩,z2⟩:=And.intro hSw.1.rules hSw.2;unfold au at z2;go_simp
     refine aY 4 121 (Zi Zq (k:Int)) rfl ?_ ?_
     ·intro W hSw;have hka:=HKA.out;obtain ⟨⟨c,f,l⟩,z2⟩:=And.intro hSw.1.rules hSw.2;unfold au at z2;go_simp
     refine aV 5 122 rfl (λ K hK=>?_);go_simp;refine (HWD.out _).mono ?_;rintro e Z ⟨rfl,rfl⟩;refine hK.out _ _ (by exact hHeld) (λ hHeld=>?_);clear hK K
     try simp only [pU]
     refine aV 6 123 rfl (λ K hK=>?_);go_simp;refine (HSE.out _ (HI.out.keep HZ.out).rx.rd).mono ?_;rintro e Y1 ⟨rfl,hb⟩;have hz:=aW (HZ.out.trans (hb.mono HZ.out.size));clear HZ hb;have HZ:=hz;clear hz;refine hK.out _ _ (by exact HK.out _ HZ.out) (λ hHeld=>?_);clear hK K
     try simp only [pU]
     refine aX ?_;clear hHeld;replace HI:=aW (HI.out.keep HZ.out);clear HK HZ HSE HWD HKA;cases cc
     ·go_wp2;go_roundg (ks.length-(i+1))
      case measure=>rw [HGI.out];omega
      case rel =>
       obtain ⟨hk,hwd,hcc⟩:=HHK.out;refine ⟨i+1,p2,x2,b2,false,k9,k19,n19,s19,A19,na19,ca19,B19,nb19,cb19,s9,A29,n29,ca29,by omega,rfl,by go_num,rfl,Nat.le_refl _,hpn,aW (.inl ⟨rfl,rfl,rfl,rfl,λ j k' hj hk'=>?_⟩),HI⟩;rcases Nat.lt_or_ge j i with h | h
       ·exact HNO.out j k' h hk'
       ·obtain rfl:j=i:=by omega
        rw [hk] at hk';injection hk' with hk'
        rw [← hk',hwd];exact hcc
     ·obtain rfl:b2=false:=(ll HHK.out.2.2).1;have HHR:=aW (show p2+1<nT/\r=(match eE T (lvl+1) (p2+1) with | .bad q=>.bad q | .ok y q=>if lvl=4 then .ok (eOp (k:Int) [x2,y]) q else eB T lvl (eOp (k:Int) [x2,y]) q) by
       obtain ⟨hk,hwd,hcc⟩:=HHK.out;have hs:al T p2 (bF (opK (k:Int)))=true:=by rw [hwd];exact (ll hcc).2
       have h9:=hT.next (p:=p2) (by rw [HL.out];exact hpn) (ar hs);rw [HL.out] at h9;refine ⟨h9,?_⟩;have hrp:r=eB T lvl x2 p2:=HRP.out;rw [hrp,HB.out x2 p2 hpn,HOP.out,qg (λ j k' hj hk'=>by simpa using HNO.out j k' hj hk') hk hs];rfl)
      have HKK:=aW HHK.out.1;have HPP:=aW (show p<=p2+1 by have:=HPN.out;omega);clear HHK HNO;obtain ⟨c0,f0,l0⟩:=HI.out.rx.tb.rules;go_upto_region 32 with fail;rw [show ((p2:Int)+1)=((p2+1:Nat):Int) from rfl];obtain ⟨W3,hW3⟩:∃ W',Y1.setCell ⟨w.heap.size,1,none⟩ (Zi Zq (p2+1:Nat))=W':=⟨_,rfl⟩
      rw [hW3];replace HI:=aW (show BiX w W3 gx A KA nT T ks #[Zi Zq k9,Zi Zq k19,Zi Zq n19,Zt s19,Zs A19 na19 ca19,Zs B19 nb19 cb19,Zt s9,Zs A29 n29 ca29] [Zi Zq k9,Zi Zq k19,Zi Zq n19,Zt s19,Zs A19 na19 ca19,Zs B19 nb19 cb19,Zt s9,Zs A29 n29 ca29] #[Zs A nT cap,Zi Zq (p2+1:Nat),.bool false] x2 by rw [← hW3];exact HI.out.at_ _);clear hW3 c0 f0 l0;obtain ⟨c0,f0,l0⟩:=HI.out.rx.tb.rules;go_wp2_with fail;refine (HC.out (p2+1) _ HI.out.rx.rd HPP.out HHR.out.1).mono ?_;rintro e w5 ⟨cs,y,q2,b3,rfl,he5,hb5,hq5,hr5⟩;unfold tkV;obtain ⟨k7,k17,n17,s17,A17,na17,ca17,B17,nb17,cb17,s7,A27,n27,ca27,rfl⟩:=he5.form;have HR5:=aW (show p2<q2/\q2<nT/\r=(if b3=true then .bad q2 else if lvl=4 then .ok (eOp (k:Int) [x2,y]) q2 else eB T lvl (eOp (k:Int) [x2,y]) q2) from by
       refine ⟨?_,hq5,by rw [HHR.out.2,hr5];cases b3<;>rfl⟩;have hl9:p2+1<T.length:=by rw [HL.out];exact HHR.out.1
       cases b3
       ·have h9:=dm hT (lvl:=lvl+1) hl9 (q:=q2) (x:=y) hr5;omega
       ·have h9:=jn hT (lvl:=lvl+1) hl9 (q:=q2) hr5;omega)
      have HEY:=aW (show ER w5 (XF w gx w.heap.size) [Zi Zq k7,Zi Zq k17,Zi Zq n17,Zt s17,Zs A17 na17 ca17,Zs B17 nb17 cb17,Zt s7,Zs A27 n27 ca27] y from he5.mono' (F':=XF w gx w.heap.size) λ b _ hb=>by
       have h9:W3.heap.size<=b:=hb;have:=HI.out.rx.xb.lt;have:=HG.out;exact ⟨by omega,by omega,by omega⟩)
      replace HI:=aW (HI.out.keep hb5);clear he5 hb5 hq5 hr5 c0 f0 l0;obtain ⟨c0,f0,l0⟩:=HI.out.rx.tb.rules;go_upto_region 33 with fail;obtain ⟨W6,hW6⟩:∃ W',(w5.alloc (.cells #[Zi Zq k7,Zi Zq k17,Zi Zq n17,Zt s17,Zs A17 na17 ca17,Zs B17 nb17 cb17,Zt s7,Zs A27 n27 ca27] 45)).alloc (.cells #[Zs A nT cap,Zi Zq q2,.bool b3] 82)=W':=⟨_,rfl⟩
      obtain ⟨gy,hgy⟩:∃ z,w5.heap.size=z:=⟨_,rfl⟩
      rw [hW6]
      try rw [hgy]
      have hb6:Below w5.heap.size w5 W6:=by rw [← hW6];exact ((Below.refl w5.heap.size w5).alloc (Nat.le_refl _) _).alloc (by simp) _
      have HY6:=aW (show Blk W6 gy 45 #[Zi Zq k7,Zi Zq k17,Zi Zq n17,Zt s17,Zs A17 na17 ca17,Zs B17 nb17 cb17,Zt s7,Zs A27 n27 ca27] by rw [← hW6,← hgy];exact (Blk.new w5 _ _).alloc _);have HT6:=aW (show Blk W6 (gy+1) 82 #[Zs A nT cap,Zi Zq q2,.bool b3] by rw [← hW6,← hgy];exact Blk.newAt _ _ _ (by simp));have HG6:=aW (show gx<gy by have:=HI.out.rx.xb.lt;omega);replace HEY:=aW (HEY.out.bel hb6);replace HI:=aW (HI.out.keep hb6);clear hW6 hb6 hgy c0 f0 l0;obtain ⟨c0,f0,l0⟩:=HI.out.rx.tb.rules;obtain ⟨c6,f6,l6⟩:=HT6.out.rules;go_upto_region 34 with fail;obtain ⟨W7,hW7⟩:∃ W',((W6.setCell ⟨w.heap.size,0,none⟩ (Zs A nT cap)).setCell ⟨w.heap.size,1,none⟩ (Zi Zq q2)).setCell ⟨w.heap.size,2,none⟩ (.bool b3)=W':=⟨_,rfl⟩
      rw [hW7];replace HI:=aW (show BiX w W7 gx A KA nT T ks #[Zi Zq k9,Zi Zq k19,Zi Zq n19,Zt s19,Zs A19 na19 ca19,Zs B19 nb19 cb19,Zt s9,Zs A29 n29 ca29] [Zi Zq k9,Zi Zq k19,Zi Zq n19,Zt s19,Zs A19 na19 ca19,Zs B19 nb19 cb19,Zt s9,Zs A29 n29 ca29] #[Zs A nT cap,Zi Zq q2,.bool b3] x2 by rw [← hW7];exact HI.out.put _ _ _);have HY7:=aW (show Blk W7 gy 45 #[Zi Zq k7,Zi Zq k17,Zi Zq n17,Zt s17,Zs A17 na17 ca17,Zs B17 nb17 cb17,Zt s7,Zs A27 n27 ca27] by rw [← hW7];exact Blk.far3 HY6.out (by have:=HG6.out;have:=HG.out;omega) _ _ _);replace HEY:=aW (show ER W7 (XF w gx w.heap.size) [Zi Zq k7,Zi Zq k17,Zi Zq n17,Zt s17,Zs A17 na17 ca17,Zs B17 nb17 cb17,Zt s7,Zs A27 n27 ca27] y by rw [← hW7];exact XF.put HEY.out _ _ _);clear hW7 c0 f0 l0 c6 f6 l6 HY6 HT6;obtain ⟨kb,ko,hka,hkb,hkF,hkc⟩:=kg HI.out.kr HKK.out;have HKA:=aW hka;have HKB:=aW hkF;have HK:=aW (λ (W:World) (h:Below W7.heap.size W7 W)=>show (λ W'=>Blk W' gy 45 #[Zi Zq k7,Zi Zq k17,Zi Zq n17,Zt s17,Zs A17 na17 ca17,Zs B17 nb17 cb17,Zt s7,Zs A27 n27 ca27]/\au W' ⟨kb,ko+i,none⟩ (Zi Zq (k:Int))) W from ⟨HY7.out.keep h,hkc.keep h hkb⟩);clear hka hkb hkF hkc;refine wp_region_held_drew (S:=λ W'=>Blk W' gy 45 #[Zi Zq k7,Zi Zq k17,Zi Zq n17,Zt s17,Zs A17 na17 ca17,Zs B17 nb17 cb17,Zt s7,Zs A27 n27 ca27]/\au W' ⟨kb,ko+i,none⟩ (Zi Zq (k:Int))) (by kernel_rfl) (by exact HK.out _ (Below.refl _ _).drew) (λ hHeld=>?_);refine ai (λ Y2 hw=>?_);have HZ2:=aW (show Below W7.heap.size W7 Y2 by rw [hw];exact (Below.refl _ _).drew);clear hw hHeld;have hHeld:=HK.out _ HZ2.out;refine aY 0 136 (Zs KA ks.length kc) rfl ?_ ?_
      ·intro W hSw;have hka:=HKA.out;obtain ⟨⟨c,f,l⟩,z2⟩:=And.intro hSw.1.rules hSw.2;unfold au at z2;go_simp
      refine aY 1 137 (Zi Zq (i:Int)) rfl ?_ ?_
      ·intro W hSw;have hka:=HKA.out;obtain ⟨⟨c,f,l⟩,z2⟩:=And.intro hSw.1.rules hSw.2;unfold au at z2;go_simp
      refine aY 2 138 (Zp (some ⟨kb,ko+i,none⟩)) rfl ?_ ?_
      ·intro W hSw;have hka:=HKA.out;obtain ⟨⟨c,f,l⟩,z2⟩:=And.intro hSw.1.rules hSw.2;unfold au at z2;go_simp
      refine aY 3 139 (Zi Zq (k:Int)) rfl ?_ ?_
      ·intro W hSw;have hka:=HKA.out;obtain ⟨⟨c,f,l⟩,z2⟩:=And.intro hSw.1.rules hSw.2;unfold au at z2;go_simp
      refine aY 5 141 (.agg #[Zi Zq k7,Zi Zq k17,Zi Zq n17,Zt s17,Zs A17 na17 ca17,Zs B17 nb17 cb17,Zt s7,Zs A27 n27 ca27]) rfl ?_ ?_
      ·intro W hSw;have hka:=HKA.out;obtain ⟨⟨c,f,l⟩,z2⟩:=And.intro hSw.1.rules hSw.2;unfold au at z2;go_simp
      refine aV 4 140 rfl (λ K hK=>?_);obtain ⟨y0,y1,y2⟩:=(HI.out.keep HZ2.out).rx.xb.rules;go_simp;refine hK.out _ _ (by exact hHeld) (λ hHeld=>?_);clear hK K y0 y1 y2
      try simp only [pU]
      refine aV 6 142 rfl (λ K hK=>?_);go_simp;have hz9:Below Y2.heap.size Y2 (Y2.alloc (.cells #[Zi Zq k9,Zi Zq k19,Zi Zq n19,Zt s19,Zs A19 na19 ca19,Zs B19 nb19 cb19,Zt s9,Zs A29 n29 ca29,Zi Zq k7,Zi Zq k17,Zi Zq n17,Zt s17,Zs A17 na17 ca17,Zs B17 nb17 cb17,Zt s7,Zs A27 n27 ca27] 45)):=(Below.refl _ _).alloc (Nat.le_refl _) _;have HN9:=aW (Blk.new Y2 45 #[Zi Zq k9,Zi Zq k19,Zi Zq n19,Zt s19,Zs A19 na19 ca19,Zs B19 nb19 cb19,Zt s9,Zs A29 n29 ca29,Zi Zq k7,Zi Zq k17,Zi Zq n17,Zt s17,Zs A17 na17 ca17,Zs B17 nb17 cb17,Zt s7,Zs A27 n27 ca27]);have HZ3:=aW (HZ2.out.trans (hz9.mono HZ2.out.size));clear hz9;refine hK.out _ _ (by exact HK.out _ HZ3.out) (λ hHeld=>?_);clear hK K
      try simp only [pU]
      refine ai (λ Y3 hw=>?_);rw [← hw] at HN9 HZ3;obtain ⟨b5,hb5⟩:∃ b,Y2.heap.size=b:=⟨_,rfl⟩
      rw [hb5] at HN9 ⊢;have HB5:=aW (show XF w gx w.heap.size b5 by
       have:=HZ2.out.size;have:=HG.out;have:=HY7.out.lt;have:=HG6.out;exact ⟨by omega,by omega,by omega⟩)
      have hHeld:=HK.out _ HZ3.out;replace HI:=aW (HI.out.keep HZ3.out);replace HEY:=aW (HEY.out.bel HZ3.out);clear hw hb5 HZ2;refine aY 7 143 (.agg #[Zi Zq (k:Int),Zi Zq 0,Zi Zq 0,Zt ⟨#[]⟩,Zs none 0 0,Zs none 0 0,Zt ⟨#[]⟩,Zs (some ⟨b5,0,none⟩) 2 2]) rfl ?_ ?_
      ·intro W hSw;have hka:=HKA.out;obtain ⟨⟨c,f,l⟩,z2⟩:=And.intro hSw.1.rules hSw.2;unfold au at z2;go_simp
      refine aU 8 rfl (λ K hK=>?_);obtain ⟨y0,y1,y2⟩:=HI.out.rx.xb.rules;go_simp;refine hK.out _ _ (by exact ⟨Blk.far8 hHeld.1 (by have:=HG6.out;omega) _ _ _ _ _ _ _ _,au.far8 hHeld.2 (by have:=HKB.out.2.1;exact this) _ _ _ _ _ _ _ _⟩) (λ hHeld=>?_);clear hK K y0 y1 y2
      try simp only [pU]
      refine ai (λ Y4 hw=>?_);have HI4:=aW (show BiX w Y4 gx A KA nT T ks #[Zi Zq (k:Int),Zi Zq 0,Zi Zq 0,Zt ⟨#[]⟩,Zs none 0 0,Zs none 0 0,Zt ⟨#[]⟩,Zs (some ⟨b5,0,none⟩) 2 2] [Zi Zq (k:Int),Zi Zq 0,Zi Zq 0,Zt ⟨#[]⟩,Zs none 0 0,Zs none 0 0,Zt ⟨#[]⟩,Zs (some ⟨b5,0,none⟩) 2 2] #[Zs A nT cap,Zi Zq q2,.bool b3] (eOp (k:Int) [x2,y]) by
       rw [hw];exact HI.out.x8 _ _ _ _ _ _ _ _ (XF.two HI.out.er HEY.out HN9.out HB5.out))
      clear hw hHeld;refine aX ?_;go_wp2;go_roundg (ks.length-(i+1))
      case measure=>rw [HGI.out];omega
      case rel=>exact ⟨i+1,q2,eOp (k:Int) [x2,y],b3,true,(k:Int),0,0,⟨#[]⟩,none,0,0,none,0,0,⟨#[]⟩,some ⟨b5,0,none⟩,2,2,by omega,rfl,by go_num,rfl,Nat.le_of_lt HR5.out.1,HR5.out.2.1,aW (.inr ⟨rfl,HR5.out.1,HR5.out.2.2⟩),HI4⟩
    ·have HEX:=aW (show (m2=true->p'<p2)/\r=(if b2=true then .bad p2 else if (m2 && !t4)=true then eB T lvl x2 p2 else .ok x2 p2) by
      rcases HST.out with ⟨h0,h1,h2,h3,h4⟩ | ⟨h0,h1,h2⟩
      ·subst h0 h1 h2 h3;have hil:i=ks.length:=by
        have:¬ i<ks.length:=λ h=>hgo ⟨h,rfl⟩
        omega
       refine ⟨(λ h=>by cases h),?_⟩;rw [HRP.out];cases b2
       ·have hno:kj T p2 ks=none:=nO λ j k hj hk=>by have:=h4 j k (by omega) hk;simpa using this
        show eB T lvl x2 p2=PR.ok x2 p2
        rw [HB.out x2 p2 hpn,HOP.out,hno]
       ·rfl
      ·subst h0;refine ⟨λ _=>h1,?_⟩;rw [h2];have h9:=HT4.out;cases t4
       ·have:¬ lvl=4:=λ e=>by have:=h9.2 e;cases this
        simp [this]
       ·have:lvl=4:=h9.1 rfl;simp [this])
     obtain ⟨gk2,hgk2⟩:∃ z,(if (m2 && !t4)=true then 1+(nT-p2) else 0)=z:=⟨_,rfl⟩
     have HGK2:=aW hgk2;have HLT:=aW (show gk2<1+(nT-p') by
      rw [← hgk2];cases m2
      ·simp;omega
      ·have:=HEX.out.1 rfl;have:=HP2.out;split<;>omega)
     have hor:(i<ks.length/\m2=true)∨(¬ i<ks.length/\m2=false)∨(¬ i<ks.length/\m2=true):=by
      by_cases h:i<ks.length
      ·left;refine ⟨h,?_⟩;cases m2
       ·exact absurd ⟨h,rfl⟩ hgo
       ·rfl
      ·cases m2
       ·exact .inr (.inl ⟨h,rfl⟩)
       ·exact .inr (.inr ⟨h,rfl⟩)
     clear hgk2 hgo HST HRP hpn;rcases hor with ⟨hlt,rfl⟩ | ⟨hlt,rfl⟩ | ⟨hlt,rfl⟩<;>cases t4
     all_goals
      go_wp2;go_roundg gk2
      case measure=>exact HGK.out _ HLT.out
      case rel=>exact ⟨p2,x2,b2,_,k9,k19,n19,s19,A19,na19,ca19,B19,nb19,cb19,s9,A29,n29,ca29,rfl,by have:=HP2.out;have:=HPN.out;omega,HP2.out.2,HGK2.out.symm,aW HEX.out.2,HI⟩
theorem o7 (A:Option Addr) (nT cap:Nat) (T:List ap) (hT:WT T):∀ N,pt A nT cap T N
 | 0=>λ lvl p b q W hV h1 h8 hp hq hN=>by omega
 |N+1=>λ lvl p b q W hV h1 h8 hp hq hN=>by
  cases b
  ·simp only [Bool.false_eq_true,if_false];by_cases e8:lvl=8
   ·subst e8;obtain rfl:q=8:=by omega
    exact tD A nT cap T N hT (o7 A nT cap T hT N) p W hV hp (by omega)
   by_cases e3:lvl=3∨lvl=7
   ·exact vv A nT cap T N hT (o7 A nT cap T hT N) lvl p q W hV e3 hp hq hN
   ·exact vu A nT cap T N hT (o7 A nT cap T hT N) lvl p q W hV e3 (by omega) h1 hp hq hN
  ·simp only [if_true];obtain ⟨d,o,rfl,_⟩:=hV.tok hp;exact vt d o nT cap p q W hp
theorem yI (A:Option Addr) (nT cap:Nat) (T:List ap) (hT:WT T) (p:Nat) (b:Bool) (W:World) (hV:bW W A nT T) (hp:p<nT) :
  Calls Tryz.prog 91 #[tkV A nT cap p b,Zi Zq 1] W (RdX (if b=true then .bad p else eE T 1 p) A nT cap W) :=
 o7 A nT cap T hT (12*nT+9) 1 p b 1 W hV (by omega) (by omega) hp rfl (by omega)
end
end Go.Proofs.YtgmnmnnoahdjnaaGreatDoor
