import Derived.Test.YtgolomgmnanbpaaGreatDoorV35
open Go.Value renaming int → Zi, slice → Zs, string → Zt, pointer → Zp
open Go.IntKind renaming i64 → Zq
set_option maxRecDepth 100000
set_option maxHeartbeats 16000000
set_option linter.unusedVariables false
set_option linter.unusedSimpArgs false
namespace Go.Proofs.YtgolomgmnanbpaaGreatDoor
section
open Go.RowKit
attribute [local go_sem] aa ac ae ab
def fw (x:EJ) (env:List (List UInt8 × JV)):Option JV:=if dF x/\(env.all λ b=>good b.2)=true then evE env x else none
def kK (o:Option JV) (w:World) (e:Ending) (w':World):Prop:=∃ (cs:List Value) (v:JV) (b:Bool),e=.returned (.tuple #[.agg cs.toArray,.bool b])/\VR w' TT cs v/\au v/\o=(if b=true then some v else none)/\(b=true->good v=true)/\(b=false->v=eP)/\Below w.heap.size w w'
theorem kK.none_ {o:Option JV} {w w':World} (ho:o=none) (hb:Below w.heap.size w w') :
  kK o w (.returned (.tuple #[.agg #[Zi Zq 0,Zi Zq 0,Zt ⟨#[]⟩,Zs none 0 0,Zs none 0 0],.bool false])) w' :=
 ⟨_,eP,false,rfl,VR.zero,aw (by unfold iw;omega) (by unfold iw;omega) (by simp),by rw [ho];rfl,(λ h=>by cases h),λ _=>rfl,hb⟩
def yn (w:World) (e:Ending) (w':World):Prop:=e=.returned (.agg #[Zi Zq 1,Zi Zq 0,Zt ⟨#[]⟩,Zs none 0 0,Zs none 0 0])/\Below w.heap.size w w'
theorem vC (w:World):Calls Tryz.prog 38 #[] w (yn w):=by
 go_enter Tryz.func38,Tryz.ntmps38;go_wp2;refine bodyPost_ret (v:=.agg #[Zi Zq 1,Zi Zq 0,Zt ⟨#[]⟩,Zs none 0 0,Zs none 0 0]) (by simp only [results,Tryz.results38];go_simp) rfl ?_;exact ⟨rfl,by go_grown⟩
def iP:EJ:=.mk 1 (.mk 1 0 [] [] []) [] []
theorem sp:dF iP:=by decide
theorem tc (x:EJ):jb [.mk 1 [] x iP [] []]=decide (dF x):=by
 unfold jb;rw [aZ,aZ,eX,Bool.and_true];have h:=sp;by_cases hx:dF x<;>simp [hx,h]
theorem qY (x:EJ) (cs:List Value) (env:List (List UInt8 × JV)) (ecs:List (List Value)) (EA:Option Addr) (n ec:Nat) (w:World) (hG:GOE w) (hx:ER w TT cs x) (hE:dL w TT ecs env) (hn:env.length=n) (hnc:n<=ec) (hR:RdF w TT EA ecs.flatten) (hl:n<=4194304) (hcx:bh x) (hsx:eq x) (hce:∀ b ∈ env,au b.2) :
  Calls Tryz.prog 13 #[.agg cs.toArray,Zs EA n ec] w (kK (fw x env) w):=by
 have HX:=aW (λ (W:World) (h:Below w.heap.size w W)=>hx.bel h);obtain ⟨k,k1,n1,s1,A1,na1,ca1,B1,nb1,cb1,s,A,nr,ca,rfl⟩:=hx.form;have HG:=aW hG;have HEN:=aW (And.intro hE hR);have HN:=aW hn;have HCE:=aW hce;have HCX:=aW (And.intro hcx hsx);have HH0:=aW (((aj.nil w).push 28 #[Zi Zq k,Zi Zq k1,Zi Zq n1,Zt s1,Zs A1 na1 ca1,Zs B1 nb1 cb1,Zt s,Zs A nr ca] (g:=w.heap.size) rfl).push 25 #[Zi Zq 0,Zi Zq 0,Zt ⟨#[]⟩,Zs none 0 0,Zs none 0 0] (g:=w.heap.size+1) (by simp));obtain ⟨op,hop⟩:∃ q,fw x env=q:=⟨_,rfl⟩
 have HOP:=aW hop;rw [hop];clear hG hx hE hn hR hcx hsx hce hop;go_enter Tryz.func13,Tryz.ntmps13;go_wp2_with fail;refine (vC _).mono ?_;rintro e w1 ⟨rfl,hb1⟩;have HH1:=aW ((HH0.out.keep hb1).push 28 #[Zi Zq 1,Zi Zq 1,Zi Zq 0,Zt ⟨#[]⟩,Zs none 0 0,Zs none 0 0,Zt ⟨#[]⟩,Zs none 0 0] (g:=w1.heap.size) rfl);have hsz1:w.heap.size+2<=w1.heap.size:=by have:=hb1.size;simpa using this
 clear hb1;obtain ⟨c0,f0,l0⟩:=HH1.out.b2.rules;obtain ⟨c1,f1,l1⟩:=HH1.out.b0.rules;obtain ⟨W2,hW2⟩:∃ W2,(w1.alloc (.cells #[Zi Zq 1,Zi Zq 1,Zi Zq 0,Zt ⟨#[]⟩,Zs none 0 0,Zs none 0 0,Zt ⟨#[]⟩,Zs none 0 0] 28)).alloc (.cells #[Zi Zq 1,Zt ⟨#[]⟩,Zi Zq k,Zi Zq k1,Zi Zq n1,Zt s1,Zs A1 na1 ca1,Zs B1 nb1 cb1,Zt s,Zs A nr ca,Zi Zq 1,Zi Zq 1,Zi Zq 0,Zt ⟨#[]⟩,Zs none 0 0,Zs none 0 0,Zt ⟨#[]⟩,Zs none 0 0,Zs none 0 0,Zs none 0 0] 69)=W2:=⟨_,rfl⟩
 have HH2:=aW (show aj [(w1.heap.size,28,#[Zi Zq 1,Zi Zq 1,Zi Zq 0,Zt ⟨#[]⟩,Zs none 0 0,Zs none 0 0,Zt ⟨#[]⟩,Zs none 0 0]),(w.heap.size+1,25,#[Zi Zq 0,Zi Zq 0,Zt ⟨#[]⟩,Zs none 0 0,Zs none 0 0]),(w.heap.size,28,#[Zi Zq k,Zi Zq k1,Zi Zq n1,Zt s1,Zs A1 na1 ca1,Zs B1 nb1 cb1,Zt s,Zs A nr ca])] w W2 by rw [← hW2];exact HH1.out.alloc _);have hbs:Blk W2 (w1.heap.size+1) 69 #[Zi Zq 1,Zt ⟨#[]⟩,Zi Zq k,Zi Zq k1,Zi Zq n1,Zt s1,Zs A1 na1 ca1,Zs B1 nb1 cb1,Zt s,Zs A nr ca,Zi Zq 1,Zi Zq 1,Zi Zq 0,Zt ⟨#[]⟩,Zs none 0 0,Zs none 0 0,Zt ⟨#[]⟩,Zs none 0 0,Zs none 0 0,Zs none 0 0]:=by
  rw [← hW2];have:=Blk.new (w1.alloc (.cells #[Zi Zq 1,Zi Zq 1,Zi Zq 0,Zt ⟨#[]⟩,Zs none 0 0,Zs none 0 0,Zt ⟨#[]⟩,Zs none 0 0] 28)) 69 #[Zi Zq 1,Zt ⟨#[]⟩,Zi Zq k,Zi Zq k1,Zi Zq n1,Zt s1,Zs A1 na1 ca1,Zs B1 nb1 cb1,Zt s,Zs A nr ca,Zi Zq 1,Zi Zq 1,Zi Zq 0,Zt ⟨#[]⟩,Zs none 0 0,Zs none 0 0,Zt ⟨#[]⟩,Zs none 0 0,Zs none 0 0,Zs none 0 0];rw [World.size_alloc] at this;exact this
 have hsr:SRs W2 TT [[Zi Zq 1,Zt ⟨#[]⟩,Zi Zq k,Zi Zq k1,Zi Zq n1,Zt s1,Zs A1 na1 ca1,Zs B1 nb1 cb1,Zt s,Zs A nr ca,Zi Zq 1,Zi Zq 1,Zi Zq 0,Zt ⟨#[]⟩,Zs none 0 0,Zs none 0 0,Zt ⟨#[]⟩,Zs none 0 0,Zs none 0 0,Zs none 0 0]] [.mk 1 [] x iP [] []]:=by
  have h1:SR W2 TT [Zi Zq 1,Zt ⟨#[]⟩,Zi Zq k,Zi Zq k1,Zi Zq n1,Zt s1,Zs A1 na1 ca1,Zs B1 nb1 cb1,Zt s,Zs A nr ca,Zi Zq 1,Zi Zq 1,Zi Zq 0,Zt ⟨#[]⟩,Zs none 0 0,Zs none 0 0,Zt ⟨#[]⟩,Zs none 0 0,Zs none 0 0,Zs none 0 0] (.mk 1 [] x iP [] []):=SR.into (HX.out W2 HH2.out.1) (ER.leaf 1 [] (VR.atom 1 0 [])) (body:=[]) (els:=[]) (css:=[]) (dss:=[]) RR.nil rfl (Nat.le_refl _) (λ _=>rfl) RdF.nil RR.nil rfl (Nat.le_refl _) (λ _=>rfl) RdF.nil;exact RR.nil.snoc h1
 have hrd:RdF W2 TT (some ⟨w1.heap.size+1,0,none⟩) ([[Zi Zq 1,Zt ⟨#[]⟩,Zi Zq k,Zi Zq k1,Zi Zq n1,Zt s1,Zs A1 na1 ca1,Zs B1 nb1 cb1,Zt s,Zs A nr ca,Zi Zq 1,Zi Zq 1,Zi Zq 0,Zt ⟨#[]⟩,Zs none 0 0,Zs none 0 0,Zt ⟨#[]⟩,Zs none 0 0,Zs none 0 0,Zs none 0 0]]:List (List Value)).flatten:=by
  intro _;refine ⟨_,_,rfl,hbs.lt,trivial,λ j hj=>?_⟩;rw [Nat.zero_add,hbs.cell];simp at hj;simp [hj]
 have hcam:bK [.mk 1 [] x iP [] []]:=by
  have hn:bh iP:=by
   unfold iP bh;exact ⟨by unfold iw;omega,aw (by unfold iw;omega) (by unfold iw;omega) (by simp),by simp,by simp,trivial⟩
  unfold bK gI;exact ⟨⟨by unfold iw;omega,by simp,HCX.out.1,hn,by simp,by simp,trivial,trivial⟩,trivial⟩
 have hck:=rB [.mk 1 [] x iP [] []] _ _ 1 1 TT W2 (HG.out.keep HH2.out.1) hsr rfl (Nat.le_refl _) hrd hcam (by omega);unfold uX qP at hck;rw [tc] at hck;have HW2:=aW hW2;clear hW2 hbs hsr hrd hcam;by_cases hf:dF x;rotate_left
 ·rw [decide_eq_false hf,if_neg (by decide)] at hck;have HCK:=aW hck;have HE:=aW (show op=none by rw [← HOP.out];unfold fw;rw [if_neg (λ h=>hf h.1)]);clear hck hf;go_wp2_with fail;rw [HW2.out];refine HCK.out.mono ?_;rintro e w3 ⟨rfl,hb3⟩;have HH3:=aW (HH2.out.keep hb3);clear hb3 c0 f0 l0 c1 f1 l1;go_wp2_with fail;refine (bM _).mono ?_;rintro e wn ⟨rfl,hbn⟩;have HHN:=aW (HH3.out.keep hbn);clear hbn;obtain ⟨c9,f9,l9⟩:=HHN.out.b1.rules;go_wp2;refine bodyPost_ret (v:=.tuple #[.agg #[Zi Zq 0,Zi Zq 0,Zt ⟨#[]⟩,Zs none 0 0,Zs none 0 0],.bool false]) (by simp only [results,Tryz.results13];go_simp) rfl ?_;exact kK.none_ HE.out (ah HHN.out.1 (by omega) _ _ _ _ _)
 rw [decide_eq_true hf,if_pos rfl] at hck;have HCK:=aW hck;have HFX:=aW hf;clear hck hf;go_wp2_with fail;rw [HW2.out];refine HCK.out.mono ?_;rintro e w3 ⟨rfl,hb3⟩;have HH3:=aW (HH2.out.keep hb3);clear hb3 c0 f0 l0 c1 f1 l1 HH1 HH2 HW2 HCK;go_wp2;go_loopg [25] n (λ gk s25 wr => ∃ i:Nat,i<=n/\gk=n-i/\s25=Zi Zq (i:Int)/\Hid (aj [(w1.heap.size,28,#[Zi Zq 1,Zi Zq 1,Zi Zq 0,Zt ⟨#[]⟩,Zs none 0 0,Zs none 0 0,Zt ⟨#[]⟩,Zs none 0 0]),(w.heap.size+1,25,#[Zi Zq 0,Zi Zq 0,Zt ⟨#[]⟩,Zs none 0 0,Zs none 0 0]),(w.heap.size,28,#[Zi Zq k,Zi Zq k1,Zi Zq n1,Zt s1,Zs A1 na1 ca1,Zs B1 nb1 cb1,Zt s,Zs A nr ca])] w wr)/\Hid ((env.take i).all (λ b=>good b.2)=true))
 case atStart=>exact ⟨0,Nat.zero_le _,by go_num,rfl,HH3,aW (by rw [List.take_zero];rfl)⟩
 case round =>
  obtain ⟨i,hi,hgk,rfl,HH,HA⟩:=hrel;have HGK:=aW hgk;clear hgk HH3;by_cases hlt:i<n
  ·obtain ⟨⟨bn,bv⟩,hx⟩:∃ x,env[i]? = some x:=⟨_,List.getElem?_eq_getElem (by rw [HN.out];exact hlt)⟩
   have hxm:=List.mem_of_getElem? hx;obtain ⟨b,o,kx,nx,sx5,Ax,nax,cax,Bx,nbx,cbx,rfl,hb,_,hvx,hz⟩:=gl HEN.out.1 HEN.out.2 hx;obtain ⟨z0,z1,z2,z3,z4,z5⟩:=hz wr (af.of_below HH.out.1);have hlb:b<wr.heap.size:=Nat.lt_of_lt_of_le hb HH.out.1.size;have HP:=aW (HH.out.push 37 #[Zt ⟨bn.toArray⟩,Zi Zq kx,Zi Zq nx,Zt sx5,Zs Ax nax cax,Zs Bx nbx cbx] (g:=wr.heap.size) rfl);have HCV:=aW (λ (q:Int) (hq:dV bv=q)=>ey hq (HG.out.keep HP.out.1).gok (hvx.bel HP.out.1) (HCE.out _ hxm));have HTK:=aW (show (env.take (i+1)).all (λ b=>good b.2)=((env.take i).all (λ b=>good b.2) && good bv) by rw [List.take_add_one,hx];simp);have HNO:=aW (show good bv=false->op=none from λ hg=>by
    rw [← HOP.out];unfold fw;rw [if_neg (λ h=>by
     have h1:=List.all_eq_true.1 h.2 _ hxm;simp only at h1;rw [hg] at h1;cases h1)])
   clear hz hx hxm hb hvx;cases hg:good bv with
   |false =>
    have HCF:=aW (HCV.out 140 (by unfold dV;rw [if_neg (by rw [hg];decide)]));have HE:=aW (HNO.out hg);clear hg HCV HNO HTK;go_wp2_with fail;refine HCF.out.mono ?_;rintro e w4 ⟨rfl,hb4⟩;have HH4:=aW (HP.out.keep hb4);clear hb4 z0 z1 z2 z3 z4 z5;go_wp2_with fail;refine (bM _).mono ?_;rintro e wn ⟨rfl,hbn⟩;have HHN:=aW (HH4.out.keep hbn);clear hbn;obtain ⟨c9,f9,l9⟩:=HHN.out.b2.rules;go_wp2;refine bodyPost_ret (v:=.tuple #[.agg #[Zi Zq 0,Zi Zq 0,Zt ⟨#[]⟩,Zs none 0 0,Zs none 0 0],.bool false]) (by simp only [results,Tryz.results13];go_simp) rfl ?_;exact kK.none_ HE.out (ah HHN.out.1 (by omega) _ _ _ _ _)
   |true =>
    have HCF:=aW (HCV.out 0 (by unfold dV;rw [if_pos hg]));have HT2:=aW (show (env.take (i+1)).all (λ b=>good b.2)=true by rw [HTK.out,HA.out,hg];rfl);clear hg HCV HNO HTK;go_wp2_with fail;refine HCF.out.mono ?_;rintro e w4 ⟨rfl,hb4⟩;have HH4:=aW (HP.out.keep hb4);clear hb4 z0 z1 z2 z3 z4 z5;go_wp2;go_roundg (n-(i+1))
    case measure=>rw [HGK.out];omega
    case rel=>exact ⟨i+1,by omega,rfl,by go_num,aW HH4.out.pop,HT2⟩
  ·obtain rfl:i=n:=by omega
   have hall:env.all (λ b=>good b.2)=true:=by have h:=HA.out;rw [List.take_of_length_le (Nat.le_of_eq HN.out)] at h;exact h
   have HE:=aW (show op=evE env x by rw [← HOP.out];unfold fw;rw [if_pos ⟨HFX.out,hall⟩]);obtain ⟨WM,hWM⟩:∃ WM,wr.alloc (.cells #[Zi Zq 0,Zs EA i ec,Zs none 0 0] 88)=WM:=⟨_,rfl⟩
   have hbm:Below wr.heap.size wr WM:=by rw [← hWM];exact (Below.refl _ _).alloc (Nat.le_refl _) _
   have hBM:Blk WM wr.heap.size 88 #[Zi Zq 0,Zs EA i ec,Zs none 0 0]:=by rw [← hWM];exact Blk.new _ _ _
   have hwM:Below w.heap.size w WM:=HH.out.1.trans (hbm.mono HH.out.1.size);have hold:∀ c y,BnR w TT c y->BnR WM (λ b=>b<w.heap.size) c y:=λ c y h=>(h.mono (F':=λ b=>b<w.heap.size) λ b hb _=>hb).keep (af.of_below hwM)
   have hmok:iO wr.heap.size (λ b=>b<w.heap.size) env WM :=
    ⟨HG.out.keep hwM,λ b hb=>Nat.lt_of_lt_of_le hb hwM.size,⟨_,_,EA,ec,ecs,by rw [HN.out];exact hBM,RR.imp HEN.out.1 hold,by rw [HN.out];exact hnc,(HEN.out.2.mono (F':=λ b=>b<w.heap.size) λ b hb _=>hb).keep (af.of_below hwM)⟩,by rw [HN.out];exact hl,λ b hb=>⟨List.all_eq_true.1 hall b hb,HCE.out b hb⟩⟩
   have hxM:ER WM (λ b=>b<w.heap.size) [Zi Zq k,Zi Zq k1,Zi Zq n1,Zt s1,Zs A1 na1 ca1,Zs B1 nb1 cb1,Zt s,Zs A nr ca] x:=((HX.out w (Below.refl _ _)).mono (F':=λ b=>b<w.heap.size) λ b hb _=>hb).keep (af.of_below hwM);have HEX:=aW (lG 12 wr.heap.size _ env WM x _ hmok HFX.out HCX.out.1 HCX.out.2 hxM);have HHM:=aW (HH.out.keep hbm);have HWM:=aW hWM;clear hall hbm hBM hwM hold hmok hxM hWM;obtain ⟨c0,f0,l0⟩:=HH.out.b2.rules;go_wp2_with fail;rw [HWM.out];refine HEX.out.mono ?_;rintro e w5 ⟨cs5,v5,b5,rfl,hv5,hc5,ho5,hg5,hb5⟩;have HV5:=aW (hv5.mono (F':=λ b=>b≠w.heap.size+1) λ b _ hb=>by
    have h1:=HHM.out.b1.lt;rcases hb with hb | hb
    ·exact (by omega:b≠w.heap.size+1)
    ·exact (by omega:b≠w.heap.size+1))
   obtain ⟨k5,n5,s5,A5,na5,ca5,B5,nb5,cb5,rfl⟩:=hv5.form;have HH5:=aW ((HHM.out.keep hb5).push 25 #[Zi Zq k5,Zi Zq n5,Zt s5,Zs A5 na5 ca5,Zs B5 nb5 cb5] (g:=w5.heap.size) rfl);have HQ5:=aW (And.intro hc5 (And.intro ho5 hg5));have hne:w5.heap.size≠w.heap.size+1:=by have:=HHM.out.b1.lt;have:=hb5.size;omega
   have hne2:w.heap.size+1≠w5.heap.size:=hne.symm;clear hv5 hc5 ho5 hg5 hb5 c0 f0 l0;cases b5
   ·have HE2:=aW (show op=none by rw [HE.out,HQ5.out.2.1];rfl);go_wp2_with fail;refine (bM _).mono ?_;rintro e wn ⟨rfl,hbn⟩;have HHN:=aW (HH5.out.keep hbn);clear hbn;obtain ⟨c9,f9,l9⟩:=HHN.out.b2.rules;go_wp2;refine bodyPost_ret (v:=.tuple #[.agg #[Zi Zq 0,Zi Zq 0,Zt ⟨#[]⟩,Zs none 0 0,Zs none 0 0],.bool false]) (by simp only [results,Tryz.results13];go_simp) rfl ?_;exact kK.none_ HE2.out (ah HHN.out.1 (by omega) _ _ _ _ _)
   ·have HG5:=aW (HQ5.out.2.2 rfl);obtain ⟨c0,f0,l0⟩:=HH5.out.b0.rules;obtain ⟨c9,f9,l9⟩:=HH5.out.b2.rules;go_wp2;refine bodyPost_ret (v:=.tuple #[.agg #[Zi Zq k5,Zi Zq n5,Zt s5,Zs A5 na5 ca5,Zs B5 nb5 cb5],.bool true]) (by simp only [results,Tryz.results13];go_simp) rfl ?_;have hfin:∀ b,(b≠w.heap.size+1)->b≠w.heap.size+1:=λ b hb=>hb
    exact ⟨_,v5,true,rfl,(((HV5.out.keep (af.of_below ((Below.refl _ w5).alloc (Nat.le_refl _) (.cells #[Zi Zq k5,Zi Zq n5,Zt s5,Zs A5 na5 ca5,Zs B5 nb5 cb5] 25)))).keep (((((af.refl.set hfin 0 _).set hfin 1 _).set hfin 2 _).set hfin 3 _).set hfin 4 _))).mono (λ _ _ _=>trivial),HQ5.out.1,by rw [HE.out,HQ5.out.2.1];simp,λ _=>HG5.out,(λ h=>by cases h),ah HH5.out.1 (by omega) _ _ _ _ _⟩
end
section
def fi (s:List UInt8):EJ:=.mk 2 eP s []
def qG (n:Int):EJ:=.mk 1 (cC n) [] []
def xOf (k:Int) (l:List EJ):EJ:=.mk k eP [] l
def rm:EJ:=.mk 1 (.mk 2 0 [] [] []) [] []
def wx1:EJ:=xOf 9 [fi [110],qG 1]
def wx2:EJ:=xOf 9 [qG 9223372036854775807,qG 1]
def wx3:EJ:=xOf 14 [rm,qG 1]
def wpr:List SJ:=[.mk 3 [120] (fi qu) ff [.mk 1 [] (fi [120]) (fi idT) [] []] []]
theorem wk1:fw wx1 [([110],cC 3)]=some (cC 4):=by
 unfold fw;rw [if_pos ⟨by decide,by decide⟩];rfl
theorem wk2:fw wx2 []=none:=by
 unfold fw;rw [if_pos ⟨by decide,by decide⟩];rfl
theorem wk3:fw wx3 []=some (aG false):=by
 unfold fw;rw [if_pos ⟨by decide,by decide⟩];rfl
theorem wk4:eQ wpr [97] (dM [cC 7])=([(cC 7,bQ [97])],0):=by
 unfold eQ;rw [if_neg (by decide),if_neg (by decide),if_neg (by decide)];rfl
theorem wk5:eQ wpr [65] (.mk 1 0 [] [] [])=([],290):=by
 unfold eQ;rw [if_neg (by decide),if_pos (by decide)]
end
section
open Go.RowKit
attribute [local go_sem] aa ac ae ab
theorem rv (k:Int) (A:Option Addr) (n c:Nat) (w:World):Calls Tryz.prog 28 #[Zi Zq k,Zs A n c] w (ue #[Zi Zq k,Zi Zq 0,Zi Zq 0,Zt ⟨#[]⟩,Zs none 0 0,Zs none 0 0,Zt ⟨#[]⟩,Zs A n c] w):=by
 go_enter Tryz.func28,Tryz.ntmps28;go_wp2;refine bodyPost_ret (v:=.agg #[Zi Zq k,Zi Zq 0,Zi Zq 0,Zt ⟨#[]⟩,Zs none 0 0,Zs none 0 0,Zt ⟨#[]⟩,Zs A n c]) (by simp only [results,Tryz.results28];go_simp) rfl ?_;exact ⟨rfl,by go_grown⟩
theorem gR {w:World} {g:Nat} {t:TypeId} {l:List Value} (h:Blk w g t l.toArray):RdF w TT (some ⟨g,0,none⟩) l:=λ hne =>
 ⟨g,0,rfl,h.lt,trivial,λ i hi=>by rw [Nat.zero_add,h.cell];simp [hi]⟩
theorem pd {w:World} {c1 c2:List Value} {x1 x2:EJ} {g:Nat} (k:Int) (h1:ER w TT c1 x1) (h2:ER w TT c2 x2) (hb:Blk w g 28 (c1++c2).toArray):ER w TT [Zi Zq k,Zi Zq 0,Zi Zq 0,Zt ⟨#[]⟩,Zs none 0 0,Zs none 0 0,Zt ⟨#[]⟩,Zs (some ⟨g,0,none⟩) 2 2] (xOf k [x1,x2]) :=
 ER.into (kids:=[x1,x2]) (css:=[c1,c2]) (s:=[]) VR.zero ((RR.nil.snoc h1).snoc h2) rfl (Nat.le_refl _) (λ e=>by cases e) (by simpa using gR hb)
theorem jo {w:World} (s:List UInt8):ER w TT [Zi Zq 2,Zi Zq 0,Zi Zq 0,Zt ⟨#[]⟩,Zs none 0 0,Zs none 0 0,Zt ⟨s.toArray⟩,Zs none 0 0] (fi s):=ER.leaf 2 s VR.zero
theorem lQ {w:World} (n:Int):ER w TT [Zi Zq 1,Zi Zq 3,Zi Zq n,Zt ⟨#[]⟩,Zs none 0 0,Zs none 0 0,Zt ⟨#[]⟩,Zs none 0 0] (qG n):=ER.leaf 1 [] (VR.atom 3 n [])
theorem re {w:World}:ER w TT [Zi Zq 1,Zi Zq 2,Zi Zq 0,Zt ⟨#[]⟩,Zs none 0 0,Zs none 0 0,Zt ⟨#[]⟩,Zs none 0 0] rm:=ER.leaf 1 [] (VR.atom 2 0 [])
theorem gQ {k:Int} {v:JV} {s:List UInt8} (hk:iw k) (hv:au v) (hs:s.length<=4194304):bh (.mk k v s []):=by unfold bh;exact ⟨hk,hv,hs,by simp,trivial⟩
theorem o4:au eP:=aw (by unfold iw;omega) (by unfold iw;omega) (by simp)
theorem gH {s:List UInt8} (hs:s.length<=4194304):bh (fi s):=gQ (by unfold iw;omega) o4 hs
theorem jk {n:Int} (h:iw n):bh (qG n):=gQ (by unfold iw;omega) (dl h) (by simp)
theorem oR {k:Int} {l:List EJ} (hk:iw k) (hl:l.length<=4194304) (h:∀ x ∈ l,bh x):bh (xOf k l):=by unfold xOf bh;exact ⟨hk,o4,by simp,hl,cz.2 h⟩
theorem cO {k:Int} {v:JV} {s:List UInt8}:eq (.mk k v s []):=by unfold eq;exact ⟨by simp,trivial⟩
theorem oD {k:Int} {l:List EJ} (hl:l.length<=16000) (h:∀ x ∈ l,eq x):eq (xOf k l):=by unfold xOf eq;exact ⟨hl,eL.2 h⟩
theorem mD {a b:EJ} (ha:bh a) (hb:bh b):∀ x ∈ [a,b],bh x:=λ x hx=>by
 rcases List.mem_cons.1 hx with rfl | hx
 ·exact ha
 ·obtain rfl:=List.mem_singleton.1 hx;exact hb
theorem mK {a b:EJ} (ha:eq a) (hb:eq b):∀ x ∈ [a,b],eq x:=λ x hx=>by
 rcases List.mem_cons.1 hx with rfl | hx
 ·exact ha
 ·obtain rfl:=List.mem_singleton.1 hx;exact hb
theorem kK.some_ {v:JV} {w w':World} {e:Ending} (h:kK (some v) w e w'):∃ cs:List Value,e=.returned (.tuple #[.agg cs.toArray,.bool true])/\VR w' TT cs v/\au v/\Below w.heap.size w w':=by
 obtain ⟨cs,u,b,rfl,h1,h2,h3,_,_,h4⟩:=h;cases b with
 | false=>cases h3
 |true =>
  rw [if_pos rfl] at h3;obtain rfl:=Option.some.inj h3;exact ⟨cs,rfl,h1,h2,h4⟩
theorem kK.none__ {w w':World} {e:Ending} (h:kK none w e w'):∃ cs:List Value,e=.returned (.tuple #[.agg cs.toArray,.bool false])/\VR w' TT cs eP/\Below w.heap.size w w':=by
 obtain ⟨cs,u,b,rfl,h1,h2,h3,_,h5,h4⟩:=h;cases b with
 | true=>cases h3
 | false=>rw [h5 rfl] at h1;exact ⟨cs,rfl,h1,h4⟩
theorem VR.atom_cells {W:World} {F:Nat->Prop} {cs:List Value} {k n:Int} {s:List UInt8} (h:VR W F cs (.mk k n s [] [])):∃ (A B:Option Addr) (ca cb:Nat),cs=[Zi Zq k,Zi Zq n,Zt ⟨s.toArray⟩,Zs A 0 ca,Zs B 0 cb]:=by
 obtain ⟨A,B,ca,cb,css,rfl,_⟩:=h.out;exact ⟨A,B,ca,cb,rfl⟩
theorem uB (w:World) (hG:GOE w):Calls Tryz.prog 10 #[] w λ e w'=>e=.returned (.bool true)/\Below w.heap.size w w':=by
 have HG:=aW hG;clear hG;go_enter Tryz.func10,Tryz.ntmps10;have HH0:=aW (aj.nil w);go_wp2_with fail;refine (mt ⟨#[110]⟩ _).mono ?_;rintro e w1 ⟨rfl,hb⟩;have HH1:=aW (HH0.out.keep hb);clear hb;go_wp2_with fail;refine (p6 1 _).mono ?_;rintro e w2 ⟨rfl,hb⟩;have HH2:=aW (HH1.out.keep hb);clear hb;have HP3:=aW (HH2.out.push 28 #[Zi Zq 2,Zi Zq 0,Zi Zq 0,Zt ⟨#[]⟩,Zs none 0 0,Zs none 0 0,Zt ⟨#[110]⟩,Zs none 0 0,Zi Zq 1,Zi Zq 3,Zi Zq 1,Zt ⟨#[]⟩,Zs none 0 0,Zs none 0 0,Zt ⟨#[]⟩,Zs none 0 0] (g:=w2.heap.size) rfl);go_wp2_with fail;refine (rv 9 _ 2 2 _).mono ?_;rintro e w3 ⟨rfl,hb⟩;have HH3:=aW (HP3.out.keep hb);clear hb;have HQ3:=aW (HH3.out.push 37 #[Zt ⟨#[110]⟩,Zi Zq 3,Zi Zq 3,Zt ⟨#[]⟩,Zs none 0 0,Zs none 0 0] (g:=w3.heap.size) rfl);have HEV:=aW (qY wx1 [Zi Zq 9,Zi Zq 0,Zi Zq 0,Zt ⟨#[]⟩,Zs none 0 0,Zs none 0 0,Zt ⟨#[]⟩,Zs (some ⟨w2.heap.size,0,none⟩) 2 2] [([110],cC 3)] [[Zt ⟨#[110]⟩,Zi Zq 3,Zi Zq 3,Zt ⟨#[]⟩,Zs none 0 0,Zs none 0 0]] (some ⟨w3.heap.size,0,none⟩) 1 1 _ (HG.out.keep HQ3.out.1) (pd 9 (jo [110]) (lQ 1) HQ3.out.b1) (RR.nil.snoc ⟨_,rfl,VR.atom 3 3 []⟩) rfl (Nat.le_refl _) (by simpa using gR HQ3.out.b0) (by omega)
  (oR (by unfold iw;omega) (by simp) (mD (gH (by simp)) (jk (by unfold iw;omega)))) (oD (by simp) (mK cO cO)) (λ b hb=>by obtain rfl:=List.mem_singleton.1 hb;exact dl (by unfold iw;omega)))
 rw [wk1] at HEV;go_wp2_with fail;refine HEV.out.mono ?_;intro e w4 h;obtain ⟨cs4,rfl,hv,_,hb⟩:=h.some_;obtain ⟨A4,B4,ca4,cb4,rfl⟩:=(show VR w4 TT cs4 (.mk 3 4 [] [] []) from hv).atom_cells;have HH4:=aW ((HQ3.out.keep hb).pop.pop.push 25 #[Zi Zq 3,Zi Zq 4,Zt ⟨#[]⟩,Zs A4 0 ca4,Zs B4 0 cb4] (g:=w4.heap.size) rfl);clear h hv hb HEV;obtain ⟨W4,hW4⟩:∃ W,w4.alloc (.cells #[Zi Zq 3,Zi Zq 4,Zt ⟨#[]⟩,Zs A4 0 ca4,Zs B4 0 cb4] 25)=W:=⟨_,rfl⟩
 rw [hW4] at HH4;have HW4:=aW hW4;clear hW4;go_upto_region 2 with fail;rw [HW4.out];go_wp2_with fail;refine (p6 9223372036854775807 _).mono ?_;rintro e w5 ⟨rfl,hb⟩;have HH5:=aW (HH4.out.keep hb);clear hb;go_wp2_with fail;refine (p6 1 _).mono ?_;rintro e w6 ⟨rfl,hb⟩;have HH6:=aW (HH5.out.keep hb);clear hb;have HP7:=aW (HH6.out.push 28 #[Zi Zq 1,Zi Zq 3,Zi Zq 9223372036854775807,Zt ⟨#[]⟩,Zs none 0 0,Zs none 0 0,Zt ⟨#[]⟩,Zs none 0 0,Zi Zq 1,Zi Zq 3,Zi Zq 1,Zt ⟨#[]⟩,Zs none 0 0,Zs none 0 0,Zt ⟨#[]⟩,Zs none 0 0] (g:=w6.heap.size) rfl);go_wp2_with fail;refine (rv 9 _ 2 2 _).mono ?_;rintro e w7 ⟨rfl,hb⟩;have HH7:=aW (HP7.out.keep hb);clear hb;have HEV:=aW (qY wx2 [Zi Zq 9,Zi Zq 0,Zi Zq 0,Zt ⟨#[]⟩,Zs none 0 0,Zs none 0 0,Zt ⟨#[]⟩,Zs (some ⟨w6.heap.size,0,none⟩) 2 2] [] [] none 0 0 _ (HG.out.keep HH7.out.1) (pd 9 (lQ 9223372036854775807) (lQ 1) HH7.out.b0) RR.nil rfl (Nat.le_refl _) RdF.nil (by omega)
  (oR (by unfold iw;omega) (by simp) (mD (jk (by unfold iw;omega)) (jk (by unfold iw;omega)))) (oD (by simp) (mK cO cO)) (λ b hb=>by cases hb))
 rw [wk2] at HEV;go_wp2_with fail;refine HEV.out.mono ?_;intro e w8 h;obtain ⟨cs8,rfl,hv,hb⟩:=h.none__;obtain ⟨A8,B8,ca8,cb8,rfl⟩:=(show VR w8 TT cs8 (.mk 0 0 [] [] []) from hv).atom_cells;have HH8:=aW ((HH7.out.keep hb).pop.push 25 #[Zi Zq 0,Zi Zq 0,Zt ⟨#[]⟩,Zs A8 0 ca8,Zs B8 0 cb8] (g:=w8.heap.size) rfl);clear h hv hb HEV;obtain ⟨W8,hW8⟩:∃ W,w8.alloc (.cells #[Zi Zq 0,Zi Zq 0,Zt ⟨#[]⟩,Zs A8 0 ca8,Zs B8 0 cb8] 25)=W:=⟨_,rfl⟩
 rw [hW8] at HH8;have HW8:=aW hW8;clear hW8;go_upto_region 3 with fail;rw [HW8.out];go_wp2_with fail;refine (p6 1 _).mono ?_;rintro e w9 ⟨rfl,hb⟩;have HH9:=aW (HH8.out.keep hb);clear hb;have HP10:=aW (HH9.out.push 28 #[Zi Zq 1,Zi Zq 2,Zi Zq 0,Zt ⟨#[]⟩,Zs none 0 0,Zs none 0 0,Zt ⟨#[]⟩,Zs none 0 0,Zi Zq 1,Zi Zq 3,Zi Zq 1,Zt ⟨#[]⟩,Zs none 0 0,Zs none 0 0,Zt ⟨#[]⟩,Zs none 0 0] (g:=w9.heap.size) rfl);go_wp2_with fail;refine (rv 14 _ 2 2 _).mono ?_;rintro e w10 ⟨rfl,hb⟩;have HH10:=aW (HP10.out.keep hb);clear hb;have HEV:=aW (qY wx3 [Zi Zq 14,Zi Zq 0,Zi Zq 0,Zt ⟨#[]⟩,Zs none 0 0,Zs none 0 0,Zt ⟨#[]⟩,Zs (some ⟨w9.heap.size,0,none⟩) 2 2] [] [] none 0 0 _ (HG.out.keep HH10.out.1) (pd 14 re (lQ 1) HH10.out.b0) RR.nil rfl (Nat.le_refl _) RdF.nil (by omega)
  (oR (by unfold iw;omega) (by simp) (mD (gQ (by unfold iw;omega) (lc false) (by simp)) (jk (by unfold iw;omega)))) (oD (by simp) (mK cO cO)) (λ b hb=>by cases hb))
 rw [wk3] at HEV;go_wp2_with fail;refine HEV.out.mono ?_;intro e w11 h;obtain ⟨cs11,rfl,hv,_,hb⟩:=h.some_;obtain ⟨A11,B11,ca11,cb11,rfl⟩:=(show VR w11 TT cs11 (.mk 2 0 [] [] []) from hv).atom_cells;have HH11:=aW ((HH10.out.keep hb).pop.push 25 #[Zi Zq 2,Zi Zq 0,Zt ⟨#[]⟩,Zs A11 0 ca11,Zs B11 0 cb11] (g:=w11.heap.size) rfl);clear h hv hb HEV;obtain ⟨W11,hW11⟩:∃ W,w11.alloc (.cells #[Zi Zq 2,Zi Zq 0,Zt ⟨#[]⟩,Zs A11 0 ca11,Zs B11 0 cb11] 25)=W:=⟨_,rfl⟩
 rw [hW11] at HH11;have HW11:=aW hW11;clear hW11;go_upto_region 4 with fail;rw [HW11.out];go_wp2_with fail;refine (mt ⟨#[100,111,99]⟩ _).mono ?_;rintro e w12 ⟨rfl,hb⟩;have HH12:=aW (HH11.out.keep hb);clear hb;go_wp2_with fail;refine (mt ⟨#[120]⟩ _).mono ?_;rintro e w13 ⟨rfl,hb⟩;have HH13:=aW (HH12.out.keep hb);clear hb;go_wp2_with fail;refine (mt ⟨#[105,100]⟩ _).mono ?_;rintro e w14 ⟨rfl,hb⟩;have HH14:=aW (HH13.out.keep hb);clear hb;obtain ⟨WP,hWP⟩:∃ W,((w14.alloc (.cells #[Zi Zq 1,Zt ⟨#[]⟩,Zi Zq 2,Zi Zq 0,Zi Zq 0,Zt ⟨#[]⟩,Zs none 0 0,Zs none 0 0,Zt ⟨#[120]⟩,Zs none 0 0,Zi Zq 2,Zi Zq 0,Zi Zq 0,Zt ⟨#[]⟩,Zs none 0 0,Zs none 0 0,Zt ⟨#[105,100]⟩,Zs none 0 0,Zs none 0 0,Zs none 0 0] 69)).alloc (.cells #[Zi Zq 3,Zt ⟨#[120]⟩,Zi Zq 2,Zi Zq 0,Zi Zq 0,Zt ⟨#[]⟩,Zs none 0 0,Zs none 0 0,Zt ⟨#[100,111,99]⟩,Zs none 0 0,Zi Zq 0,Zi Zq 0,Zi Zq 0,Zt ⟨#[]⟩,Zs none 0 0,Zs none 0 0,Zt ⟨#[]⟩,Zs none 0 0,Zs (some ⟨w14.heap.size,0,none⟩) 1 1,Zs none 0 0] 69)).alloc (.cells #[Zs (some ⟨w14.heap.size+1,0,none⟩) 1 1] 46)=W:=⟨_,rfl⟩
 have HHP:=aW (show aj (((w14.heap.size+1+1),46,#[Zs (some ⟨w14.heap.size+1,0,none⟩) 1 1])::((w14.heap.size+1),69,#[Zi Zq 3,Zt ⟨#[120]⟩,Zi Zq 2,Zi Zq 0,Zi Zq 0,Zt ⟨#[]⟩,Zs none 0 0,Zs none 0 0,Zt ⟨#[100,111,99]⟩,Zs none 0 0,Zi Zq 0,Zi Zq 0,Zi Zq 0,Zt ⟨#[]⟩,Zs none 0 0,Zs none 0 0,Zt ⟨#[]⟩,Zs none 0 0,Zs (some ⟨w14.heap.size,0,none⟩) 1 1,Zs none 0 0])::(w14.heap.size,69,#[Zi Zq 1,Zt ⟨#[]⟩,Zi Zq 2,Zi Zq 0,Zi Zq 0,Zt ⟨#[]⟩,Zs none 0 0,Zs none 0 0,Zt ⟨#[120]⟩,Zs none 0 0,Zi Zq 2,Zi Zq 0,Zi Zq 0,Zt ⟨#[]⟩,Zs none 0 0,Zs none 0 0,Zt ⟨#[105,100]⟩,Zs none 0 0,Zs none 0 0,Zs none 0 0])::_) w WP by
  rw [← hWP];exact ((HH14.out.push 69 #[Zi Zq 1,Zt ⟨#[]⟩,Zi Zq 2,Zi Zq 0,Zi Zq 0,Zt ⟨#[]⟩,Zs none 0 0,Zs none 0 0,Zt ⟨#[120]⟩,Zs none 0 0,Zi Zq 2,Zi Zq 0,Zi Zq 0,Zt ⟨#[]⟩,Zs none 0 0,Zs none 0 0,Zt ⟨#[105,100]⟩,Zs none 0 0,Zs none 0 0,Zs none 0 0] (g:=w14.heap.size) rfl).push 69 #[Zi Zq 3,Zt ⟨#[120]⟩,Zi Zq 2,Zi Zq 0,Zi Zq 0,Zt ⟨#[]⟩,Zs none 0 0,Zs none 0 0,Zt ⟨#[100,111,99]⟩,Zs none 0 0,Zi Zq 0,Zi Zq 0,Zi Zq 0,Zt ⟨#[]⟩,Zs none 0 0,Zs none 0 0,Zt ⟨#[]⟩,Zs none 0 0,Zs (some ⟨w14.heap.size,0,none⟩) 1 1,Zs none 0 0] (g:=w14.heap.size+1) (by simp)).push 46 #[Zs (some ⟨w14.heap.size+1,0,none⟩) 1 1] (g:=w14.heap.size+1+1) (by simp))
 have HWP:=aW hWP;clear hWP;have HSR:=aW (show ∀ W,Below WP.heap.size WP W->SRs W TT [[Zi Zq 3,Zt ⟨#[120]⟩,Zi Zq 2,Zi Zq 0,Zi Zq 0,Zt ⟨#[]⟩,Zs none 0 0,Zs none 0 0,Zt ⟨#[100,111,99]⟩,Zs none 0 0,Zi Zq 0,Zi Zq 0,Zi Zq 0,Zt ⟨#[]⟩,Zs none 0 0,Zs none 0 0,Zt ⟨#[]⟩,Zs none 0 0,Zs (some ⟨w14.heap.size,0,none⟩) 1 1,Zs none 0 0]] wpr/\RdF W TT (some ⟨w14.heap.size+1,0,none⟩) ([[Zi Zq 3,Zt ⟨#[120]⟩,Zi Zq 2,Zi Zq 0,Zi Zq 0,Zt ⟨#[]⟩,Zs none 0 0,Zs none 0 0,Zt ⟨#[100,111,99]⟩,Zs none 0 0,Zi Zq 0,Zi Zq 0,Zi Zq 0,Zt ⟨#[]⟩,Zs none 0 0,Zs none 0 0,Zt ⟨#[]⟩,Zs none 0 0,Zs (some ⟨w14.heap.size,0,none⟩) 1 1,Zs none 0 0]]:List (List Value)).flatten from λ W hW=>by
  have hh:=HHP.out.keep hW;have h1:SR W TT [Zi Zq 1,Zt ⟨#[]⟩,Zi Zq 2,Zi Zq 0,Zi Zq 0,Zt ⟨#[]⟩,Zs none 0 0,Zs none 0 0,Zt ⟨#[120]⟩,Zs none 0 0,Zi Zq 2,Zi Zq 0,Zi Zq 0,Zt ⟨#[]⟩,Zs none 0 0,Zs none 0 0,Zt ⟨#[105,100]⟩,Zs none 0 0,Zs none 0 0,Zs none 0 0] (.mk 1 [] (fi [120]) (fi idT) [] []):=SR.into (jo [120]) (jo idT) (body:=[]) (els:=[]) (css:=[]) (dss:=[]) RR.nil rfl (Nat.le_refl _) (λ _=>rfl) RdF.nil RR.nil rfl (Nat.le_refl _) (λ _=>rfl) RdF.nil;have h2:SR W TT [Zi Zq 3,Zt ⟨#[120]⟩,Zi Zq 2,Zi Zq 0,Zi Zq 0,Zt ⟨#[]⟩,Zs none 0 0,Zs none 0 0,Zt ⟨#[100,111,99]⟩,Zs none 0 0,Zi Zq 0,Zi Zq 0,Zi Zq 0,Zt ⟨#[]⟩,Zs none 0 0,Zs none 0 0,Zt ⟨#[]⟩,Zs none 0 0,Zs (some ⟨w14.heap.size,0,none⟩) 1 1,Zs none 0 0] (.mk 3 [120] (fi qu) ff [.mk 1 [] (fi [120]) (fi idT) [] []] []):=SR.into (jo qu) ER.zero (css:=[[Zi Zq 1,Zt ⟨#[]⟩,Zi Zq 2,Zi Zq 0,Zi Zq 0,Zt ⟨#[]⟩,Zs none 0 0,Zs none 0 0,Zt ⟨#[120]⟩,Zs none 0 0,Zi Zq 2,Zi Zq 0,Zi Zq 0,Zt ⟨#[]⟩,Zs none 0 0,Zs none 0 0,Zt ⟨#[105,100]⟩,Zs none 0 0,Zs none 0 0,Zs none 0 0]]) (dss:=[]) (RR.nil.snoc h1) rfl (Nat.le_refl _) (λ e=>by cases e) (by simpa using gR hh.b2) RR.nil rfl (Nat.le_refl _) (λ _=>rfl) RdF.nil;exact ⟨RR.nil.snoc h2,by simpa using gR hh.b1⟩)
 have hcs:bK wpr:=by
  have hz:bh ff:=gQ (by unfold iw;omega) o4 (by simp);unfold wpr bK gI bK gI;exact ⟨⟨by unfold iw;omega,by simp,gH (by decide),hz,by simp,by simp,⟨⟨by unfold iw;omega,by simp,gH (by decide),gH (by decide),by simp,by simp,trivial,trivial⟩,trivial⟩,trivial⟩,trivial⟩
 have hss:ee wpr:=by
  unfold wpr ee oV ee oV;exact ⟨⟨cO,cO,⟨⟨cO,cO,trivial,trivial⟩,trivial⟩,trivial⟩,trivial⟩
 have HCS:=aW (And.intro hcs hss);clear hcs hss;go_upto_region 5 with fail;rw [HWP.out];have HHV:=aW (HHP.out.push 25 #[Zi Zq 3,Zi Zq 7,Zt ⟨#[]⟩,Zs none 0 0,Zs none 0 0] (g:=WP.heap.size) rfl);have HMA:=aW (vy wpr [[Zi Zq 3,Zt ⟨#[120]⟩,Zi Zq 2,Zi Zq 0,Zi Zq 0,Zt ⟨#[]⟩,Zs none 0 0,Zs none 0 0,Zt ⟨#[100,111,99]⟩,Zs none 0 0,Zi Zq 0,Zi Zq 0,Zi Zq 0,Zt ⟨#[]⟩,Zs none 0 0,Zs none 0 0,Zt ⟨#[]⟩,Zs none 0 0,Zs (some ⟨w14.heap.size,0,none⟩) 1 1,Zs none 0 0]] (some ⟨w14.heap.size+1,0,none⟩) 1 1 [97] (dM [cC 7]) [Zi Zq 5,Zi Zq 0,Zt ⟨#[]⟩,Zs (some ⟨WP.heap.size,0,none⟩) 1 1,Zs none 0 0] _ (HG.out.keep HHV.out.1) (HSR.out _ ((Below.refl _ WP).alloc (Nat.le_refl _) (.cells #[Zi Zq 3,Zi Zq 7,Zt ⟨#[]⟩,Zs none 0 0,Zs none 0 0] 25))).1 rfl (Nat.le_refl _) (HSR.out _ ((Below.refl _ WP).alloc (Nat.le_refl _) (.cells #[Zi Zq 3,Zi Zq 7,Zt ⟨#[]⟩,Zs none 0 0,Zs none 0 0] 25))).2 HCS.out.1 HCS.out.2 (by omega) (by simp)
  (VR.into 5 0 [] (kids:=[cC 7]) (keys:=[]) (css:=[[Zi Zq 3,Zi Zq 7,Zt ⟨#[]⟩,Zs none 0 0,Zs none 0 0]]) (VRs.nil.snoc (VR.atom 3 7 [])) (Nat.le_refl _) (Nat.le_refl _) (λ e=>by cases e) (λ _=>rfl) (by simpa using gR HHV.out.b0) RdF.nil rfl rfl)
  (iv (xs:=[cC 7]) (λ x hx=>by obtain rfl:=List.mem_singleton.1 hx;exact ⟨dl (by unfold iw;omega),by decide⟩) (by simp)))
 rw [wk4] at HMA;obtain ⟨c0,f0,l0⟩:=HHP.out.b0.rules;go_wp2_with fail;refine HMA.out.mono ?_;rintro e wA ⟨MA,mn,mcap,ess,rfl,hmn,hmc,_,hem,hrd,_,hbA⟩;obtain rfl:1=mn:=hmn;have HHA:=aW (HHV.out.keep hbA);have hbPA:Below WP.heap.size WP wA:=((Below.refl _ WP).alloc (Nat.le_refl _) (.cells #[Zi Zq 3,Zi Zq 7,Zt ⟨#[]⟩,Zs none 0 0,Zs none 0 0] 25)).trans (hbA.mono (by simp));have HSA:=aW (HSR.out _ hbPA);obtain ⟨ce,hce,hev⟩:=hem.get_ (i:=0) (x:=(cC 7,bQ [97])) rfl;obtain ⟨kcs,vcs,rfl,hk9,hv9⟩:=hev;obtain ⟨A8,B8,ca8,cb8,rfl⟩:=(show VR wA TT kcs (.mk 3 7 [] [] []) from hk9).atom_cells;obtain ⟨A9,B9,ca9,cb9,rfl⟩:=(show VR wA TT vcs (.mk 4 0 [97] [] []) from hv9).atom_cells;obtain ⟨eb,eo,ec,rfl,heb,_,hce2,_,hcell⟩:=hem.cell (λ c x h=>h.len) (by decide) hrd (i:=0) (x:=(cC 7,bQ [97])) rfl;rw [hce] at hce2;obtain rfl:=Option.some.inj hce2;have e1:=hcell 1 (Zi Zq 7) (by decide) rfl;have e7:=hcell 7 (Zt ⟨#[97]⟩) (by decide) rfl;rw [Nat.zero_mul,Nat.zero_add] at e1 e7;have HEC:=aW (And.intro heb (And.intro e1 e7));clear hmc hem hrd hbA hbPA hce hk9 hv9 heb hce2 hcell e1 e7 c0 f0 l0;have HMB:=aW (vy wpr [[Zi Zq 3,Zt ⟨#[120]⟩,Zi Zq 2,Zi Zq 0,Zi Zq 0,Zt ⟨#[]⟩,Zs none 0 0,Zs none 0 0,Zt ⟨#[100,111,99]⟩,Zs none 0 0,Zi Zq 0,Zi Zq 0,Zi Zq 0,Zt ⟨#[]⟩,Zs none 0 0,Zs none 0 0,Zt ⟨#[]⟩,Zs none 0 0,Zs (some ⟨w14.heap.size,0,none⟩) 1 1,Zs none 0 0]] (some ⟨w14.heap.size+1,0,none⟩) 1 1 [65] (.mk 1 0 [] [] []) [Zi Zq 1,Zi Zq 0,Zt ⟨#[]⟩,Zs none 0 0,Zs none 0 0] wA (HG.out.keep HHA.out.1) HSA.out.1 rfl (Nat.le_refl _) HSA.out.2 HCS.out.1 HCS.out.2 (by omega) (by simp) (VR.atom 1 0 []) (aw (by unfold iw;omega) (by unfold iw;omega) (by simp)));rw [wk5] at HMB;obtain ⟨c0,f0,l0⟩:=HHA.out.b1.rules;go_wp2_with fail;refine HMB.out.mono ?_;rintro e wB ⟨MB2,mn2,mcap2,ess2,rfl,hmn2,_,_,_,_,_,hbB⟩;have HHB:=aW (HHA.out.keep hbB);have heb:eb<wB.heap.size:=Nat.lt_of_lt_of_le HEC.out.1 hbB.size;have e1:=(hbB.cell (p:=⟨eb,eo+1,none⟩) HEC.out.1).trans HEC.out.2.1;have e7:=(hbB.cell (p:=⟨eb,eo+7,none⟩) HEC.out.1).trans HEC.out.2.2;clear hbB c0 f0 l0;obtain ⟨c1,f1,l1⟩:=HHB.out.b6.rules;obtain ⟨c5,f5,l5⟩:=HHB.out.b4.rules;go_wp2;go_ret;exact ⟨rfl,HHB.out.1⟩
end
end Go.Proofs.YtgolomgmnanbpaaGreatDoor
