import Derived.Test.YtgmnmnnoahdjnaaGreatDoorL02
import Derived.Test.YtgmnmnnoahdjnaaGreatDoorB25
set_option maxRecDepth 100000
set_option maxHeartbeats 16000000
set_option linter.unusedVariables false
set_option linter.unusedSimpArgs false
namespace Go.Proofs.YtgmnmnnoahdjnaaGreatDoor
section
open Go.RowKit Go.Shelf
attribute [local go_sem] aa ac ae ab
theorem zp:∀ (N:Nat) (x y:EJ),ff x≤N→∀ (cs cs':List Value) (F F':Nat→Prop) (w:World),ER w F cs x→ER w F' cs' y→bB x→bB y→Calls Tryz.prog 49 #[.agg cs.toArray,.agg cs'.toArray] w (EqX (x=y) w)
 | 0,x,_,h,_,_,_,_,_,_,_,_,_=>by have:=uT x;omega
 |N+1,.mk k v s kids,.mk kq vq sq kidsq,hN,cs,cs',F,F',w,hx,hy,hC,hC'=>by
  have ih:=zp N;unfold ff at hN;unfold bB at hC hC';obtain ⟨_,hcv,hsl,hkl,hck⟩:=hC;obtain ⟨_,hcv',hsl',hkl',hck'⟩:=hC';have hck:=bf.1 hck;have hck':=bf.1 hck';obtain ⟨k1,n1,s1,A1,na1,ca1,B1,nb1,cb1,A,ca,css,rfl,hv,h1,h2,h3,h4⟩:=hx.out;obtain ⟨k2,n2,s2,A2,na2,ca2,B2,nb2,cb2,A',ca',css',rfl,hv',h1',h2',h3',h4'⟩:=hy.out;have HIH:=aW (fun (i:Nat) (x:EJ) (hx:kids[i]? = some x)=>fb h1 h4 hx);have HIH':=aW (fun (i:Nat) (x:EJ) (hx:kidsq[i]? = some x)=>fb h1' h4' hx);have HEQ:=aW (fun (x y:EJ) (c c':List Value) (W2:World) (hx:x ∈ kids) (hy:y ∈ kidsq) (hc:ER W2 F c x) (hc':ER W2 F' c' y)=>show Calls Tryz.prog 49 #[.agg c.toArray,.agg c'.toArray] W2 (EqX (x=y) W2) from
   ih x y (by have:=ns hx;omega) c c' F F' W2 hc hc' (hck x hx) (hck' y hy))
  have HSV:=aW (fun W (h:Below w.heap.size w W)=>zr _ v vq (Nat.le_refl _) _ _ F F' W (hv.bel h) (hv'.bel h) hcv hcv');obtain ⟨nk,hnk⟩:∃ nk,kids.length=nk:=⟨_,rfl⟩
  obtain ⟨nkq,hnkq⟩:∃ nkq,kidsq.length=nkq:=⟨_,rfl⟩
  rw [hnk] at hkl h2;rw [hnkq] at hkl' h2';rw [hnk,hnkq];have HNK:=aW (And.intro hnk hnkq);have HT0:=aW (gm.new w 45 #[.int .i64 k,.int .i64 k1,.int .i64 n1,.string s1,.slice A1 na1 ca1,.slice B1 nb1 cb1,.string ⟨s.toArray⟩,.slice A nk ca] #[.int .i64 kq,.int .i64 k2,.int .i64 n2,.string s2,.slice A2 na2 ca2,.slice B2 nb2 cb2,.string ⟨sq.toArray⟩,.slice A' nkq ca']);have y1:w.heap.size≠w.heap.size+1:=by omega
  have y2:w.heap.size+1≠w.heap.size:=by omega
  clear hx hy hv hv' hck hck' hcv hcv' h1 h1' h3 h3' h4 h4' hnk hnkq ih hN;obtain ⟨PP,hPP⟩:∃ PP:Prop,(EJ.mk k v s kids=EJ.mk kq vq sq kidsq)=PP:=⟨_,rfl⟩
  rw [hPP];have HPN:=aW (show (k≠kq∨s≠sq∨v≠vq∨kids≠kidsq)→¬ PP by
   rw [← hPP];intro h e;injection e with e1 e2 e3 e4
   rcases h with h | h | h | h
   ·exact h e1
   ·exact h e3
   ·exact h e2
   ·exact h e4)
  have HPY:=aW (show k=kq→s=sq→v=vq→kids=kidsq→PP by rw [← hPP];rintro rfl rfl rfl rfl;rfl);clear hPP;obtain ⟨c1,f1,l1⟩:=HT0.out.1.rules;obtain ⟨c2,f2,l2⟩:=HT0.out.2.1.rules;by_cases ek:k=kq
  case neg =>
   have HNO:=aW (HPN.out (.inl ek));have hb1:(k != kq)=true:=by simp [ek]
   go_enter Tryz.func49,Tryz.ntmps49;go_wp2;go_ret;exact EqX.no HNO.out HT0.out.2.2
  by_cases es:s=sq
  case neg =>
   have HNO:=aW (HPN.out (.inr (.inl es)));have hb1:(s != sq)=true:=by simp [es]
   subst ek;go_enter Tryz.func49,Tryz.ntmps49;go_wp2;go_ret;exact EqX.no HNO.out HT0.out.2.2
  by_cases elk:nk=nkq
  case neg =>
   have HNO:=aW (HPN.out (.inr (.inr (.inr fun e=>elk (by rw [← HNK.out.1,← HNK.out.2,e])))));have hb1:((nk:Int) != nkq)=true:=by simp;omega
   subst ek es;go_enter Tryz.func49,Tryz.ntmps49;go_wp2;go_ret;exact EqX.no HNO.out HT0.out.2.2
  subst ek es elk;go_enter Tryz.func49,Tryz.ntmps49;go_wp2_with fail;refine (HSV.out _ HT0.out.2.2).mono ?_;rintro e w1 ⟨t1,rfl,ht1,hb1⟩;have HT1:=aW (HT0.out.keep hb1);have HE1:=aW ht1;clear hb1 ht1 c1 f1 l1 c2 f2 l2 HT0;cases t1 with
  |false =>
   have HNO:=aW (HPN.out (.inr (.inr (.inl fun e=>by have:=HE1.out.2 e;cases this))));go_wp2;go_ret;exact EqX.no HNO.out HT1.out.2.2
  |true =>
   go_wp2;go_loopg [5] nk (fun gk s5 wr => ∃ i:Nat,i≤nk∧gk=nk-i∧s5=.int .i64 (i:Int)∧Hid (kids.take i=kidsq.take i)∧Hid (gm w 45 #[.int .i64 k,.int .i64 k1,.int .i64 n1,.string s1,.slice A1 na1 ca1,.slice B1 nb1 cb1,.string ⟨s.toArray⟩,.slice A nk ca] #[.int .i64 k,.int .i64 k2,.int .i64 n2,.string s2,.slice A2 na2 ca2,.slice B2 nb2 cb2,.string ⟨s.toArray⟩,.slice A' nk ca'] wr))
   case atStart=>exact ⟨0,Nat.zero_le _,rfl,by go_num,aW rfl,HT1⟩
   case round =>
    obtain ⟨i,hi,hgk,rfl,HSM,HT⟩:=hrel;have HGK:=aW hgk;clear hgk HT1;obtain ⟨c1,f1,l1⟩:=HT.out.1.rules;obtain ⟨c2,f2,l2⟩:=HT.out.2.1.rules;have HB0:=aW HT.out.2.2;by_cases hlt:i<nk
    ·obtain ⟨x,hx⟩:∃ x,kids[i]? = some x:=⟨_,List.getElem?_eq_getElem (by rw [HNK.out.1];exact hlt)⟩
     obtain ⟨y,hy⟩:∃ y,kidsq[i]? = some y:=⟨_,List.getElem?_eq_getElem (by rw [HNK.out.2];exact hlt)⟩
     obtain ⟨b,o,kx,k1x,n1x,s1x,A1x,na1x,ca1x,B1x,nb1x,cb1x,sx,A2x,n2x,ca2x,rfl,hb,hvx,hz⟩:=HIH.out i x hx;obtain ⟨b',o',ky,k1y,n1y,s1y,A1y,na1y,ca1y,B1y,nb1y,cb1y,sy,A2y,n2y,ca2y,rfl,hb',hvx',hz'⟩:=HIH'.out i y hy;have HCL:=aW (fun (W:World) (h:Below wr.heap.size wr W)=>have hh:=HB0.out.trans (h.mono HB0.out.size);HEQ.out x y _ _ W (List.mem_of_getElem? hx) (List.mem_of_getElem? hy) (hvx.bel hh) (hvx'.bel hh));have HXY:=aW (show x=y→kids.take (i+1)=kidsq.take (i+1) from fun e=>by rw [List.take_add_one,List.take_add_one,HSM.out,hx,hy,e]);have HXN:=aW (show x≠y→kids≠kidsq from fun e h=>e (by rw [h,hy] at hx;exact (Option.some.inj hx).symm));clear hvx hvx' hx hy hb hb';go_upto_region 6 with fail;clear c1 f1 l1 c2 f2 l2;refine wp_region_held_drew (S:=fun W'=>Below wr.heap.size wr W') (by kernel_rfl) (by exact (Below.refl _ _).drew) (fun hHeld=>?_);refine cq (fun w2 hw2=>?_);have HW2:=aW (show Below wr.heap.size wr w2 by rw [hw2];exact (Below.refl _ _).drew);clear hw2;refine tA 0 42 (.pointer (some ⟨w.heap.size,7,none⟩)) rfl ?_;refine aY 1 43 (.slice (some ⟨b,o,none⟩) nk ca) rfl ?_ ?_
     ·intro W hSw;obtain ⟨c8,f8,l8⟩:=(HT.out.keep hSw).1.rules;go_simp
     refine tA 2 44 (.int .i64 (i:Int)) rfl ?_;refine tA 3 45 (.pointer (some ⟨b,o+i*8,none⟩)) rfl ?_;refine aY 4 46 (.agg #[.int .i64 kx,.int .i64 k1x,.int .i64 n1x,.string s1x,.slice A1x na1x ca1x,.slice B1x nb1x cb1x,.string sx,.slice A2x n2x ca2x]) rfl ?_ ?_
     ·intro W hSw;obtain ⟨z0,z1,z2,z3,z4,z5,z6,z7⟩:=hz W (HB0.out.trans (hSw.mono HB0.out.size));go_simp
     refine tA 5 47 (.pointer (some ⟨w.heap.size+1,7,none⟩)) rfl ?_;refine aY 6 48 (.slice (some ⟨b',o',none⟩) nk ca') rfl ?_ ?_
     ·intro W hSw;obtain ⟨c8,f8,l8⟩:=(HT.out.keep hSw).2.1.rules;go_simp
     refine tA 7 49 (.int .i64 (i:Int)) rfl ?_;refine tA 8 50 (.pointer (some ⟨b',o'+i*8,none⟩)) rfl ?_;refine aY 9 51 (.agg #[.int .i64 ky,.int .i64 k1y,.int .i64 n1y,.string s1y,.slice A1y na1y ca1y,.slice B1y nb1y cb1y,.string sy,.slice A2y n2y ca2y]) rfl ?_ ?_
     ·intro W hSw;obtain ⟨z0,z1,z2,z3,z4,z5,z6,z7⟩:=hz' W (HB0.out.trans (hSw.mono HB0.out.size));go_simp
     refine aV 10 52 rfl (fun K hK=>?_);go_simp;refine (HCL.out _ HW2.out).mono ?_;rintro e w3 ⟨tt,rfl,htt,hb3⟩;have HW3:=aW (HW2.out.trans (hb3.mono HW2.out.size));have HTT:=aW htt;clear hb3 htt;refine hK.out _ _ (by exact HW3.out) (fun hHeld2=>?_);clear hK K hHeld;have hHeld:=hHeld2;clear hHeld2
     try simp only [pU]
     refine tA 11 53 (.bool (!tt)) rfl ?_;refine aX ?_;have HT2:=aW (HT.out.keep HW3.out);cases tt with
     |true =>
      have HK:=aW (HXY.out (HTT.out.1 (by trivial)));go_wp2;go_roundg (nk-(i+1))
      case measure=>have:=HGK.out;omega
      case rel=>exact ⟨i+1,hlt,rfl,by go_num,HK,HT2⟩
     |false =>
      have HNO:=aW (HPN.out (.inr (.inr (.inr (HXN.out fun e=>by have:=HTT.out.2 e;cases this)))));go_wp2;go_ret;exact EqX.no HNO.out HT2.out.2.2
    ·obtain rfl:nk=i:=by omega
     have HKK:=aW (show kids=kidsq by
      have e1:=HSM.out;rwa [List.take_of_length_le (Nat.le_of_eq HNK.out.1),List.take_of_length_le (Nat.le_of_eq HNK.out.2)] at e1)
     go_wp2;go_ret;exact EqX.yes (HPY.out (by trivial) (by trivial) (HE1.out.1 (by trivial)) HKK.out) HT.out.2.2
end
end Go.Proofs.YtgmnmnnoahdjnaaGreatDoor
