import Derived.Test.YtgmnmnnoahdjnaaGreatDoorB24
set_option maxRecDepth 100000
set_option maxHeartbeats 16000000
set_option linter.unusedVariables false
set_option linter.unusedSimpArgs false
namespace Go.Proofs.YtgmnmnnoahdjnaaGreatDoor
section
open Go.RowKit Go.Shelf
attribute [local go_sem] aa ac ae ab
theorem zo {W:World} {F:Nat→Prop} {B:Option Addr} {keys:List (List UInt8)} (h:RdF W F B (jh keys)) {i:Nat} {x:List UInt8} (hx:keys[i]? = some x):∃ b o,B=some ⟨b,o,none⟩∧b<W.heap.size∧W.cell? ⟨b,o+i,none⟩=some (.string ⟨x.toArray⟩):=by
 have hx2:(jh keys)[i]? = some (.string ⟨x.toArray⟩):=by unfold jh;simp [hx]
 obtain ⟨hi,e⟩:=List.getElem?_eq_some_iff.1 hx2;obtain ⟨b,o,rfl,hb,_,hc⟩:=h (by intro e9;rw [e9] at hi;exact absurd hi (Nat.not_lt_zero _));exact ⟨b,o,rfl,hb,by rw [hc i hi,e]⟩
theorem zr:∀ (N:Nat) (v v':JV),bI v≤N→∀ (cs cs':List Value) (F F':Nat→Prop) (w:World),VR w F cs v→VR w F' cs' v'→df v→df v'→Calls Tryz.prog 83 #[.agg cs.toArray,.agg cs'.toArray] w (EqX (v=v') w)
 | 0,v,_,h,_,_,_,_,_,_,_,_,_=>by have:=jd v;omega
 |N+1,.mk k n s kids keys,.mk kq nq sq kidsq keysq,hN,cs,cs',F,F',w,hv,hv',hC,hC'=>by
  have ih:=zr N;unfold bI at hN;obtain ⟨_,_,hsl,hkl,hyl,_,hck⟩:=hC.out;obtain ⟨_,_,hsl',hkl',hyl',_,hck'⟩:=hC'.out;obtain ⟨A,B,ca,cb,css,rfl,h1,h2,h3,h4,h5,h6,h7⟩:=hv.out;obtain ⟨A',B',ca',cb',css',rfl,h1',h2',h3',h4',h5',h6',h7'⟩:=hv'.out;have HIH:=aW (fun (i:Nat) (x:JV) (hx:kids[i]? = some x)=>lC h1 h6 hx);have HIH':=aW (fun (i:Nat) (x:JV) (hx:kidsq[i]? = some x)=>lC h1' h6' hx);have HYS:=aW (And.intro h7 h7');have HEQ:=aW (fun (x y:JV) (c c':List Value) (W2:World) (hx:x ∈ kids) (hy:y ∈ kidsq) (hc:VR W2 F c x) (hc':VR W2 F' c' y)=>show Calls Tryz.prog 83 #[.agg c.toArray,.agg c'.toArray] W2 (EqX (x=y) W2) from by
   obtain ⟨i,hi⟩:=List.mem_iff_getElem?.1 hx;obtain ⟨hn1,hn2⟩:=mZ hi;exact ih x y (by omega) c c' F F' W2 hc hc' (hck x hx) (hck' y hy))
  have HT0:=aW (gm.new w 42 #[.int .i64 k,.int .i64 n,.string ⟨s.toArray⟩,.slice A kids.length ca,.slice B keys.length cb] #[.int .i64 kq,.int .i64 nq,.string ⟨sq.toArray⟩,.slice A' kidsq.length ca',.slice B' keysq.length cb']);obtain ⟨nk,hnk⟩:∃ nk,kids.length=nk:=⟨_,rfl⟩
  obtain ⟨ny,hny⟩:∃ ny,keys.length=ny:=⟨_,rfl⟩
  obtain ⟨nkq,hnkq⟩:∃ nkq,kidsq.length=nkq:=⟨_,rfl⟩
  obtain ⟨nyq,hnyq⟩:∃ nyq,keysq.length=nyq:=⟨_,rfl⟩
  rw [hnk,hny,hnkq,hnyq] at HT0 ⊢;rw [hnk] at hkl h2;rw [hny] at hyl h3;rw [hnkq] at hkl' h2';rw [hnyq] at hyl' h3';have HNK:=aW (And.intro (And.intro hnk hnkq) (And.intro hny hnyq));have y1:w.heap.size≠w.heap.size+1:=by omega
  have y2:w.heap.size+1≠w.heap.size:=by omega
  clear hv hv' hC hC' hck hck' h1 h1' h4 h4' h5 h5' h6 h6' h7 h7' hnk hny hnkq hnyq ih hN;obtain ⟨PP,hPP⟩:∃ PP:Prop,(JV.mk k n s kids keys=JV.mk kq nq sq kidsq keysq)=PP:=⟨_,rfl⟩
  rw [hPP];have HPN:=aW (show (k≠kq∨n≠nq∨s≠sq∨kids≠kidsq∨keys≠keysq)→¬ PP by
   rw [← hPP];intro h e;injection e with e1 e2 e3 e4 e5
   rcases h with h | h | h | h | h
   ·exact h e1
   ·exact h e2
   ·exact h e3
   ·exact h e4
   ·exact h e5)
  have HPY:=aW (show k=kq→n=nq→s=sq→kids=kidsq→keys=keysq→PP by rw [← hPP];rintro rfl rfl rfl rfl rfl;rfl);clear hPP;obtain ⟨c1,f1,l1⟩:=HT0.out.1.rules;obtain ⟨c2,f2,l2⟩:=HT0.out.2.1.rules;by_cases ek:k=kq
  case neg =>
   have HNO:=aW (HPN.out (.inl ek));have hb1:(k != kq)=true:=by simp [ek]
   go_enter Tryz.func83,Tryz.ntmps83;go_wp2;go_ret;exact EqX.no HNO.out HT0.out.2.2
  by_cases en:n=nq
  case neg =>
   have HNO:=aW (HPN.out (.inr (.inl en)));have hb1:(n != nq)=true:=by simp [en]
   subst ek;go_enter Tryz.func83,Tryz.ntmps83;go_wp2;go_ret;exact EqX.no HNO.out HT0.out.2.2
  by_cases es:s=sq
  case neg =>
   have HNO:=aW (HPN.out (.inr (.inr (.inl es))));have hb1:(s != sq)=true:=by simp [es]
   subst ek en;go_enter Tryz.func83,Tryz.ntmps83;go_wp2;go_ret;exact EqX.no HNO.out HT0.out.2.2
  by_cases elk:nk=nkq
  case neg =>
   have HNO:=aW (HPN.out (.inr (.inr (.inr (.inl fun e=>elk (by rw [← HNK.out.1.1,← HNK.out.1.2,e]))))));have hb1:((nk:Int) != nkq)=true:=by simp;omega
   subst ek en es;go_enter Tryz.func83,Tryz.ntmps83;go_wp2;go_ret;exact EqX.no HNO.out HT0.out.2.2
  by_cases ely:ny=nyq
  case neg =>
   have HNO:=aW (HPN.out (.inr (.inr (.inr (.inr fun e=>ely (by rw [← HNK.out.2.1,← HNK.out.2.2,e]))))));have hb1:((ny:Int) != nyq)=true:=by simp;omega
   subst ek en es elk;go_enter Tryz.func83,Tryz.ntmps83;go_wp2;go_ret;exact EqX.no HNO.out HT0.out.2.2
  subst ek en es elk ely;have HQ0:=aW (Below.refl ((w.alloc (.cells #[.int .i64 k,.int .i64 n,.string ⟨s.toArray⟩,.slice A nk ca,.slice B ny cb] 42)).alloc (.cells #[.int .i64 k,.int .i64 n,.string ⟨s.toArray⟩,.slice A' nk ca',.slice B' ny cb'] 42)).heap.size ((w.alloc (.cells #[.int .i64 k,.int .i64 n,.string ⟨s.toArray⟩,.slice A nk ca,.slice B ny cb] 42)).alloc (.cells #[.int .i64 k,.int .i64 n,.string ⟨s.toArray⟩,.slice A' nk ca',.slice B' ny cb'] 42)));go_enter Tryz.func83,Tryz.ntmps83;go_wp2;clear c1 f1 l1 c2 f2 l2;go_loopg [5] ny (fun gk s5 wr => ∃ i:Nat,i≤ny∧gk=ny-i∧s5=.int .i64 (i:Int)∧Hid (keys.take i=keysq.take i)∧Hid (gm w 42 #[.int .i64 k,.int .i64 n,.string ⟨s.toArray⟩,.slice A nk ca,.slice B ny cb] #[.int .i64 k,.int .i64 n,.string ⟨s.toArray⟩,.slice A' nk ca',.slice B' ny cb'] wr))
  case atStart=>exact ⟨0,Nat.zero_le _,rfl,by go_num,aW rfl,HT0⟩
  case round =>
   obtain ⟨i,hi,hgk,rfl,HSM,HT⟩:=hrel;have HGK:=aW hgk;clear hgk;obtain ⟨c1,f1,l1⟩:=HT.out.1.rules;obtain ⟨c2,f2,l2⟩:=HT.out.2.1.rules;have HB0:=aW HT.out.2.2;by_cases hlt:i<ny
   ·obtain ⟨x,hx⟩:∃ x,keys[i]? = some x:=⟨_,List.getElem?_eq_getElem (by rw [HNK.out.2.1];exact hlt)⟩
    obtain ⟨y,hy⟩:∃ y,keysq[i]? = some y:=⟨_,List.getElem?_eq_getElem (by rw [HNK.out.2.2];exact hlt)⟩
    obtain ⟨b,o,rfl,hlb0,hz0⟩:=zo HYS.out.1 hx;obtain ⟨b',o',rfl,hlb0',hz0'⟩:=zo HYS.out.2 hy;have hlb:b<wr.heap.size:=Nat.lt_of_lt_of_le hlb0 HB0.out.size;have hlb':b'<wr.heap.size:=Nat.lt_of_lt_of_le hlb0' HB0.out.size;have hz:=(HB0.out.cell (p:=⟨b,o+i,none⟩) hlb0).trans hz0;have hz':=(HB0.out.cell (p:=⟨b',o'+i,none⟩) hlb0').trans hz0';have HXY:=aW (show x=y→keys.take (i+1)=keysq.take (i+1) from fun e=>by rw [List.take_add_one,List.take_add_one,HSM.out,hx,hy,e]);have HXN:=aW (show x≠y→keys≠keysq from fun e h=>e (by rw [h,hy] at hx;exact (Option.some.inj hx).symm));obtain ⟨bb,hbb⟩:∃ bb,(x != y)=bb:=⟨_,rfl⟩
    have e1:(x == y) = !bb:=by rw [← hbb];simp [bne]
    have e2:((⟨x.toArray⟩:ByteArray).toList == (⟨y.toArray⟩:ByteArray).toList) = !bb:=by rw [eV,← hbb];by_cases h:x=y<;>simp [h]
    have HBB:=aW hbb;clear hz0 hz0' hx hy hlb0 hlb0';go_upto_region 6 with fail;clear c1 f1 l1 c2 f2 l2;refine wp_region_held_drew (S:=fun W'=>Below wr.heap.size wr W') (by kernel_rfl) (by exact (Below.refl _ _).drew) (fun hHeld=>?_);refine cq (fun w2 hw2=>?_);have HW2:=aW (show Below wr.heap.size wr w2 by rw [hw2];exact (Below.refl _ _).drew);clear hw2;refine tA 0 51 (.pointer (some ⟨w.heap.size,4,none⟩)) rfl ?_;refine aY 1 52 (.slice (some ⟨b,o,none⟩) ny cb) rfl ?_ ?_
    ·intro W hSw;obtain ⟨c8,f8,l8⟩:=(HT.out.keep hSw).1.rules;go_simp
    refine tA 2 53 (.int .i64 (i:Int)) rfl ?_;refine tA 3 54 (.pointer (some ⟨b,o+i,none⟩)) rfl ?_;refine aY 4 55 (.string ⟨x.toArray⟩) rfl ?_ ?_
    ·intro W hSw;have z8:=(Below.cell hSw (p:=⟨b,o+i,none⟩) hlb).trans hz;go_simp
    refine tA 5 56 (.pointer (some ⟨w.heap.size+1,4,none⟩)) rfl ?_;refine aY 6 57 (.slice (some ⟨b',o',none⟩) ny cb') rfl ?_ ?_
    ·intro W hSw;obtain ⟨c8,f8,l8⟩:=(HT.out.keep hSw).2.1.rules;go_simp
    refine tA 7 58 (.int .i64 (i:Int)) rfl ?_;refine tA 8 59 (.pointer (some ⟨b',o'+i,none⟩)) rfl ?_;refine aY 9 60 (.string ⟨y.toArray⟩) rfl ?_ ?_
    ·intro W hSw;have z8:=(Below.cell hSw (p:=⟨b',o'+i,none⟩) hlb').trans hz';go_simp
    refine tA 10 61 (.bool bb) rfl ?_;refine aX ?_;have HT2:=aW (HT.out.keep HW2.out);cases bb with
    |true =>
     have HNO:=aW (HPN.out (.inr (.inr (.inr (.inr (HXN.out (by have:=HBB.out;simpa using this)))))));go_wp2;go_ret;exact EqX.no HNO.out HT2.out.2.2
    |false =>
     have HK:=aW (HXY.out (by have:=HBB.out;simpa using this));go_wp2;go_roundg (ny-(i+1))
     case measure=>have:=HGK.out;omega
     case rel=>exact ⟨i+1,hlt,rfl,by go_num,HK,HT2⟩
   ·obtain rfl:ny=i:=by omega
    have HKY:=aW (show keys=keysq by
     have e1:=HSM.out;rwa [List.take_of_length_le (Nat.le_of_eq HNK.out.2.1),List.take_of_length_le (Nat.le_of_eq HNK.out.2.2)] at e1)
    have HT9:=HT;clear HSM HT HB0 HT0 HQ0 HGK;go_wp2;clear c1 f1 l1 c2 f2 l2;obtain ⟨wo,hwo⟩:∃ wo:World,wo=wr:=⟨_,rfl⟩
    rw [← hwo] at HT9 ⊢;clear hwo;go_loopg [6] nk (fun gk s6 wr => ∃ i:Nat,i≤nk∧gk=nk-i∧s6=.int .i64 (i:Int)∧Hid (kids.take i=kidsq.take i)∧Hid (gm w 42 #[.int .i64 k,.int .i64 n,.string ⟨s.toArray⟩,.slice A nk ca,.slice B ny cb] #[.int .i64 k,.int .i64 n,.string ⟨s.toArray⟩,.slice A' nk ca',.slice B' ny cb'] wr))
    case atStart=>exact ⟨0,Nat.zero_le _,rfl,by go_num,aW rfl,HT9⟩
    case round =>
     obtain ⟨i,hi,hgk,rfl,HSM,HT⟩:=hrel;have HGK:=aW hgk;clear hgk;obtain ⟨c1,f1,l1⟩:=HT.out.1.rules;obtain ⟨c2,f2,l2⟩:=HT.out.2.1.rules;have HB0:=aW HT.out.2.2;by_cases hlt:i<nk
     ·obtain ⟨x,hx⟩:∃ x,kids[i]? = some x:=⟨_,List.getElem?_eq_getElem (by rw [HNK.out.1.1];exact hlt)⟩
      obtain ⟨y,hy⟩:∃ y,kidsq[i]? = some y:=⟨_,List.getElem?_eq_getElem (by rw [HNK.out.1.2];exact hlt)⟩
      obtain ⟨b,o,kx,nx,sx,Ax,nax,cax,Bx,nbx,cbx,rfl,hb,hvx,hz⟩:=HIH.out i x hx;obtain ⟨b',o',ky,ny_,sy,Ay,nay,cay,By,nby,cby,rfl,hb',hvx',hz'⟩:=HIH'.out i y hy;have HCL:=aW (fun (W:World) (h:Below wr.heap.size wr W)=>have hh:=HB0.out.trans (h.mono HB0.out.size);HEQ.out x y _ _ W (List.mem_of_getElem? hx) (List.mem_of_getElem? hy) (hvx.bel hh) (hvx'.bel hh));have HXY:=aW (show x=y→kids.take (i+1)=kidsq.take (i+1) from fun e=>by rw [List.take_add_one,List.take_add_one,HSM.out,hx,hy,e]);have HXN:=aW (show x≠y→kids≠kidsq from fun e h=>e (by rw [h,hy] at hx;exact (Option.some.inj hx).symm));clear hvx hvx' hx hy hb hb';go_upto_region 11 with fail;clear c1 f1 l1 c2 f2 l2;refine wp_region_held_drew (S:=fun W'=>Below wr.heap.size wr W') (by kernel_rfl) (by exact (Below.refl _ _).drew) (fun hHeld=>?_);refine cq (fun w2 hw2=>?_);have HW2:=aW (show Below wr.heap.size wr w2 by rw [hw2];exact (Below.refl _ _).drew);clear hw2;refine tA 0 69 (.pointer (some ⟨w.heap.size,3,none⟩)) rfl ?_;refine aY 1 70 (.slice (some ⟨b,o,none⟩) nk ca) rfl ?_ ?_
      ·intro W hSw;obtain ⟨c8,f8,l8⟩:=(HT.out.keep hSw).1.rules;go_simp
      refine tA 2 71 (.int .i64 (i:Int)) rfl ?_;refine tA 3 72 (.pointer (some ⟨b,o+i*5,none⟩)) rfl ?_;refine aY 4 73 (.agg #[.int .i64 kx,.int .i64 nx,.string sx,.slice Ax nax cax,.slice Bx nbx cbx]) rfl ?_ ?_
      ·intro W hSw;obtain ⟨z0,z1,z2,z3,z4⟩:=hz W (HB0.out.trans (hSw.mono HB0.out.size));go_simp
      refine tA 5 74 (.pointer (some ⟨w.heap.size+1,3,none⟩)) rfl ?_;refine aY 6 75 (.slice (some ⟨b',o',none⟩) nk ca') rfl ?_ ?_
      ·intro W hSw;obtain ⟨c8,f8,l8⟩:=(HT.out.keep hSw).2.1.rules;go_simp
      refine tA 7 76 (.int .i64 (i:Int)) rfl ?_;refine tA 8 77 (.pointer (some ⟨b',o'+i*5,none⟩)) rfl ?_;refine aY 9 78 (.agg #[.int .i64 ky,.int .i64 ny_,.string sy,.slice Ay nay cay,.slice By nby cby]) rfl ?_ ?_
      ·intro W hSw;obtain ⟨z0,z1,z2,z3,z4⟩:=hz' W (HB0.out.trans (hSw.mono HB0.out.size));go_simp
      refine aV 10 79 rfl (fun K hK=>?_);go_simp;refine (HCL.out _ HW2.out).mono ?_;rintro e w3 ⟨tt,rfl,htt,hb3⟩;have HW3:=aW (HW2.out.trans (hb3.mono HW2.out.size));have HTT:=aW htt;clear hb3 htt;refine hK.out _ _ (by exact HW3.out) (fun hHeld2=>?_);clear hK K hHeld;have hHeld:=hHeld2;clear hHeld2
      try simp only [pU]
      refine tA 11 80 (.bool (!tt)) rfl ?_;refine aX ?_;have HT2:=aW (HT.out.keep HW3.out);cases tt with
      |true =>
       have HK:=aW (HXY.out (HTT.out.1 (by trivial)));go_wp2;go_roundg (nk-(i+1))
       case measure=>have:=HGK.out;omega
       case rel=>exact ⟨i+1,hlt,rfl,by go_num,HK,HT2⟩
      |false =>
       have HNO:=aW (HPN.out (.inr (.inr (.inr (.inl (HXN.out fun e=>by have:=HTT.out.2 e;cases this))))));go_wp2;go_ret;exact EqX.no HNO.out HT2.out.2.2
     ·obtain rfl:i=nk:=by omega
      have HKK:=aW (show kids=kidsq by
       have e1:=HSM.out;rwa [List.take_of_length_le (Nat.le_of_eq HNK.out.1.1),List.take_of_length_le (Nat.le_of_eq HNK.out.1.2)] at e1)
      go_wp2;go_ret;exact EqX.yes (HPY.out (by trivial) (by trivial) (by trivial) HKK.out HKY.out) HT.out.2.2
end
end Go.Proofs.YtgmnmnnoahdjnaaGreatDoor
