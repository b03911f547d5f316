import Derived.Test.YtgmnmnnoahdjnaaGreatDoorQ28
import Derived.Test.YtgmnmnnoahdjnaaGreatDoorQ30
open Go.Value renaming int → Zi, slice → Zs, string → Zt, pointer → Zp
open Go.IntKind renaming i64 → Zq
set_option maxRecDepth 100000
set_option maxHeartbeats 16000000
set_option linter.unusedVariables false
set_option linter.unusedSimpArgs false
namespace Go.Proofs.YtgmnmnnoahdjnaaGreatDoor
section
open Go.RowKit
attribute [local go_sem] aa ac ae ab
def fO (g:List SJ->List SJ):SJ->SJ | .mk k s a b body els=>.mk k (s.take 20) (dR 14 a) (dR 14 b) (g body) (g els)
def dJ:Nat->List SJ->List SJ
 | 0,_=>[]
 | r+1,l=>(l.take 5).map (fO (dJ r))
def uE (l:List SJ) (F:Nat->Prop) (w:World) (e:Ending) (w':World):Prop:=∃ (A:Option Addr) (n ca:Nat) (css:List (List Value)),e=.returned (Zs A n ca)/\n=l.length/\n<=ca/\(A=none->ca=0)/\SRs w' (FN F w) css l/\RdF w' (FN F w) A css.flatten/\Below w.heap.size w w'
theorem x9 {P:Program} {md:Region.Mode} {ops:Array Oper} {Q:Exit->Act->World->Prop} {S:World->Prop} {fuel:Nat} {listed:Array Bool} {act:Int->Int->Int->ByteArray->Option Addr->Nat->Nat->Option Addr->Nat->Nat->ByteArray->Option Addr->Nat->Nat->Int->Int->Int->ByteArray->Option Addr->Nat->Nat->Option Addr->Nat->Nat->ByteArray->Option Addr->Nat->Nat->World->Act} {wd:Int->Int->Int->ByteArray->Option Addr->Nat->Nat->Option Addr->Nat->Nat->ByteArray->Option Addr->Nat->Nat->Int->Int->Int->ByteArray->Option Addr->Nat->Nat->Option Addr->Nat->Nat->ByteArray->Option Addr->Nat->Nat->World->World} {R:Int->Int->Int->ByteArray->Option Addr->Nat->Nat->Option Addr->Nat->Nat->ByteArray->Option Addr->Nat->Nat->Int->Int->Int->ByteArray->Option Addr->Nat->Nat->Option Addr->Nat->Nat->ByteArray->Option Addr->Nat->Nat->World->Prop} {goal:Prop}
  (hleaf:∀ k8 k18 n18 s18 A18 na18 ca18 B18 nb18 cb18 s8 A28 n28 ca28 k9 k19 n19 s19 A19 na19 ca19 B19 nb19 cb19 s9 A29 n29 ca29 Z,R k8 k18 n18 s18 A18 na18 ca18 B18 nb18 cb18 s8 A28 n28 ca28 k9 k19 n19 s19 A19 na19 ca19 B19 nb19 cb19 s9 A29 n29 ca29 Z->wpAnyH P md ops Q S fuel listed (act k8 k18 n18 s18 A18 na18 ca18 B18 nb18 cb18 s8 A28 n28 ca28 k9 k19 n19 s19 A19 na19 ca19 B19 nb19 cb19 s9 A29 n29 ca29 Z) (wd k8 k18 n18 s18 A18 na18 ca18 B18 nb18 cb18 s8 A28 n28 ca28 k9 k19 n19 s19 A19 na19 ca19 B19 nb19 cb19 s9 A29 n29 ca29 Z)) (h:(∀ k8 k18 n18 s18 A18 na18 ca18 B18 nb18 cb18 s8 A28 n28 ca28 k9 k19 n19 s19 A19 na19 ca19 B19 nb19 cb19 s9 A29 n29 ca29 Z,R k8 k18 n18 s18 A18 na18 ca18 B18 nb18 cb18 s8 A28 n28 ca28 k9 k19 n19 s19 A19 na19 ca19 B19 nb19 cb19 s9 A29 n29 ca29 Z->wpAnyH P md ops Q S fuel listed (act k8 k18 n18 s18 A18 na18 ca18 B18 nb18 cb18 s8 A28 n28 ca28 k9 k19 n19 s19 A19 na19 ca19 B19 nb19 cb19 s9 A29 n29 ca29 Z) (wd k8 k18 n18 s18 A18 na18 ca18 B18 nb18 cb18 s8 A28 n28 ca28 k9 k19 n19 s19 A19 na19 ca19 B19 nb19 cb19 s9 A29 n29 ca29 Z))->goal):goal:=h hleaf
theorem bF {P:Program} {md:Region.Mode} {ops:Array Oper} {Q:Exit->Act->World->Prop} {S:World->Prop} {fuel:Nat} {l l':Array Bool} {a:Act} {w:World} (e:l=l') (h:wpAnyH P md ops Q S fuel l' a w):wpAnyH P md ops Q S fuel l a w:=by rw [e];exact h
def ExV (x:EJ) (G:Nat->Prop) (W:World) (e:Ending) (W':World):Prop:=∃ k k1 n1 s1 A1 na1 ca1 B1 nb1 cb1 s A2 n2 ca2,e=.returned (.agg #[Zi Zq k,Zi Zq k1,Zi Zq n1,Zt s1,Zs A1 na1 ca1,Zs B1 nb1 cb1,Zt s,Zs A2 n2 ca2])/\ER W' G [Zi Zq k,Zi Zq k1,Zi Zq n1,Zt s1,Zs A1 na1 ca1,Zs B1 nb1 cb1,Zt s,Zs A2 n2 ca2] x/\Below W.heap.size W W'
theorem wU.ex {x:EJ} {F G:Nat->Prop} {W W':World} {e:Ending} (h:wU x F W e W') (hm:∀ b,FN F W b->G b):ExV x G W e W':=by
 obtain ⟨cs,rfl,hv,hb⟩:=h;obtain ⟨k,k1,n1,s1,A1,na1,ca1,B1,nb1,cb1,s,A2,n2,ca2,rfl⟩:=hv.form;exact ⟨k,k1,n1,s1,A1,na1,ca1,B1,nb1,cb1,s,A2,n2,ca2,rfl,hv.mono λ b _ h=>hm b h,hb⟩
def LQv (l:List SJ) (G:Nat->Prop) (W:World) (A:Option Addr) (n c:Nat) (css:List (List Value)):Prop:=(n=l.length/\n<=c/\(A=none->c=0))/\SRs W G css l/\RdF W G A css.flatten
theorem LQv.keep {l:List SJ} {G:Nat->Prop} {W W':World} {A:Option Addr} {n c:Nat} {css:List (List Value)} (h:LQv l G W A n c css) (hk:ah G W W'):LQv l G W' A n c css:=⟨h.1,RR.imp h.2.1 λ c y (hc:SR _ _ c y)=>hc.keep hk,h.2.2.keep hk⟩
theorem uE.lq {l:List SJ} {F G:Nat->Prop} {W W':World} {e:Ending} (h:uE l F W e W') (hm:∀ b,FN F W b->G b):∃ A n c css,e=.returned (Zs A n c)/\LQv l G W' A n c css/\Below W.heap.size W W':=by
 obtain ⟨A,n,c,css,rfl,h1,h2,h3,h4,h5,hb⟩:=h;exact ⟨A,n,c,css,rfl,⟨⟨h1,h2,h3⟩,RR.imp h4 λ c y (hc:SR _ _ c y)=>hc.mono λ b _ h=>hm b h,h5.mono λ b _ h=>hm b h⟩,hb⟩
theorem vA:(Tryz.prog.info? 48).map (λ i=>(i.zero,i.size,i.bytes))=some (some (.agg #[Zi Zq 0,Zt ⟨#[]⟩,Zi Zq 0,Zi Zq 0,Zi Zq 0,Zt ⟨#[]⟩,Zs none 0 0,Zs none 0 0,Zt ⟨#[]⟩,Zs none 0 0,Zi Zq 0,Zi Zq 0,Zi Zq 0,Zt ⟨#[]⟩,Zs none 0 0,Zs none 0 0,Zt ⟨#[]⟩,Zs none 0 0,Zs none 0 0,Zs none 0 0]),20,328):=by kernel_rfl
set_option maxHeartbeats 32000000 in
theorem xB (F:Nat->Prop):∀ (room:Nat) (l:List SJ) (A:Option Addr) (n ca:Nat) (css:List (List Value)) (q:Int) (w:World),q=room->(∀ b,F b->b<w.heap.size)->SRs w F css l->RdF w F A css.flatten->l.length=n->n<=ca->a9 l->n<=4194304->room<=14 ->
  Calls Tryz.prog 43 #[Zs A n ca,Zi Zq q] w (uE (dJ room l) F w):=by
 intro room
 induction room with
 |zero =>
  rintro l A n ca css q w rfl hF hS hR hln hnc hC hn hroom;clear hS hR hln hC;go_enter Tryz.func43,Tryz.ntmps43;go_wp2;refine bodyPost_ret (v:=Zs none 0 0) (by simp only [results,Tryz.results43];go_simp) rfl ?_;exact ⟨none,0,0,[],rfl,rfl,Nat.le_refl _,λ _=>rfl,RR.nil,RdF.nil,by go_grown⟩
 |succ r ih =>
  rintro l A n ca css q w hq hF hS hR hln hnc hC hn hroom;have HKD:=aW (And.intro hS hR);have HFF:=aW hF;have HNK:=aW hln;have HCL:=aW (cM.1 hC);have HIH:=aW (show ∀ (l:List SJ) (A:Option Addr) (n ca:Nat) (css:List (List Value)) (w:World),(∀ b,F b->b<w.heap.size)->SRs w F css l->RdF w F A css.flatten->l.length=n->n<=ca->a9 l->n<=4194304->Calls Tryz.prog 43 #[Zs A n ca,Zi Zq (q-1)] w (uE (dJ r l) F w) from
   λ l A n ca css w h1 h2 h3 h4 h5 h6 h7=>ih l A n ca css (q-1) w (by omega) h1 h2 h3 h4 h5 h6 h7 (by omega))
  have hq1:1<=q:=by omega
  have hq6:q<=14:=by omega
  have hq0:(q == 0)=false:=by simp;omega
  have hq0':¬ q=0:=by omega
  have hqw:IntKind.i64.wrap (q-1)=q-1:=by rw [IntKind.wrap_i64];omega
  obtain ⟨i0,hi,hz0,hz1,hz2⟩:=info_parts vA;have HI:=aW hi;obtain ⟨m,hm⟩:∃ m,min n 5=m:=⟨_,rfl⟩
  have hm5:m<=5:=by omega
  have hmn:m<=n:=by omega
  have HM:=aW hm;have HHE:=aW (show min (n:Int) 5=(m:Int) by omega);have hif:(if (5:Int)<(n:Int) then (5:Int) else (n:Int))=(m:Int):=by split<;>omega
  have HW:=aW (Below.refl w.heap.size w);clear hF hS hR hln hC hi hq hroom ih hm;go_enter Tryz.func43,Tryz.ntmps43;go_upto_region 4 with fail;go_wp2
  try rw [HHE.out]
  try rw [Int.toNat_natCast]
  try rw [show max (m:Int) 0=(m:Int) by omega]
  clear hif;go_loopg [5,17] m (λ gk s5 s17 wr => ∃ (i:Nat) (row:Value) (ocs:List (List Value)),row=s5/\i<=m/\gk=m-i/\s17=Zi Zq (i:Int) /\
   Hid (Below w.heap.size w wr)/\Hid (wr.ownsRow w.heap.size 48 20 row i ocs.flatten)/\Hid (SRs wr (FO (λ b=>F b∨w.heap.size<=b) row) ocs ((l.take i).map (fO (dJ r)))))
  case atStart=>exact ⟨0,_,[],rfl,Nat.zero_le _,by go_num,rfl,HW,aW (World.ownsRow_nil _ _ _ _),aW (by rw [List.take_zero];exact RR.nil)⟩
  case round =>
   obtain ⟨i,row,ocs,rfl,him,hgk,rfl,HWB,HO,HV⟩:=hrel;have HGK:=aW hgk;clear hgk;by_cases hlt:i<m
   ·obtain ⟨x,hx⟩:∃ x,l[i]? = some x:=⟨_,List.getElem?_eq_getElem (by rw [HNK.out];omega)⟩
    have hxm:=List.mem_of_getElem? hx;have hcx:=HCL.out x hxm;have HTK:=aW (show (l.take (i+1)).map (fO (dJ r))=(l.take i).map (fO (dJ r))++[fO (dJ r) x] by rw [List.take_add_one,hx,List.map_append];rfl);have hS1:SRs wr F css l:=RR.imp HKD.out.1 λ c y hc=>hc.bel HWB.out
    have hR1:RdF wr F A css.flatten:=HKD.out.2.keep (ah.of_below HWB.out);have hFr:∀ b,F b->b<wr.heap.size:=λ b hb=>Nat.lt_of_lt_of_le (HFF.out b hb) HWB.out.size
    obtain ⟨k,s,a,b,body,els⟩:=x;obtain ⟨bl,o,ka,kva,nva,sva,Ava,nka,cka,Bva,nya,cya,sa,Ca,nxa,cxa,kb,kvb,nvb,svb,Avb,nkb,ckb,Bvb,nyb,cyb,sb,Cb,nxb,cxb,BA,LA,cb,cl,bss,lss,rfl,hbl,_,hEA,hEB,⟨hb1,hb2_,hb3⟩,⟨he1,he2,he3⟩,hSR,hz⟩:=du hS1 hR1 hx;unfold fX at hcx;obtain ⟨hik,hsl,hca,hcb,hbl4,hel4,hcbo,hcel⟩:=hcx;obtain ⟨nb,hnb⟩:∃ q,body.length=q:=⟨_,rfl⟩
    obtain ⟨nl,hnl⟩:∃ q,els.length=q:=⟨_,rfl⟩
    rw [hnb] at hb2_ hbl4 hz hSR;rw [hnl] at he2 hel4 hz hSR;have HRG:=aW (show wr.rangeAt bl (o+i*20) [Zi Zq k,Zt ⟨s.toArray⟩,Zi Zq ka,Zi Zq kva,Zi Zq nva,Zt sva,Zs Ava nka cka,Zs Bva nya cya,Zt sa,Zs Ca nxa cxa,Zi Zq kb,Zi Zq kvb,Zi Zq nvb,Zt svb,Zs Avb nkb ckb,Zs Bvb nyb cyb,Zt sb,Zs Cb nxb cxb,Zs BA nb cb,Zs LA nl cl] from λ j v hv=>by rw [Nat.add_assoc];exact hz j v hv);have hlb:bl<wr.heap.size:=hbl;obtain ⟨W1,hW1⟩:∃ W1,wr.alloc (.cells #[Zi Zq k,Zt ⟨s.toArray⟩,Zi Zq ka,Zi Zq kva,Zi Zq nva,Zt sva,Zs Ava nka cka,Zs Bva nya cya,Zt sa,Zs Ca nxa cxa,Zi Zq kb,Zi Zq kvb,Zi Zq nvb,Zt svb,Zs Avb nkb ckb,Zs Bvb nyb cyb,Zt sb,Zs Cb nxb cxb,Zs BA nb cb,Zs LA nl cl] 48)=W1:=⟨_,rfl⟩
    have hbA:Below wr.heap.size wr W1:=by rw [← hW1];exact (Below.refl _ _).alloc (Nat.le_refl _) _
    have HB1:=aW (show Blk W1 wr.heap.size 48 #[Zi Zq k,Zt ⟨s.toArray⟩,Zi Zq ka,Zi Zq kva,Zi Zq nva,Zt sva,Zs Ava nka cka,Zs Bva nya cya,Zt sa,Zs Ca nxa cxa,Zi Zq kb,Zi Zq kvb,Zi Zq nvb,Zt svb,Zs Avb nkb ckb,Zs Bvb nyb cyb,Zt sb,Zs Cb nxb cxb,Zs BA nb cb,Zs LA nl cl] by rw [← hW1];exact Blk.new _ _ _);have hs1:W1.heap.size=wr.heap.size+1:=by rw [← hW1];simp
    have HS1:=aW hs1;have HXA:=aW (λ (W:World) (h:Below W1.heap.size W1 W)=>(vH F 14 a [Zi Zq ka,Zi Zq kva,Zi Zq nva,Zt sva,Zs Ava nka cka,Zs Bva nya cya,Zt sa,Zs Ca nxa cxa] 14 W rfl (λ b hb=>by have:=hFr b hb;have:=h.size;omega) ((hEA.bel hbA).bel h) hca (Nat.le_refl _)).mono λ e W' hq=>hq.ex (G:=(λ b=>F b∨wr.heap.size<b)) λ b hb=>hb.imp id λ hb=>by have:=h.size;omega);have HXB:=aW (λ (W:World) (h:Below W1.heap.size W1 W)=>(vH F 14 b [Zi Zq kb,Zi Zq kvb,Zi Zq nvb,Zt svb,Zs Avb nkb ckb,Zs Bvb nyb cyb,Zt sb,Zs Cb nxb cxb] 14 W rfl (λ b hb=>by have:=hFr b hb;have:=h.size;omega) ((hEB.bel hbA).bel h) hcb (Nat.le_refl _)).mono λ e W' hq=>hq.ex (G:=(λ b=>F b∨wr.heap.size<b)) λ b hb=>hb.imp id λ hb=>by have:=h.size;omega);have HXCr:=aW (And.intro (And.intro (λ (W:World) (h:ah F W1 W)=>RR.imp hb1 λ c y (hc:SR _ _ c y)=>(hc.bel hbA).keep h) (λ (W:World) (h:ah F W1 W)=>(hb3.keep (ah.of_below hbA)).keep h)) (And.intro hb2_ (And.intro hcbo hbl4)));have HXDr:=aW (And.intro (And.intro (λ (W:World) (h:ah F W1 W)=>RR.imp he1 λ c y (hc:SR _ _ c y)=>(hc.bel hbA).keep h) (λ (W:World) (h:ah F W1 W)=>(he3.keep (ah.of_below hbA)).keep h)) (And.intro he2 (And.intro hcel hel4)));have HNB:=aW (And.intro hnb hnl);obtain ⟨tn,hu⟩:∃ tn,s.take 20=tn:=⟨_,rfl⟩
    have HU:=aW hu;have HCU:=aW (λ W=>vG ⟨s.toArray⟩ 20 20 W rfl (by show s.toArray.size<=_;unfold maxLen;simp;omega));rw [eQ,hu] at HCU;clear hu;have HFR:=aW hFr;have HO1:=aW (mQ HO.out hbA);have HV1:=aW (RR.imp HV.out λ c y (hc:SR _ _ c y)=>(hc.mono (F':=λ b=>(FO (λ b=>F b∨w.heap.size<=b) row) b/\b<wr.heap.size) λ b hb hF=>⟨hF,hb⟩).bel hbA);have HRW:=aW (λ (j:Nat) (e:row.ownBlock=some j)=>HO.out.lt j e);have HA1:=aW hbA;have HWZ:=aW HWB.out.size;have HW1:=aW hW1;have hnG:∀ b,F b∨wr.heap.size<b->b≠wr.heap.size:=λ b hb=>by rcases hb with hb | hb;exact Nat.ne_of_lt (hFr b hb);omega
    clear hz hSR hEA hEB hb1 hb2_ hb3 he1 he2 he3 hca hcb hbl4 hel4 hcbo hcel hnb hnl hx hxm hbl hS1 hR1 hW1 hbA hFr hs1 hik hsl HO HV;go_upto_region 6 with fail;go_step;go_step;go_step;go_step;refine wpList_load_mid rfl 48 (.tmp 19) rfl bl (o+i*20) rfl [Zi Zq k,Zt ⟨s.toArray⟩,Zi Zq ka,Zi Zq kva,Zi Zq nva,Zt sva,Zs Ava nka cka,Zs Bva nya cya,Zt sa,Zs Ca nxa cxa,Zi Zq kb,Zi Zq kvb,Zi Zq nvb,Zt svb,Zs Avb nkb ckb,Zs Bvb nyb cyb,Zt sb,Zs Cb nxb cxb,Zs BA nb cb,Zs LA nl cl] _ HRG.out Tryz.underlying48 rfl (by kernel_rfl) ?_;go_step;go_step;go_step;refine cT rfl 48 (.tmp 7) (.tmp 20) rfl _ _ rfl rfl (by kernel_rfl) (by kernel_rfl) (by first | kernel_rfl | simp [Value.oneCell']) ?_;rw [HW1.out];clear HW1 HRG hlb;go_upto_region 7 with fail
    try dsimp only [Act.put]
    go_cut [] (λ wx => ∃ (acs bcs:List Value) (W:World),W=wx/\Hid (Blk W wr.heap.size 48 (([Zi Zq k,Zt ⟨tn.toArray⟩]:List Value)++acs++bcs++([Zs BA nb cb,Zs LA nl cl]:List Value)).toArray)/\Hid (ER W (λ b=>F b∨wr.heap.size<b) acs (dR 14 a))/\Hid (ER W (λ b=>F b∨wr.heap.size<b) bcs (dR 14 b))/\Hid (W1.grownBy W (some wr.heap.size)))
    case first =>
     apply x9 (R:=λ k8 k18 n18 s18 A18 na18 ca18 B18 nb18 cb18 s8 A28 n28 ca28 k9 k19 n19 s19 A19 na19 ca19 B19 nb19 cb19 s9 A29 n29 ca29 Z=>Blk Z wr.heap.size 48 #[Zi Zq k,Zt ⟨s.toArray⟩,Zi Zq ka,Zi Zq kva,Zi Zq nva,Zt sva,Zs Ava nka cka,Zs Bva nya cya,Zt sa,Zs Ca nxa cxa,Zi Zq kb,Zi Zq kvb,Zi Zq nvb,Zt svb,Zs Avb nkb ckb,Zs Bvb nyb cyb,Zt sb,Zs Cb nxb cxb,Zs BA nb cb,Zs LA nl cl]/\ER Z (λ b=>F b∨wr.heap.size<b) [Zi Zq k8,Zi Zq k18,Zi Zq n18,Zt s18,Zs A18 na18 ca18,Zs B18 nb18 cb18,Zt s8,Zs A28 n28 ca28] (dR 14 a)/\ER Z (λ b=>F b∨wr.heap.size<b) [Zi Zq k9,Zi Zq k19,Zi Zq n19,Zt s19,Zs A19 na19 ca19,Zs B19 nb19 cb19,Zt s9,Zs A29 n29 ca29] (dR 14 b)/\Below W1.heap.size W1 Z)
     case h =>
      intro HL;refine wp_region_held_drew (S:=λ _=>True) (by kernel_rfl) trivial (λ hHeld=>?_);refine ap (λ Z0 hw0=>?_);have HZ:=aW (show Below W1.heap.size W1 Z0 by rw [hw0];exact (Below.refl _ _).drew);have HBK:=aW (show Blk Z0 wr.heap.size 48 #[Zi Zq k,Zt ⟨s.toArray⟩,Zi Zq ka,Zi Zq kva,Zi Zq nva,Zt sva,Zs Ava nka cka,Zs Bva nya cya,Zt sa,Zs Ca nxa cxa,Zi Zq kb,Zi Zq kvb,Zi Zq nvb,Zt svb,Zs Avb nkb ckb,Zs Bvb nyb cyb,Zt sb,Zs Cb nxb cxb,Zs BA nb cb,Zs LA nl cl] by rw [hw0];exact HB1.out.drew);clear hw0;refine tA 0 21 (Zp (some ⟨wr.heap.size,1,none⟩)) rfl ?_;refine tA 3 24 (Zp (some ⟨wr.heap.size,2,none⟩)) rfl ?_;refine tA 6 27 (Zp (some ⟨wr.heap.size,10,none⟩)) rfl ?_;refine wpAnyH_ready (rs:=[1,4,7]) (by kernel_rfl) (by simp) ?_;refine AllReadyH.cons (o:=⟨some 22,_,_,_,_,_⟩) rfl (λ K hK=>?_) (AllReadyH.cons (o:=⟨some 25,_,_,_,_,_⟩) rfl (λ K hK=>?_) (AllReadyH.cons (o:=⟨some 28,_,_,_,_,_⟩) rfl (λ K hK=>?_) AllReadyH.nil))
      ·obtain ⟨c8,f8,l8⟩:=HBK.out.rules;go_simp;refine hK.out _ _ hHeld λ _=>?_
       clear hK K c8 f8 l8
       try simp only [pU]
       refine wpAnyH_ready (rs:=[2,4,7]) (by kernel_rfl) (by simp) ?_;refine AllReadyH.cons (o:=⟨some 23,_,_,_,_,_⟩) rfl (λ K hK=>?_) (AllReadyH.cons (o:=⟨some 25,_,_,_,_,_⟩) rfl (λ K hK=>?_) (AllReadyH.cons (o:=⟨some 28,_,_,_,_,_⟩) rfl (λ K hK=>?_) AllReadyH.nil))
       ·go_simp;refine (HCU.out _).mono ?_;rintro e Z1 ⟨rfl,hwc⟩;rw [hwc];refine hK.out _ _ hHeld λ _=>?_
        clear hK K hwc Z1
        try simp only [pU]
        refine wpAnyH_ready (rs:=[4,7]) (by kernel_rfl) (by simp) ?_;refine AllReadyH.cons (o:=⟨some 25,_,_,_,_,_⟩) rfl (λ K hK=>?_) (AllReadyH.cons (o:=⟨some 28,_,_,_,_,_⟩) rfl (λ K hK=>?_) AllReadyH.nil)
        ·obtain ⟨c8,f8,l8⟩:=HBK.out.rules;go_simp;refine hK.out _ _ hHeld λ _=>?_
         clear hK K c8 f8 l8
         try simp only [pU]
         refine wpAnyH_ready (rs:=[5,7]) (by kernel_rfl) (by simp) ?_;refine AllReadyH.cons (o:=⟨some 26,_,_,_,_,_⟩) rfl (λ K hK=>?_) (AllReadyH.cons (o:=⟨some 28,_,_,_,_,_⟩) rfl (λ K hK=>?_) AllReadyH.nil)
         ·go_simp;refine (HXA.out _ HZ.out).mono ?_;rintro e Z2 ⟨k8,k18,n18,s18,A18,na18,ca18,B18,nb18,cb18,s8,A28,n28,ca28,rfl,he,hb⟩;have HE8:=aW he;replace HBK:=aW (HBK.out.keep hb);replace HZ:=aW (HZ.out.trans (hb.mono HZ.out.size));refine hK.out _ _ hHeld λ _=>?_
          clear hK K hb he
          try simp only [pU]
          refine aV 7 28 rfl (λ K hK=>?_);obtain ⟨c8,f8,l8⟩:=HBK.out.rules;go_simp;refine hK.out _ _ hHeld λ _=>?_
          clear hK K c8 f8 l8
          try simp only [pU]
          refine tA 9 30 (Zp (some ⟨wr.heap.size,1,none⟩)) rfl ?_;refine aV 8 29 rfl (λ K hK=>?_);go_simp;refine (HXB.out _ HZ.out).mono ?_;rintro e Z3 ⟨k9,k19,n19,s19,A19,na19,ca19,B19,nb19,cb19,s9,A29,n29,ca29,rfl,he,hb⟩;have HE9:=aW he;replace HE8:=aW (HE8.out.bel hb);replace HBK:=aW (HBK.out.keep hb);replace HZ:=aW (HZ.out.trans (hb.mono HZ.out.size));refine hK.out _ _ hHeld λ _=>?_
          clear hK K hb he
          try simp only [pU]
          refine bF (l':=#[true,true,true,true,true,true,true,true,true,true,false,false,false,false,false]) (by kernel_rfl) ?_;exact HL _ _ _ _ _ _ _ _ _ _ _ _ _ _ _ _ _ _ _ _ _ _ _ _ _ _ _ _ _ ⟨HBK.out,HE8.out,HE9.out,HZ.out⟩
         ·obtain ⟨c8,f8,l8⟩:=HBK.out.rules;go_simp;refine hK.out _ _ hHeld λ _=>?_
          clear hK K c8 f8 l8
          try simp only [pU]
          refine tA 9 30 (Zp (some ⟨wr.heap.size,1,none⟩)) rfl ?_;refine aV 5 26 rfl (λ K hK=>?_);go_simp;refine (HXA.out _ HZ.out).mono ?_;rintro e Z4 ⟨k8,k18,n18,s18,A18,na18,ca18,B18,nb18,cb18,s8,A28,n28,ca28,rfl,he,hb⟩;have HE8:=aW he;replace HBK:=aW (HBK.out.keep hb);replace HZ:=aW (HZ.out.trans (hb.mono HZ.out.size));refine hK.out _ _ hHeld λ _=>?_
          clear hK K hb he
          try simp only [pU]
          refine aV 8 29 rfl (λ K hK=>?_);go_simp;refine (HXB.out _ HZ.out).mono ?_;rintro e Z5 ⟨k9,k19,n19,s19,A19,na19,ca19,B19,nb19,cb19,s9,A29,n29,ca29,rfl,he,hb⟩;have HE9:=aW he;replace HE8:=aW (HE8.out.bel hb);replace HBK:=aW (HBK.out.keep hb);replace HZ:=aW (HZ.out.trans (hb.mono HZ.out.size));refine hK.out _ _ hHeld λ _=>?_
          clear hK K hb he
          try simp only [pU]
          refine bF (l':=#[true,true,true,true,true,true,true,true,true,true,false,false,false,false,false]) (by kernel_rfl) ?_;exact HL _ _ _ _ _ _ _ _ _ _ _ _ _ _ _ _ _ _ _ _ _ _ _ _ _ _ _ _ _ ⟨HBK.out,HE8.out,HE9.out,HZ.out⟩
        ·obtain ⟨c8,f8,l8⟩:=HBK.out.rules;go_simp;refine hK.out _ _ hHeld λ _=>?_
         clear hK K c8 f8 l8
         try simp only [pU]
         refine aV 4 25 rfl (λ K hK=>?_);obtain ⟨c8,f8,l8⟩:=HBK.out.rules;go_simp;refine hK.out _ _ hHeld λ _=>?_
         clear hK K c8 f8 l8
         try simp only [pU]
         refine tA 9 30 (Zp (some ⟨wr.heap.size,1,none⟩)) rfl ?_;refine aV 5 26 rfl (λ K hK=>?_);go_simp;refine (HXA.out _ HZ.out).mono ?_;rintro e Z6 ⟨k8,k18,n18,s18,A18,na18,ca18,B18,nb18,cb18,s8,A28,n28,ca28,rfl,he,hb⟩;have HE8:=aW he;replace HBK:=aW (HBK.out.keep hb);replace HZ:=aW (HZ.out.trans (hb.mono HZ.out.size));refine hK.out _ _ hHeld λ _=>?_
         clear hK K hb he
         try simp only [pU]
         refine aV 8 29 rfl (λ K hK=>?_);go_simp;refine (HXB.out _ HZ.out).mono ?_;rintro e Z7 ⟨k9,k19,n19,s19,A19,na19,ca19,B19,nb19,cb19,s9,A29,n29,ca29,rfl,he,hb⟩;have HE9:=aW he;replace HE8:=aW (HE8.out.bel hb);replace HBK:=aW (HBK.out.keep hb);replace HZ:=aW (HZ.out.trans (hb.mono HZ.out.size));refine hK.out _ _ hHeld λ _=>?_
         clear hK K hb he
         try simp only [pU]
         refine bF (l':=#[true,true,true,true,true,true,true,true,true,true,false,false,false,false,false]) (by kernel_rfl) ?_;exact HL _ _ _ _ _ _ _ _ _ _ _ _ _ _ _ _ _ _ _ _ _ _ _ _ _ _ _ _ _ ⟨HBK.out,HE8.out,HE9.out,HZ.out⟩
       ·obtain ⟨c8,f8,l8⟩:=HBK.out.rules;go_simp;refine hK.out _ _ hHeld λ _=>?_
        clear hK K c8 f8 l8
        try simp only [pU]
        refine wpAnyH_ready (rs:=[2,7]) (by kernel_rfl) (by simp) ?_;refine AllReadyH.cons (o:=⟨some 23,_,_,_,_,_⟩) rfl (λ K hK=>?_) (AllReadyH.cons (o:=⟨some 28,_,_,_,_,_⟩) rfl (λ K hK=>?_) AllReadyH.nil)
        ·go_simp;refine (HCU.out _).mono ?_;rintro e Z8 ⟨rfl,hwc⟩;rw [hwc];refine hK.out _ _ hHeld λ _=>?_
         clear hK K hwc Z8
         try simp only [pU]
         refine wpAnyH_ready (rs:=[5,7]) (by kernel_rfl) (by simp) ?_;refine AllReadyH.cons (o:=⟨some 26,_,_,_,_,_⟩) rfl (λ K hK=>?_) (AllReadyH.cons (o:=⟨some 28,_,_,_,_,_⟩) rfl (λ K hK=>?_) AllReadyH.nil)
         ·go_simp;refine (HXA.out _ HZ.out).mono ?_;rintro e Z9 ⟨k8,k18,n18,s18,A18,na18,ca18,B18,nb18,cb18,s8,A28,n28,ca28,rfl,he,hb⟩;have HE8:=aW he;replace HBK:=aW (HBK.out.keep hb);replace HZ:=aW (HZ.out.trans (hb.mono HZ.out.size));refine hK.out _ _ hHeld λ _=>?_
          clear hK K hb he
          try simp only [pU]
          refine aV 7 28 rfl (λ K hK=>?_);obtain ⟨c8,f8,l8⟩:=HBK.out.rules;go_simp;refine hK.out _ _ hHeld λ _=>?_
          clear hK K c8 f8 l8
          try simp only [pU]
          refine tA 9 30 (Zp (some ⟨wr.heap.size,1,none⟩)) rfl ?_;refine aV 8 29 rfl (λ K hK=>?_);go_simp;refine (HXB.out _ HZ.out).mono ?_;rintro e Z10 ⟨k9,k19,n19,s19,A19,na19,ca19,B19,nb19,cb19,s9,A29,n29,ca29,rfl,he,hb⟩;have HE9:=aW he;replace HE8:=aW (HE8.out.bel hb);replace HBK:=aW (HBK.out.keep hb);replace HZ:=aW (HZ.out.trans (hb.mono HZ.out.size));refine hK.out _ _ hHeld λ _=>?_
          clear hK K hb he
          try simp only [pU]
          refine bF (l':=#[true,true,true,true,true,true,true,true,true,true,false,false,false,false,false]) (by kernel_rfl) ?_;exact HL _ _ _ _ _ _ _ _ _ _ _ _ _ _ _ _ _ _ _ _ _ _ _ _ _ _ _ _ _ ⟨HBK.out,HE8.out,HE9.out,HZ.out⟩
         ·obtain ⟨c8,f8,l8⟩:=HBK.out.rules;go_simp;refine hK.out _ _ hHeld λ _=>?_
          clear hK K c8 f8 l8
          try simp only [pU]
          refine tA 9 30 (Zp (some ⟨wr.heap.size,1,none⟩)) rfl ?_;refine aV 5 26 rfl (λ K hK=>?_);go_simp;refine (HXA.out _ HZ.out).mono ?_;rintro e Z11 ⟨k8,k18,n18,s18,A18,na18,ca18,B18,nb18,cb18,s8,A28,n28,ca28,rfl,he,hb⟩;have HE8:=aW he;replace HBK:=aW (HBK.out.keep hb);replace HZ:=aW (HZ.out.trans (hb.mono HZ.out.size));refine hK.out _ _ hHeld λ _=>?_
          clear hK K hb he
          try simp only [pU]
          refine aV 8 29 rfl (λ K hK=>?_);go_simp;refine (HXB.out _ HZ.out).mono ?_;rintro e Z12 ⟨k9,k19,n19,s19,A19,na19,ca19,B19,nb19,cb19,s9,A29,n29,ca29,rfl,he,hb⟩;have HE9:=aW he;replace HE8:=aW (HE8.out.bel hb);replace HBK:=aW (HBK.out.keep hb);replace HZ:=aW (HZ.out.trans (hb.mono HZ.out.size));refine hK.out _ _ hHeld λ _=>?_
          clear hK K hb he
          try simp only [pU]
          refine bF (l':=#[true,true,true,true,true,true,true,true,true,true,false,false,false,false,false]) (by kernel_rfl) ?_;exact HL _ _ _ _ _ _ _ _ _ _ _ _ _ _ _ _ _ _ _ _ _ _ _ _ _ _ _ _ _ ⟨HBK.out,HE8.out,HE9.out,HZ.out⟩
        ·obtain ⟨c8,f8,l8⟩:=HBK.out.rules;go_simp;refine hK.out _ _ hHeld λ _=>?_
         clear hK K c8 f8 l8
         try simp only [pU]
         refine aV 2 23 rfl (λ K hK=>?_);go_simp;refine (HCU.out _).mono ?_;rintro e Z13 ⟨rfl,hwc⟩;rw [hwc];refine hK.out _ _ hHeld λ _=>?_
         clear hK K hwc Z13
         try simp only [pU]
         refine tA 9 30 (Zp (some ⟨wr.heap.size,1,none⟩)) rfl ?_;refine aV 5 26 rfl (λ K hK=>?_);go_simp;refine (HXA.out _ HZ.out).mono ?_;rintro e Z14 ⟨k8,k18,n18,s18,A18,na18,ca18,B18,nb18,cb18,s8,A28,n28,ca28,rfl,he,hb⟩;have HE8:=aW he;replace HBK:=aW (HBK.out.keep hb);replace HZ:=aW (HZ.out.trans (hb.mono HZ.out.size));refine hK.out _ _ hHeld λ _=>?_
         clear hK K hb he
         try simp only [pU]
         refine aV 8 29 rfl (λ K hK=>?_);go_simp;refine (HXB.out _ HZ.out).mono ?_;rintro e Z15 ⟨k9,k19,n19,s19,A19,na19,ca19,B19,nb19,cb19,s9,A29,n29,ca29,rfl,he,hb⟩;have HE9:=aW he;replace HE8:=aW (HE8.out.bel hb);replace HBK:=aW (HBK.out.keep hb);replace HZ:=aW (HZ.out.trans (hb.mono HZ.out.size));refine hK.out _ _ hHeld λ _=>?_
         clear hK K hb he
         try simp only [pU]
         refine bF (l':=#[true,true,true,true,true,true,true,true,true,true,false,false,false,false,false]) (by kernel_rfl) ?_;exact HL _ _ _ _ _ _ _ _ _ _ _ _ _ _ _ _ _ _ _ _ _ _ _ _ _ _ _ _ _ ⟨HBK.out,HE8.out,HE9.out,HZ.out⟩
       ·obtain ⟨c8,f8,l8⟩:=HBK.out.rules;go_simp;refine hK.out _ _ hHeld λ _=>?_
        clear hK K c8 f8 l8
        try simp only [pU]
        refine wpAnyH_ready (rs:=[2,4]) (by kernel_rfl) (by simp) ?_;refine AllReadyH.cons (o:=⟨some 23,_,_,_,_,_⟩) rfl (λ K hK=>?_) (AllReadyH.cons (o:=⟨some 25,_,_,_,_,_⟩) rfl (λ K hK=>?_) AllReadyH.nil)
        ·go_simp;refine (HCU.out _).mono ?_;rintro e Z16 ⟨rfl,hwc⟩;rw [hwc];refine hK.out _ _ hHeld λ _=>?_
         clear hK K hwc Z16
         try simp only [pU]
         refine aV 4 25 rfl (λ K hK=>?_);obtain ⟨c8,f8,l8⟩:=HBK.out.rules;go_simp;refine hK.out _ _ hHeld λ _=>?_
         clear hK K c8 f8 l8
         try simp only [pU]
         refine tA 9 30 (Zp (some ⟨wr.heap.size,1,none⟩)) rfl ?_;refine aV 5 26 rfl (λ K hK=>?_);go_simp;refine (HXA.out _ HZ.out).mono ?_;rintro e Z17 ⟨k8,k18,n18,s18,A18,na18,ca18,B18,nb18,cb18,s8,A28,n28,ca28,rfl,he,hb⟩;have HE8:=aW he;replace HBK:=aW (HBK.out.keep hb);replace HZ:=aW (HZ.out.trans (hb.mono HZ.out.size));refine hK.out _ _ hHeld λ _=>?_
         clear hK K hb he
         try simp only [pU]
         refine aV 8 29 rfl (λ K hK=>?_);go_simp;refine (HXB.out _ HZ.out).mono ?_;rintro e Z18 ⟨k9,k19,n19,s19,A19,na19,ca19,B19,nb19,cb19,s9,A29,n29,ca29,rfl,he,hb⟩;have HE9:=aW he;replace HE8:=aW (HE8.out.bel hb);replace HBK:=aW (HBK.out.keep hb);replace HZ:=aW (HZ.out.trans (hb.mono HZ.out.size));refine hK.out _ _ hHeld λ _=>?_
         clear hK K hb he
         try simp only [pU]
         refine bF (l':=#[true,true,true,true,true,true,true,true,true,true,false,false,false,false,false]) (by kernel_rfl) ?_;exact HL _ _ _ _ _ _ _ _ _ _ _ _ _ _ _ _ _ _ _ _ _ _ _ _ _ _ _ _ _ ⟨HBK.out,HE8.out,HE9.out,HZ.out⟩
        ·obtain ⟨c8,f8,l8⟩:=HBK.out.rules;go_simp;refine hK.out _ _ hHeld λ _=>?_
         clear hK K c8 f8 l8
         try simp only [pU]
         refine aV 2 23 rfl (λ K hK=>?_);go_simp;refine (HCU.out _).mono ?_;rintro e Z19 ⟨rfl,hwc⟩;rw [hwc];refine hK.out _ _ hHeld λ _=>?_
         clear hK K hwc Z19
         try simp only [pU]
         refine tA 9 30 (Zp (some ⟨wr.heap.size,1,none⟩)) rfl ?_;refine aV 5 26 rfl (λ K hK=>?_);go_simp;refine (HXA.out _ HZ.out).mono ?_;rintro e Z20 ⟨k8,k18,n18,s18,A18,na18,ca18,B18,nb18,cb18,s8,A28,n28,ca28,rfl,he,hb⟩;have HE8:=aW he;replace HBK:=aW (HBK.out.keep hb);replace HZ:=aW (HZ.out.trans (hb.mono HZ.out.size));refine hK.out _ _ hHeld λ _=>?_
         clear hK K hb he
         try simp only [pU]
         refine aV 8 29 rfl (λ K hK=>?_);go_simp;refine (HXB.out _ HZ.out).mono ?_;rintro e Z21 ⟨k9,k19,n19,s19,A19,na19,ca19,B19,nb19,cb19,s9,A29,n29,ca29,rfl,he,hb⟩;have HE9:=aW he;replace HE8:=aW (HE8.out.bel hb);replace HBK:=aW (HBK.out.keep hb);replace HZ:=aW (HZ.out.trans (hb.mono HZ.out.size));refine hK.out _ _ hHeld λ _=>?_
         clear hK K hb he
         try simp only [pU]
         refine bF (l':=#[true,true,true,true,true,true,true,true,true,true,false,false,false,false,false]) (by kernel_rfl) ?_;exact HL _ _ _ _ _ _ _ _ _ _ _ _ _ _ _ _ _ _ _ _ _ _ _ _ _ _ _ _ _ ⟨HBK.out,HE8.out,HE9.out,HZ.out⟩
      ·obtain ⟨c8,f8,l8⟩:=HBK.out.rules;go_simp;refine hK.out _ _ hHeld λ _=>?_
       clear hK K c8 f8 l8
       try simp only [pU]
       refine wpAnyH_ready (rs:=[1,7]) (by kernel_rfl) (by simp) ?_;refine AllReadyH.cons (o:=⟨some 22,_,_,_,_,_⟩) rfl (λ K hK=>?_) (AllReadyH.cons (o:=⟨some 28,_,_,_,_,_⟩) rfl (λ K hK=>?_) AllReadyH.nil)
       ·obtain ⟨c8,f8,l8⟩:=HBK.out.rules;go_simp;refine hK.out _ _ hHeld λ _=>?_
        clear hK K c8 f8 l8
        try simp only [pU]
        refine wpAnyH_ready (rs:=[2,7]) (by kernel_rfl) (by simp) ?_;refine AllReadyH.cons (o:=⟨some 23,_,_,_,_,_⟩) rfl (λ K hK=>?_) (AllReadyH.cons (o:=⟨some 28,_,_,_,_,_⟩) rfl (λ K hK=>?_) AllReadyH.nil)
        ·go_simp;refine (HCU.out _).mono ?_;rintro e Z22 ⟨rfl,hwc⟩;rw [hwc];refine hK.out _ _ hHeld λ _=>?_
         clear hK K hwc Z22
         try simp only [pU]
         refine wpAnyH_ready (rs:=[5,7]) (by kernel_rfl) (by simp) ?_;refine AllReadyH.cons (o:=⟨some 26,_,_,_,_,_⟩) rfl (λ K hK=>?_) (AllReadyH.cons (o:=⟨some 28,_,_,_,_,_⟩) rfl (λ K hK=>?_) AllReadyH.nil)
         ·go_simp;refine (HXA.out _ HZ.out).mono ?_;rintro e Z23 ⟨k8,k18,n18,s18,A18,na18,ca18,B18,nb18,cb18,s8,A28,n28,ca28,rfl,he,hb⟩;have HE8:=aW he;replace HBK:=aW (HBK.out.keep hb);replace HZ:=aW (HZ.out.trans (hb.mono HZ.out.size));refine hK.out _ _ hHeld λ _=>?_
          clear hK K hb he
          try simp only [pU]
          refine aV 7 28 rfl (λ K hK=>?_);obtain ⟨c8,f8,l8⟩:=HBK.out.rules;go_simp;refine hK.out _ _ hHeld λ _=>?_
          clear hK K c8 f8 l8
          try simp only [pU]
          refine tA 9 30 (Zp (some ⟨wr.heap.size,1,none⟩)) rfl ?_;refine aV 8 29 rfl (λ K hK=>?_);go_simp;refine (HXB.out _ HZ.out).mono ?_;rintro e Z24 ⟨k9,k19,n19,s19,A19,na19,ca19,B19,nb19,cb19,s9,A29,n29,ca29,rfl,he,hb⟩;have HE9:=aW he;replace HE8:=aW (HE8.out.bel hb);replace HBK:=aW (HBK.out.keep hb);replace HZ:=aW (HZ.out.trans (hb.mono HZ.out.size));refine hK.out _ _ hHeld λ _=>?_
          clear hK K hb he
          try simp only [pU]
          refine bF (l':=#[true,true,true,true,true,true,true,true,true,true,false,false,false,false,false]) (by kernel_rfl) ?_;exact HL _ _ _ _ _ _ _ _ _ _ _ _ _ _ _ _ _ _ _ _ _ _ _ _ _ _ _ _ _ ⟨HBK.out,HE8.out,HE9.out,HZ.out⟩
         ·obtain ⟨c8,f8,l8⟩:=HBK.out.rules;go_simp;refine hK.out _ _ hHeld λ _=>?_
          clear hK K c8 f8 l8
          try simp only [pU]
          refine tA 9 30 (Zp (some ⟨wr.heap.size,1,none⟩)) rfl ?_;refine aV 5 26 rfl (λ K hK=>?_);go_simp;refine (HXA.out _ HZ.out).mono ?_;rintro e Z25 ⟨k8,k18,n18,s18,A18,na18,ca18,B18,nb18,cb18,s8,A28,n28,ca28,rfl,he,hb⟩;have HE8:=aW he;replace HBK:=aW (HBK.out.keep hb);replace HZ:=aW (HZ.out.trans (hb.mono HZ.out.size));refine hK.out _ _ hHeld λ _=>?_
          clear hK K hb he
          try simp only [pU]
          refine aV 8 29 rfl (λ K hK=>?_);go_simp;refine (HXB.out _ HZ.out).mono ?_;rintro e Z26 ⟨k9,k19,n19,s19,A19,na19,ca19,B19,nb19,cb19,s9,A29,n29,ca29,rfl,he,hb⟩;have HE9:=aW he;replace HE8:=aW (HE8.out.bel hb);replace HBK:=aW (HBK.out.keep hb);replace HZ:=aW (HZ.out.trans (hb.mono HZ.out.size));refine hK.out _ _ hHeld λ _=>?_
          clear hK K hb he
          try simp only [pU]
          refine bF (l':=#[true,true,true,true,true,true,true,true,true,true,false,false,false,false,false]) (by kernel_rfl) ?_;exact HL _ _ _ _ _ _ _ _ _ _ _ _ _ _ _ _ _ _ _ _ _ _ _ _ _ _ _ _ _ ⟨HBK.out,HE8.out,HE9.out,HZ.out⟩
        ·obtain ⟨c8,f8,l8⟩:=HBK.out.rules;go_simp;refine hK.out _ _ hHeld λ _=>?_
         clear hK K c8 f8 l8
         try simp only [pU]
         refine aV 2 23 rfl (λ K hK=>?_);go_simp;refine (HCU.out _).mono ?_;rintro e Z27 ⟨rfl,hwc⟩;rw [hwc];refine hK.out _ _ hHeld λ _=>?_
         clear hK K hwc Z27
         try simp only [pU]
         refine tA 9 30 (Zp (some ⟨wr.heap.size,1,none⟩)) rfl ?_;refine aV 5 26 rfl (λ K hK=>?_);go_simp;refine (HXA.out _ HZ.out).mono ?_;rintro e Z28 ⟨k8,k18,n18,s18,A18,na18,ca18,B18,nb18,cb18,s8,A28,n28,ca28,rfl,he,hb⟩;have HE8:=aW he;replace HBK:=aW (HBK.out.keep hb);replace HZ:=aW (HZ.out.trans (hb.mono HZ.out.size));refine hK.out _ _ hHeld λ _=>?_
         clear hK K hb he
         try simp only [pU]
         refine aV 8 29 rfl (λ K hK=>?_);go_simp;refine (HXB.out _ HZ.out).mono ?_;rintro e Z29 ⟨k9,k19,n19,s19,A19,na19,ca19,B19,nb19,cb19,s9,A29,n29,ca29,rfl,he,hb⟩;have HE9:=aW he;replace HE8:=aW (HE8.out.bel hb);replace HBK:=aW (HBK.out.keep hb);replace HZ:=aW (HZ.out.trans (hb.mono HZ.out.size));refine hK.out _ _ hHeld λ _=>?_
         clear hK K hb he
         try simp only [pU]
         refine bF (l':=#[true,true,true,true,true,true,true,true,true,true,false,false,false,false,false]) (by kernel_rfl) ?_;exact HL _ _ _ _ _ _ _ _ _ _ _ _ _ _ _ _ _ _ _ _ _ _ _ _ _ _ _ _ _ ⟨HBK.out,HE8.out,HE9.out,HZ.out⟩
       ·obtain ⟨c8,f8,l8⟩:=HBK.out.rules;go_simp;refine hK.out _ _ hHeld λ _=>?_
        clear hK K c8 f8 l8
        try simp only [pU]
        refine aV 1 22 rfl (λ K hK=>?_);obtain ⟨c8,f8,l8⟩:=HBK.out.rules;go_simp;refine hK.out _ _ hHeld λ _=>?_
        clear hK K c8 f8 l8
        try simp only [pU]
        refine aV 2 23 rfl (λ K hK=>?_);go_simp;refine (HCU.out _).mono ?_;rintro e Z30 ⟨rfl,hwc⟩;rw [hwc];refine hK.out _ _ hHeld λ _=>?_
        clear hK K hwc Z30
        try simp only [pU]
        refine tA 9 30 (Zp (some ⟨wr.heap.size,1,none⟩)) rfl ?_;refine aV 5 26 rfl (λ K hK=>?_);go_simp;refine (HXA.out _ HZ.out).mono ?_;rintro e Z31 ⟨k8,k18,n18,s18,A18,na18,ca18,B18,nb18,cb18,s8,A28,n28,ca28,rfl,he,hb⟩;have HE8:=aW he;replace HBK:=aW (HBK.out.keep hb);replace HZ:=aW (HZ.out.trans (hb.mono HZ.out.size));refine hK.out _ _ hHeld λ _=>?_
        clear hK K hb he
        try simp only [pU]
        refine aV 8 29 rfl (λ K hK=>?_);go_simp;refine (HXB.out _ HZ.out).mono ?_;rintro e Z32 ⟨k9,k19,n19,s19,A19,na19,ca19,B19,nb19,cb19,s9,A29,n29,ca29,rfl,he,hb⟩;have HE9:=aW he;replace HE8:=aW (HE8.out.bel hb);replace HBK:=aW (HBK.out.keep hb);replace HZ:=aW (HZ.out.trans (hb.mono HZ.out.size));refine hK.out _ _ hHeld λ _=>?_
        clear hK K hb he
        try simp only [pU]
        refine bF (l':=#[true,true,true,true,true,true,true,true,true,true,false,false,false,false,false]) (by kernel_rfl) ?_;exact HL _ _ _ _ _ _ _ _ _ _ _ _ _ _ _ _ _ _ _ _ _ _ _ _ _ _ _ _ _ ⟨HBK.out,HE8.out,HE9.out,HZ.out⟩
      ·obtain ⟨c8,f8,l8⟩:=HBK.out.rules;go_simp;refine hK.out _ _ hHeld λ _=>?_
       clear hK K c8 f8 l8
       try simp only [pU]
       refine wpAnyH_ready (rs:=[1,4]) (by kernel_rfl) (by simp) ?_;refine AllReadyH.cons (o:=⟨some 22,_,_,_,_,_⟩) rfl (λ K hK=>?_) (AllReadyH.cons (o:=⟨some 25,_,_,_,_,_⟩) rfl (λ K hK=>?_) AllReadyH.nil)
       ·obtain ⟨c8,f8,l8⟩:=HBK.out.rules;go_simp;refine hK.out _ _ hHeld λ _=>?_
        clear hK K c8 f8 l8
        try simp only [pU]
        refine wpAnyH_ready (rs:=[2,4]) (by kernel_rfl) (by simp) ?_;refine AllReadyH.cons (o:=⟨some 23,_,_,_,_,_⟩) rfl (λ K hK=>?_) (AllReadyH.cons (o:=⟨some 25,_,_,_,_,_⟩) rfl (λ K hK=>?_) AllReadyH.nil)
        ·go_simp;refine (HCU.out _).mono ?_;rintro e Z33 ⟨rfl,hwc⟩;rw [hwc];refine hK.out _ _ hHeld λ _=>?_
         clear hK K hwc Z33
         try simp only [pU]
         refine aV 4 25 rfl (λ K hK=>?_);obtain ⟨c8,f8,l8⟩:=HBK.out.rules;go_simp;refine hK.out _ _ hHeld λ _=>?_
         clear hK K c8 f8 l8
         try simp only [pU]
         refine tA 9 30 (Zp (some ⟨wr.heap.size,1,none⟩)) rfl ?_;refine aV 5 26 rfl (λ K hK=>?_);go_simp;refine (HXA.out _ HZ.out).mono ?_;rintro e Z34 ⟨k8,k18,n18,s18,A18,na18,ca18,B18,nb18,cb18,s8,A28,n28,ca28,rfl,he,hb⟩;have HE8:=aW he;replace HBK:=aW (HBK.out.keep hb);replace HZ:=aW (HZ.out.trans (hb.mono HZ.out.size));refine hK.out _ _ hHeld λ _=>?_
         clear hK K hb he
         try simp only [pU]
         refine aV 8 29 rfl (λ K hK=>?_);go_simp;refine (HXB.out _ HZ.out).mono ?_;rintro e Z35 ⟨k9,k19,n19,s19,A19,na19,ca19,B19,nb19,cb19,s9,A29,n29,ca29,rfl,he,hb⟩;have HE9:=aW he;replace HE8:=aW (HE8.out.bel hb);replace HBK:=aW (HBK.out.keep hb);replace HZ:=aW (HZ.out.trans (hb.mono HZ.out.size));refine hK.out _ _ hHeld λ _=>?_
         clear hK K hb he
         try simp only [pU]
         refine bF (l':=#[true,true,true,true,true,true,true,true,true,true,false,false,false,false,false]) (by kernel_rfl) ?_;exact HL _ _ _ _ _ _ _ _ _ _ _ _ _ _ _ _ _ _ _ _ _ _ _ _ _ _ _ _ _ ⟨HBK.out,HE8.out,HE9.out,HZ.out⟩
        ·obtain ⟨c8,f8,l8⟩:=HBK.out.rules;go_simp;refine hK.out _ _ hHeld λ _=>?_
         clear hK K c8 f8 l8
         try simp only [pU]
         refine aV 2 23 rfl (λ K hK=>?_);go_simp;refine (HCU.out _).mono ?_;rintro e Z36 ⟨rfl,hwc⟩;rw [hwc];refine hK.out _ _ hHeld λ _=>?_
         clear hK K hwc Z36
         try simp only [pU]
         refine tA 9 30 (Zp (some ⟨wr.heap.size,1,none⟩)) rfl ?_;refine aV 5 26 rfl (λ K hK=>?_);go_simp;refine (HXA.out _ HZ.out).mono ?_;rintro e Z37 ⟨k8,k18,n18,s18,A18,na18,ca18,B18,nb18,cb18,s8,A28,n28,ca28,rfl,he,hb⟩;have HE8:=aW he;replace HBK:=aW (HBK.out.keep hb);replace HZ:=aW (HZ.out.trans (hb.mono HZ.out.size));refine hK.out _ _ hHeld λ _=>?_
         clear hK K hb he
         try simp only [pU]
         refine aV 8 29 rfl (λ K hK=>?_);go_simp;refine (HXB.out _ HZ.out).mono ?_;rintro e Z38 ⟨k9,k19,n19,s19,A19,na19,ca19,B19,nb19,cb19,s9,A29,n29,ca29,rfl,he,hb⟩;have HE9:=aW he;replace HE8:=aW (HE8.out.bel hb);replace HBK:=aW (HBK.out.keep hb);replace HZ:=aW (HZ.out.trans (hb.mono HZ.out.size));refine hK.out _ _ hHeld λ _=>?_
         clear hK K hb he
         try simp only [pU]
         refine bF (l':=#[true,true,true,true,true,true,true,true,true,true,false,false,false,false,false]) (by kernel_rfl) ?_;exact HL _ _ _ _ _ _ _ _ _ _ _ _ _ _ _ _ _ _ _ _ _ _ _ _ _ _ _ _ _ ⟨HBK.out,HE8.out,HE9.out,HZ.out⟩
       ·obtain ⟨c8,f8,l8⟩:=HBK.out.rules;go_simp;refine hK.out _ _ hHeld λ _=>?_
        clear hK K c8 f8 l8
        try simp only [pU]
        refine aV 1 22 rfl (λ K hK=>?_);obtain ⟨c8,f8,l8⟩:=HBK.out.rules;go_simp;refine hK.out _ _ hHeld λ _=>?_
        clear hK K c8 f8 l8
        try simp only [pU]
        refine aV 2 23 rfl (λ K hK=>?_);go_simp;refine (HCU.out _).mono ?_;rintro e Z39 ⟨rfl,hwc⟩;rw [hwc];refine hK.out _ _ hHeld λ _=>?_
        clear hK K hwc Z39
        try simp only [pU]
        refine tA 9 30 (Zp (some ⟨wr.heap.size,1,none⟩)) rfl ?_;refine aV 5 26 rfl (λ K hK=>?_);go_simp;refine (HXA.out _ HZ.out).mono ?_;rintro e Z40 ⟨k8,k18,n18,s18,A18,na18,ca18,B18,nb18,cb18,s8,A28,n28,ca28,rfl,he,hb⟩;have HE8:=aW he;replace HBK:=aW (HBK.out.keep hb);replace HZ:=aW (HZ.out.trans (hb.mono HZ.out.size));refine hK.out _ _ hHeld λ _=>?_
        clear hK K hb he
        try simp only [pU]
        refine aV 8 29 rfl (λ K hK=>?_);go_simp;refine (HXB.out _ HZ.out).mono ?_;rintro e Z41 ⟨k9,k19,n19,s19,A19,na19,ca19,B19,nb19,cb19,s9,A29,n29,ca29,rfl,he,hb⟩;have HE9:=aW he;replace HE8:=aW (HE8.out.bel hb);replace HBK:=aW (HBK.out.keep hb);replace HZ:=aW (HZ.out.trans (hb.mono HZ.out.size));refine hK.out _ _ hHeld λ _=>?_
        clear hK K hb he
        try simp only [pU]
        refine bF (l':=#[true,true,true,true,true,true,true,true,true,true,false,false,false,false,false]) (by kernel_rfl) ?_;exact HL _ _ _ _ _ _ _ _ _ _ _ _ _ _ _ _ _ _ _ _ _ _ _ _ _ _ _ _ _ ⟨HBK.out,HE8.out,HE9.out,HZ.out⟩
     case hleaf =>
      rintro k8 k18 n18 s18 A18 na18 ca18 B18 nb18 cb18 s8 A28 n28 ca28 k9 k19 n19 s19 A19 na19 ca19 B19 nb19 cb19 s9 A29 n29 ca29 Z ⟨hbk,he8,he9,hz⟩;have HBK:=aW hbk;have HE8:=aW he8;have HE9:=aW he9;have HZ:=aW hz;clear hbk he8 he9 hz;have hHeld:True:=trivial;have HK:=aW (ah.refl (F:=(λ b=>F b∨wr.heap.size<b)) (W:=Z));have HGB:=aW (aD HZ.out (some wr.heap.size));refine aU 10 rfl (λ K hK=>?_);obtain ⟨c8,f8,l8⟩:=HBK.out.rules;go_simp;have HBK2:=aW (HBK.out.set_ 1 (Zt ⟨tn.toArray⟩));have HK2:=aW (ah.setC (F:=(λ b=>F b∨wr.heap.size<b)) hnG [Zt ⟨tn.toArray⟩] 1 HK.out);have HGB2:=aW (eD [Zt ⟨tn.toArray⟩] 1 HGB.out);refine hK.out _ _ trivial (λ hHeld2=>?_);clear hK K hHeld HBK HK HGB c8 f8 l8;have hHeld:=hHeld2;have HBK:=HBK2;have HK:=HK2;have HGB:=HGB2;clear hHeld2 HBK2 HK2 HGB2
      try simp only [pU]
      refine ap (λ Y hY=>?_);rw [show Z.setCell ⟨wr.heap.size,1,none⟩ (Zt ⟨tn.toArray⟩)=Y from hY.symm] at HBK;rw [show Z.setCells wr.heap.size 1 [Zt ⟨tn.toArray⟩]=Y from hY.symm] at HK HGB;clear hY;refine tA 11 31 (Zp (some ⟨wr.heap.size,2,none⟩)) rfl ?_;refine aU 12 rfl (λ K hK=>?_);rw [if_pos (by kernel_rfl)];refine wp_store_mid 45 (.tmp 31) (.tmp 26) rfl wr.heap.size 2 #[Zi Zq k8,Zi Zq k18,Zi Zq n18,Zt s18,Zs A18 na18 ca18,Zs B18 nb18 cb18,Zt s8,Zs A28 n28 ca28] rfl rfl (HBK.out.thereAt (o:=2) (n:=8) (by simp)) (by kernel_rfl) (by first | kernel_rfl | simp [Value.oneCell']) ?_;have HBK2:=aW (HBK.out.setSA (Zi Zq k8) (Zi Zq k18) (Zi Zq n18) (Zt s18) (Zs A18 na18 ca18) (Zs B18 nb18 cb18) (Zt s8) (Zs A28 n28 ca28));have HK2:=aW (ah.setC (F:=(λ b=>F b∨wr.heap.size<b)) hnG [Zi Zq k8,Zi Zq k18,Zi Zq n18,Zt s18,Zs A18 na18 ca18,Zs B18 nb18 cb18,Zt s8,Zs A28 n28 ca28] 2 HK.out);have HGB2:=aW (eD [Zi Zq k8,Zi Zq k18,Zi Zq n18,Zt s18,Zs A18 na18 ca18,Zs B18 nb18 cb18,Zt s8,Zs A28 n28 ca28] 2 HGB.out);refine hK.out _ _ trivial (λ hHeld2=>?_);clear hK K hHeld HBK HK HGB;have hHeld:=hHeld2;have HBK:=HBK2;have HK:=HK2;have HGB:=HGB2;clear hHeld2 HBK2 HK2 HGB2
      try simp only [pU]
      refine ap (λ Y hY=>?_);rw [← hY] at HBK HK HGB;clear hY;refine tA 13 32 (Zp (some ⟨wr.heap.size,10,none⟩)) rfl ?_;refine aU 14 rfl (λ K hK=>?_);rw [if_pos (by kernel_rfl)];refine wp_store_mid 45 (.tmp 32) (.tmp 29) rfl wr.heap.size 10 #[Zi Zq k9,Zi Zq k19,Zi Zq n19,Zt s19,Zs A19 na19 ca19,Zs B19 nb19 cb19,Zt s9,Zs A29 n29 ca29] rfl rfl (HBK.out.thereAt (o:=10) (n:=8) (by simp)) (by kernel_rfl) (by first | kernel_rfl | simp [Value.oneCell']) ?_;have HBK2:=aW (HBK.out.setSB (Zi Zq k9) (Zi Zq k19) (Zi Zq n19) (Zt s19) (Zs A19 na19 ca19) (Zs B19 nb19 cb19) (Zt s9) (Zs A29 n29 ca29));have HK2:=aW (ah.setC (F:=(λ b=>F b∨wr.heap.size<b)) hnG [Zi Zq k9,Zi Zq k19,Zi Zq n19,Zt s19,Zs A19 na19 ca19,Zs B19 nb19 cb19,Zt s9,Zs A29 n29 ca29] 10 HK.out);have HGB2:=aW (eD [Zi Zq k9,Zi Zq k19,Zi Zq n19,Zt s19,Zs A19 na19 ca19,Zs B19 nb19 cb19,Zt s9,Zs A29 n29 ca29] 10 HGB.out);refine hK.out _ _ trivial (λ hHeld2=>?_);clear hK K hHeld HBK HK HGB;have hHeld:=hHeld2;have HBK:=HBK2;have HK:=HK2;have HGB:=HGB2;clear hHeld2 HBK2 HK2 HGB2
      try simp only [pU]
      refine ap (λ Y2 hY=>?_);rw [← hY] at HBK HK HGB;clear hY;refine aX ?_;have HF8:=aW (HE8.out.keep HK.out);have HF9:=aW (HE9.out.keep HK.out);go_wp2;go_meet
      case rel=>exact ⟨[Zi Zq k8,Zi Zq k18,Zi Zq n18,Zt s18,Zs A18 na18 ca18,Zs B18 nb18 cb18,Zt s8,Zs A28 n28 ca28],[Zi Zq k9,Zi Zq k19,Zi Zq n19,Zt s19,Zs A19 na19 ca19,Zs B19 nb19 cb19,Zt s9,Zs A29 n29 ca29],_,rfl,HBK,HF8,HF9,HGB⟩
    case rest =>
     obtain ⟨acs,bcs,wq7,rfl,HBK,HE8,HE9,HG7⟩:=hcut;obtain ⟨k8,k18,n18,s18,A18,na18,ca18,B18,nb18,cb18,s8,A28,n28,ca28,rfl⟩:=HE8.out.form;obtain ⟨k9,k19,n19,s19,A19,na19,ca19,B19,nb19,cb19,s9,A29,n29,ca29,rfl⟩:=HE9.out.form;clear HB1 HXA HXB;have HB1:=aW (show Blk wq7 wr.heap.size 48 #[Zi Zq k,Zt ⟨tn.toArray⟩,Zi Zq k8,Zi Zq k18,Zi Zq n18,Zt s18,Zs A18 na18 ca18,Zs B18 nb18 cb18,Zt s8,Zs A28 n28 ca28,Zi Zq k9,Zi Zq k19,Zi Zq n19,Zt s19,Zs A19 na19 ca19,Zs B19 nb19 cb19,Zt s9,Zs A29 n29 ca29,Zs BA nb cb,Zs LA nl cl] by simpa using HBK.out);have hk7:ah F W1 wq7:=ah.of_grown HG7.out λ b hb e=>by have:=HFR.out b hb;injection e;omega
     have hs7:wr.heap.size<wq7.heap.size:=by have:=HG7.out.size;have:=HS1.out;omega
     have HXC:=aW (λ (W:World) (h:Below wq7.heap.size wq7 W)=>(HIH.out body BA nb cb bss W (λ b hb=>by have:=HFR.out b hb;have:=h.size;omega) (HXCr.out.1.1 W (hk7.bel h)) (HXCr.out.1.2 W (hk7.bel h)) HNB.out.1 HXCr.out.2.1 HXCr.out.2.2.1 HXCr.out.2.2.2).mono λ e W' hq=>hq.lq (G:=(λ b=>F b∨wr.heap.size<b)) λ b hb=>hb.imp id λ hb=>by have:=h.size;omega);have HXD:=aW (λ (W:World) (h:Below wq7.heap.size wq7 W)=>(HIH.out els LA nl cl lss W (λ b hb=>by have:=HFR.out b hb;have:=h.size;omega) (HXDr.out.1.1 W (hk7.bel h)) (HXDr.out.1.2 W (hk7.bel h)) HNB.out.2 HXDr.out.2.1 HXDr.out.2.2.1 HXDr.out.2.2.2).mono λ e W' hq=>hq.lq (G:=(λ b=>F b∨wr.heap.size<b)) λ b hb=>hb.imp id λ hb=>by have:=h.size;omega);clear HBK hk7;go_upto_region 8 with fail;go_cut [] (λ wx => ∃ (BA2 LA2:Option Addr) (nb2 cb2 nl2 cl2:Nat) (bs2 ls2:List (List Value)) (W:World),W=wx/\Hid (Blk W wr.heap.size 48 #[Zi Zq k,Zt ⟨tn.toArray⟩,Zi Zq k8,Zi Zq k18,Zi Zq n18,Zt s18,Zs A18 na18 ca18,Zs B18 nb18 cb18,Zt s8,Zs A28 n28 ca28,Zi Zq k9,Zi Zq k19,Zi Zq n19,Zt s19,Zs A19 na19 ca19,Zs B19 nb19 cb19,Zt s9,Zs A29 n29 ca29,Zs BA2 nb2 cb2,Zs LA2 nl2 cl2])/\Hid (ER W (λ b=>F b∨wr.heap.size<b) [Zi Zq k8,Zi Zq k18,Zi Zq n18,Zt s18,Zs A18 na18 ca18,Zs B18 nb18 cb18,Zt s8,Zs A28 n28 ca28] (dR 14 a))/\Hid (ER W (λ b=>F b∨wr.heap.size<b) [Zi Zq k9,Zi Zq k19,Zi Zq n19,Zt s19,Zs A19 na19 ca19,Zs B19 nb19 cb19,Zt s9,Zs A29 n29 ca29] (dR 14 b)) /\
      Hid (LQv (dJ r body) (λ b=>F b∨wr.heap.size<b) W BA2 nb2 cb2 bs2)/\Hid (LQv (dJ r els) (λ b=>F b∨wr.heap.size<b) W LA2 nl2 cl2 ls2)/\Hid (wq7.grownBy W (some wr.heap.size)))
     case first =>
      refine wp_region_held_drew (S:=λ _=>True) (by kernel_rfl) trivial (λ hHeld=>?_);refine ap (λ Z0 hw0=>?_);have HZ:=aW (show Below wq7.heap.size wq7 Z0 by rw [hw0];exact (Below.refl _ _).drew);have HBK:=aW (show Blk Z0 wr.heap.size 48 #[Zi Zq k,Zt ⟨tn.toArray⟩,Zi Zq k8,Zi Zq k18,Zi Zq n18,Zt s18,Zs A18 na18 ca18,Zs B18 nb18 cb18,Zt s8,Zs A28 n28 ca28,Zi Zq k9,Zi Zq k19,Zi Zq n19,Zt s19,Zs A19 na19 ca19,Zs B19 nb19 cb19,Zt s9,Zs A29 n29 ca29,Zs BA nb cb,Zs LA nl cl] by rw [hw0];exact HB1.out.drew);clear hw0;refine tA 0 33 (Zp (some ⟨wr.heap.size,18,none⟩)) rfl ?_;refine tA 2 35 (Zi Zq q) rfl ?_;refine tA 3 36 (Zi Zq (q-1)) rfl ?_;refine tA 5 38 (Zp (some ⟨wr.heap.size,19,none⟩)) rfl ?_;refine tA 7 40 (Zi Zq q) rfl ?_;refine tA 8 41 (Zi Zq (q-1)) rfl ?_;refine wpAnyH_ready (rs:=[1,6]) (by kernel_rfl) (by simp) ?_;refine AllReadyH.cons (o:=⟨some 34,_,_,_,_,_⟩) rfl (λ K hK=>?_) (AllReadyH.cons (o:=⟨some 39,_,_,_,_,_⟩) rfl (λ K hK=>?_) AllReadyH.nil)
      ·obtain ⟨c8,f8,l8⟩:=HBK.out.rules;go_simp;refine hK.out _ _ hHeld λ _=>?_
       clear hK K c8 f8 l8
       try simp only [pU]
       refine wpAnyH_ready (rs:=[4,6]) (by kernel_rfl) (by simp) ?_;refine AllReadyH.cons (o:=⟨some 37,_,_,_,_,_⟩) rfl (λ K hK=>?_) (AllReadyH.cons (o:=⟨some 39,_,_,_,_,_⟩) rfl (λ K hK=>?_) AllReadyH.nil)
       ·go_simp;refine (HXC.out _ HZ.out).mono ?_;rintro e Z1 ⟨BA2,nb2,cb2,bs2,rfl,hq,hb⟩;have HEC:=aW hq;clear hq;replace HBK:=aW (HBK.out.keep hb);replace HZ:=aW (HZ.out.trans (hb.mono HZ.out.size));refine hK.out _ _ hHeld λ _=>?_
        clear hK K hb
        try simp only [pU]
        refine aV 6 39 rfl (λ K hK=>?_);obtain ⟨c8,f8,l8⟩:=HBK.out.rules;go_simp;refine hK.out _ _ hHeld λ _=>?_
        clear hK K c8 f8 l8
        try simp only [pU]
        refine tA 10 43 (Zp (some ⟨wr.heap.size,18,none⟩)) rfl ?_;refine aV 9 42 rfl (λ K hK=>?_);go_simp;refine (HXD.out _ HZ.out).mono ?_;rintro e Z2 ⟨LA2,nl2,cl2,ls2,rfl,hq,hb⟩;have HED:=aW hq;replace HEC:=aW (HEC.out.keep (ah.of_below hb));clear hq;replace HBK:=aW (HBK.out.keep hb);replace HZ:=aW (HZ.out.trans (hb.mono HZ.out.size));refine hK.out _ _ hHeld λ _=>?_
        clear hK K hb
        try simp only [pU]
        have HK:=aW (ah.refl (F:=(λ b=>F b∨wr.heap.size<b)) (W:=Z2));have HGB:=aW (aD HZ.out (some wr.heap.size));have HK0:=aW (ah.of_below (F:=(λ b=>F b∨wr.heap.size<b)) HZ.out);refine aU 11 rfl (λ K hK=>?_);obtain ⟨c8,f8,l8⟩:=HBK.out.rules;go_simp;have HBK2:=aW (HBK.out.set_ 18 (Zs BA2 nb2 cb2));have HK2:=aW (ah.setC (F:=(λ b=>F b∨wr.heap.size<b)) hnG [Zs BA2 nb2 cb2] 18 HK.out);have HGB2:=aW (eD [Zs BA2 nb2 cb2] 18 HGB.out);refine hK.out _ _ trivial (λ hHeld2=>?_);clear hK K hHeld HBK HK HGB c8 f8 l8;have hHeld:=hHeld2;have HBK:=HBK2;have HK:=HK2;have HGB:=HGB2;clear hHeld2 HBK2 HK2 HGB2
        try simp only [pU]
        refine tA 12 44 (Zp (some ⟨wr.heap.size,19,none⟩)) rfl ?_;refine aU 13 rfl (λ K hK=>?_);obtain ⟨c8,f8,l8⟩:=HBK.out.rules;go_simp;have HBK2:=aW (HBK.out.set_ 19 (Zs LA2 nl2 cl2));have HK2:=aW (ah.setC (F:=(λ b=>F b∨wr.heap.size<b)) hnG [Zs LA2 nl2 cl2] 19 HK.out);have HGB2:=aW (eD [Zs LA2 nl2 cl2] 19 HGB.out);refine hK.out _ _ trivial (λ hHeld2=>?_);clear hK K hHeld HBK HK HGB c8 f8 l8;have hHeld:=hHeld2;have HBK:=HBK2;have HK:=HK2;have HGB:=HGB2;clear hHeld2 HBK2 HK2 HGB2
        try simp only [pU]
        refine aX ?_;have HF8:=aW ((HE8.out.keep HK0.out).keep HK.out);have HF9:=aW ((HE9.out.keep HK0.out).keep HK.out);have HFC:=aW (HEC.out.keep HK.out);have HFD:=aW (HED.out.keep HK.out);go_wp2;go_meet
        case rel=>exact ⟨BA2,LA2,nb2,cb2,nl2,cl2,bs2,ls2,_,rfl,HBK,HF8,HF9,HFC,HFD,HGB⟩
       ·obtain ⟨c8,f8,l8⟩:=HBK.out.rules;go_simp;refine hK.out _ _ hHeld λ _=>?_
        clear hK K c8 f8 l8
        try simp only [pU]
        refine aV 4 37 rfl (λ K hK=>?_);go_simp;refine (HXC.out _ HZ.out).mono ?_;rintro e Z3 ⟨BA2,nb2,cb2,bs2,rfl,hq,hb⟩;have HEC:=aW hq;clear hq;replace HBK:=aW (HBK.out.keep hb);replace HZ:=aW (HZ.out.trans (hb.mono HZ.out.size));refine hK.out _ _ hHeld λ _=>?_
        clear hK K hb
        try simp only [pU]
        refine tA 10 43 (Zp (some ⟨wr.heap.size,18,none⟩)) rfl ?_;refine aV 9 42 rfl (λ K hK=>?_);go_simp;refine (HXD.out _ HZ.out).mono ?_;rintro e Z4 ⟨LA2,nl2,cl2,ls2,rfl,hq,hb⟩;have HED:=aW hq;replace HEC:=aW (HEC.out.keep (ah.of_below hb));clear hq;replace HBK:=aW (HBK.out.keep hb);replace HZ:=aW (HZ.out.trans (hb.mono HZ.out.size));refine hK.out _ _ hHeld λ _=>?_
        clear hK K hb
        try simp only [pU]
        have HK:=aW (ah.refl (F:=(λ b=>F b∨wr.heap.size<b)) (W:=Z4));have HGB:=aW (aD HZ.out (some wr.heap.size));have HK0:=aW (ah.of_below (F:=(λ b=>F b∨wr.heap.size<b)) HZ.out);refine aU 11 rfl (λ K hK=>?_);obtain ⟨c8,f8,l8⟩:=HBK.out.rules;go_simp;have HBK2:=aW (HBK.out.set_ 18 (Zs BA2 nb2 cb2));have HK2:=aW (ah.setC (F:=(λ b=>F b∨wr.heap.size<b)) hnG [Zs BA2 nb2 cb2] 18 HK.out);have HGB2:=aW (eD [Zs BA2 nb2 cb2] 18 HGB.out);refine hK.out _ _ trivial (λ hHeld2=>?_);clear hK K hHeld HBK HK HGB c8 f8 l8;have hHeld:=hHeld2;have HBK:=HBK2;have HK:=HK2;have HGB:=HGB2;clear hHeld2 HBK2 HK2 HGB2
        try simp only [pU]
        refine tA 12 44 (Zp (some ⟨wr.heap.size,19,none⟩)) rfl ?_;refine aU 13 rfl (λ K hK=>?_);obtain ⟨c8,f8,l8⟩:=HBK.out.rules;go_simp;have HBK2:=aW (HBK.out.set_ 19 (Zs LA2 nl2 cl2));have HK2:=aW (ah.setC (F:=(λ b=>F b∨wr.heap.size<b)) hnG [Zs LA2 nl2 cl2] 19 HK.out);have HGB2:=aW (eD [Zs LA2 nl2 cl2] 19 HGB.out);refine hK.out _ _ trivial (λ hHeld2=>?_);clear hK K hHeld HBK HK HGB c8 f8 l8;have hHeld:=hHeld2;have HBK:=HBK2;have HK:=HK2;have HGB:=HGB2;clear hHeld2 HBK2 HK2 HGB2
        try simp only [pU]
        refine aX ?_;have HF8:=aW ((HE8.out.keep HK0.out).keep HK.out);have HF9:=aW ((HE9.out.keep HK0.out).keep HK.out);have HFC:=aW (HEC.out.keep HK.out);have HFD:=aW (HED.out.keep HK.out);go_wp2;go_meet
        case rel=>exact ⟨BA2,LA2,nb2,cb2,nl2,cl2,bs2,ls2,_,rfl,HBK,HF8,HF9,HFC,HFD,HGB⟩
      ·obtain ⟨c8,f8,l8⟩:=HBK.out.rules;go_simp;refine hK.out _ _ hHeld λ _=>?_
       clear hK K c8 f8 l8
       try simp only [pU]
       refine aV 1 34 rfl (λ K hK=>?_);obtain ⟨c8,f8,l8⟩:=HBK.out.rules;go_simp;refine hK.out _ _ hHeld λ _=>?_
       clear hK K c8 f8 l8
       try simp only [pU]
       refine aV 4 37 rfl (λ K hK=>?_);go_simp;refine (HXC.out _ HZ.out).mono ?_;rintro e Z5 ⟨BA2,nb2,cb2,bs2,rfl,hq,hb⟩;have HEC:=aW hq;clear hq;replace HBK:=aW (HBK.out.keep hb);replace HZ:=aW (HZ.out.trans (hb.mono HZ.out.size));refine hK.out _ _ hHeld λ _=>?_
       clear hK K hb
       try simp only [pU]
       refine tA 10 43 (Zp (some ⟨wr.heap.size,18,none⟩)) rfl ?_;refine aV 9 42 rfl (λ K hK=>?_);go_simp;refine (HXD.out _ HZ.out).mono ?_;rintro e Z6 ⟨LA2,nl2,cl2,ls2,rfl,hq,hb⟩;have HED:=aW hq;replace HEC:=aW (HEC.out.keep (ah.of_below hb));clear hq;replace HBK:=aW (HBK.out.keep hb);replace HZ:=aW (HZ.out.trans (hb.mono HZ.out.size));refine hK.out _ _ hHeld λ _=>?_
       clear hK K hb
       try simp only [pU]
       have HK:=aW (ah.refl (F:=(λ b=>F b∨wr.heap.size<b)) (W:=Z6));have HGB:=aW (aD HZ.out (some wr.heap.size));have HK0:=aW (ah.of_below (F:=(λ b=>F b∨wr.heap.size<b)) HZ.out);refine aU 11 rfl (λ K hK=>?_);obtain ⟨c8,f8,l8⟩:=HBK.out.rules;go_simp;have HBK2:=aW (HBK.out.set_ 18 (Zs BA2 nb2 cb2));have HK2:=aW (ah.setC (F:=(λ b=>F b∨wr.heap.size<b)) hnG [Zs BA2 nb2 cb2] 18 HK.out);have HGB2:=aW (eD [Zs BA2 nb2 cb2] 18 HGB.out);refine hK.out _ _ trivial (λ hHeld2=>?_);clear hK K hHeld HBK HK HGB c8 f8 l8;have hHeld:=hHeld2;have HBK:=HBK2;have HK:=HK2;have HGB:=HGB2;clear hHeld2 HBK2 HK2 HGB2
       try simp only [pU]
       refine tA 12 44 (Zp (some ⟨wr.heap.size,19,none⟩)) rfl ?_;refine aU 13 rfl (λ K hK=>?_);obtain ⟨c8,f8,l8⟩:=HBK.out.rules;go_simp;have HBK2:=aW (HBK.out.set_ 19 (Zs LA2 nl2 cl2));have HK2:=aW (ah.setC (F:=(λ b=>F b∨wr.heap.size<b)) hnG [Zs LA2 nl2 cl2] 19 HK.out);have HGB2:=aW (eD [Zs LA2 nl2 cl2] 19 HGB.out);refine hK.out _ _ trivial (λ hHeld2=>?_);clear hK K hHeld HBK HK HGB c8 f8 l8;have hHeld:=hHeld2;have HBK:=HBK2;have HK:=HK2;have HGB:=HGB2;clear hHeld2 HBK2 HK2 HGB2
       try simp only [pU]
       refine aX ?_;have HF8:=aW ((HE8.out.keep HK0.out).keep HK.out);have HF9:=aW ((HE9.out.keep HK0.out).keep HK.out);have HFC:=aW (HEC.out.keep HK.out);have HFD:=aW (HED.out.keep HK.out);go_wp2;go_meet
       case rel=>exact ⟨BA2,LA2,nb2,cb2,nl2,cl2,bs2,ls2,_,rfl,HBK,HF8,HF9,HFC,HFD,HGB⟩
     case rest =>
      obtain ⟨BA2,LA2,nb2,cb2,nl2,cl2,bs2,ls2,wq8,rfl,HBK,HF8,HF9,HFC,HFD,HG8⟩:=hcut;have hs8:wr.heap.size<wq8.heap.size:=Nat.lt_of_lt_of_le hs7 HG8.out.size;have HGG:=aW (HG7.out.trans HG8.out);have hrwne:row.ownBlock=none∨row.ownBlock≠some wr.heap.size:=by
       rcases hro:row.ownBlock with _ | j
       ·exact .inl rfl
       ·refine .inr λ e=>?_
        have:=(HRW.out j hro).2;injection e with e
        omega
      have HO8:=aW (HO1.out.kept HGG.out hrwne);have HV8:=aW (RR.imp HV1.out λ c y (hc:SR _ _ c y)=>(hc.keep (ah.of_grown HGG.out λ b hb e=>by injection e with e;have:=hb.2;omega)).mono (F':=(FO (λ b=>F b∨w.heap.size<=b) row)) λ b _ hb=>hb.1);have hFG:∀ b,F b∨wr.heap.size<b->(FO (λ b=>F b∨w.heap.size<=b) row) b:=λ b hb=>by
       rcases hb with hb | hb
       ·exact ⟨.inl hb,λ e=>by have:=HRW.out _ e.symm;have:=HFF.out b hb;omega⟩
       ·exact ⟨.inr (by have:=HWZ.out;omega),λ e=>by have:=HRW.out _ e.symm;omega⟩
      have HSN:=aW (show SR wq8 (FO (λ b=>F b∨w.heap.size<=b) row) [Zi Zq k,Zt ⟨tn.toArray⟩,Zi Zq k8,Zi Zq k18,Zi Zq n18,Zt s18,Zs A18 na18 ca18,Zs B18 nb18 cb18,Zt s8,Zs A28 n28 ca28,Zi Zq k9,Zi Zq k19,Zi Zq n19,Zt s19,Zs A19 na19 ca19,Zs B19 nb19 cb19,Zt s9,Zs A29 n29 ca29,Zs BA2 nb2 cb2,Zs LA2 nl2 cl2] (fO (dJ r) (.mk k s a b body els)) from by
       show SR wq8 _ _ (.mk k (s.take 20) (dR 14 a) (dR 14 b) (dJ r body) (dJ r els))
       rw [HU.out];exact SR.into (HF8.out.mono λ b _ hb=>hFG b hb) (HF9.out.mono λ b _ hb=>hFG b hb) (RR.imp HFC.out.2.1 λ c y (hc:SR _ _ c y)=>hc.mono λ b _ hb=>hFG b hb) HFC.out.1.1 (by rw [← HFC.out.1.1];exact HFC.out.1.2.1) HFC.out.1.2.2 (HFC.out.2.2.mono λ b _ hb=>hFG b hb)
        (RR.imp HFD.out.2.1 λ c y (hc:SR _ _ c y)=>hc.mono λ b _ hb=>hFG b hb) HFD.out.1.1 (by rw [← HFD.out.1.1];exact HFD.out.1.2.1) HFD.out.1.2.2 (HFD.out.2.2.mono λ b _ hb=>hFG b hb))
      have HRS:=aW (show wq8.rangeAt wr.heap.size 0 [Zi Zq k,Zt ⟨tn.toArray⟩,Zi Zq k8,Zi Zq k18,Zi Zq n18,Zt s18,Zs A18 na18 ca18,Zs B18 nb18 cb18,Zt s8,Zs A28 n28 ca28,Zi Zq k9,Zi Zq k19,Zi Zq n19,Zt s19,Zs A19 na19 ca19,Zs B19 nb19 cb19,Zt s9,Zs A29 n29 ca29,Zs BA2 nb2 cb2,Zs LA2 nl2 cl2] from λ j v hv=>by rw [Nat.zero_add];exact (HBK.out.cell j).trans (List.getElem?_toArray.trans hv));have hwq:Below w.heap.size w wq8:=HWB.out.grown ((aD HA1.out (some wr.heap.size)).trans HGG.out) HWB.out.size (λ j e=>by injection e with e;have:=HWZ.out;omega);have HWQ:=aW hwq;have hO6:=aW (HO8.out.alloc (.cells #[Zi Zq k,Zt ⟨tn.toArray⟩,Zi Zq k8,Zi Zq k18,Zi Zq n18,Zt s18,Zs A18 na18 ca18,Zs B18 nb18 cb18,Zt s8,Zs A28 n28 ca28,Zi Zq k9,Zi Zq k19,Zi Zq n19,Zt s19,Zs A19 na19 ca19,Zs B19 nb19 cb19,Zt s9,Zs A29 n29 ca29,Zs BA2 nb2 cb2,Zs LA2 nl2 cl2] 48));have hR6:=aW (Rd.of_blk (Blk.new wq8 48 #[Zi Zq k,Zt ⟨tn.toArray⟩,Zi Zq k8,Zi Zq k18,Zi Zq n18,Zt s18,Zs A18 na18 ca18,Zs B18 nb18 cb18,Zt s8,Zs A28 n28 ca28,Zi Zq k9,Zi Zq k19,Zi Zq n19,Zt s19,Zs A19 na19 ca19,Zs B19 nb19 cb19,Zt s9,Zs A29 n29 ca29,Zs BA2 nb2 cb2,Zs LA2 nl2 cl2]));have H1C:=aW (show ∀ u ∈ ([Zi Zq k,Zt ⟨tn.toArray⟩,Zi Zq k8,Zi Zq k18,Zi Zq n18,Zt s18,Zs A18 na18 ca18,Zs B18 nb18 cb18,Zt s8,Zs A28 n28 ca28,Zi Zq k9,Zi Zq k19,Zi Zq n19,Zt s19,Zs A19 na19 ca19,Zs B19 nb19 cb19,Zt s9,Zs A29 n29 ca29,Zs BA2 nb2 cb2,Zs LA2 nl2 cl2]:List Value),u.oneCell'=true from HSN.out.one);have HBS:=aW (show w.heap.size<=(wq8.alloc (.cells #[Zi Zq k,Zt ⟨tn.toArray⟩,Zi Zq k8,Zi Zq k18,Zi Zq n18,Zt s18,Zs A18 na18 ca18,Zs B18 nb18 cb18,Zt s8,Zs A28 n28 ca28,Zi Zq k9,Zi Zq k19,Zi Zq n19,Zt s19,Zs A19 na19 ca19,Zs B19 nb19 cb19,Zt s9,Zs A29 n29 ca29,Zs BA2 nb2 cb2,Zs LA2 nl2 cl2] 48)).heap.size by rw [World.size_alloc];have:=HWZ.out;omega);have HRW8:=aW (λ (j:Nat) (e:row.ownBlock=some j)=>And.intro (HRW.out j e).1 (Nat.lt_trans (HRW.out j e).2 hs8));clear HBK HF8 HF9 HFC HFD hwq hFG hrwne HXC HXD HXCr HXDr HB1;go_upto_region 9 with fail
      first | (go_step;refine wpList_load_mid rfl 48 (.tmp 7) rfl wr.heap.size 0 rfl [Zi Zq k,Zt ⟨tn.toArray⟩,Zi Zq k8,Zi Zq k18,Zi Zq n18,Zt s18,Zs A18 na18 ca18,Zs B18 nb18 cb18,Zt s8,Zs A28 n28 ca28,Zi Zq k9,Zi Zq k19,Zi Zq n19,Zt s19,Zs A19 na19 ca19,Zs B19 nb19 cb19,Zt s9,Zs A29 n29 ca29,Zs BA2 nb2 cb2,Zs LA2 nl2 cl2] _ HRS.out Tryz.underlying48 rfl (by kernel_rfl) ?_) | (go_step;go_step;refine wpList_load_mid rfl 48 (.tmp 7) rfl wr.heap.size 0 rfl [Zi Zq k,Zt ⟨tn.toArray⟩,Zi Zq k8,Zi Zq k18,Zi Zq n18,Zt s18,Zs A18 na18 ca18,Zs B18 nb18 cb18,Zt s8,Zs A28 n28 ca28,Zi Zq k9,Zi Zq k19,Zi Zq n19,Zt s19,Zs A19 na19 ca19,Zs B19 nb19 cb19,Zt s9,Zs A29 n29 ca29,Zs BA2 nb2 cb2,Zs LA2 nl2 cl2] _ HRS.out Tryz.underlying48 rfl (by kernel_rfl) ?_) | (go_step;go_step;go_step;refine wpList_load_mid rfl 48 (.tmp 7) rfl wr.heap.size 0 rfl [Zi Zq k,Zt ⟨tn.toArray⟩,Zi Zq k8,Zi Zq k18,Zi Zq n18,Zt s18,Zs A18 na18 ca18,Zs B18 nb18 cb18,Zt s8,Zs A28 n28 ca28,Zi Zq k9,Zi Zq k19,Zi Zq n19,Zt s19,Zs A19 na19 ca19,Zs B19 nb19 cb19,Zt s9,Zs A29 n29 ca29,Zs BA2 nb2 cb2,Zs LA2 nl2 cl2] _ HRS.out Tryz.underlying48 rfl (by kernel_rfl) ?_) | (go_step;go_step;go_step;go_step;refine wpList_load_mid rfl 48 (.tmp 7) rfl wr.heap.size 0 rfl [Zi Zq k,Zt ⟨tn.toArray⟩,Zi Zq k8,Zi Zq k18,Zi Zq n18,Zt s18,Zs A18 na18 ca18,Zs B18 nb18 cb18,Zt s8,Zs A28 n28 ca28,Zi Zq k9,Zi Zq k19,Zi Zq n19,Zt s19,Zs A19 na19 ca19,Zs B19 nb19 cb19,Zt s9,Zs A29 n29 ca29,Zs BA2 nb2 cb2,Zs LA2 nl2 cl2] _ HRS.out Tryz.underlying48 rfl (by kernel_rfl) ?_) | (go_step;go_step;go_step;go_step;go_step;go_step;refine wpList_load_mid rfl 48 (.tmp 7) rfl wr.heap.size 0 rfl [Zi Zq k,Zt ⟨tn.toArray⟩,Zi Zq k8,Zi Zq k18,Zi Zq n18,Zt s18,Zs A18 na18 ca18,Zs B18 nb18 cb18,Zt s8,Zs A28 n28 ca28,Zi Zq k9,Zi Zq k19,Zi Zq n19,Zt s19,Zs A19 na19 ca19,Zs B19 nb19 cb19,Zt s9,Zs A29 n29 ca29,Zs BA2 nb2 cb2,Zs LA2 nl2 cl2] _ HRS.out Tryz.underlying48 rfl (by kernel_rfl) ?_) | (go_step;go_step;go_step;go_step;go_step;go_step;go_step;refine wpList_load_mid rfl 48 (.tmp 7) rfl wr.heap.size 0 rfl [Zi Zq k,Zt ⟨tn.toArray⟩,Zi Zq k8,Zi Zq k18,Zi Zq n18,Zt s18,Zs A18 na18 ca18,Zs B18 nb18 cb18,Zt s8,Zs A28 n28 ca28,Zi Zq k9,Zi Zq k19,Zi Zq n19,Zt s19,Zs A19 na19 ca19,Zs B19 nb19 cb19,Zt s9,Zs A29 n29 ca29,Zs BA2 nb2 cb2,Zs LA2 nl2 cl2] _ HRS.out Tryz.underlying48 rfl (by kernel_rfl) ?_) | (go_step;go_step;go_step;go_step;go_step;go_step;go_step;go_step;refine wpList_load_mid rfl 48 (.tmp 7) rfl wr.heap.size 0 rfl [Zi Zq k,Zt ⟨tn.toArray⟩,Zi Zq k8,Zi Zq k18,Zi Zq n18,Zt s18,Zs A18 na18 ca18,Zs B18 nb18 cb18,Zt s8,Zs A28 n28 ca28,Zi Zq k9,Zi Zq k19,Zi Zq n19,Zt s19,Zs A19 na19 ca19,Zs B19 nb19 cb19,Zt s9,Zs A29 n29 ca29,Zs BA2 nb2 cb2,Zs LA2 nl2 cl2] _ HRS.out Tryz.underlying48 rfl (by kernel_rfl) ?_)
      go_wp2_with (at_builtin;refine aT _ rfl _ _ 22 rfl w.heap.size 48 i0 _ 20 328 Tryz.underlying22 HI.out hz0 hz1 hz2 rfl (by decide) row i ocs.flatten rfl hO6.out (some ⟨wq8.heap.size,0,none⟩) 1 1 (λ h=>by cases h) [Zi Zq k,Zt ⟨tn.toArray⟩,Zi Zq k8,Zi Zq k18,Zi Zq n18,Zt s18,Zs A18 na18 ca18,Zs B18 nb18 cb18,Zt s8,Zs A28 n28 ca28,Zi Zq k9,Zi Zq k19,Zi Zq n19,Zt s19,Zs A19 na19 ca19,Zs B19 nb19 cb19,Zt s9,Zs A29 n29 ca29,Zs BA2 nb2 cb2,Zs LA2 nl2 cl2] rfl rfl hR6.out H1C.out (by unfold maxLen;omega) (by omega) HBS.out ?_;intro row2 w6 hown6 hgr6 hob6);have hHH:Below w.heap.size w w6:=(HWQ.out.alloc HWQ.out.size _).grown hgr6 (HWQ.out.alloc HWQ.out.size _).size (λ j e=>(HRW.out j e).1);have hVV:SRs w6 (FO (λ b=>F b∨w.heap.size<=b) row2) (ocs++[([Zi Zq k,Zt ⟨tn.toArray⟩,Zi Zq k8,Zi Zq k18,Zi Zq n18,Zt s18,Zs A18 na18 ca18,Zs B18 nb18 cb18,Zt s8,Zs A28 n28 ca28,Zi Zq k9,Zi Zq k19,Zi Zq n19,Zt s19,Zs A19 na19 ca19,Zs B19 nb19 cb19,Zt s9,Zs A29 n29 ca29,Zs BA2 nb2 cb2,Zs LA2 nl2 cl2]:List Value)]) ((l.take (i+1)).map (fO (dJ r))):=by
       rw [HTK.out];refine jc ?_ hgr6 hob6;exact (RR.imp HV8.out λ c y (hc:SR _ _ c y)=>hc.bel ((Below.refl _ _).alloc (Nat.le_refl _) _)).snoc (HSN.out.bel ((Below.refl _ _).alloc (Nat.le_refl _) _))
      have hOO:w6.ownsRow w.heap.size 48 20 row2 (i+1) (ocs++[([Zi Zq k,Zt ⟨tn.toArray⟩,Zi Zq k8,Zi Zq k18,Zi Zq n18,Zt s18,Zs A18 na18 ca18,Zs B18 nb18 cb18,Zt s8,Zs A28 n28 ca28,Zi Zq k9,Zi Zq k19,Zi Zq n19,Zt s19,Zs A19 na19 ca19,Zs B19 nb19 cb19,Zt s9,Zs A29 n29 ca29,Zs BA2 nb2 cb2,Zs LA2 nl2 cl2]:List Value)]).flatten:=by
       rw [List.flatten_append];simpa using hown6
      have H9:=aW (And.intro hHH (And.intro hOO hVV));clear hHH hOO hVV hown6 hgr6 hob6;go_wp2;go_roundg (m-(i+1))
      case measure=>have:=HGK.out;omega
      case rel=>exact ⟨i+1,row2,_,rfl,by omega,rfl,by go_num,aW H9.out.1,aW H9.out.2.1,aW H9.out.2.2⟩
   ·obtain rfl:i=m:=by omega
    obtain ⟨RA,rc,rfl,hrc,hrn,hrr⟩:=cj HO.out;have hl:i=((l.take 5).map (fO (dJ r))).length:=by rw [List.length_map,List.length_take,HNK.out];have:=HM.out;omega
    have he:(l.take i).map (fO (dJ r))=(l.take 5).map (fO (dJ r)):=by rw [← HM.out,← HNK.out,Nat.min_comm,← List.take_take,List.take_length]
    have hss:SRs wr (FO (λ b=>F b∨w.heap.size<=b) (Zs RA i rc)) ocs ((l.take 5).map (fO (dJ r))):=by rw [← he];exact HV.out
    have HX:=aW (show uE (dJ (r+1) l) F w (.returned (Zs RA i rc)) wr from ⟨RA,i,rc,ocs,rfl,hl,hrc,hrn,RR.imp hss λ c y (hc:SR _ _ c y)=>hc.mono λ b _ h=>h.1,hrr.mono λ b _ h=>.inr h,HWB.out⟩);clear hl he hss hrc hrn hrr;go_wp2;refine bodyPost_ret (v:=Zs RA i rc) (by simp only [results,Tryz.results43];go_simp) rfl ?_;exact HX.out
end
end Go.Proofs.YtgmnmnnoahdjnaaGreatDoor
