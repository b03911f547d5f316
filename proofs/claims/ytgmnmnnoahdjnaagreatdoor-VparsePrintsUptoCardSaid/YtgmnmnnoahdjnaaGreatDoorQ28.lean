import Derived.Test.YtgmnmnnoahdjnaaGreatDoorQ24
open Go.Value renaming int → Zi, slice → Zs, string → Zt, pointer → Zp
open Go.IntKind renaming i64 → Zq
set_option maxRecDepth 100000
set_option maxHeartbeats 16000000
set_option linter.unusedVariables false
set_option linter.unusedSimpArgs false
namespace Go.Proofs.YtgmnmnnoahdjnaaGreatDoor
section
open Go.RowKit
attribute [local go_sem] aa ac ae ab
def dR:Nat->EJ->EJ
 | 0,.mk k v s _=>.mk k v (s.take 20) []
 | r+1,.mk k v s kids=>.mk k v (s.take 20) ((kids.take 6).map (dR r))
def wU (x:EJ) (F:Nat->Prop) (w:World) (e:Ending) (w':World):Prop:=∃ cs:List Value,e=.returned (.agg cs.toArray)/\ER w' (FN F w) cs x/\Below w.heap.size w w'
theorem vy:(Tryz.prog.info? 45).map (λ i=>(i.zero,i.size,i.bytes))=some (some (.agg #[Zi Zq 0,Zi Zq 0,Zi Zq 0,Zt ⟨#[]⟩,Zs none 0 0,Zs none 0 0,Zt ⟨#[]⟩,Zs none 0 0]),8,128):=by kernel_rfl
/-- a text,not more than so many bytes -/
theorem vG (s:ByteArray) (Q:Nat) (q:Int) (w:World) (hq:q=Q) (hs:s.size<=maxLen):Calls Tryz.prog 21 #[Zt s,Zi Zq q] w λ e w'=>e=.returned (Zt ⟨((sl s).take Q).toArray⟩)/\w'=w:=by
 unfold maxLen at hs;obtain ⟨n,hn⟩:∃ n,s.size=n:=⟨_,rfl⟩
 obtain ⟨m,hm⟩:∃ m,min n Q=m:=⟨_,rfl⟩
 have hmn:m<=n:=by omega
 have HMI:=aW (show min (n:Int) q=(m:Int) by omega);have hif:(if q<(n:Int) then q else (n:Int))=(m:Int):=by split<;>omega
 have HKEY:=aW (show s.extract 0 m=⟨((sl s).take Q).toArray⟩ by
  refine je ?_;rw [eQ];have e:(sl s).take Q=(sl s).take m:=by rw [← hm,← hn,← cA,Nat.min_comm,← List.take_take,List.take_length]
  rw [e];show (s.extract 0 m).data.toList=s.data.toList.take m
  rw [ByteArray.data_extract,Array.toList_extract];simp [List.extract])
 clear hm hq;go_enter Tryz.func21,Tryz.ntmps21;go_wp2;go_ret;refine ⟨xX ?_,rfl⟩
 try rw [HMI.out]
 try rw [Int.toNat_natCast]
 exact HKEY.out
theorem vH (F:Nat->Prop):∀ (room:Nat) (x:EJ) (cs:List Value) (q:Int) (w:World),q=room->(∀ b,F b->b<w.heap.size)->ER w F cs x->bh x->room<=14 ->
  Calls Tryz.prog 25 #[.agg cs.toArray,Zi Zq q] w (wU (dR room x) F w):=by
 intro room
 induction room with
 |zero =>
  rintro ⟨k,v,s,kids⟩ cs q w rfl hF hx hcx hroom;have hsl:s.length<=4194304:=by unfold bh at hcx;exact hcx.2.2.1
  obtain ⟨u,hu⟩:∃ u,s.take 20=u:=⟨_,rfl⟩
  have HCU:=aW (λ W=>vG ⟨s.toArray⟩ 20 20 W rfl (by show s.toArray.size<=_;unfold maxLen;simp;omega));rw [eQ,hu] at HCU;obtain ⟨k1,n1,s1,A1,na1,ca1,B1,nb1,cb1,A,ca,css0,rfl,hv,_⟩:=hx.out;have HFF:=aW hF;have HVV:=aW hv;have HH0:=aW (((aH.nil w).push 45 #[Zi Zq k,Zi Zq k1,Zi Zq n1,Zt s1,Zs A1 na1 ca1,Zs B1 nb1 cb1,Zt ⟨s.toArray⟩,Zs A kids.length ca] (g:=w.heap.size) rfl).push 45 #[Zi Zq 0,Zi Zq 0,Zi Zq 0,Zt ⟨#[]⟩,Zs none 0 0,Zs none 0 0,Zt ⟨#[]⟩,Zs none 0 0] (g:=w.heap.size+1) (by simp));obtain ⟨W0,hW0⟩:∃ W0,(w.alloc (.cells #[Zi Zq k,Zi Zq k1,Zi Zq n1,Zt s1,Zs A1 na1 ca1,Zs B1 nb1 cb1,Zt ⟨s.toArray⟩,Zs A kids.length ca] 45)).alloc (.cells #[Zi Zq 0,Zi Zq 0,Zi Zq 0,Zt ⟨#[]⟩,Zs none 0 0,Zs none 0 0,Zt ⟨#[]⟩,Zs none 0 0] 45)=W0:=⟨_,rfl⟩
  have HHW:=aW (show aH [(w.heap.size+1,45,#[Zi Zq 0,Zi Zq 0,Zi Zq 0,Zt ⟨#[]⟩,Zs none 0 0,Zs none 0 0,Zt ⟨#[]⟩,Zs none 0 0]),(w.heap.size,45,#[Zi Zq k,Zi Zq k1,Zi Zq n1,Zt s1,Zs A1 na1 ca1,Zs B1 nb1 cb1,Zt ⟨s.toArray⟩,Zs A kids.length ca])] w W0 by rw [← hW0];exact HH0.out);have HW0:=aW hW0;clear hF hx hcx hv hW0 HH0 hsl;go_enter Tryz.func25,Tryz.ntmps25;go_upto_region 1 with fail;rw [HW0.out];obtain ⟨c0,f0,l0⟩:=HHW.out.b1.rules;have hne:w.heap.size≠w.heap.size+1:=by omega
  go_upto_region 2 with (go_at_call 21;refine (HCU.out _).mono ?_;rintro e wc ⟨rfl,hwc⟩;rw [hwc];clear hwc);have HH0:=aW (show aH [(w.heap.size+1,45,#[Zi Zq 0,Zi Zq 0,Zi Zq 0,Zt ⟨#[]⟩,Zs none 0 0,Zs none 0 0,Zt ⟨#[]⟩,Zs none 0 0]),(w.heap.size,45,#[Zi Zq k,Zi Zq k1,Zi Zq n1,Zt s1,Zs A1 na1 ca1,Zs B1 nb1 cb1,Zt ⟨u.toArray⟩,Zs A kids.length ca])] w (W0.setCell ⟨w.heap.size,6,none⟩ (Zt ⟨u.toArray⟩)) from
   ⟨HHW.out.1.setCell (p:=⟨w.heap.size,6,none⟩) (Nat.le_refl _) _,λ x hx=>by
    rcases List.mem_cons.1 hx with rfl | hx
    ·exact Blk.far HHW.out.b0 (by show w.heap.size+1≠w.heap.size;omega) _
    ·obtain rfl:=List.mem_singleton.1 hx;exact HHW.out.b1.set_ 6 _⟩)
  obtain ⟨WV,hWV⟩:∃ W',W0.setCell ⟨w.heap.size,6,none⟩ (Zt ⟨u.toArray⟩)=W':=⟨_,rfl⟩
  rw [hWV] at HH0 ⊢;clear hWV HHW HW0 c0 f0 l0 hne;obtain ⟨c0,f0,l0⟩:=HH0.out.b1.rules;have hne:w.heap.size≠w.heap.size+1:=by omega
  have HB0:=aW (show Blk (WV.setCell ⟨w.heap.size,7,none⟩ (Zs none 0 0)) w.heap.size 45 #[Zi Zq k,Zi Zq k1,Zi Zq n1,Zt s1,Zs A1 na1 ca1,Zs B1 nb1 cb1,Zt ⟨u.toArray⟩,Zs none 0 0] from HH0.out.b1.set_ 7 _);have HB1:=aW (show Blk (WV.setCell ⟨w.heap.size,7,none⟩ (Zs none 0 0)) (w.heap.size+1) 45 #[Zi Zq 0,Zi Zq 0,Zi Zq 0,Zt ⟨#[]⟩,Zs none 0 0,Zs none 0 0,Zt ⟨#[]⟩,Zs none 0 0] from Blk.far HH0.out.b0 (by show w.heap.size+1≠w.heap.size;omega) _);have HL:=aW (show Below w.heap.size w (WV.setCell ⟨w.heap.size,7,none⟩ (Zs none 0 0)) from HH0.out.1.setCell (p:=⟨w.heap.size,7,none⟩) (Nat.le_refl _) _);have HKF:=aW (show ah (λ b=>F b∨w.heap.size+2<=b) WV (WV.setCell ⟨w.heap.size,7,none⟩ (Zs none 0 0)) from ah.set ah.refl (λ b hb=>by rcases hb with hb | hb;exact Nat.ne_of_lt (HFF.out b hb);omega) 7 _);obtain ⟨WF,hWF⟩:∃ W',WV.setCell ⟨w.heap.size,7,none⟩ (Zs none 0 0)=W':=⟨_,rfl⟩
  rw [hWF] at HB0 HB1 HL HKF;have HWF:=aW hWF;clear hWF;go_upto_region 4 with fail;rw [HWF.out];clear HWF c0 f0 l0;obtain ⟨c0,f0,l0⟩:=HB0.out.rules
  first | (refine wpList_store_mid rfl 45 (.tmp 4) (.tmp 15) rfl (w.heap.size+1) 0 #[Zi Zq k,Zi Zq k1,Zi Zq n1,Zt s1,Zs A1 na1 ca1,Zs B1 nb1 cb1,Zt ⟨u.toArray⟩,Zs none 0 0] rfl rfl HB1.out.there (by kernel_rfl) (by first | kernel_rfl | simp [Value.oneCell']) ?_) | (go_step;refine wpList_store_mid rfl 45 (.tmp 4) (.tmp 15) rfl (w.heap.size+1) 0 #[Zi Zq k,Zi Zq k1,Zi Zq n1,Zt s1,Zs A1 na1 ca1,Zs B1 nb1 cb1,Zt ⟨u.toArray⟩,Zs none 0 0] rfl rfl HB1.out.there (by kernel_rfl) (by first | kernel_rfl | simp [Value.oneCell']) ?_) | (go_step;go_step;refine wpList_store_mid rfl 45 (.tmp 4) (.tmp 15) rfl (w.heap.size+1) 0 #[Zi Zq k,Zi Zq k1,Zi Zq n1,Zt s1,Zs A1 na1 ca1,Zs B1 nb1 cb1,Zt ⟨u.toArray⟩,Zs none 0 0] rfl rfl HB1.out.there (by kernel_rfl) (by first | kernel_rfl | simp [Value.oneCell']) ?_) | (go_step;go_step;go_step;refine wpList_store_mid rfl 45 (.tmp 4) (.tmp 15) rfl (w.heap.size+1) 0 #[Zi Zq k,Zi Zq k1,Zi Zq n1,Zt s1,Zs A1 na1 ca1,Zs B1 nb1 cb1,Zt ⟨u.toArray⟩,Zs none 0 0] rfl rfl HB1.out.there (by kernel_rfl) (by first | kernel_rfl | simp [Value.oneCell']) ?_) | (go_step;go_step;go_step;go_step;refine wpList_store_mid rfl 45 (.tmp 4) (.tmp 15) rfl (w.heap.size+1) 0 #[Zi Zq k,Zi Zq k1,Zi Zq n1,Zt s1,Zs A1 na1 ca1,Zs B1 nb1 cb1,Zt ⟨u.toArray⟩,Zs none 0 0] rfl rfl HB1.out.there (by kernel_rfl) (by first | kernel_rfl | simp [Value.oneCell']) ?_)
  have HB2:=aW (HB1.out.set8C (Zi Zq k) (Zi Zq k1) (Zi Zq n1) (Zt s1) (Zs A1 na1 ca1) (Zs B1 nb1 cb1) (Zt ⟨u.toArray⟩) (Zs none 0 0));have HL2:=aW (im (B:=w.heap.size) (b:=w.heap.size+1) (by omega) [Zi Zq k,Zi Zq k1,Zi Zq n1,Zt s1,Zs A1 na1 ca1,Zs B1 nb1 cb1,Zt ⟨u.toArray⟩,Zs none 0 0] 0 HL.out);have HKF2:=aW (HKF.out.trans (ah.setC (F:=λ b=>F b∨w.heap.size+2<=b) (λ b hb=>by rcases hb with hb | hb;exact Nat.ne_of_lt (Nat.lt_succ_of_lt (HFF.out b hb));omega) [Zi Zq k,Zi Zq k1,Zi Zq n1,Zt s1,Zs A1 na1 ca1,Zs B1 nb1 cb1,Zt ⟨u.toArray⟩,Zs none 0 0] 0 ah.refl));obtain ⟨WG,hWG⟩:∃ W',WF.setCells (w.heap.size+1) 0 [Zi Zq k,Zi Zq k1,Zi Zq n1,Zt s1,Zs A1 na1 ca1,Zs B1 nb1 cb1,Zt ⟨u.toArray⟩,Zs none 0 0]=W':=⟨_,rfl⟩
  rw [hWG] at HB2 HL2 HKF2;simp only [];rw [hWG];clear hWG c0 f0 l0 HB0 HB1 HL HKF;obtain ⟨c0,f0,l0⟩:=HB2.out.rules;go_wp2;refine bodyPost_ret (v:=.agg #[Zi Zq k,Zi Zq k1,Zi Zq n1,Zt s1,Zs A1 na1 ca1,Zs B1 nb1 cb1,Zt ⟨u.toArray⟩,Zs none 0 0]) (by simp only [results,Tryz.results25];go_simp) rfl ?_;refine ⟨[Zi Zq k,Zi Zq k1,Zi Zq n1,Zt s1,Zs A1 na1 ca1,Zs B1 nb1 cb1,Zt ⟨u.toArray⟩,Zs none 0 0],rfl,?_,HL2.out⟩;have hvv:=(HVV.out.keep (ah.of_below HL2.out)).mono (F':=FN F w) λ b _ h=>.inl h
  unfold dR;rw [hu];exact ER.leaf k u hvv
 |succ r ih =>
  rintro ⟨k,v,s,kids⟩ cs q w hq hF hx hcx hroom;obtain ⟨k1,n1,s1,A1,na1,ca1,B1,nb1,cb1,A,ca,css0,rfl,hv,h1,h2,h3,h4⟩:=hx.out;unfold bh at hcx;obtain ⟨_,_,hsl,hkl,hkc⟩:=hcx;obtain ⟨u,hu⟩:∃ u,s.take 20=u:=⟨_,rfl⟩
  have HCU:=aW (λ W=>vG ⟨s.toArray⟩ 20 20 W rfl (by show s.toArray.size<=_;unfold maxLen;simp;omega));rw [eQ,hu] at HCU;have HCK:=aW (aK.1 hkc);have HFF:=aW hF;have HVV:=aW hv;have HKD:=aW (And.intro h1 h4);have HIH:=aW (show ∀ (x:EJ) (cs:List Value) (w:World),(∀ b,F b->b<w.heap.size)->ER w F cs x->bh x->Calls Tryz.prog 25 #[.agg cs.toArray,Zi Zq (q-1)] w (wU (dR r x) F w) from
   λ x cs w h1 h2 h3=>ih x cs (q-1) w (by omega) h1 h2 h3 (by omega))
  have hq1:1<=q:=by omega
  have hq14:q<=14:=by omega
  have hq0:(q == 0)=false:=by simp;omega
  have hq0':¬ q=0:=by omega
  have HH0:=aW (((aH.nil w).push 45 #[Zi Zq k,Zi Zq k1,Zi Zq n1,Zt s1,Zs A1 na1 ca1,Zs B1 nb1 cb1,Zt ⟨s.toArray⟩,Zs A kids.length ca] (g:=w.heap.size) rfl).push 45 #[Zi Zq 0,Zi Zq 0,Zi Zq 0,Zt ⟨#[]⟩,Zs none 0 0,Zs none 0 0,Zt ⟨#[]⟩,Zs none 0 0] (g:=w.heap.size+1) (by simp));obtain ⟨i0,hi,hz0,hz1,hz2⟩:=info_parts vy;have HI:=aW hi;obtain ⟨nr,hnr⟩:∃ n,kids.length=n:=⟨_,rfl⟩
  have HNR:=aW hnr;rw [hnr] at hkl h2 HH0 ⊢;obtain ⟨m,hm⟩:∃ m,min nr 6=m:=⟨_,rfl⟩
  have hm6:m<=6:=by omega
  have hmn:m<=nr:=by omega
  have HM:=aW hm;have HHE:=aW (show min (nr:Int) 6=(m:Int) by omega);have hif:(if (6:Int)<(nr:Int) then (6:Int) else (nr:Int))=(m:Int):=by split<;>omega
  have HRO:=aW (And.intro hq hroom);clear hF hx hv h1 h4 hkc hi hnr hq hroom ih;obtain ⟨W0,hW0⟩:∃ W0,(w.alloc (.cells #[Zi Zq k,Zi Zq k1,Zi Zq n1,Zt s1,Zs A1 na1 ca1,Zs B1 nb1 cb1,Zt ⟨s.toArray⟩,Zs A nr ca] 45)).alloc (.cells #[Zi Zq 0,Zi Zq 0,Zi Zq 0,Zt ⟨#[]⟩,Zs none 0 0,Zs none 0 0,Zt ⟨#[]⟩,Zs none 0 0] 45)=W0:=⟨_,rfl⟩
  have HHW:=aW (show aH [(w.heap.size+1,45,#[Zi Zq 0,Zi Zq 0,Zi Zq 0,Zt ⟨#[]⟩,Zs none 0 0,Zs none 0 0,Zt ⟨#[]⟩,Zs none 0 0]),(w.heap.size,45,#[Zi Zq k,Zi Zq k1,Zi Zq n1,Zt s1,Zs A1 na1 ca1,Zs B1 nb1 cb1,Zt ⟨s.toArray⟩,Zs A nr ca])] w W0 by rw [← hW0];exact HH0.out);have HW0:=aW hW0;clear hW0 HH0 hsl;go_enter Tryz.func25,Tryz.ntmps25;go_upto_region 1 with fail;rw [HW0.out];obtain ⟨c0,f0,l0⟩:=HHW.out.b1.rules;have hne:w.heap.size≠w.heap.size+1:=by omega
  go_upto_region 2 with (go_at_call 21;refine (HCU.out _).mono ?_;rintro e wc ⟨rfl,hwc⟩;rw [hwc];clear hwc);have HH0:=aW (show aH [(w.heap.size+1,45,#[Zi Zq 0,Zi Zq 0,Zi Zq 0,Zt ⟨#[]⟩,Zs none 0 0,Zs none 0 0,Zt ⟨#[]⟩,Zs none 0 0]),(w.heap.size,45,#[Zi Zq k,Zi Zq k1,Zi Zq n1,Zt s1,Zs A1 na1 ca1,Zs B1 nb1 cb1,Zt ⟨u.toArray⟩,Zs A nr ca])] w (W0.setCell ⟨w.heap.size,6,none⟩ (Zt ⟨u.toArray⟩)) from
   ⟨HHW.out.1.setCell (p:=⟨w.heap.size,6,none⟩) (Nat.le_refl _) _,λ x hx=>by
    rcases List.mem_cons.1 hx with rfl | hx
    ·exact Blk.far HHW.out.b0 (by show w.heap.size+1≠w.heap.size;omega) _
    ·obtain rfl:=List.mem_singleton.1 hx;exact HHW.out.b1.set_ 6 _⟩)
  obtain ⟨WV,hWV⟩:∃ W',W0.setCell ⟨w.heap.size,6,none⟩ (Zt ⟨u.toArray⟩)=W':=⟨_,rfl⟩
  rw [hWV] at HH0 ⊢;clear hWV HHW HW0 c0 f0 l0 hne;obtain ⟨c0,f0,l0⟩:=HH0.out.b1.rules;go_upto_region 6 with fail;go_wp2
  try rw [HHE.out]
  try rw [Int.toNat_natCast]
  try rw [show max (m:Int) 0=(m:Int) by omega]
  clear hif;clear c0 f0 l0;go_loopg [5,24] m (λ gk s5 s20 wr => ∃ (i:Nat) (row:Value) (css:List (List Value)),row=s5/\i<=m/\gk=m-i/\s20=Zi Zq (i:Int) /\
   Hid (aH [(w.heap.size+1,45,#[Zi Zq 0,Zi Zq 0,Zi Zq 0,Zt ⟨#[]⟩,Zs none 0 0,Zs none 0 0,Zt ⟨#[]⟩,Zs none 0 0]),(w.heap.size,45,#[Zi Zq k,Zi Zq k1,Zi Zq n1,Zt s1,Zs A1 na1 ca1,Zs B1 nb1 cb1,Zt ⟨u.toArray⟩,Zs A nr ca])] w wr)/\Hid (wr.ownsRow (w.heap.size+2) 45 8 row i css.flatten)/\Hid (ERs wr (FO (λ b=>F b∨w.heap.size+2<=b) row) css ((kids.take i).map (dR r))))
  case atStart=>exact ⟨0,_,[],rfl,Nat.zero_le _,by go_num,rfl,HH0,aW (World.ownsRow_nil _ _ _ _),aW (by rw [List.take_zero];exact RR.nil)⟩
  case round =>
   obtain ⟨i,row,css,rfl,him,hgk,rfl,HH,HO,HV⟩:=hrel;have HGK:=aW hgk;clear hgk HH0;by_cases hlt:i<m
   ·obtain ⟨x,hx⟩:∃ x,kids[i]? = some x:=⟨_,List.getElem?_eq_getElem (by rw [HNR.out];omega)⟩
    have hxm:=List.mem_of_getElem? hx;obtain ⟨b,o,k',k1',n1',s1',A1',na1',ca1',B1',nb1',cb1',s',A2',n2',ca2',rfl,hb,hER,hz⟩:=bW HKD.out.1 HKD.out.2 hx;obtain ⟨z0,z1,z2,z3,z4,z5,z6,z7⟩:=hz wr HH.out.1;have HTK:=aW (show (kids.take (i+1)).map (dR r)=(kids.take i).map (dR r)++[dR r x] by rw [List.take_add_one,hx,List.map_append];rfl);have HE:=aW (λ (W:World) (h:Below w.heap.size w W)=>HIH.out x _ W (λ b hb=>Nat.lt_of_lt_of_le (HFF.out b hb) h.size) (hER.bel h) (HCK.out x hxm));have hlb:b<wr.heap.size:=Nat.lt_of_lt_of_le hb HH.out.1.size;have HP:=aW ((HH.out).push 45 #[Zi Zq k',Zi Zq k1',Zi Zq n1',Zt s1',Zs A1' na1' ca1',Zs B1' nb1' cb1',Zt s',Zs A2' n2' ca2'] (g:=wr.heap.size) rfl);have HO1:=aW (HO.out.alloc (.cells #[Zi Zq k',Zi Zq k1',Zi Zq n1',Zt s1',Zs A1' na1' ca1',Zs B1' nb1' cb1',Zt s',Zs A2' n2' ca2'] 45));have HV1:=aW (RR.imp HV.out λ c y hc=>hc.bel ((Below.refl _ wr).alloc (Nat.le_refl _) (.cells #[Zi Zq k',Zi Zq k1',Zi Zq n1',Zt s1',Zs A1' na1' ca1',Zs B1' nb1' cb1',Zt s',Zs A2' n2' ca2'] 45)));have hwr2:w.heap.size+2<=wr.heap.size:=HH.out.b0.lt;clear hz hER hx hxm hb;go_wp2_with fail;refine (HE.out _ HP.out.1).mono ?_;rintro e w4 ⟨cs4,rfl,hv4,hb4⟩;clear z0 z1 z2 z3 z4 z5 z6 z7;have HV4:=aW hv4;obtain ⟨k9,k19,n19,s19,A19,na19,ca19,B19,nb19,cb19,s9,A29,n29,ca29,rfl⟩:=hv4.form;have hsz:wr.heap.size<w4.heap.size:=by have:=hb4.size;simp at this;omega
    have HP4:=aW (HP.out.keep hb4);have HO4:=aW (mQ HO1.out hb4);have HV5:=aW (RR.imp HV1.out λ c y hc=>hc.bel hb4);have HRW:=aW (λ (j:Nat) (e:row.ownBlock=some j)=>HO.out.lt j e);have hO6:=aW (HO4.out.alloc (.cells #[Zi Zq k9,Zi Zq k19,Zi Zq n19,Zt s19,Zs A19 na19 ca19,Zs B19 nb19 cb19,Zt s9,Zs A29 n29 ca29] 45));have hR6:=aW (Rd.of_blk (Blk.new w4 45 #[Zi Zq k9,Zi Zq k19,Zi Zq n19,Zt s19,Zs A19 na19 ca19,Zs B19 nb19 cb19,Zt s9,Zs A29 n29 ca29]));have H1C:=aW (show ∀ u ∈ ([Zi Zq k9,Zi Zq k19,Zi Zq n19,Zt s19,Zs A19 na19 ca19,Zs B19 nb19 cb19,Zt s9,Zs A29 n29 ca29]:List Value),u.oneCell'=true from HV4.out.one);have HBS:=aW (show w.heap.size+2<=(w4.alloc (.cells #[Zi Zq k9,Zi Zq k19,Zi Zq n19,Zt s19,Zs A19 na19 ca19,Zs B19 nb19 cb19,Zt s9,Zs A29 n29 ca29] 45)).heap.size by rw [World.size_alloc];omega);clear hv4 hb4;go_wp2_with (at_builtin;refine aT _ rfl _ _ 43 rfl (w.heap.size+2) 45 i0 _ 8 128 Tryz.underlying43 HI.out hz0 hz1 hz2 rfl (by decide) row i css.flatten rfl hO6.out (some ⟨w4.heap.size,0,none⟩) 1 1 (λ h=>by cases h) [Zi Zq k9,Zi Zq k19,Zi Zq n19,Zt s19,Zs A19 na19 ca19,Zs B19 nb19 cb19,Zt s9,Zs A29 n29 ca29] rfl rfl hR6.out H1C.out (by unfold maxLen;omega) (by omega) HBS.out ?_;intro row2 w6 hown6 hgr6 hob6);have hHH:aH [(w.heap.size+1,45,#[Zi Zq 0,Zi Zq 0,Zi Zq 0,Zt ⟨#[]⟩,Zs none 0 0,Zs none 0 0,Zt ⟨#[]⟩,Zs none 0 0]),(w.heap.size,45,#[Zi Zq k,Zi Zq k1,Zi Zq n1,Zt s1,Zs A1 na1 ca1,Zs B1 nb1 cb1,Zt ⟨u.toArray⟩,Zs (some ⟨b,o,none⟩) nr ca])] w w6:=by
     refine ((HP4.out.pop).alloc _).grown hgr6 (λ j e=>by have:=HRW.out j e;omega) (λ y hy e=>?_);simp only [List.mem_cons,List.not_mem_nil,or_false] at hy;rcases hy with rfl | rfl
     ·have:=HRW.out _ e.symm;omega
     ·have:=HRW.out _ e.symm;omega
    have hVV:ERs w6 (FO (λ b=>F b∨w.heap.size+2<=b) row2) (css++[([Zi Zq k9,Zi Zq k19,Zi Zq n19,Zt s19,Zs A19 na19 ca19,Zs B19 nb19 cb19,Zt s9,Zs A29 n29 ca29]:List Value)]) ((kids.take (i+1)).map (dR r)):=by
     rw [HTK.out];refine oe ?_ hgr6 hob6;refine (RR.imp HV5.out λ c y hc=>hc.bel ((Below.refl _ _).alloc (Nat.le_refl _) _)).snoc ((HV4.out.bel ((Below.refl _ _).alloc (Nat.le_refl _) _)).mono λ b' _ hb'=>?_);rcases hb' with hb' | hb'
     ·exact ⟨.inl hb',λ e=>by have:=HRW.out _ e.symm;have:=HFF.out _ hb';omega⟩
     ·simp at hb';exact ⟨.inr (by omega),λ e=>by have:=HRW.out _ e.symm;omega⟩
    have hOO:w6.ownsRow (w.heap.size+2) 45 8 row2 (i+1) (css++[([Zi Zq k9,Zi Zq k19,Zi Zq n19,Zt s19,Zs A19 na19 ca19,Zs B19 nb19 cb19,Zt s9,Zs A29 n29 ca29]:List Value)]).flatten:=by
     rw [List.flatten_append];simpa using hown6
    have H9:=aW (And.intro hHH (And.intro hOO hVV));clear hHH hOO hVV hown6 hgr6 hob6;go_wp2;go_roundg (m-(i+1))
    case measure=>have:=HGK.out;omega
    case rel=>exact ⟨i+1,row2,_,rfl,by omega,rfl,by go_num,aW H9.out.1,aW H9.out.2.1,aW H9.out.2.2⟩
   ·obtain rfl:i=m:=by omega
    obtain ⟨RA,rc,rfl,hrc,hrn,hrr⟩:=cj HO.out;have HRR:=aW (And.intro hrc (And.intro hrn hrr));clear hrc hrn hrr;obtain ⟨c0,f0,l0⟩:=HH.out.b1.rules;have hne:w.heap.size≠w.heap.size+1:=by omega
    have HB0:=aW (show Blk (wr.setCell ⟨w.heap.size,7,none⟩ (Zs RA i rc)) w.heap.size 45 #[Zi Zq k,Zi Zq k1,Zi Zq n1,Zt s1,Zs A1 na1 ca1,Zs B1 nb1 cb1,Zt ⟨u.toArray⟩,Zs RA i rc] from HH.out.b1.set_ 7 _);have HB1:=aW (show Blk (wr.setCell ⟨w.heap.size,7,none⟩ (Zs RA i rc)) (w.heap.size+1) 45 #[Zi Zq 0,Zi Zq 0,Zi Zq 0,Zt ⟨#[]⟩,Zs none 0 0,Zs none 0 0,Zt ⟨#[]⟩,Zs none 0 0] from Blk.far HH.out.b0 (by show w.heap.size+1≠w.heap.size;omega) _);have HL:=aW (show Below w.heap.size w (wr.setCell ⟨w.heap.size,7,none⟩ (Zs RA i rc)) from HH.out.1.setCell (p:=⟨w.heap.size,7,none⟩) (Nat.le_refl _) _);have HKF:=aW (show ah (λ b=>F b∨w.heap.size+2<=b) wr (wr.setCell ⟨w.heap.size,7,none⟩ (Zs RA i rc)) from ah.set ah.refl (λ b hb=>by rcases hb with hb | hb;exact Nat.ne_of_lt (HFF.out b hb);omega) 7 _);obtain ⟨WF,hWF⟩:∃ W',wr.setCell ⟨w.heap.size,7,none⟩ (Zs RA i rc)=W':=⟨_,rfl⟩
    rw [hWF] at HB0 HB1 HL HKF;have HWF:=aW hWF;clear hWF;go_upto_region 12 with fail;rw [HWF.out];clear HWF c0 f0 l0;obtain ⟨c0,f0,l0⟩:=HB0.out.rules
    first | (refine wpList_store_mid rfl 45 (.tmp 4) (.tmp 38) rfl (w.heap.size+1) 0 #[Zi Zq k,Zi Zq k1,Zi Zq n1,Zt s1,Zs A1 na1 ca1,Zs B1 nb1 cb1,Zt ⟨u.toArray⟩,Zs RA i rc] rfl rfl HB1.out.there (by kernel_rfl) (by first | kernel_rfl | simp [Value.oneCell']) ?_) | (go_step;refine wpList_store_mid rfl 45 (.tmp 4) (.tmp 38) rfl (w.heap.size+1) 0 #[Zi Zq k,Zi Zq k1,Zi Zq n1,Zt s1,Zs A1 na1 ca1,Zs B1 nb1 cb1,Zt ⟨u.toArray⟩,Zs RA i rc] rfl rfl HB1.out.there (by kernel_rfl) (by first | kernel_rfl | simp [Value.oneCell']) ?_) | (go_step;go_step;refine wpList_store_mid rfl 45 (.tmp 4) (.tmp 38) rfl (w.heap.size+1) 0 #[Zi Zq k,Zi Zq k1,Zi Zq n1,Zt s1,Zs A1 na1 ca1,Zs B1 nb1 cb1,Zt ⟨u.toArray⟩,Zs RA i rc] rfl rfl HB1.out.there (by kernel_rfl) (by first | kernel_rfl | simp [Value.oneCell']) ?_) | (go_step;go_step;go_step;refine wpList_store_mid rfl 45 (.tmp 4) (.tmp 38) rfl (w.heap.size+1) 0 #[Zi Zq k,Zi Zq k1,Zi Zq n1,Zt s1,Zs A1 na1 ca1,Zs B1 nb1 cb1,Zt ⟨u.toArray⟩,Zs RA i rc] rfl rfl HB1.out.there (by kernel_rfl) (by first | kernel_rfl | simp [Value.oneCell']) ?_) | (go_step;go_step;go_step;go_step;refine wpList_store_mid rfl 45 (.tmp 4) (.tmp 38) rfl (w.heap.size+1) 0 #[Zi Zq k,Zi Zq k1,Zi Zq n1,Zt s1,Zs A1 na1 ca1,Zs B1 nb1 cb1,Zt ⟨u.toArray⟩,Zs RA i rc] rfl rfl HB1.out.there (by kernel_rfl) (by first | kernel_rfl | simp [Value.oneCell']) ?_)
    have HB2:=aW (HB1.out.set8C (Zi Zq k) (Zi Zq k1) (Zi Zq n1) (Zt s1) (Zs A1 na1 ca1) (Zs B1 nb1 cb1) (Zt ⟨u.toArray⟩) (Zs RA i rc));have HL2:=aW (im (B:=w.heap.size) (b:=w.heap.size+1) (by omega) [Zi Zq k,Zi Zq k1,Zi Zq n1,Zt s1,Zs A1 na1 ca1,Zs B1 nb1 cb1,Zt ⟨u.toArray⟩,Zs RA i rc] 0 HL.out);have HKF2:=aW (HKF.out.trans (ah.setC (F:=λ b=>F b∨w.heap.size+2<=b) (λ b hb=>by rcases hb with hb | hb;exact Nat.ne_of_lt (Nat.lt_succ_of_lt (HFF.out b hb));omega) [Zi Zq k,Zi Zq k1,Zi Zq n1,Zt s1,Zs A1 na1 ca1,Zs B1 nb1 cb1,Zt ⟨u.toArray⟩,Zs RA i rc] 0 ah.refl));obtain ⟨WG,hWG⟩:∃ W',WF.setCells (w.heap.size+1) 0 [Zi Zq k,Zi Zq k1,Zi Zq n1,Zt s1,Zs A1 na1 ca1,Zs B1 nb1 cb1,Zt ⟨u.toArray⟩,Zs RA i rc]=W':=⟨_,rfl⟩
    rw [hWG] at HB2 HL2 HKF2;simp only [];rw [hWG];clear hWG c0 f0 l0 HB0 HB1 HL HKF;obtain ⟨c0,f0,l0⟩:=HB2.out.rules;go_wp2;refine bodyPost_ret (v:=.agg #[Zi Zq k,Zi Zq k1,Zi Zq n1,Zt s1,Zs A1 na1 ca1,Zs B1 nb1 cb1,Zt ⟨u.toArray⟩,Zs RA i rc]) (by simp only [results,Tryz.results25];go_simp) rfl ?_;refine ⟨[Zi Zq k,Zi Zq k1,Zi Zq n1,Zt s1,Zs A1 na1 ca1,Zs B1 nb1 cb1,Zt ⟨u.toArray⟩,Zs RA i rc],rfl,?_,HL2.out⟩;have hvv:=(HVV.out.keep (ah.of_below HL2.out)).mono (F':=FN F w) λ b _ h=>.inl h
    have hl:i=((kids.take 6).map (dR r)).length:=by rw [List.length_map,List.length_take,HNR.out];have:=HM.out;omega
    have he:(kids.take i).map (dR r)=(kids.take 6).map (dR r):=by rw [← HM.out,← HNR.out,Nat.min_comm,← List.take_take,List.take_length]
    have hrr:ERs wr (FO (λ b=>F b∨w.heap.size+2<=b) (Zs RA i rc)) css ((kids.take 6).map (dR r)):=by rw [← he];exact HV.out
    unfold dR;rw [hu];exact ER.into hvv (RR.imp hrr λ c y (hc:ER wr _ c y)=>((hc.mono (F':=λ b=>F b∨w.heap.size+2<=b) λ b _ h=>h.1).keep HKF2.out).mono λ b _ h=>h.imp id λ h=>by omega) hl (by rw [← hl];exact HRR.out.1) HRR.out.2.1 (((HRR.out.2.2.mono (F':=λ b=>F b∨w.heap.size+2<=b) λ b _ h=>.inr h).keep HKF2.out).mono λ b _ h=>h.imp id λ h=>by omega)
end
end Go.Proofs.YtgmnmnnoahdjnaaGreatDoor
