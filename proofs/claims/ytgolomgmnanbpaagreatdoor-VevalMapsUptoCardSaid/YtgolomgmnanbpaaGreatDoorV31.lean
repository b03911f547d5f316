import Derived.Test.YtgolomgmnanbpaaGreatDoorV27
import Derived.Test.YtgolomgmnanbpaaGreatDoorV26
open Go.Value renaming int → Zi, slice → Zs, string → Zt, pointer → Zp
open Go.IntKind renaming i64 → Zq
set_option maxRecDepth 100000
set_option maxHeartbeats 16000000
set_option linter.unusedVariables false
set_option linter.unusedSimpArgs false
namespace Go.Proofs.YtgolomgmnanbpaaGreatDoor
section
open Go.RowKit
attribute [local go_sem] aa ac ae ab
def dU:Nat->EJ->EJ
 | 0,.mk k v s _=>.mk k v s []
 | r+1,.mk k v s kids=>.mk k v s ((kids.take 6).map (dU r))
def wF (x:EJ) (F:Nat->Prop) (w:World) (e:Ending) (w':World):Prop:=∃ cs:List Value,e=.returned (.agg cs.toArray)/\ER w' (FN F w) cs x/\Below w.heap.size w w'
theorem qO {w w2:World} {G:Nat->Prop} {row row2:Value} {css:List (List Value)} {kids:List EJ} (h:ERs w (FO G row) css kids) (hg:w.grownBy w2 row.ownBlock) (ho:row2.ownBlock=row.ownBlock∨row2.ownBlock=some w.heap.size) :
  ERs w2 (FO G row2) css kids:=by
 refine RR.imp h λ c x hc=>?_
 have h1:ER w (λ b=>FO G row b/\b<w.heap.size) c x:=hc.mono λ b hb hF=>⟨hF,hb⟩
 have h2:ER w2 (λ b=>FO G row b/\b<w.heap.size) c x:=h1.keep (af.of_grown hg λ b hb=>hb.1.2);refine h2.mono λ b _ hF=>⟨hF.1.1,λ e=>?_⟩
 rcases ho with ho | ho
 ·exact hF.1.2 (by rw [e,ho])
 ·rw [ho] at e;have:b=w.heap.size:=by injection e
  omega
theorem rQ:(Tryz.prog.info? 28).map (λ i=>(i.zero,i.size,i.bytes))=some (some (.agg #[Zi Zq 0,Zi Zq 0,Zi Zq 0,Zt ⟨#[]⟩,Zs none 0 0,Zs none 0 0,Zt ⟨#[]⟩,Zs none 0 0]),8,128):=by kernel_rfl
theorem r6 (F:Nat->Prop):∀ (room:Nat) (x:EJ) (cs:List Value) (q:Int) (w:World),q=room->(∀ b,F b->b<w.heap.size)->ER w F cs x->bh x->room<=14 ->
  Calls Tryz.prog 11 #[.agg cs.toArray,Zi Zq q] w (wF (dU room x) F w):=by
 intro room
 induction room with
 |zero =>
  rintro ⟨k,v,s,kids⟩ cs q w rfl hF hx hcx hroom;obtain ⟨k1,n1,s1,A1,na1,ca1,B1,nb1,cb1,A,ca,css0,rfl,hv,_⟩:=hx.out;have HFF:=aW hF;have HVV:=aW hv;have HH0:=aW (((aj.nil w).push 28 #[Zi Zq k,Zi Zq k1,Zi Zq n1,Zt s1,Zs A1 na1 ca1,Zs B1 nb1 cb1,Zt ⟨s.toArray⟩,Zs A kids.length ca] (g:=w.heap.size) rfl).push 28 #[Zi Zq 0,Zi Zq 0,Zi Zq 0,Zt ⟨#[]⟩,Zs none 0 0,Zs none 0 0,Zt ⟨#[]⟩,Zs none 0 0] (g:=w.heap.size+1) (by simp));obtain ⟨W0,hW0⟩:∃ W0,(w.alloc (.cells #[Zi Zq k,Zi Zq k1,Zi Zq n1,Zt s1,Zs A1 na1 ca1,Zs B1 nb1 cb1,Zt ⟨s.toArray⟩,Zs A kids.length ca] 28)).alloc (.cells #[Zi Zq 0,Zi Zq 0,Zi Zq 0,Zt ⟨#[]⟩,Zs none 0 0,Zs none 0 0,Zt ⟨#[]⟩,Zs none 0 0] 28)=W0:=⟨_,rfl⟩
  have HHW:=aW (show aj [(w.heap.size+1,28,#[Zi Zq 0,Zi Zq 0,Zi Zq 0,Zt ⟨#[]⟩,Zs none 0 0,Zs none 0 0,Zt ⟨#[]⟩,Zs none 0 0]),(w.heap.size,28,#[Zi Zq k,Zi Zq k1,Zi Zq n1,Zt s1,Zs A1 na1 ca1,Zs B1 nb1 cb1,Zt ⟨s.toArray⟩,Zs A kids.length ca])] w W0 by rw [← hW0];exact HH0.out);have HW0:=aW hW0;clear hF hx hcx hv hW0 HH0;go_enter Tryz.func11,Tryz.ntmps11;go_upto_region 1 with fail;rw [HW0.out];obtain ⟨c0,f0,l0⟩:=HHW.out.b1.rules;have hne:w.heap.size≠w.heap.size+1:=by omega
  have HB0:=aW (show Blk (W0.setCell ⟨w.heap.size,7,none⟩ (Zs none 0 0)) w.heap.size 28 #[Zi Zq k,Zi Zq k1,Zi Zq n1,Zt s1,Zs A1 na1 ca1,Zs B1 nb1 cb1,Zt ⟨s.toArray⟩,Zs none 0 0] from HHW.out.b1.set_ 7 _);have HB1:=aW (show Blk (W0.setCell ⟨w.heap.size,7,none⟩ (Zs none 0 0)) (w.heap.size+1) 28 #[Zi Zq 0,Zi Zq 0,Zi Zq 0,Zt ⟨#[]⟩,Zs none 0 0,Zs none 0 0,Zt ⟨#[]⟩,Zs none 0 0] from Blk.far HHW.out.b0 (by show w.heap.size+1≠w.heap.size;omega) _);have HL:=aW (show Below w.heap.size w (W0.setCell ⟨w.heap.size,7,none⟩ (Zs none 0 0)) from HHW.out.1.setCell (p:=⟨w.heap.size,7,none⟩) (Nat.le_refl _) _);have HKF:=aW (show af (λ b=>F b∨w.heap.size+2<=b) W0 (W0.setCell ⟨w.heap.size,7,none⟩ (Zs none 0 0)) from af.set af.refl (λ b hb=>by rcases hb with hb | hb;exact Nat.ne_of_lt (HFF.out b hb);omega) 7 _);obtain ⟨WF,hWF⟩:∃ W',W0.setCell ⟨w.heap.size,7,none⟩ (Zs none 0 0)=W':=⟨_,rfl⟩
  rw [hWF] at HB0 HB1 HL HKF;have HWF:=aW hWF;clear hWF;go_upto_region 3 with fail;rw [HWF.out];clear HWF c0 f0 l0;obtain ⟨c0,f0,l0⟩:=HB0.out.rules
  first | (refine wpList_store_mid rfl 28 (.tmp 4) (.tmp 11) rfl (w.heap.size+1) 0 #[Zi Zq k,Zi Zq k1,Zi Zq n1,Zt s1,Zs A1 na1 ca1,Zs B1 nb1 cb1,Zt ⟨s.toArray⟩,Zs none 0 0] rfl rfl HB1.out.there (by kernel_rfl) (by first | kernel_rfl | simp [Value.oneCell']) ?_) | (go_step;refine wpList_store_mid rfl 28 (.tmp 4) (.tmp 11) rfl (w.heap.size+1) 0 #[Zi Zq k,Zi Zq k1,Zi Zq n1,Zt s1,Zs A1 na1 ca1,Zs B1 nb1 cb1,Zt ⟨s.toArray⟩,Zs none 0 0] rfl rfl HB1.out.there (by kernel_rfl) (by first | kernel_rfl | simp [Value.oneCell']) ?_) | (go_step;go_step;refine wpList_store_mid rfl 28 (.tmp 4) (.tmp 11) rfl (w.heap.size+1) 0 #[Zi Zq k,Zi Zq k1,Zi Zq n1,Zt s1,Zs A1 na1 ca1,Zs B1 nb1 cb1,Zt ⟨s.toArray⟩,Zs none 0 0] rfl rfl HB1.out.there (by kernel_rfl) (by first | kernel_rfl | simp [Value.oneCell']) ?_) | (go_step;go_step;go_step;refine wpList_store_mid rfl 28 (.tmp 4) (.tmp 11) rfl (w.heap.size+1) 0 #[Zi Zq k,Zi Zq k1,Zi Zq n1,Zt s1,Zs A1 na1 ca1,Zs B1 nb1 cb1,Zt ⟨s.toArray⟩,Zs none 0 0] rfl rfl HB1.out.there (by kernel_rfl) (by first | kernel_rfl | simp [Value.oneCell']) ?_) | (go_step;go_step;go_step;go_step;refine wpList_store_mid rfl 28 (.tmp 4) (.tmp 11) rfl (w.heap.size+1) 0 #[Zi Zq k,Zi Zq k1,Zi Zq n1,Zt s1,Zs A1 na1 ca1,Zs B1 nb1 cb1,Zt ⟨s.toArray⟩,Zs none 0 0] rfl rfl HB1.out.there (by kernel_rfl) (by first | kernel_rfl | simp [Value.oneCell']) ?_)
  have HB2:=aW (HB1.out.set8C (Zi Zq k) (Zi Zq k1) (Zi Zq n1) (Zt s1) (Zs A1 na1 ca1) (Zs B1 nb1 cb1) (Zt ⟨s.toArray⟩) (Zs none 0 0));have HL2:=aW (cx (B:=w.heap.size) (b:=w.heap.size+1) (by omega) [Zi Zq k,Zi Zq k1,Zi Zq n1,Zt s1,Zs A1 na1 ca1,Zs B1 nb1 cb1,Zt ⟨s.toArray⟩,Zs none 0 0] 0 HL.out);have HKF2:=aW (HKF.out.trans (af.setC (F:=λ b=>F b∨w.heap.size+2<=b) (λ b hb=>by rcases hb with hb | hb;exact Nat.ne_of_lt (Nat.lt_succ_of_lt (HFF.out b hb));omega) [Zi Zq k,Zi Zq k1,Zi Zq n1,Zt s1,Zs A1 na1 ca1,Zs B1 nb1 cb1,Zt ⟨s.toArray⟩,Zs none 0 0] 0 af.refl));obtain ⟨WG,hWG⟩:∃ W',WF.setCells (w.heap.size+1) 0 [Zi Zq k,Zi Zq k1,Zi Zq n1,Zt s1,Zs A1 na1 ca1,Zs B1 nb1 cb1,Zt ⟨s.toArray⟩,Zs none 0 0]=W':=⟨_,rfl⟩
  rw [hWG] at HB2 HL2 HKF2;simp only [];rw [hWG];clear hWG c0 f0 l0 HB0 HB1 HL HKF;obtain ⟨c0,f0,l0⟩:=HB2.out.rules;go_wp2;refine bodyPost_ret (v:=.agg #[Zi Zq k,Zi Zq k1,Zi Zq n1,Zt s1,Zs A1 na1 ca1,Zs B1 nb1 cb1,Zt ⟨s.toArray⟩,Zs none 0 0]) (by simp only [results,Tryz.results11];go_simp) rfl ?_;refine ⟨[Zi Zq k,Zi Zq k1,Zi Zq n1,Zt s1,Zs A1 na1 ca1,Zs B1 nb1 cb1,Zt ⟨s.toArray⟩,Zs none 0 0],rfl,?_,HL2.out⟩;have hvv:=(HVV.out.keep (af.of_below HL2.out)).mono (F':=FN F w) λ b _ h=>.inl h
  exact ER.leaf k s hvv
 |succ r ih =>
  rintro ⟨k,v,s,kids⟩ cs q w hq hF hx hcx hroom;obtain ⟨k1,n1,s1,A1,na1,ca1,B1,nb1,cb1,A,ca,css0,rfl,hv,h1,h2,h3,h4⟩:=hx.out;unfold bh at hcx;obtain ⟨_,_,_,hkl,hkc⟩:=hcx;have HCK:=aW (cz.1 hkc);have HFF:=aW hF;have HVV:=aW hv;have HKD:=aW (And.intro h1 h4);have HIH:=aW (show ∀ (x:EJ) (cs:List Value) (w:World),(∀ b,F b->b<w.heap.size)->ER w F cs x->bh x->Calls Tryz.prog 11 #[.agg cs.toArray,Zi Zq (q-1)] w (wF (dU r x) F w) from
   λ x cs w h1 h2 h3=>ih x cs (q-1) w (by omega) h1 h2 h3 (by omega))
  have hq1:1<=q:=by omega
  have hq14:q<=14:=by omega
  have hq0:(q == 0)=false:=by simp;omega
  have hq0':¬ q=0:=by omega
  have HH0:=aW (((aj.nil w).push 28 #[Zi Zq k,Zi Zq k1,Zi Zq n1,Zt s1,Zs A1 na1 ca1,Zs B1 nb1 cb1,Zt ⟨s.toArray⟩,Zs A kids.length ca] (g:=w.heap.size) rfl).push 28 #[Zi Zq 0,Zi Zq 0,Zi Zq 0,Zt ⟨#[]⟩,Zs none 0 0,Zs none 0 0,Zt ⟨#[]⟩,Zs none 0 0] (g:=w.heap.size+1) (by simp));obtain ⟨i0,hi,hz0,hz1,hz2⟩:=info_parts rQ;have HI:=aW hi;obtain ⟨nr,hnr⟩:∃ n,kids.length=n:=⟨_,rfl⟩
  have HNR:=aW hnr;rw [hnr] at hkl h2 HH0 ⊢;obtain ⟨m,hm⟩:∃ m,min nr 6=m:=⟨_,rfl⟩
  have hm6:m<=6:=by omega
  have hmn:m<=nr:=by omega
  have HM:=aW hm;have HHE:=aW (show min (nr:Int) 6=(m:Int) by omega);have hif:(if (6:Int)<(nr:Int) then (6:Int) else (nr:Int))=(m:Int):=by split<;>omega
  have HRO:=aW (And.intro hq hroom);clear hF hx hv h1 h4 hkc hi hnr hq hroom ih;obtain ⟨c0,f0,l0⟩:=HH0.out.b1.rules;go_enter Tryz.func11,Tryz.ntmps11;go_upto_region 5 with fail;go_wp2
  try rw [HHE.out]
  try rw [Int.toNat_natCast]
  try rw [show max (m:Int) 0=(m:Int) by omega]
  clear hif;clear c0 f0 l0;go_loopg [5,20] m (λ gk s5 s20 wr => ∃ (i:Nat) (row:Value) (css:List (List Value)),row=s5/\i<=m/\gk=m-i/\s20=Zi Zq (i:Int) /\
   Hid (aj [(w.heap.size+1,28,#[Zi Zq 0,Zi Zq 0,Zi Zq 0,Zt ⟨#[]⟩,Zs none 0 0,Zs none 0 0,Zt ⟨#[]⟩,Zs none 0 0]),(w.heap.size,28,#[Zi Zq k,Zi Zq k1,Zi Zq n1,Zt s1,Zs A1 na1 ca1,Zs B1 nb1 cb1,Zt ⟨s.toArray⟩,Zs A nr ca])] w wr)/\Hid (wr.ownsRow (w.heap.size+2) 28 8 row i css.flatten)/\Hid (ERs wr (FO (λ b=>F b∨w.heap.size+2<=b) row) css ((kids.take i).map (dU r))))
  case atStart=>exact ⟨0,_,[],rfl,Nat.zero_le _,by go_num,rfl,HH0,aW (World.ownsRow_nil _ _ _ _),aW (by rw [List.take_zero];exact RR.nil)⟩
  case round =>
   obtain ⟨i,row,css,rfl,him,hgk,rfl,HH,HO,HV⟩:=hrel;have HGK:=aW hgk;clear hgk HH0;by_cases hlt:i<m
   ·obtain ⟨x,hx⟩:∃ x,kids[i]? = some x:=⟨_,List.getElem?_eq_getElem (by rw [HNR.out];omega)⟩
    have hxm:=List.mem_of_getElem? hx;obtain ⟨b,o,k',k1',n1',s1',A1',na1',ca1',B1',nb1',cb1',s',A2',n2',ca2',rfl,hb,hER,hz⟩:=aq HKD.out.1 HKD.out.2 hx;obtain ⟨z0,z1,z2,z3,z4,z5,z6,z7⟩:=hz wr HH.out.1;have HTK:=aW (show (kids.take (i+1)).map (dU r)=(kids.take i).map (dU r)++[dU r x] by rw [List.take_add_one,hx,List.map_append];rfl);have HE:=aW (λ (W:World) (h:Below w.heap.size w W)=>HIH.out x _ W (λ b hb=>Nat.lt_of_lt_of_le (HFF.out b hb) h.size) (hER.bel h) (HCK.out x hxm));have hlb:b<wr.heap.size:=Nat.lt_of_lt_of_le hb HH.out.1.size;have HP:=aW ((HH.out).push 28 #[Zi Zq k',Zi Zq k1',Zi Zq n1',Zt s1',Zs A1' na1' ca1',Zs B1' nb1' cb1',Zt s',Zs A2' n2' ca2'] (g:=wr.heap.size) rfl);have HO1:=aW (HO.out.alloc (.cells #[Zi Zq k',Zi Zq k1',Zi Zq n1',Zt s1',Zs A1' na1' ca1',Zs B1' nb1' cb1',Zt s',Zs A2' n2' ca2'] 28));have HV1:=aW (RR.imp HV.out λ c y hc=>hc.bel ((Below.refl _ wr).alloc (Nat.le_refl _) (.cells #[Zi Zq k',Zi Zq k1',Zi Zq n1',Zt s1',Zs A1' na1' ca1',Zs B1' nb1' cb1',Zt s',Zs A2' n2' ca2'] 28)));have hwr2:w.heap.size+2<=wr.heap.size:=HH.out.b0.lt;clear hz hER hx hxm hb;go_wp2_with fail;refine (HE.out _ HP.out.1).mono ?_;rintro e w4 ⟨cs4,rfl,hv4,hb4⟩;clear z0 z1 z2 z3 z4 z5 z6 z7;have HV4:=aW hv4;obtain ⟨k9,k19,n19,s19,A19,na19,ca19,B19,nb19,cb19,s9,A29,n29,ca29,rfl⟩:=hv4.form;have hsz:wr.heap.size<w4.heap.size:=by have:=hb4.size;simp at this;omega
    have HP4:=aW (HP.out.keep hb4);have HO4:=aW (dG HO1.out hb4);have HV5:=aW (RR.imp HV1.out λ c y hc=>hc.bel hb4);have HRW:=aW (λ (j:Nat) (e:row.ownBlock=some j)=>HO.out.lt j e);have hO6:=aW (HO4.out.alloc (.cells #[Zi Zq k9,Zi Zq k19,Zi Zq n19,Zt s19,Zs A19 na19 ca19,Zs B19 nb19 cb19,Zt s9,Zs A29 n29 ca29] 28));have hR6:=aW (Rd.of_blk (Blk.new w4 28 #[Zi Zq k9,Zi Zq k19,Zi Zq n19,Zt s19,Zs A19 na19 ca19,Zs B19 nb19 cb19,Zt s9,Zs A29 n29 ca29]));have H1C:=aW (show ∀ u ∈ ([Zi Zq k9,Zi Zq k19,Zi Zq n19,Zt s19,Zs A19 na19 ca19,Zs B19 nb19 cb19,Zt s9,Zs A29 n29 ca29]:List Value),u.oneCell'=true from HV4.out.one);have HBS:=aW (show w.heap.size+2<=(w4.alloc (.cells #[Zi Zq k9,Zi Zq k19,Zi Zq n19,Zt s19,Zs A19 na19 ca19,Zs B19 nb19 cb19,Zt s9,Zs A29 n29 ca29] 28)).heap.size by rw [World.size_alloc];omega);clear hv4 hb4;go_wp2_with (at_builtin;refine ag _ rfl _ _ 26 rfl (w.heap.size+2) 28 i0 _ 8 128 Tryz.underlying26 HI.out hz0 hz1 hz2 rfl (by decide) row i css.flatten rfl hO6.out (some ⟨w4.heap.size,0,none⟩) 1 1 (λ h=>by cases h) [Zi Zq k9,Zi Zq k19,Zi Zq n19,Zt s19,Zs A19 na19 ca19,Zs B19 nb19 cb19,Zt s9,Zs A29 n29 ca29] rfl rfl hR6.out H1C.out (by unfold maxLen;omega) (by omega) HBS.out ?_;intro row2 w6 hown6 hgr6 hob6);have hHH:aj [(w.heap.size+1,28,#[Zi Zq 0,Zi Zq 0,Zi Zq 0,Zt ⟨#[]⟩,Zs none 0 0,Zs none 0 0,Zt ⟨#[]⟩,Zs none 0 0]),(w.heap.size,28,#[Zi Zq k,Zi Zq k1,Zi Zq n1,Zt s1,Zs A1 na1 ca1,Zs B1 nb1 cb1,Zt ⟨s.toArray⟩,Zs (some ⟨b,o,none⟩) nr ca])] w w6:=by
     refine ((HP4.out.pop).alloc _).grown hgr6 (λ j e=>by have:=HRW.out j e;omega) (λ y hy e=>?_);simp only [List.mem_cons,List.not_mem_nil,or_false] at hy;rcases hy with rfl | rfl
     ·have:=HRW.out _ e.symm;omega
     ·have:=HRW.out _ e.symm;omega
    have hVV:ERs w6 (FO (λ b=>F b∨w.heap.size+2<=b) row2) (css++[([Zi Zq k9,Zi Zq k19,Zi Zq n19,Zt s19,Zs A19 na19 ca19,Zs B19 nb19 cb19,Zt s9,Zs A29 n29 ca29]:List Value)]) ((kids.take (i+1)).map (dU r)):=by
     rw [HTK.out];refine qO ?_ hgr6 hob6;refine (RR.imp HV5.out λ c y hc=>hc.bel ((Below.refl _ _).alloc (Nat.le_refl _) _)).snoc ((HV4.out.bel ((Below.refl _ _).alloc (Nat.le_refl _) _)).mono λ b' _ hb'=>?_);rcases hb' with hb' | hb'
     ·exact ⟨.inl hb',λ e=>by have:=HRW.out _ e.symm;have:=HFF.out _ hb';omega⟩
     ·simp at hb';exact ⟨.inr (by omega),λ e=>by have:=HRW.out _ e.symm;omega⟩
    have hOO:w6.ownsRow (w.heap.size+2) 28 8 row2 (i+1) (css++[([Zi Zq k9,Zi Zq k19,Zi Zq n19,Zt s19,Zs A19 na19 ca19,Zs B19 nb19 cb19,Zt s9,Zs A29 n29 ca29]:List Value)]).flatten:=by
     rw [List.flatten_append];simpa using hown6
    have H9:=aW (And.intro hHH (And.intro hOO hVV));clear hHH hOO hVV hown6 hgr6 hob6;go_wp2;go_roundg (m-(i+1))
    case measure=>have:=HGK.out;omega
    case rel=>exact ⟨i+1,row2,_,rfl,by omega,rfl,by go_num,aW H9.out.1,aW H9.out.2.1,aW H9.out.2.2⟩
   ·obtain rfl:i=m:=by omega
    obtain ⟨RA,rc,rfl,hrc,hrn,hrr⟩:=aP HO.out;have HRR:=aW (And.intro hrc (And.intro hrn hrr));clear hrc hrn hrr;obtain ⟨c0,f0,l0⟩:=HH.out.b1.rules;have hne:w.heap.size≠w.heap.size+1:=by omega
    have HB0:=aW (show Blk (wr.setCell ⟨w.heap.size,7,none⟩ (Zs RA i rc)) w.heap.size 28 #[Zi Zq k,Zi Zq k1,Zi Zq n1,Zt s1,Zs A1 na1 ca1,Zs B1 nb1 cb1,Zt ⟨s.toArray⟩,Zs RA i rc] from HH.out.b1.set_ 7 _);have HB1:=aW (show Blk (wr.setCell ⟨w.heap.size,7,none⟩ (Zs RA i rc)) (w.heap.size+1) 28 #[Zi Zq 0,Zi Zq 0,Zi Zq 0,Zt ⟨#[]⟩,Zs none 0 0,Zs none 0 0,Zt ⟨#[]⟩,Zs none 0 0] from Blk.far HH.out.b0 (by show w.heap.size+1≠w.heap.size;omega) _);have HL:=aW (show Below w.heap.size w (wr.setCell ⟨w.heap.size,7,none⟩ (Zs RA i rc)) from HH.out.1.setCell (p:=⟨w.heap.size,7,none⟩) (Nat.le_refl _) _);have HKF:=aW (show af (λ b=>F b∨w.heap.size+2<=b) wr (wr.setCell ⟨w.heap.size,7,none⟩ (Zs RA i rc)) from af.set af.refl (λ b hb=>by rcases hb with hb | hb;exact Nat.ne_of_lt (HFF.out b hb);omega) 7 _);obtain ⟨WF,hWF⟩:∃ W',wr.setCell ⟨w.heap.size,7,none⟩ (Zs RA i rc)=W':=⟨_,rfl⟩
    rw [hWF] at HB0 HB1 HL HKF;have HWF:=aW hWF;clear hWF;go_upto_region 11 with fail;rw [HWF.out];clear HWF c0 f0 l0;obtain ⟨c0,f0,l0⟩:=HB0.out.rules
    first | (refine wpList_store_mid rfl 28 (.tmp 4) (.tmp 34) rfl (w.heap.size+1) 0 #[Zi Zq k,Zi Zq k1,Zi Zq n1,Zt s1,Zs A1 na1 ca1,Zs B1 nb1 cb1,Zt ⟨s.toArray⟩,Zs RA i rc] rfl rfl HB1.out.there (by kernel_rfl) (by first | kernel_rfl | simp [Value.oneCell']) ?_) | (go_step;refine wpList_store_mid rfl 28 (.tmp 4) (.tmp 34) rfl (w.heap.size+1) 0 #[Zi Zq k,Zi Zq k1,Zi Zq n1,Zt s1,Zs A1 na1 ca1,Zs B1 nb1 cb1,Zt ⟨s.toArray⟩,Zs RA i rc] rfl rfl HB1.out.there (by kernel_rfl) (by first | kernel_rfl | simp [Value.oneCell']) ?_) | (go_step;go_step;refine wpList_store_mid rfl 28 (.tmp 4) (.tmp 34) rfl (w.heap.size+1) 0 #[Zi Zq k,Zi Zq k1,Zi Zq n1,Zt s1,Zs A1 na1 ca1,Zs B1 nb1 cb1,Zt ⟨s.toArray⟩,Zs RA i rc] rfl rfl HB1.out.there (by kernel_rfl) (by first | kernel_rfl | simp [Value.oneCell']) ?_) | (go_step;go_step;go_step;refine wpList_store_mid rfl 28 (.tmp 4) (.tmp 34) rfl (w.heap.size+1) 0 #[Zi Zq k,Zi Zq k1,Zi Zq n1,Zt s1,Zs A1 na1 ca1,Zs B1 nb1 cb1,Zt ⟨s.toArray⟩,Zs RA i rc] rfl rfl HB1.out.there (by kernel_rfl) (by first | kernel_rfl | simp [Value.oneCell']) ?_) | (go_step;go_step;go_step;go_step;refine wpList_store_mid rfl 28 (.tmp 4) (.tmp 34) rfl (w.heap.size+1) 0 #[Zi Zq k,Zi Zq k1,Zi Zq n1,Zt s1,Zs A1 na1 ca1,Zs B1 nb1 cb1,Zt ⟨s.toArray⟩,Zs RA i rc] rfl rfl HB1.out.there (by kernel_rfl) (by first | kernel_rfl | simp [Value.oneCell']) ?_)
    have HB2:=aW (HB1.out.set8C (Zi Zq k) (Zi Zq k1) (Zi Zq n1) (Zt s1) (Zs A1 na1 ca1) (Zs B1 nb1 cb1) (Zt ⟨s.toArray⟩) (Zs RA i rc));have HL2:=aW (cx (B:=w.heap.size) (b:=w.heap.size+1) (by omega) [Zi Zq k,Zi Zq k1,Zi Zq n1,Zt s1,Zs A1 na1 ca1,Zs B1 nb1 cb1,Zt ⟨s.toArray⟩,Zs RA i rc] 0 HL.out);have HKF2:=aW (HKF.out.trans (af.setC (F:=λ b=>F b∨w.heap.size+2<=b) (λ b hb=>by rcases hb with hb | hb;exact Nat.ne_of_lt (Nat.lt_succ_of_lt (HFF.out b hb));omega) [Zi Zq k,Zi Zq k1,Zi Zq n1,Zt s1,Zs A1 na1 ca1,Zs B1 nb1 cb1,Zt ⟨s.toArray⟩,Zs RA i rc] 0 af.refl));obtain ⟨WG,hWG⟩:∃ W',WF.setCells (w.heap.size+1) 0 [Zi Zq k,Zi Zq k1,Zi Zq n1,Zt s1,Zs A1 na1 ca1,Zs B1 nb1 cb1,Zt ⟨s.toArray⟩,Zs RA i rc]=W':=⟨_,rfl⟩
    rw [hWG] at HB2 HL2 HKF2;simp only [];rw [hWG];clear hWG c0 f0 l0 HB0 HB1 HL HKF;obtain ⟨c0,f0,l0⟩:=HB2.out.rules;go_wp2;refine bodyPost_ret (v:=.agg #[Zi Zq k,Zi Zq k1,Zi Zq n1,Zt s1,Zs A1 na1 ca1,Zs B1 nb1 cb1,Zt ⟨s.toArray⟩,Zs RA i rc]) (by simp only [results,Tryz.results11];go_simp) rfl ?_;refine ⟨[Zi Zq k,Zi Zq k1,Zi Zq n1,Zt s1,Zs A1 na1 ca1,Zs B1 nb1 cb1,Zt ⟨s.toArray⟩,Zs RA i rc],rfl,?_,HL2.out⟩;have hvv:=(HVV.out.keep (af.of_below HL2.out)).mono (F':=FN F w) λ b _ h=>.inl h
    have hl:i=((kids.take 6).map (dU r)).length:=by rw [List.length_map,List.length_take,HNR.out];have:=HM.out;omega
    have he:(kids.take i).map (dU r)=(kids.take 6).map (dU r):=by rw [← HM.out,← HNR.out,Nat.min_comm,← List.take_take,List.take_length]
    have hrr:ERs wr (FO (λ b=>F b∨w.heap.size+2<=b) (Zs RA i rc)) css ((kids.take 6).map (dU r)):=by rw [← he];exact HV.out
    exact ER.into hvv (RR.imp hrr λ c y (hc:ER wr _ c y)=>((hc.mono (F':=λ b=>F b∨w.heap.size+2<=b) λ b _ h=>h.1).keep HKF2.out).mono λ b _ h=>h.imp id λ h=>by omega) hl (by rw [← hl];exact HRR.out.1) HRR.out.2.1 (((HRR.out.2.2.mono (F':=λ b=>F b∨w.heap.size+2<=b) λ b _ h=>.inr h).keep HKF2.out).mono λ b _ h=>h.imp id λ h=>by omega)
end
section
open Go.RowKit
theorem tP (l:List SJ) (css:List (List Value)) (A:Option Addr) (n ca:Nat) (w:World) (hS:SRs w TT css l) (hln:l.length=n) (hnc:n<=ca) (hR:RdF w TT A css.flatten) (hC:bK l) (hn:n<=4194304) :
  Calls Tryz.prog 22 #[.agg #[Zs A n ca]] w (aF (jb l) w):=by
 have HC:=aW (λ (W:World) (h:Below w.heap.size w W)=>tj 12 l css A n ca 12 W rfl (Nat.le_refl _) (RR.imp hS λ c x (hc:SR _ _ c x)=>hc.bel h) hln hnc (hR.keep (af.of_below h)) hC hn);have HH0:=aW ((aj.nil w).push 46 #[Zs A n ca] (g:=w.heap.size) rfl);obtain ⟨g,hg⟩:∃ g,aZ 12 l=g:=⟨_,rfl⟩
 have hgp:jb l=g:=hg;rw [hg] at HC;rw [hgp];clear hS hln hnc hR hC hn hg hgp;obtain ⟨c0,f0,l0⟩:=HH0.out.b0.rules;go_enter Tryz.func22,Tryz.ntmps22;go_wp2_with fail;refine (HC.out _ HH0.out.1).mono ?_;rintro e w1 ⟨rfl,hb1⟩;have HH1:=aW (HH0.out.keep hb1);clear hb1 c0 f0 l0;go_wp2;go_ret;exact ⟨rfl,HH1.out.1⟩
end
section
open Go.RowKit
attribute [local go_sem] aa ac ae ab
theorem yc {env:List (List UInt8 × JV)} {v:JV} {s:List UInt8} {ya yb:EJ} {cs:List Value} {EA:Option Addr} {n ec:Nat} {F:Nat->Prop} {w:World} (hF:∀ b,F b->b<w.heap.size) (hx:ER w F cs (.mk 3 v s [ya])) (hcx:bh (.mk 3 v s [ya]))
  (ka:dA EA n ec F env w ya) (kb:dA EA n ec F env w yb) (oa ob:Option JV) (hoa:evE env ya=oa) (hob:evE env yb=ob) (op:Option JV) (hop:bg env 3 v s [oa]=op) :
  Calls Tryz.prog 17 #[.agg cs.toArray,Zs EA n ec] w (IsP op F w):=by
 obtain ⟨k1,n1,s1,A1,na1,ca1,B1,nb1,cb1,A,ca,css0,rfl,hv,h1,h2,h3,h4⟩:=hx.out;obtain ⟨b,o,kx,px,nx,sx,Ax,nax,cax,Bx,nbx,cbx,zx,Cx,ncx,ccx,rfl,hb,hER,hz⟩:=aq h1 h4 (i:=0) (x:=ya) rfl;have HKA:=aW (λ (W:World) (h:Below w.heap.size w W)=>ka W _ h (hER.bel h));rw [hoa] at HKA;obtain ⟨nr,hnr⟩:∃ q:Nat,1=q:=⟨_,rfl⟩
 have hnr1:0<nr:=by omega
 have HFF:=aW hF;have HOP:=aW hop;have HVS:=aW hv;have HH0:=aW (((aj.nil w).push 28 #[Zi Zq 3,Zi Zq k1,Zi Zq n1,Zt s1,Zs A1 na1 ca1,Zs B1 nb1 cb1,Zt ⟨s.toArray⟩,Zs (some ⟨b,o,none⟩) nr ca] (g:=w.heap.size) rfl).push 40 #[Zi Zq 0,Zi Zq 0,Zt ⟨#[]⟩,Zs none 0 0,Zs none 0 0,.bool false] (g:=w.heap.size+1) (by simp));obtain ⟨z0,z1,z2,z3,z4,z5,z6,z7⟩:=hz _ HH0.out.1;rw [dP] at z0 z1 z2 z3 z4 z5 z6 z7;have hlb:b<w.heap.size:=hb;have hlb2:b≠w.heap.size+1:=by omega
 rw [show ([ya]:List EJ).length=nr from hnr];obtain ⟨c0,f0,l0⟩:=HH0.out.b1.rules;clear hF hx hcx hv h1 h2 h3 h4 hER hz hb hoa hob hop hnr ka kb;go_enter Tryz.func17,Tryz.ntmps17;go_wp2_with fail;refine (HKA.out _ HH0.out.1).mono ?_;rintro e w1 ⟨k5,n5,s5,A5,na5,ca5,B5,nb5,cb5,va,ba,rfl,hva,hca,hoa,hga,hza,hb1⟩;obtain ⟨WA,hWA⟩:∃ W,w1.alloc (.cells #[Zi Zq k5,Zi Zq n5,Zt s5,Zs A5 na5 ca5,Zs B5 nb5 cb5,.bool ba] 40)=W:=⟨_,rfl⟩
 have HWA:=aW hWA;have HH1:=aW (show aj [(w1.heap.size,40,#[Zi Zq k5,Zi Zq n5,Zt s5,Zs A5 na5 ca5,Zs B5 nb5 cb5,.bool ba]),(w.heap.size+1,40,#[Zi Zq 0,Zi Zq 0,Zt ⟨#[]⟩,Zs none 0 0,Zs none 0 0,.bool false]),(w.heap.size,28,#[Zi Zq 3,Zi Zq k1,Zi Zq n1,Zt s1,Zs A1 na1 ca1,Zs B1 nb1 cb1,Zt ⟨s.toArray⟩,Zs (some ⟨b,o,none⟩) nr ca])] w WA by rw [← hWA];exact (HH0.out.keep hb1).push 40 #[Zi Zq k5,Zi Zq n5,Zt s5,Zs A5 na5 ca5,Zs B5 nb5 cb5,.bool ba] (g:=w1.heap.size) rfl);have HW1:=aW (show Below w1.heap.size w1 WA by rw [← hWA];exact (Below.refl _ w1).alloc (Nat.le_refl _) _);have HVA:=aW (λ (W:World) (h:Below w1.heap.size w1 W)=>IsP.val (w:=w) (by simp) hva h);have HQA:=aW (And.intro hca (And.intro hoa (And.intro hga hza)));have hs1:w.heap.size+2<=w1.heap.size:=by have:=hb1.size;simpa using this
 have hn1:w1.heap.size≠w.heap.size+1:=by omega
 have hn2:w1.heap.size≠w.heap.size:=by omega
 clear hWA hva hca hoa hga hza hb1 c0 f0 l0 z0 z1 z2 z3 z4 z5 z6 z7 HKA;go_upto_region 24 with fail;rw [HWA.out];clear HWA;obtain ⟨c0,f0,l0⟩:=HH1.out.b2.rules;obtain ⟨c1,f1,l1⟩:=HH1.out.b1.rules;obtain ⟨c2,f2,l2⟩:=HH1.out.b0.rules;cases ba with
 |false =>
  have HX:=aW (show op=none by rw [← HOP.out,HQA.out.2.1];rfl);go_upto_region 25 with fail
  try simp only []
  go_step;go_step;go_step;go_step;refine bS rfl 40 4 98 rfl (w.heap.size+1) 0 #[Zi Zq 0,Zi Zq 0,Zt ⟨#[]⟩,Zs none 0 0,Zs none 0 0,.bool false] rfl rfl HH1.out.b1.there ?_;have HBR:=aW (HH1.out.b1.set6C (Zi Zq 0) (Zi Zq 0) (Zt ⟨#[]⟩) (Zs none 0 0) (Zs none 0 0) (.bool false));have HPT:=aW (show IsP op F w (.returned (.agg #[Zi Zq 0,Zi Zq 0,Zt ⟨#[]⟩,Zs none 0 0,Zs none 0 0,.bool false])) (WA.setCells (w.heap.size+1) 0 [Zi Zq 0,Zi Zq 0,Zt ⟨#[]⟩,Zs none 0 0,Zs none 0 0,.bool false]) from IsP.nilC HX.out HH1.out.1);obtain ⟨WG,hWG⟩:∃ W',WA.setCells (w.heap.size+1) 0 [Zi Zq 0,Zi Zq 0,Zt ⟨#[]⟩,Zs none 0 0,Zs none 0 0,.bool false]=W':=⟨_,rfl⟩
  rw [hWG] at HBR HPT
  try simp only []
  rw [hWG];clear hWG;obtain ⟨cR,fR,lR⟩:=HBR.out.rules;go_wp2_with ((with_reducible refine bodyPost_ret (v:=.agg #[Zi Zq 0,Zi Zq 0,Zt ⟨#[]⟩,Zs none 0 0,Zs none 0 0,.bool false]) ?_ rfl ?_);(simp only [results,Tryz.results17];go_simp);exact HPT.out)
 | true =>
 have HOA:=aW (show oa=some va from HQA.out.2.1);have HGA:=aW (HQA.out.2.2.1 rfl);have HCA:=aW HQA.out.1;clear HQA;go_wp2_with fail;refine (cU _ _ _ _ _ _ _ _ _ _ _).mono ?_;rintro e w2 ⟨rfl,hb2⟩;have HH2:=aW (HH1.out.keep hb2);have HW2:=aW (HW1.out.trans (hb2.mono HW1.out.size));clear hb2 c0 f0 l0 c1 f1 l1 c2 f2 l2;obtain ⟨c0,f0,l0⟩:=HH2.out.b2.rules;obtain ⟨c1,f1,l1⟩:=HH2.out.b1.rules;obtain ⟨c2,f2,l2⟩:=HH2.out.b0.rules;have HGT:=aW (λ (W:World) (h:Below w1.heap.size w1 W)=>vW (F:=λ b=>F b∨w.heap.size+2<=b) s W (HVA.out W h) HCA.out HGA.out);have HO:=aW (show op=gv va s by rw [← HOP.out,HOA.out];rfl);go_upto_region 29 with fail;go_wp2_with fail;refine (HGT.out _ HW2.out).mono ?_;rintro e w3 ⟨cs6,vb,bb,rfl,hvb,hcb,hob,hgb,hb3⟩;obtain ⟨k6,n6,s6,A6,na6,ca6,B6,nb6,cb6,rfl⟩:=hvb.form;obtain ⟨WB,hWB⟩:∃ W,w3.alloc (.cells #[Zi Zq k6,Zi Zq n6,Zt s6,Zs A6 na6 ca6,Zs B6 nb6 cb6] 25)=W:=⟨_,rfl⟩
 have HWB:=aW hWB;have HH3:=aW (show aj [(w3.heap.size,25,#[Zi Zq k6,Zi Zq n6,Zt s6,Zs A6 na6 ca6,Zs B6 nb6 cb6]),(w1.heap.size,40,#[Zi Zq k5,Zi Zq n5,Zt s5,Zs A5 na5 ca5,Zs B5 nb5 cb5,.bool true]),(w.heap.size+1,40,#[Zi Zq 0,Zi Zq 0,Zt ⟨#[]⟩,Zs none 0 0,Zs none 0 0,.bool false]),(w.heap.size,28,#[Zi Zq 3,Zi Zq k1,Zi Zq n1,Zt s1,Zs A1 na1 ca1,Zs B1 nb1 cb1,Zt ⟨s.toArray⟩,Zs (some ⟨b,o,none⟩) nr ca])] w WB by rw [← hWB];exact (HH2.out.keep hb3).push 25 #[Zi Zq k6,Zi Zq n6,Zt s6,Zs A6 na6 ca6,Zs B6 nb6 cb6] (g:=w3.heap.size) rfl);have HW3:=aW (show Below w3.heap.size w3 WB by rw [← hWB];exact (Below.refl _ w3).alloc (Nat.le_refl _) _);have HVB:=aW (λ (W:World) (h:Below w3.heap.size w3 W)=>hvb.bel h);have HQB:=aW (And.intro hcb (And.intro hob hgb));have hn3:w3.heap.size≠w.heap.size+1:=by have:=hb3.size;have:=HH2.out.b0.lt;omega
 clear hWB hvb hcb hob hgb hb3 c0 f0 l0 c1 f1 l1 c2 f2 l2;go_upto_region 30 with fail;rw [HWB.out];clear HWB;obtain ⟨c0,f0,l0⟩:=HH3.out.b3.rules;obtain ⟨c3,f3,l3⟩:=HH3.out.b0.rules;cases bb with
 |false =>
  have HX:=aW (show op=none by rw [HO.out,HQB.out.2.1];rfl);go_upto_region 31 with fail
  try simp only []
  go_step;go_step;go_step;go_step;refine bS rfl 40 4 118 rfl (w.heap.size+1) 0 #[Zi Zq 0,Zi Zq 0,Zt ⟨#[]⟩,Zs none 0 0,Zs none 0 0,.bool false] rfl rfl HH3.out.b2.there ?_;have HBR:=aW (HH3.out.b2.set6C (Zi Zq 0) (Zi Zq 0) (Zt ⟨#[]⟩) (Zs none 0 0) (Zs none 0 0) (.bool false));have HPT:=aW (show IsP op F w (.returned (.agg #[Zi Zq 0,Zi Zq 0,Zt ⟨#[]⟩,Zs none 0 0,Zs none 0 0,.bool false])) (WB.setCells (w.heap.size+1) 0 [Zi Zq 0,Zi Zq 0,Zt ⟨#[]⟩,Zs none 0 0,Zs none 0 0,.bool false]) from IsP.nilC HX.out HH3.out.1);obtain ⟨WG,hWG⟩:∃ W',WB.setCells (w.heap.size+1) 0 [Zi Zq 0,Zi Zq 0,Zt ⟨#[]⟩,Zs none 0 0,Zs none 0 0,.bool false]=W':=⟨_,rfl⟩
  rw [hWG] at HBR HPT
  try simp only []
  rw [hWG];clear hWG;obtain ⟨cR,fR,lR⟩:=HBR.out.rules;go_wp2_with ((with_reducible refine bodyPost_ret (v:=.agg #[Zi Zq 0,Zi Zq 0,Zt ⟨#[]⟩,Zs none 0 0,Zs none 0 0,.bool false]) ?_ rfl ?_);(simp only [results,Tryz.results17];go_simp);exact HPT.out)
 | true =>
 have HX:=aW (show op=some vb by rw [HO.out,HQB.out.2.1];rfl);go_upto_region 32 with fail;go_wp2_with fail;refine (d9 _ _ _ _ _ _ _ _ _ _).mono ?_;rintro e w5 ⟨rfl,hb5⟩;have HH5:=aW (HH3.out.keep hb5);have HW5:=aW (HW3.out.trans (hb5.mono HW3.out.size));clear hb5 c0 f0 l0 c3 f3 l3
 try simp only []
 go_step;refine bS rfl 40 4 120 rfl (w.heap.size+1) 0 #[Zi Zq k6,Zi Zq n6,Zt s6,Zs A6 na6 ca6,Zs B6 nb6 cb6,.bool true] rfl rfl HH5.out.b2.there ?_;have HBR:=aW (HH5.out.b2.set6C (Zi Zq k6) (Zi Zq n6) (Zt s6) (Zs A6 na6 ca6) (Zs B6 nb6 cb6) (.bool true));have HPT:=aW (show IsP op F w (.returned (.agg #[Zi Zq k6,Zi Zq n6,Zt s6,Zs A6 na6 ca6,Zs B6 nb6 cb6,.bool true])) (w5.setCells (w.heap.size+1) 0 [Zi Zq k6,Zi Zq n6,Zt s6,Zs A6 na6 ca6,Zs B6 nb6 cb6,.bool true]) from IsP.put HX.out (by first | exact HQB.out.2.2 rfl | exact HQB.out.2.2 trivial) HQB.out.1 HFF.out (HVB.out _ HW5.out) HH5.out.1);obtain ⟨WG,hWG⟩:∃ W',w5.setCells (w.heap.size+1) 0 [Zi Zq k6,Zi Zq n6,Zt s6,Zs A6 na6 ca6,Zs B6 nb6 cb6,.bool true]=W':=⟨_,rfl⟩
 rw [hWG] at HBR HPT
 try simp only []
 rw [hWG];clear hWG;obtain ⟨cR,fR,lR⟩:=HBR.out.rules;go_wp2_with ((with_reducible refine bodyPost_ret (v:=.agg #[Zi Zq k6,Zi Zq n6,Zt s6,Zs A6 na6 ca6,Zs B6 nb6 cb6,.bool true]) ?_ rfl ?_);(simp only [results,Tryz.results17];go_simp);exact HPT.out)
theorem mE:∀ {env:List (List UInt8 × JV)} {s:List UInt8},(∀ x ∈ env,x.1≠s)->bo env s=none
 | [],s,_=>rfl
 |(t,z)::r,s,h=>by
  unfold bo;rw [mE λ x hx=>h x (List.mem_cons_of_mem _ hx)];have h9:¬ t=s:=h (t,z) List.mem_cons_self;simp [h9]
theorem pG:∀ {env:List (List UInt8 × JV)} {i:Nat} {s:List UInt8} {u:JV},env[i]? = some (s,u)->(∀ (j:Nat) x,i<j->env[j]? = some x->x.1≠s)->bo env s=some u
 |(t,z)::r,0,s,u,h,hn=>by
  obtain ⟨rfl,rfl⟩:t=s/\z=u:=by simpa using h
  have:bo r t=none:=mE λ x hx=>by
   obtain ⟨j,hj,rfl⟩:=List.getElem_of_mem hx;exact hn (j+1) _ (by omega) (by rw [List.getElem?_cons_succ];exact List.getElem?_eq_getElem hj)
  unfold bo;rw [this];simp
 |(t,z)::r,i+1,s,u,h,hn=>by
  have ih:=pG (env:=r) (i:=i) (s:=s) (u:=u) (by simpa using h) (λ j x hj hx=>hn (j+1) x (by omega) (by simpa using hx));unfold bo;rw [ih]
theorem xY {env:List (List UInt8 × JV)} {v:JV} {s:List UInt8} {ya yb:EJ} {cs:List Value} {EA:Option Addr} {n ec:Nat} {F:Nat->Prop} {w:World} (hF:∀ b,F b->b<w.heap.size) (hx:ER w F cs (.mk 2 v s [])) (hcx:bh (.mk 2 v s [])) {ecs:List (List Value)} (hE:dL w F ecs env) (hR:RdF w F EA ecs.flatten) (hn:env.length=n) (hl:n<=4194304) (hce:∀ b ∈ env,au b.2/\good b.2=true) (op:Option JV) (hop:bg env 2 v s []=op) :
  Calls Tryz.prog 17 #[.agg cs.toArray,Zs EA n ec] w (IsP op F w):=by
 obtain ⟨k1,n1,s1,A1,na1,ca1,B1,nb1,cb1,A,ca,css0,rfl,hv,h1,h2,h3,h4⟩:=hx.out;have HFF:=aW hF;have HOP:=aW hop;have HVS:=aW hv;have HH0:=aW (((aj.nil w).push 28 #[Zi Zq 2,Zi Zq k1,Zi Zq n1,Zt s1,Zs A1 na1 ca1,Zs B1 nb1 cb1,Zt ⟨s.toArray⟩,Zs A 0 ca] (g:=w.heap.size) rfl).push 40 #[Zi Zq 0,Zi Zq 0,Zt ⟨#[]⟩,Zs none 0 0,Zs none 0 0,.bool false] (g:=w.heap.size+1) (by simp));obtain ⟨W0,hW0⟩:∃ W,(w.alloc (.cells #[Zi Zq 2,Zi Zq k1,Zi Zq n1,Zt s1,Zs A1 na1 ca1,Zs B1 nb1 cb1,Zt ⟨s.toArray⟩,Zs A 0 ca] 28)).alloc (.cells #[Zi Zq 0,Zi Zq 0,Zt ⟨#[]⟩,Zs none 0 0,Zs none 0 0,.bool false] 40)=W:=⟨_,rfl⟩
 have HHW:=aW (show aj [(w.heap.size+1,40,#[Zi Zq 0,Zi Zq 0,Zt ⟨#[]⟩,Zs none 0 0,Zs none 0 0,.bool false]),(w.heap.size,28,#[Zi Zq 2,Zi Zq k1,Zi Zq n1,Zt s1,Zs A1 na1 ca1,Zs B1 nb1 cb1,Zt ⟨s.toArray⟩,Zs A 0 ca])] w W0 by rw [← hW0];exact HH0.out);have HW0:=aW hW0;clear hW0 HH0;obtain ⟨sb,hsb⟩:∃ b:ByteArray,(⟨s.toArray⟩:ByteArray)=b:=⟨_,rfl⟩
 rw [hsb] at HHW HW0 ⊢;have HSB:=aW hsb;clear hsb;have HE:=aW (And.intro hE hR);have HN:=aW (And.intro hn hce);have HX0:=aW (show op=bo env s by rw [← HOP.out];rfl);clear hF hx hcx hv h1 h2 h3 h4 hop hE hR hn hce;go_enter Tryz.func17,Tryz.ntmps17;go_upto_region 1 with fail;rw [HW0.out];obtain ⟨c0,f0,l0⟩:=HHW.out.b1.rules;go_upto_region 6 with fail;go_loopg [5] n (λ gk s5 wr => ∃ (i:Nat),i<=n/\gk=i/\s5=Zi Zq (i:Int)/\Hid (aj [(w.heap.size+1,40,#[Zi Zq 0,Zi Zq 0,Zt ⟨#[]⟩,Zs none 0 0,Zs none 0 0,.bool false]),(w.heap.size,28,#[Zi Zq 2,Zi Zq k1,Zi Zq n1,Zt s1,Zs A1 na1 ca1,Zs B1 nb1 cb1,Zt sb,Zs A 0 ca])] w wr)/\Hid (∀ (j:Nat) x,i<=j->env[j]? = some x->x.1≠s))
 case atStart=>exact ⟨n,Nat.le_refl _,rfl,rfl,HHW,aW (λ j x hj hx=>by have:=(List.getElem?_eq_some_iff.1 hx).1;rw [HN.out.1] at this;omega)⟩
 case round =>
  obtain ⟨i,hin,hgk,rfl,HH,HNO⟩:=hrel;have HGK:=aW hgk;clear c0 f0 l0 hgk;obtain ⟨c0,f0,l0⟩:=HH.out.b1.rules;cases i with
  |zero =>
   have HX:=aW (show op=none by
    rw [HX0.out,mE];intro x hx;obtain ⟨j,hj,rfl⟩:=List.getElem_of_mem hx;exact HNO.out j _ (Nat.zero_le _) (List.getElem?_eq_getElem hj))
   go_upto_region 10 with fail
   try simp only []
   go_step;go_step;go_step;go_step;refine bS rfl 40 4 54 rfl (w.heap.size+1) 0 #[Zi Zq 0,Zi Zq 0,Zt ⟨#[]⟩,Zs none 0 0,Zs none 0 0,.bool false] rfl rfl HH.out.b0.there ?_;have HBR:=aW (HH.out.b0.set6C (Zi Zq 0) (Zi Zq 0) (Zt ⟨#[]⟩) (Zs none 0 0) (Zs none 0 0) (.bool false));have HPT:=aW (show IsP op F w (.returned (.agg #[Zi Zq 0,Zi Zq 0,Zt ⟨#[]⟩,Zs none 0 0,Zs none 0 0,.bool false])) (wr.setCells (w.heap.size+1) 0 [Zi Zq 0,Zi Zq 0,Zt ⟨#[]⟩,Zs none 0 0,Zs none 0 0,.bool false]) from IsP.nilC HX.out HH.out.1);obtain ⟨WG,hWG⟩:∃ W',wr.setCells (w.heap.size+1) 0 [Zi Zq 0,Zi Zq 0,Zt ⟨#[]⟩,Zs none 0 0,Zs none 0 0,.bool false]=W':=⟨_,rfl⟩
   rw [hWG] at HBR HPT
   try simp only []
   rw [hWG];clear hWG;obtain ⟨cR,fR,lR⟩:=HBR.out.rules;go_wp2_with ((with_reducible refine bodyPost_ret (v:=.agg #[Zi Zq 0,Zi Zq 0,Zt ⟨#[]⟩,Zs none 0 0,Zs none 0 0,.bool false]) ?_ rfl ?_);(simp only [results,Tryz.results17];go_simp);exact HPT.out)
  |succ i =>
   obtain ⟨⟨xs,xv⟩,hx⟩:∃ x,env[i]? = some x:=⟨_,List.getElem?_eq_getElem (by rw [HN.out.1];omega)⟩
   obtain ⟨bb,oo,k6,n6,s6,A6,na6,ca6,B6,nb6,cb6,rfl,hbb,hFb,hvb,hz⟩:=gl HE.out.1 HE.out.2 hx;obtain ⟨z0,z1,z2,z3,z4,z5⟩:=hz wr (af.of_below HH.out.1);have HZ:=aW hz;have HVB:=aW hvb;have HXM:=aW (HN.out.2 _ (List.mem_of_getElem? hx));have HXI:=aW hx;have hlb:bb<wr.heap.size:=Nat.lt_of_lt_of_le hbb HH.out.1.size;have hbn:bb≠w.heap.size+1:=by have:=HFF.out bb hFb;omega
   have hwi:IntKind.i64.wrap (((i+1:Nat):Int)-1)=(i:Int):=by rw [IntKind.wrap_i64];omega
   have hi0:(0:Int)<((i+1:Nat):Int):=by omega
   have hi1:(i:Int)<(n:Int):=by omega
   have hi2:(0:Int)<=(i:Int):=by omega
   obtain ⟨xb,hxb⟩:∃ b:ByteArray,(⟨xs.toArray⟩:ByteArray)=b:=⟨_,rfl⟩
   have hse:(xb.toList == sb.toList)=decide (xs=s):=by rw [← hxb,← HSB.out];exact pD
   obtain ⟨i1,hi3⟩:∃ q:Int,((i+1:Nat):Int)=q:=⟨_,rfl⟩
   rw [hi3] at hwi hi0 ⊢;have HI3:=aW hi3;replace z0:wr.cell? ⟨bb,oo+i*6,none⟩=some (Zt xb):=by rw [← hxb];exact z0
   clear hz hvb hx hbb hFb hxb hi3;go_upto_region 8 with fail;by_cases hxs:xs=s
   ·rw [decide_eq_true hxs] at hse;have HX:=aW (show op=some xv by
     rw [HX0.out];refine pG (i:=i) (by rw [HXI.out,hxs]) λ j x hj hx=>HNO.out j x (by omega) hx)
    clear hxs;go_quiet (fail);clear c0 f0 l0;obtain ⟨c0,f0,l0⟩:=HH.out.b1.rules;go_upto_region 9 with fail;go_wp2_with fail;refine (d9 _ _ _ _ _ _ _ _ _ _).mono ?_;rintro e w5 ⟨rfl,hb5⟩;have HH5:=aW ((HH.out.drewN _).keep hb5);have HVV:=aW ((HVB.out.bel HH5.out.1).mono (F':=λ b=>F b∨w.heap.size+2<=b) λ b _ h=>.inl h);clear hb5 c0 f0 l0 z0 z1 z2 z3 z4 z5 hse
    try simp only []
    go_step;refine bS rfl 40 4 53 rfl (w.heap.size+1) 0 #[Zi Zq k6,Zi Zq n6,Zt s6,Zs A6 na6 ca6,Zs B6 nb6 cb6,.bool true] rfl rfl HH5.out.b0.there ?_;have HBR:=aW (HH5.out.b0.set6C (Zi Zq k6) (Zi Zq n6) (Zt s6) (Zs A6 na6 ca6) (Zs B6 nb6 cb6) (.bool true));have HPT:=aW (show IsP op F w (.returned (.agg #[Zi Zq k6,Zi Zq n6,Zt s6,Zs A6 na6 ca6,Zs B6 nb6 cb6,.bool true])) (w5.setCells (w.heap.size+1) 0 [Zi Zq k6,Zi Zq n6,Zt s6,Zs A6 na6 ca6,Zs B6 nb6 cb6,.bool true]) from IsP.put HX.out HXM.out.2 HXM.out.1 HFF.out HVV.out HH5.out.1);obtain ⟨WG,hWG⟩:∃ W',w5.setCells (w.heap.size+1) 0 [Zi Zq k6,Zi Zq n6,Zt s6,Zs A6 na6 ca6,Zs B6 nb6 cb6,.bool true]=W':=⟨_,rfl⟩
    rw [hWG] at HBR HPT
    try simp only []
    rw [hWG];clear hWG;obtain ⟨cR,fR,lR⟩:=HBR.out.rules;go_wp2_with ((with_reducible refine bodyPost_ret (v:=.agg #[Zi Zq k6,Zi Zq n6,Zt s6,Zs A6 na6 ca6,Zs B6 nb6 cb6,.bool true]) ?_ rfl ?_);(simp only [results,Tryz.results17];go_simp);exact HPT.out)
   ·rw [decide_eq_false hxs] at hse;have HN2:=aW (show ∀ (j:Nat) x,i<=j->env[j]? = some x->x.1≠s from λ j x hj hx=>by
     rcases Nat.lt_or_ge i j with h | h
     ·exact HNO.out j x (by omega) hx
     ·obtain rfl:j=i:=by omega
      rw [HXI.out] at hx;obtain rfl:=Option.some.inj hx;exact hxs)
    clear hxs;go_quiet (fail);go_wp2;go_roundg i
    case measure=>have:=HGK.out;omega
    case rel=>exact ⟨i,by omega,rfl,by first | rfl | go_num,aW (HH.out.drewN _),HN2⟩
theorem yl {env:List (List UInt8 × JV)} {v:JV} {s:List UInt8} {kids:List EJ} {cs:List Value} {EA:Option Addr} {n ec:Nat} {F:Nat->Prop} {w:World} (hF:∀ b,F b->b<w.heap.size) (hx:ER w F cs (.mk 4 v s kids)) (hk:∀ y ∈ kids,dA EA n ec F env w y) (hl:kids.length<=16000)
  (op:Option JV) (hop:bg env 4 v s (kids.map (evE env))=op) :
  Calls Tryz.prog 17 #[.agg cs.toArray,Zs EA n ec] w (IsP op F w):=by
 obtain ⟨k1,n1,s1,A1,na1,ca1,B1,nb1,cb1,A,ca,css0,rfl,hv,h1,h2,h3,h4⟩:=hx.out;have HKD:=aW (And.intro h1 h4);have HKC:=aW hk;obtain ⟨nr,hnr⟩:∃ q,kids.length=q:=⟨_,rfl⟩
 have HNR:=aW hnr;rw [hnr] at h2 hl ⊢;have HFF:=aW hF;have HOP:=aW (show op=(match nh (kids.map (evE env)) with | some xs=>if good (dM xs)=true then some (dM xs) else none | none=>none) by rw [← hop];rfl);obtain ⟨i0,hi,hz0,hz1,hz2⟩:=info_parts nJ;have HI:=aW hi;have HH0:=aW ((((aj.nil w).push 28 #[Zi Zq 4,Zi Zq k1,Zi Zq n1,Zt s1,Zs A1 na1 ca1,Zs B1 nb1 cb1,Zt ⟨s.toArray⟩,Zs A nr ca] (g:=w.heap.size) rfl).push 40 #[Zi Zq 0,Zi Zq 0,Zt ⟨#[]⟩,Zs none 0 0,Zs none 0 0,.bool false] (g:=w.heap.size+1) (by simp)).push 25 #[Zi Zq 5,Zi Zq 0,Zt ⟨#[]⟩,Zs none 0 0,Zs none 0 0] (g:=w.heap.size+2) (by simp));obtain ⟨W0,hW0⟩:∃ W,((w.alloc (.cells #[Zi Zq 4,Zi Zq k1,Zi Zq n1,Zt s1,Zs A1 na1 ca1,Zs B1 nb1 cb1,Zt ⟨s.toArray⟩,Zs A nr ca] 28)).alloc (.cells #[Zi Zq 0,Zi Zq 0,Zt ⟨#[]⟩,Zs none 0 0,Zs none 0 0,.bool false] 40)).alloc (.cells #[Zi Zq 5,Zi Zq 0,Zt ⟨#[]⟩,Zs none 0 0,Zs none 0 0] 25)=W:=⟨_,rfl⟩
 have HHW:=aW (show aj [(w.heap.size+2,25,#[Zi Zq 5,Zi Zq 0,Zt ⟨#[]⟩,Zs none 0 0,Zs none 0 0]),(w.heap.size+1,40,#[Zi Zq 0,Zi Zq 0,Zt ⟨#[]⟩,Zs none 0 0,Zs none 0 0,.bool false]),(w.heap.size,28,#[Zi Zq 4,Zi Zq k1,Zi Zq n1,Zt s1,Zs A1 na1 ca1,Zs B1 nb1 cb1,Zt ⟨s.toArray⟩,Zs A nr ca])] w W0 by rw [← hW0];exact HH0.out);have HW0:=aW hW0;obtain ⟨c0,f0,l0⟩:=(((aj.nil w).push 28 #[Zi Zq 4,Zi Zq k1,Zi Zq n1,Zt s1,Zs A1 na1 ca1,Zs B1 nb1 cb1,Zt ⟨s.toArray⟩,Zs A nr ca] (g:=w.heap.size) rfl).push 40 #[Zi Zq 0,Zi Zq 0,Zt ⟨#[]⟩,Zs none 0 0,Zs none 0 0,.bool false] (g:=w.heap.size+1) (by simp)).b1.rules;clear hW0 HH0 hF hx hk hv h1 h2 h3 h4 hnr hop hi;go_enter Tryz.func17,Tryz.ntmps17;go_upto_region 13 with fail;rw [HW0.out];clear c0 f0 l0 HW0;go_upto_region 14 with fail;go_loopg [7] nr (λ gk s7 wr => ∃ (i:Nat) (RA:Option Addr) (rc:Nat) (xs:List JV) (css:List (List Value)),s7=Zi Zq (i:Int)/\i<=nr/\gk=nr-i/\Hid (aj [(w.heap.size+2,25,#[Zi Zq 5,Zi Zq 0,Zt ⟨#[]⟩,Zs RA i rc,Zs none 0 0]),(w.heap.size+1,40,#[Zi Zq 0,Zi Zq 0,Zt ⟨#[]⟩,Zs none 0 0,Zs none 0 0,.bool false]),(w.heap.size,28,#[Zi Zq 4,Zi Zq k1,Zi Zq n1,Zt s1,Zs A1 na1 ca1,Zs B1 nb1 cb1,Zt ⟨s.toArray⟩,Zs A nr ca])] w wr)/\Hid (wr.ownsRow (w.heap.size+3) 25 5 (Zs RA i rc) i css.flatten)/\Hid (VRs wr (FO (λ b=>F b∨w.heap.size+3<=b) (Zs RA i rc)) css xs)/\Hid (xs.length=i/\(kids.take i).map (evE env)=xs.map some/\∀ x ∈ xs,au x/\good x=true))
 case atStart=>exact ⟨0,none,0,[],[],rfl,Nat.zero_le _,by go_num,HHW,aW (World.ownsRow_nil _ _ _ _),aW VRs.nil,aW ⟨rfl,rfl,λ x hx=>by cases hx⟩⟩
 case round =>
  obtain ⟨i,RA,rc,xs,css,rfl,hin,hgk,HH,HO,HV,HX⟩:=hrel;have HGK:=aW hgk;clear hgk HHW;by_cases hlt:i<nr
  ·obtain ⟨x,hx⟩:∃ x,kids[i]? = some x:=⟨_,List.getElem?_eq_getElem (by rw [HNR.out];exact hlt)⟩
   have hxm:=List.mem_of_getElem? hx;obtain ⟨b,o,kx,px,nx,sx,Ax,nax,cax,Bx,nbx,cbx,zx,Cx,ncx,ccx,rfl,hb,hER,hz⟩:=aq HKD.out.1 HKD.out.2 hx;obtain ⟨z0,z1,z2,z3,z4,z5,z6,z7⟩:=hz wr HH.out.1;have HTK:=aW (show kids.take (i+1)=kids.take i++[x] by rw [List.take_add_one,hx];rfl);have HXN:=aW (show evE env x=none->op=none from λ h0=>by rw [HOP.out,iJ (List.mem_map.2 ⟨x,hxm,h0⟩)]);have HE:=aW (λ (W:World) (h:Below w.heap.size w W)=>HKC.out x hxm W _ h (hER.bel h));have hlb:b<wr.heap.size:=Nat.lt_of_lt_of_le hb HH.out.1.size;have hwr2:w.heap.size+3<=wr.heap.size:=HH.out.b0.lt;obtain ⟨c0,f0,l0⟩:=HH.out.b2.rules;clear hz hER hx hxm hb;go_wp2_with fail;refine (HE.out _ HH.out.1).mono ?_;rintro e w4 ⟨k5,n5,s5,A5,na5,ca5,B5,nb5,cb5,va,ba,rfl,hva,hca,hoa,hga,hza,hb4⟩;obtain ⟨W5,hW5⟩:∃ W5,w4.alloc (.cells #[Zi Zq k5,Zi Zq n5,Zt s5,Zs A5 na5 ca5,Zs B5 nb5 cb5,.bool ba] 40)=W5:=⟨_,rfl⟩
   have h45:Below w4.heap.size w4 W5:=by rw [← hW5];exact (Below.refl _ w4).alloc (Nat.le_refl _) _
   have HP5:=aW (show aj ((w4.heap.size,40,#[Zi Zq k5,Zi Zq n5,Zt s5,Zs A5 na5 ca5,Zs B5 nb5 cb5,.bool ba])::[(w.heap.size+2,25,#[Zi Zq 5,Zi Zq 0,Zt ⟨#[]⟩,Zs RA i rc,Zs none 0 0]),(w.heap.size+1,40,#[Zi Zq 0,Zi Zq 0,Zt ⟨#[]⟩,Zs none 0 0,Zs none 0 0,.bool false]),(w.heap.size,28,#[Zi Zq 4,Zi Zq k1,Zi Zq n1,Zt s1,Zs A1 na1 ca1,Zs B1 nb1 cb1,Zt ⟨s.toArray⟩,Zs (some ⟨b,o,none⟩) nr ca])]) w W5 by rw [← hW5];exact (HH.out.keep hb4).push 40 #[Zi Zq k5,Zi Zq n5,Zt s5,Zs A5 na5 ca5,Zs B5 nb5 cb5,.bool ba] (g:=w4.heap.size) rfl);have HO5:=aW (dG (dG HO.out hb4) h45);have HV5:=aW ((HV.out.below hb4).below h45);have HVA:=aW ((hva.mono (F':=λ b=>F b∨wr.heap.size<=b) λ b _ h=>h).bel h45);have HQ4:=aW (And.intro hca (And.intro hoa hga));have HS5:=aW (show W5.heap.size=w4.heap.size+1 by rw [← hW5];simp);have HSZ:=aW hb4.size;have HW5:=aW hW5;have HRW:=aW (λ (j:Nat) (e:(Value.slice RA i rc).ownBlock=some j)=>HO.out.lt j e);clear hva hca hoa hga hza hb4 h45 hW5 c0 f0 l0 z0 z1 z2 z3 z4 z5 z6 z7;go_upto_region 17 with fail;rw [HW5.out];clear HW5;obtain ⟨c0,f0,l0⟩:=HP5.out.b0.rules;obtain ⟨c1,f1,l1⟩:=HP5.out.b1.rules;cases ba with
   |false =>
    have HX:=aW (HXN.out (by rw [HQ4.out.2.1];rfl));go_upto_region 18 with fail
    try simp only []
    go_step;go_step;go_step;go_step;refine bS rfl 40 4 75 rfl (w.heap.size+1) 0 #[Zi Zq 0,Zi Zq 0,Zt ⟨#[]⟩,Zs none 0 0,Zs none 0 0,.bool false] rfl rfl HP5.out.b2.there ?_;have HBR:=aW (HP5.out.b2.set6C (Zi Zq 0) (Zi Zq 0) (Zt ⟨#[]⟩) (Zs none 0 0) (Zs none 0 0) (.bool false));have HPT:=aW (show IsP op F w (.returned (.agg #[Zi Zq 0,Zi Zq 0,Zt ⟨#[]⟩,Zs none 0 0,Zs none 0 0,.bool false])) (W5.setCells (w.heap.size+1) 0 [Zi Zq 0,Zi Zq 0,Zt ⟨#[]⟩,Zs none 0 0,Zs none 0 0,.bool false]) from IsP.nilC HX.out HP5.out.1);obtain ⟨WG,hWG⟩:∃ W',W5.setCells (w.heap.size+1) 0 [Zi Zq 0,Zi Zq 0,Zt ⟨#[]⟩,Zs none 0 0,Zs none 0 0,.bool false]=W':=⟨_,rfl⟩
    rw [hWG] at HBR HPT
    try simp only []
    rw [hWG];clear hWG;obtain ⟨cR,fR,lR⟩:=HBR.out.rules;go_wp2_with ((with_reducible refine bodyPost_ret (v:=.agg #[Zi Zq 0,Zi Zq 0,Zt ⟨#[]⟩,Zs none 0 0,Zs none 0 0,.bool false]) ?_ rfl ?_);(simp only [results,Tryz.results17];go_simp);exact HPT.out)
   |true =>
    have HXG:=aW (And.intro HQ4.out.1 (HQ4.out.2.2 (by first | rfl | trivial)));have HOE:=aW (show evE env x=some va by rw [HQ4.out.2.1];rfl);have hO6:=aW (HO5.out.alloc (.cells #[Zi Zq k5,Zi Zq n5,Zt s5,Zs A5 na5 ca5,Zs B5 nb5 cb5] 25));have hR6:=aW (Rd.of_blk (Blk.new W5 25 #[Zi Zq k5,Zi Zq n5,Zt s5,Zs A5 na5 ca5,Zs B5 nb5 cb5]));have H1C:=aW (show ∀ u ∈ ([Zi Zq k5,Zi Zq n5,Zt s5,Zs A5 na5 ca5,Zs B5 nb5 cb5]:List Value),u.oneCell'=true from HVA.out.one);have HBS:=aW (show w.heap.size+3<=(W5.alloc (.cells #[Zi Zq k5,Zi Zq n5,Zt s5,Zs A5 na5 ca5,Zs B5 nb5 cb5] 25)).heap.size by rw [World.size_alloc,HS5.out];have:=HSZ.out;omega);have HGF:=aW (λ (w6:World) (hg:(W5.alloc (.cells #[Zi Zq k5,Zi Zq n5,Zt s5,Zs A5 na5 ca5,Zs B5 nb5 cb5] 25)).grownBy w6 (Value.slice RA i rc).ownBlock)=>show aj [(w.heap.size+2,25,#[Zi Zq 5,Zi Zq 0,Zt ⟨#[]⟩,Zs RA i rc,Zs none 0 0]),(w.heap.size+1,40,#[Zi Zq 0,Zi Zq 0,Zt ⟨#[]⟩,Zs none 0 0,Zs none 0 0,.bool false]),(w.heap.size,28,#[Zi Zq 4,Zi Zq k1,Zi Zq n1,Zt s1,Zs A1 na1 ca1,Zs B1 nb1 cb1,Zt ⟨s.toArray⟩,Zs (some ⟨b,o,none⟩) nr ca])] w w6 from by
     refine ((HP5.out.pop).alloc _).grown hg (λ j e=>by have:=HRW.out j e;omega) (λ y hy e=>?_);simp only [List.mem_cons,List.not_mem_nil,or_false] at hy;rcases hy with rfl | rfl | rfl
     ·have:=(HRW.out _ e.symm).1;omega
     ·have:=(HRW.out _ e.symm).1;omega
     ·have:=(HRW.out _ e.symm).1;omega)
    go_upto_region 19 with fail;go_wp2_with (at_builtin;refine ag _ rfl _ _ 22 rfl (w.heap.size+3) 25 i0 _ 5 80 Tryz.underlying22 HI.out hz0 hz1 hz2 rfl (by decide) (Zs RA i rc) i css.flatten rfl hO6.out (some ⟨W5.heap.size,0,none⟩) 1 1 (λ h=>by cases h) [Zi Zq k5,Zi Zq n5,Zt s5,Zs A5 na5 ca5,Zs B5 nb5 cb5] rfl rfl hR6.out H1C.out (by unfold maxLen;omega) (by omega) HBS.out ?_;intro row2 w6 hown6 hgr6 hob6;have HH6:=aW (HGF.out w6 hgr6);have HOW:=aW hown6;have HGR:=aW hgr6;have HOB:=aW hob6;obtain ⟨RA2,rc2,rfl,_⟩:=aP hown6;clear hown6 hgr6 hob6 c0 f0 l0 c1 f1 l1;obtain ⟨c6,f6,l6⟩:=HH6.out.b0.rules);have H7:=aW (show aj [(w.heap.size+2,25,#[Zi Zq 5,Zi Zq 0,Zt ⟨#[]⟩,Zs RA2 (i+1) rc2,Zs none 0 0]),(w.heap.size+1,40,#[Zi Zq 0,Zi Zq 0,Zt ⟨#[]⟩,Zs none 0 0,Zs none 0 0,.bool false]),(w.heap.size,28,#[Zi Zq 4,Zi Zq k1,Zi Zq n1,Zt s1,Zs A1 na1 ca1,Zs B1 nb1 cb1,Zt ⟨s.toArray⟩,Zs (some ⟨b,o,none⟩) nr ca])] w (w6.setCell ⟨w.heap.size+2,3,none⟩ (Zs RA2 (i+1) rc2)) from HH6.out.set_ 3 (Zs RA2 (i+1) rc2) (by omega) (λ y hy=>by
     simp only [List.mem_cons,List.not_mem_nil,or_false] at hy;rcases hy with rfl | rfl
     ·show w.heap.size+1≠w.heap.size+2;omega
     ·show w.heap.size≠w.heap.size+2;omega))
    have HO7:=aW (show (w6.setCell ⟨w.heap.size+2,3,none⟩ (Zs RA2 (i+1) rc2)).ownsRow (w.heap.size+3) 25 5 (Zs RA2 (i+1) rc2) (i+1) (css++[([Zi Zq k5,Zi Zq n5,Zt s5,Zs A5 na5 ca5,Zs B5 nb5 cb5]:List Value)]).flatten by
     rw [List.flatten_append,show ([[Zi Zq k5,Zi Zq n5,Zt s5,Zs A5 na5 ca5,Zs B5 nb5 cb5]]:List (List Value)).flatten=[Zi Zq k5,Zi Zq n5,Zt s5,Zs A5 na5 ca5,Zs B5 nb5 cb5] from rfl];exact HOW.out.kept (eU (jc w6 (some (w.heap.size+2))) 3 _) (.inr (λ e=>by have:=(HOW.out.lt _ e).1;omega)))
    have HV7:=aW (show VRs (w6.setCell ⟨w.heap.size+2,3,none⟩ (Zs RA2 (i+1) rc2)) (FO (λ b=>F b∨w.heap.size+3<=b) (Zs RA2 (i+1) rc2)) (css++[([Zi Zq k5,Zi Zq n5,Zt s5,Zs A5 na5 ca5,Zs B5 nb5 cb5]:List Value)]) (xs++[va]) from by
     refine VRs.keep (W:=w6) ?_ (af.set af.refl (λ k hk=>?_) 3 _)
     ·refine lB ?_ HGR.out HOB.out;refine (HV5.out.below ((Below.refl _ _).alloc (Nat.le_refl _) _)).snoc ((HVA.out.bel ((Below.refl _ _).alloc (Nat.le_refl _) _)).mono λ b' _ hb'=>?_);rcases hb' with hb' | hb'
      ·exact ⟨.inl hb',λ e=>by have:=HRW.out _ e.symm;have:=HFF.out _ hb';omega⟩
      ·exact ⟨.inr (by omega),λ e=>by have:=HRW.out _ e.symm;omega⟩
     ·rcases hk.1 with hk | hk
      ·have:=HFF.out _ hk;omega
      ·omega)
    have HX7:=aW (show (xs++[va]).length=i+1/\(kids.take (i+1)).map (evE env)=(xs++[va]).map some/\∀ x ∈ xs++[va],au x/\good x=true from by
     obtain ⟨a1,a2,a3⟩:=HX.out;refine ⟨by rw [List.length_append,a1];rfl,by rw [HTK.out,List.map_append,a2,List.map_append];simp [HOE.out],λ y hy=>?_⟩;rcases List.mem_append.1 hy with hy | hy
     ·exact a3 y hy
     ·obtain rfl:y=va:=by simpa using hy
      exact HXG.out)
    clear c6 f6 l6;go_roundg (nr-(i+1))
    case measure=>have:=HGK.out;omega
    case rel=>exact ⟨i+1,RA2,rc2,_,_,by first | rfl | go_num,by omega,rfl,H7,HO7,HV7,HX7⟩
  ·obtain rfl:i=nr:=by omega
   obtain ⟨RA',rc',he,hrc,hrn,hrr⟩:=aP HO.out;injection he with he1 _ he2
   subst he1 he2;obtain ⟨a1,a2,a3⟩:=HX.out;have hall:kids.map (evE env)=xs.map some:=by rw [← a2,List.take_of_length_le (Nat.le_of_eq HNR.out)]
   have HOQ:=aW (show op=if good (dM xs)=true then some (dM xs) else none by rw [HOP.out,hall,iz]);have hcl:au (dM xs):=iv a3 (by omega);have HCL:=aW hcl;have hvl:VR wr (λ b=>F b∨w.heap.size+3<=b) [Zi Zq 5,Zi Zq 0,Zt ⟨#[]⟩,Zs RA i rc,Zs none 0 0] (dM xs):=VR.into 5 0 [] (kids:=xs) (keys:=[]) (HV.out.mono λ b _ h=>h.1) (by rw [a1];exact hrc) (Nat.le_refl _) hrn (λ _=>rfl) (hrr.mono λ b _ h=>.inr h) RdF.nil a1.symm rfl;have HVL:=aW (λ (W:World) (h:Below wr.heap.size wr W)=>hvl.bel h);have HRI:=aW (gz (dM xs) _ _ wr hvl hcl);obtain ⟨gg,hgg⟩:∃ q,good (dM xs)=q:=⟨_,rfl⟩
   have HGG:=aW hgg;rw [hgg] at HRI HOQ;clear a1 a2 a3 hall hcl hvl hrc hrn hrr hgg;obtain ⟨c0,f0,l0⟩:=HH.out.b2.rules;obtain ⟨c1,f1,l1⟩:=HH.out.b0.rules;go_upto_region 20 with fail;go_wp2_with fail;refine HRI.out.mono ?_;rintro e w4 ⟨rfl,hb4⟩;have HH4:=aW (HH.out.keep hb4);have HW4:=aW hb4;clear hb4 c0 f0 l0 c1 f1 l1;obtain ⟨c1,f1,l1⟩:=HH4.out.b0.rules;cases gg with
   |false =>
    have HX:=aW (show op=none by rw [HOQ.out];rfl);go_upto_region 21 with fail
    try simp only []
    go_step;go_step;go_step;go_step;refine bS rfl 40 4 86 rfl (w.heap.size+1) 0 #[Zi Zq 0,Zi Zq 0,Zt ⟨#[]⟩,Zs none 0 0,Zs none 0 0,.bool false] rfl rfl HH4.out.b1.there ?_;have HBR:=aW (HH4.out.b1.set6C (Zi Zq 0) (Zi Zq 0) (Zt ⟨#[]⟩) (Zs none 0 0) (Zs none 0 0) (.bool false));have HPT:=aW (show IsP op F w (.returned (.agg #[Zi Zq 0,Zi Zq 0,Zt ⟨#[]⟩,Zs none 0 0,Zs none 0 0,.bool false])) (w4.setCells (w.heap.size+1) 0 [Zi Zq 0,Zi Zq 0,Zt ⟨#[]⟩,Zs none 0 0,Zs none 0 0,.bool false]) from IsP.nilC HX.out HH4.out.1);obtain ⟨WG,hWG⟩:∃ W',w4.setCells (w.heap.size+1) 0 [Zi Zq 0,Zi Zq 0,Zt ⟨#[]⟩,Zs none 0 0,Zs none 0 0,.bool false]=W':=⟨_,rfl⟩
    rw [hWG] at HBR HPT
    try simp only []
    rw [hWG];clear hWG;obtain ⟨cR,fR,lR⟩:=HBR.out.rules;go_wp2_with ((with_reducible refine bodyPost_ret (v:=.agg #[Zi Zq 0,Zi Zq 0,Zt ⟨#[]⟩,Zs none 0 0,Zs none 0 0,.bool false]) ?_ rfl ?_);(simp only [results,Tryz.results17];go_simp);exact HPT.out)
   |true =>
    have HX:=aW (show op=some (dM xs) by rw [HOQ.out];rfl);go_upto_region 22 with fail;go_wp2_with fail;refine (d9 _ _ _ _ _ _ _ _ _ _).mono ?_;rintro e w5 ⟨rfl,hb5⟩;have HH5:=aW (HH4.out.keep hb5);have HW5:=aW (HW4.out.trans (hb5.mono HW4.out.size));clear hb5 c1 f1 l1
    try simp only []
    go_step;refine bS rfl 40 4 88 rfl (w.heap.size+1) 0 #[Zi Zq 5,Zi Zq 0,Zt ⟨#[]⟩,Zs RA i rc,Zs none 0 0,.bool true] rfl rfl HH5.out.b1.there ?_;have HBR:=aW (HH5.out.b1.set6C (Zi Zq 5) (Zi Zq 0) (Zt ⟨#[]⟩) (Zs RA i rc) (Zs none 0 0) (.bool true));have HPT:=aW (show IsP op F w (.returned (.agg #[Zi Zq 5,Zi Zq 0,Zt ⟨#[]⟩,Zs RA i rc,Zs none 0 0,.bool true])) (w5.setCells (w.heap.size+1) 0 [Zi Zq 5,Zi Zq 0,Zt ⟨#[]⟩,Zs RA i rc,Zs none 0 0,.bool true]) from IsP.put HX.out HGG.out HCL.out HFF.out ((HVL.out _ HW5.out).mono λ b _ h=>h.imp id λ h=>by omega) HH5.out.1);obtain ⟨WG,hWG⟩:∃ W',w5.setCells (w.heap.size+1) 0 [Zi Zq 5,Zi Zq 0,Zt ⟨#[]⟩,Zs RA i rc,Zs none 0 0,.bool true]=W':=⟨_,rfl⟩
    rw [hWG] at HBR HPT
    try simp only []
    rw [hWG];clear hWG;obtain ⟨cR,fR,lR⟩:=HBR.out.rules;go_wp2_with ((with_reducible refine bodyPost_ret (v:=.agg #[Zi Zq 5,Zi Zq 0,Zt ⟨#[]⟩,Zs RA i rc,Zs none 0 0,.bool true]) ?_ rfl ?_);(simp only [results,Tryz.results17];go_simp);exact HPT.out)
end
end Go.Proofs.YtgolomgmnanbpaaGreatDoor
