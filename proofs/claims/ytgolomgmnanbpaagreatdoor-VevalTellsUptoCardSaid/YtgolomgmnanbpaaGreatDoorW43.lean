import Derived.Test.YtgolomgmnanbpaaGreatDoorW38
import Derived.Test.YtgolomgmnanbpaaGreatDoorW08
import Derived.Test.YtgolomgmnanbpaaGreatDoorW25
import Derived.Deep.RegionHeld3
import Derived.Test.YtgolomgmnanbpaaGreatDoorW01
import Derived.Test.YtgolomgmnanbpaaGreatDoorW36
set_option maxRecDepth 100000
set_option maxHeartbeats 16000000
namespace Go.Proofs.YtgolomgmnanbpaaGreatDoor
set_option linter.unusedVariables false
set_option linter.unusedSimpArgs false
open Go.RowKit
attribute [local go_sem] run_index_arr run_part_agg run_part_one run_field_agg
def cutE:Nat→EJ→EJ
 | 0,.mk k v s _=>.mk k v s []
 | r+1,.mk k v s kids=>.mk k v s ((kids.take 6).map (cutE r))
def CutP (x:EJ) (F:Nat→Prop) (w:World) (e:Ending) (w':World):Prop:=∃ cs:List Value,e=.returned (.agg cs.toArray)∧ER w' (FN F w) cs x∧Below w.heap.size w w'
theorem ers_growG {w w2:World} {G:Nat→Prop} {row row2:Value} {css:List (List Value)} {kids:List EJ} (h:ERs w (FO G row) css kids) (hg:w.grownBy w2 row.ownBlock) (ho:row2.ownBlock=row.ownBlock∨row2.ownBlock=some w.heap.size) :
  ERs w2 (FO G row2) css kids:=by
 refine RR.imp h fun c x hc=>?_
 have h1:ER w (fun b=>FO G row b∧b<w.heap.size) c x:=hc.mono fun b hb hF=>⟨hF,hb⟩
 have h2:ER w2 (fun b=>FO G row b∧b<w.heap.size) c x:=h1.keep (KeepF.of_grown hg fun b hb=>hb.1.2);refine h2.mono fun b _ hF=>⟨hF.1.1,fun e=>?_⟩
 rcases ho with ho | ho
 ·exact hF.1.2 (by rw [e,ho])
 ·rw [ho] at e;have:b=w.heap.size:=by injection e
  omega
theorem infoExp9:(Tryz.prog.info? 28).map (fun i=>(i.zero,i.size,i.bytes))=some (some (.agg #[.int .i64 0,.int .i64 0,.int .i64 0,.string ⟨#[]⟩,.slice none 0 0,.slice none 0 0,.string ⟨#[]⟩,.slice none 0 0]),8,128):=by kernel_rfl
theorem lExprC (F:Nat→Prop):∀ (room:Nat) (x:EJ) (cs:List Value) (q:Int) (w:World),q=room→(∀ b,F b→b<w.heap.size)→ER w F cs x→camE x→room≤14 →
  Calls Tryz.prog 11 #[.agg cs.toArray,.int .i64 q] w (CutP (cutE room x) F w):=by
 intro room
 induction room with
 | zero =>
  rintro ⟨k,v,s,kids⟩ cs q w rfl hF hx hcx hroom;obtain ⟨k1,n1,s1,A1,na1,ca1,B1,nb1,cb1,A,ca,css0,rfl,hv,_⟩:=hx.out;have HFF:=aW hF;have HVV:=aW hv;have HH0:=aW (((Held.nil w).push 28 #[.int .i64 k,.int .i64 k1,.int .i64 n1,.string s1,.slice A1 na1 ca1,.slice B1 nb1 cb1,.string ⟨s.toArray⟩,.slice A kids.length ca] (g:=w.heap.size) rfl).push 28 #[.int .i64 0,.int .i64 0,.int .i64 0,.string ⟨#[]⟩,.slice none 0 0,.slice none 0 0,.string ⟨#[]⟩,.slice none 0 0] (g:=w.heap.size+1) (by simp));obtain ⟨W0,hW0⟩:∃ W0,(w.alloc (.cells #[.int .i64 k,.int .i64 k1,.int .i64 n1,.string s1,.slice A1 na1 ca1,.slice B1 nb1 cb1,.string ⟨s.toArray⟩,.slice A kids.length ca] 28)).alloc (.cells #[.int .i64 0,.int .i64 0,.int .i64 0,.string ⟨#[]⟩,.slice none 0 0,.slice none 0 0,.string ⟨#[]⟩,.slice none 0 0] 28)=W0:=⟨_,rfl⟩
  have HHW:=aW (show Held [(w.heap.size+1,28,#[.int .i64 0,.int .i64 0,.int .i64 0,.string ⟨#[]⟩,.slice none 0 0,.slice none 0 0,.string ⟨#[]⟩,.slice none 0 0]),(w.heap.size,28,#[.int .i64 k,.int .i64 k1,.int .i64 n1,.string s1,.slice A1 na1 ca1,.slice B1 nb1 cb1,.string ⟨s.toArray⟩,.slice A kids.length ca])] w W0 by rw [← hW0];exact HH0.out);have HW0:=aW hW0;clear hF hx hcx hv hW0 HH0;go_enter Tryz.func11,Tryz.ntmps11;go_upto_region 1 with fail;rw [HW0.out];obtain ⟨c0,f0,l0⟩:=HHW.out.b1.rules;have hne:w.heap.size≠w.heap.size+1:=by omega
  have HB0:=aW (show Blk (W0.setCell ⟨w.heap.size,7,none⟩ (.slice none 0 0)) w.heap.size 28 #[.int .i64 k,.int .i64 k1,.int .i64 n1,.string s1,.slice A1 na1 ca1,.slice B1 nb1 cb1,.string ⟨s.toArray⟩,.slice none 0 0] from HHW.out.b1.set_ 7 _);have HB1:=aW (show Blk (W0.setCell ⟨w.heap.size,7,none⟩ (.slice none 0 0)) (w.heap.size+1) 28 #[.int .i64 0,.int .i64 0,.int .i64 0,.string ⟨#[]⟩,.slice none 0 0,.slice none 0 0,.string ⟨#[]⟩,.slice none 0 0] from Blk.far HHW.out.b0 (by show w.heap.size+1≠w.heap.size;omega) _);have HL:=aW (show Below w.heap.size w (W0.setCell ⟨w.heap.size,7,none⟩ (.slice none 0 0)) from HHW.out.1.setCell (p:=⟨w.heap.size,7,none⟩) (Nat.le_refl _) _);have HKF:=aW (show KeepF (fun b=>F b∨w.heap.size+2≤b) W0 (W0.setCell ⟨w.heap.size,7,none⟩ (.slice none 0 0)) from KeepF.set KeepF.refl (fun b hb=>by rcases hb with hb | hb;exact Nat.ne_of_lt (HFF.out b hb);omega) 7 _);obtain ⟨WF,hWF⟩:∃ W',W0.setCell ⟨w.heap.size,7,none⟩ (.slice none 0 0)=W':=⟨_,rfl⟩
  rw [hWF] at HB0 HB1 HL HKF;have HWF:=aW hWF;clear hWF;go_upto_region 3 with fail;rw [HWF.out];clear HWF c0 f0 l0;obtain ⟨c0,f0,l0⟩:=HB0.out.rules
  first | (refine wpList_store_mid rfl 28 (.tmp 4) (.tmp 11) rfl (w.heap.size+1) 0 #[.int .i64 k,.int .i64 k1,.int .i64 n1,.string s1,.slice A1 na1 ca1,.slice B1 nb1 cb1,.string ⟨s.toArray⟩,.slice none 0 0] rfl rfl HB1.out.there (by kernel_rfl) (by first | kernel_rfl | simp [Value.oneCell']) ?_) | (go_step;refine wpList_store_mid rfl 28 (.tmp 4) (.tmp 11) rfl (w.heap.size+1) 0 #[.int .i64 k,.int .i64 k1,.int .i64 n1,.string s1,.slice A1 na1 ca1,.slice B1 nb1 cb1,.string ⟨s.toArray⟩,.slice none 0 0] rfl rfl HB1.out.there (by kernel_rfl) (by first | kernel_rfl | simp [Value.oneCell']) ?_) | (go_step;go_step;refine wpList_store_mid rfl 28 (.tmp 4) (.tmp 11) rfl (w.heap.size+1) 0 #[.int .i64 k,.int .i64 k1,.int .i64 n1,.string s1,.slice A1 na1 ca1,.slice B1 nb1 cb1,.string ⟨s.toArray⟩,.slice none 0 0] rfl rfl HB1.out.there (by kernel_rfl) (by first | kernel_rfl | simp [Value.oneCell']) ?_) | (go_step;go_step;go_step;refine wpList_store_mid rfl 28 (.tmp 4) (.tmp 11) rfl (w.heap.size+1) 0 #[.int .i64 k,.int .i64 k1,.int .i64 n1,.string s1,.slice A1 na1 ca1,.slice B1 nb1 cb1,.string ⟨s.toArray⟩,.slice none 0 0] rfl rfl HB1.out.there (by kernel_rfl) (by first | kernel_rfl | simp [Value.oneCell']) ?_) | (go_step;go_step;go_step;go_step;refine wpList_store_mid rfl 28 (.tmp 4) (.tmp 11) rfl (w.heap.size+1) 0 #[.int .i64 k,.int .i64 k1,.int .i64 n1,.string s1,.slice A1 na1 ca1,.slice B1 nb1 cb1,.string ⟨s.toArray⟩,.slice none 0 0] rfl rfl HB1.out.there (by kernel_rfl) (by first | kernel_rfl | simp [Value.oneCell']) ?_)
  have HB2:=aW (HB1.out.set8C (.int .i64 k) (.int .i64 k1) (.int .i64 n1) (.string s1) (.slice A1 na1 ca1) (.slice B1 nb1 cb1) (.string ⟨s.toArray⟩) (.slice none 0 0));have HL2:=aW (bel_setC (B:=w.heap.size) (b:=w.heap.size+1) (by omega) [.int .i64 k,.int .i64 k1,.int .i64 n1,.string s1,.slice A1 na1 ca1,.slice B1 nb1 cb1,.string ⟨s.toArray⟩,.slice none 0 0] 0 HL.out);have HKF2:=aW (HKF.out.trans (KeepF.setC (F:=fun b=>F b∨w.heap.size+2≤b) (fun b hb=>by rcases hb with hb | hb;exact Nat.ne_of_lt (Nat.lt_succ_of_lt (HFF.out b hb));omega) [.int .i64 k,.int .i64 k1,.int .i64 n1,.string s1,.slice A1 na1 ca1,.slice B1 nb1 cb1,.string ⟨s.toArray⟩,.slice none 0 0] 0 KeepF.refl));obtain ⟨WG,hWG⟩:∃ W',WF.setCells (w.heap.size+1) 0 [.int .i64 k,.int .i64 k1,.int .i64 n1,.string s1,.slice A1 na1 ca1,.slice B1 nb1 cb1,.string ⟨s.toArray⟩,.slice none 0 0]=W':=⟨_,rfl⟩
  rw [hWG] at HB2 HL2 HKF2;simp only [];rw [hWG];clear hWG c0 f0 l0 HB0 HB1 HL HKF;obtain ⟨c0,f0,l0⟩:=HB2.out.rules;go_wp2;refine bodyPost_ret (v:=.agg #[.int .i64 k,.int .i64 k1,.int .i64 n1,.string s1,.slice A1 na1 ca1,.slice B1 nb1 cb1,.string ⟨s.toArray⟩,.slice none 0 0]) (by simp only [results,Tryz.results11];go_simp) rfl ?_;refine ⟨[.int .i64 k,.int .i64 k1,.int .i64 n1,.string s1,.slice A1 na1 ca1,.slice B1 nb1 cb1,.string ⟨s.toArray⟩,.slice none 0 0],rfl,?_,HL2.out⟩;have hvv:=(HVV.out.keep (KeepF.of_below HL2.out)).mono (F':=FN F w) fun b _ h=>.inl h
  exact ER.leaf k s hvv
 | succ r ih =>
  rintro ⟨k,v,s,kids⟩ cs q w hq hF hx hcx hroom;obtain ⟨k1,n1,s1,A1,na1,ca1,B1,nb1,cb1,A,ca,css0,rfl,hv,h1,h2,h3,h4⟩:=hx.out;unfold camE at hcx;obtain ⟨_,_,_,hkl,hkc⟩:=hcx;have HCK:=aW (camEL_iff.1 hkc);have HFF:=aW hF;have HVV:=aW hv;have HKD:=aW (And.intro h1 h4);have HIH:=aW (show ∀ (x:EJ) (cs:List Value) (w:World),(∀ b,F b→b<w.heap.size)→ER w F cs x→camE x→Calls Tryz.prog 11 #[.agg cs.toArray,.int .i64 (q-1)] w (CutP (cutE r x) F w) from
   fun x cs w h1 h2 h3=>ih x cs (q-1) w (by omega) h1 h2 h3 (by omega))
  have hq1:1≤q:=by omega
  have hq14:q≤14:=by omega
  have hq0:(q == 0)=false:=by simp;omega
  have hq0':¬ q=0:=by omega
  have HH0:=aW (((Held.nil w).push 28 #[.int .i64 k,.int .i64 k1,.int .i64 n1,.string s1,.slice A1 na1 ca1,.slice B1 nb1 cb1,.string ⟨s.toArray⟩,.slice A kids.length ca] (g:=w.heap.size) rfl).push 28 #[.int .i64 0,.int .i64 0,.int .i64 0,.string ⟨#[]⟩,.slice none 0 0,.slice none 0 0,.string ⟨#[]⟩,.slice none 0 0] (g:=w.heap.size+1) (by simp));obtain ⟨i0,hi,hz0,hz1,hz2⟩:=info_parts infoExp9;have HI:=aW hi;obtain ⟨nr,hnr⟩:∃ n,kids.length=n:=⟨_,rfl⟩
  have HNR:=aW hnr;rw [hnr] at hkl h2 HH0 ⊢;obtain ⟨m,hm⟩:∃ m,min nr 6=m:=⟨_,rfl⟩
  have hm6:m≤6:=by omega
  have hmn:m≤nr:=by omega
  have HM:=aW hm;have HHE:=aW (show min (nr:Int) 6=(m:Int) by omega);have hif:(if (6:Int)<(nr:Int) then (6:Int) else (nr:Int))=(m:Int):=by split<;>omega
  have HRO:=aW (And.intro hq hroom);clear hF hx hv h1 h4 hkc hi hnr hq hroom ih;obtain ⟨c0,f0,l0⟩:=HH0.out.b1.rules;go_enter Tryz.func11,Tryz.ntmps11;go_upto_region 5 with fail;go_wp2
  try rw [HHE.out]
  try rw [Int.toNat_natCast]
  try rw [show max (m:Int) 0=(m:Int) by omega]
  clear hif;clear c0 f0 l0;go_loopg [5,20] m (fun gk s5 s20 wr => ∃ (i:Nat) (row:Value) (css:List (List Value)),row=s5∧i≤m∧gk=m-i∧s20=.int .i64 (i:Int) ∧
   Hid (Held [(w.heap.size+1,28,#[.int .i64 0,.int .i64 0,.int .i64 0,.string ⟨#[]⟩,.slice none 0 0,.slice none 0 0,.string ⟨#[]⟩,.slice none 0 0]),(w.heap.size,28,#[.int .i64 k,.int .i64 k1,.int .i64 n1,.string s1,.slice A1 na1 ca1,.slice B1 nb1 cb1,.string ⟨s.toArray⟩,.slice A nr ca])] w wr)∧Hid (wr.ownsRow (w.heap.size+2) 28 8 row i css.flatten)∧Hid (ERs wr (FO (fun b=>F b∨w.heap.size+2≤b) row) css ((kids.take i).map (cutE r))))
  case atStart=>exact ⟨0,_,[],rfl,Nat.zero_le _,by go_num,rfl,HH0,aW (World.ownsRow_nil _ _ _ _),aW (by rw [List.take_zero];exact RR.nil)⟩
  case round =>
   obtain ⟨i,row,css,rfl,him,hgk,rfl,HH,HO,HV⟩:=hrel;have HGK:=aW hgk;clear hgk HH0;by_cases hlt:i<m
   ·obtain ⟨x,hx⟩:∃ x,kids[i]? = some x:=⟨_,List.getElem?_eq_getElem (by rw [HNR.out];omega)⟩
    have hxm:=List.mem_of_getElem? hx;obtain ⟨b,o,k',k1',n1',s1',A1',na1',ca1',B1',nb1',cb1',s',A2',n2',ca2',rfl,hb,hER,hz⟩:=kid_cellsE HKD.out.1 HKD.out.2 hx;obtain ⟨z0,z1,z2,z3,z4,z5,z6,z7⟩:=hz wr HH.out.1;have HTK:=aW (show (kids.take (i+1)).map (cutE r)=(kids.take i).map (cutE r)++[cutE r x] by rw [List.take_add_one,hx,List.map_append];rfl);have HE:=aW (fun (W:World) (h:Below w.heap.size w W)=>HIH.out x _ W (fun b hb=>Nat.lt_of_lt_of_le (HFF.out b hb) h.size) (hER.bel h) (HCK.out x hxm));have hlb:b<wr.heap.size:=Nat.lt_of_lt_of_le hb HH.out.1.size;have HP:=aW ((HH.out).push 28 #[.int .i64 k',.int .i64 k1',.int .i64 n1',.string s1',.slice A1' na1' ca1',.slice B1' nb1' cb1',.string s',.slice A2' n2' ca2'] (g:=wr.heap.size) rfl);have HO1:=aW (HO.out.alloc (.cells #[.int .i64 k',.int .i64 k1',.int .i64 n1',.string s1',.slice A1' na1' ca1',.slice B1' nb1' cb1',.string s',.slice A2' n2' ca2'] 28));have HV1:=aW (RR.imp HV.out fun c y hc=>hc.bel ((Below.refl _ wr).alloc (Nat.le_refl _) (.cells #[.int .i64 k',.int .i64 k1',.int .i64 n1',.string s1',.slice A1' na1' ca1',.slice B1' nb1' cb1',.string s',.slice A2' n2' ca2'] 28)));have hwr2:w.heap.size+2≤wr.heap.size:=HH.out.b0.lt;clear hz hER hx hxm hb;go_wp2_with fail;refine (HE.out _ HP.out.1).mono ?_;rintro e w4 ⟨cs4,rfl,hv4,hb4⟩;clear z0 z1 z2 z3 z4 z5 z6 z7;have HV4:=aW hv4;obtain ⟨k9,k19,n19,s19,A19,na19,ca19,B19,nb19,cb19,s9,A29,n29,ca29,rfl⟩:=hv4.form;have hsz:wr.heap.size<w4.heap.size:=by have:=hb4.size;simp at this;omega
    have HP4:=aW (HP.out.keep hb4);have HO4:=aW (ownBel HO1.out hb4);have HV5:=aW (RR.imp HV1.out fun c y hc=>hc.bel hb4);have HRW:=aW (fun (j:Nat) (e:row.ownBlock=some j)=>HO.out.lt j e);have hO6:=aW (HO4.out.alloc (.cells #[.int .i64 k9,.int .i64 k19,.int .i64 n19,.string s19,.slice A19 na19 ca19,.slice B19 nb19 cb19,.string s9,.slice A29 n29 ca29] 28));have hR6:=aW (Rd.of_blk (Blk.new w4 28 #[.int .i64 k9,.int .i64 k19,.int .i64 n19,.string s19,.slice A19 na19 ca19,.slice B19 nb19 cb19,.string s9,.slice A29 n29 ca29]));have H1C:=aW (show ∀ u ∈ ([.int .i64 k9,.int .i64 k19,.int .i64 n19,.string s19,.slice A19 na19 ca19,.slice B19 nb19 cb19,.string s9,.slice A29 n29 ca29]:List Value),u.oneCell'=true from HV4.out.one);have HBS:=aW (show w.heap.size+2≤(w4.alloc (.cells #[.int .i64 k9,.int .i64 k19,.int .i64 n19,.string s19,.slice A19 na19 ca19,.slice B19 nb19 cb19,.string s9,.slice A29 n29 ca29] 28)).heap.size by rw [World.size_alloc];omega);clear hv4 hb4;go_wp2_with (at_builtin;refine wpList_append_rd _ rfl _ _ 26 rfl (w.heap.size+2) 28 i0 _ 8 128 Tryz.underlying26 HI.out hz0 hz1 hz2 rfl (by decide) row i css.flatten rfl hO6.out (some ⟨w4.heap.size,0,none⟩) 1 1 (fun h=>by cases h) [.int .i64 k9,.int .i64 k19,.int .i64 n19,.string s19,.slice A19 na19 ca19,.slice B19 nb19 cb19,.string s9,.slice A29 n29 ca29] rfl rfl hR6.out H1C.out (by unfold maxLen;omega) (by omega) HBS.out ?_;intro row2 w6 hown6 hgr6 hob6);have hHH:Held [(w.heap.size+1,28,#[.int .i64 0,.int .i64 0,.int .i64 0,.string ⟨#[]⟩,.slice none 0 0,.slice none 0 0,.string ⟨#[]⟩,.slice none 0 0]),(w.heap.size,28,#[.int .i64 k,.int .i64 k1,.int .i64 n1,.string s1,.slice A1 na1 ca1,.slice B1 nb1 cb1,.string ⟨s.toArray⟩,.slice (some ⟨b,o,none⟩) nr ca])] w w6:=by
     refine ((HP4.out.pop).alloc _).grown hgr6 (fun j e=>by have:=HRW.out j e;omega) (fun y hy e=>?_);simp only [List.mem_cons,List.not_mem_nil,or_false] at hy;rcases hy with rfl | rfl
     ·have:=HRW.out _ e.symm;omega
     ·have:=HRW.out _ e.symm;omega
    have hVV:ERs w6 (FO (fun b=>F b∨w.heap.size+2≤b) row2) (css++[([.int .i64 k9,.int .i64 k19,.int .i64 n19,.string s19,.slice A19 na19 ca19,.slice B19 nb19 cb19,.string s9,.slice A29 n29 ca29]:List Value)]) ((kids.take (i+1)).map (cutE r)):=by
     rw [HTK.out];refine ers_growG ?_ hgr6 hob6;refine (RR.imp HV5.out fun c y hc=>hc.bel ((Below.refl _ _).alloc (Nat.le_refl _) _)).snoc ((HV4.out.bel ((Below.refl _ _).alloc (Nat.le_refl _) _)).mono fun b' _ hb'=>?_);rcases hb' with hb' | hb'
     ·exact ⟨.inl hb',fun e=>by have:=HRW.out _ e.symm;have:=HFF.out _ hb';omega⟩
     ·simp at hb';exact ⟨.inr (by omega),fun e=>by have:=HRW.out _ e.symm;omega⟩
    have hOO:w6.ownsRow (w.heap.size+2) 28 8 row2 (i+1) (css++[([.int .i64 k9,.int .i64 k19,.int .i64 n19,.string s19,.slice A19 na19 ca19,.slice B19 nb19 cb19,.string s9,.slice A29 n29 ca29]:List Value)]).flatten:=by
     rw [List.flatten_append];simpa using hown6
    have H9:=aW (And.intro hHH (And.intro hOO hVV));clear hHH hOO hVV hown6 hgr6 hob6;go_wp2;go_roundg (m-(i+1))
    case measure=>have:=HGK.out;omega
    case rel=>exact ⟨i+1,row2,_,rfl,by omega,rfl,by go_num,aW H9.out.1,aW H9.out.2.1,aW H9.out.2.2⟩
   ·obtain rfl:i=m:=by omega
    obtain ⟨RA,rc,rfl,hrc,hrn,hrr⟩:=own_parts HO.out;have HRR:=aW (And.intro hrc (And.intro hrn hrr));clear hrc hrn hrr;obtain ⟨c0,f0,l0⟩:=HH.out.b1.rules;have hne:w.heap.size≠w.heap.size+1:=by omega
    have HB0:=aW (show Blk (wr.setCell ⟨w.heap.size,7,none⟩ (.slice RA i rc)) w.heap.size 28 #[.int .i64 k,.int .i64 k1,.int .i64 n1,.string s1,.slice A1 na1 ca1,.slice B1 nb1 cb1,.string ⟨s.toArray⟩,.slice RA i rc] from HH.out.b1.set_ 7 _);have HB1:=aW (show Blk (wr.setCell ⟨w.heap.size,7,none⟩ (.slice RA i rc)) (w.heap.size+1) 28 #[.int .i64 0,.int .i64 0,.int .i64 0,.string ⟨#[]⟩,.slice none 0 0,.slice none 0 0,.string ⟨#[]⟩,.slice none 0 0] from Blk.far HH.out.b0 (by show w.heap.size+1≠w.heap.size;omega) _);have HL:=aW (show Below w.heap.size w (wr.setCell ⟨w.heap.size,7,none⟩ (.slice RA i rc)) from HH.out.1.setCell (p:=⟨w.heap.size,7,none⟩) (Nat.le_refl _) _);have HKF:=aW (show KeepF (fun b=>F b∨w.heap.size+2≤b) wr (wr.setCell ⟨w.heap.size,7,none⟩ (.slice RA i rc)) from KeepF.set KeepF.refl (fun b hb=>by rcases hb with hb | hb;exact Nat.ne_of_lt (HFF.out b hb);omega) 7 _);obtain ⟨WF,hWF⟩:∃ W',wr.setCell ⟨w.heap.size,7,none⟩ (.slice RA i rc)=W':=⟨_,rfl⟩
    rw [hWF] at HB0 HB1 HL HKF;have HWF:=aW hWF;clear hWF;go_upto_region 11 with fail;rw [HWF.out];clear HWF c0 f0 l0;obtain ⟨c0,f0,l0⟩:=HB0.out.rules
    first | (refine wpList_store_mid rfl 28 (.tmp 4) (.tmp 34) rfl (w.heap.size+1) 0 #[.int .i64 k,.int .i64 k1,.int .i64 n1,.string s1,.slice A1 na1 ca1,.slice B1 nb1 cb1,.string ⟨s.toArray⟩,.slice RA i rc] rfl rfl HB1.out.there (by kernel_rfl) (by first | kernel_rfl | simp [Value.oneCell']) ?_) | (go_step;refine wpList_store_mid rfl 28 (.tmp 4) (.tmp 34) rfl (w.heap.size+1) 0 #[.int .i64 k,.int .i64 k1,.int .i64 n1,.string s1,.slice A1 na1 ca1,.slice B1 nb1 cb1,.string ⟨s.toArray⟩,.slice RA i rc] rfl rfl HB1.out.there (by kernel_rfl) (by first | kernel_rfl | simp [Value.oneCell']) ?_) | (go_step;go_step;refine wpList_store_mid rfl 28 (.tmp 4) (.tmp 34) rfl (w.heap.size+1) 0 #[.int .i64 k,.int .i64 k1,.int .i64 n1,.string s1,.slice A1 na1 ca1,.slice B1 nb1 cb1,.string ⟨s.toArray⟩,.slice RA i rc] rfl rfl HB1.out.there (by kernel_rfl) (by first | kernel_rfl | simp [Value.oneCell']) ?_) | (go_step;go_step;go_step;refine wpList_store_mid rfl 28 (.tmp 4) (.tmp 34) rfl (w.heap.size+1) 0 #[.int .i64 k,.int .i64 k1,.int .i64 n1,.string s1,.slice A1 na1 ca1,.slice B1 nb1 cb1,.string ⟨s.toArray⟩,.slice RA i rc] rfl rfl HB1.out.there (by kernel_rfl) (by first | kernel_rfl | simp [Value.oneCell']) ?_) | (go_step;go_step;go_step;go_step;refine wpList_store_mid rfl 28 (.tmp 4) (.tmp 34) rfl (w.heap.size+1) 0 #[.int .i64 k,.int .i64 k1,.int .i64 n1,.string s1,.slice A1 na1 ca1,.slice B1 nb1 cb1,.string ⟨s.toArray⟩,.slice RA i rc] rfl rfl HB1.out.there (by kernel_rfl) (by first | kernel_rfl | simp [Value.oneCell']) ?_)
    have HB2:=aW (HB1.out.set8C (.int .i64 k) (.int .i64 k1) (.int .i64 n1) (.string s1) (.slice A1 na1 ca1) (.slice B1 nb1 cb1) (.string ⟨s.toArray⟩) (.slice RA i rc));have HL2:=aW (bel_setC (B:=w.heap.size) (b:=w.heap.size+1) (by omega) [.int .i64 k,.int .i64 k1,.int .i64 n1,.string s1,.slice A1 na1 ca1,.slice B1 nb1 cb1,.string ⟨s.toArray⟩,.slice RA i rc] 0 HL.out);have HKF2:=aW (HKF.out.trans (KeepF.setC (F:=fun b=>F b∨w.heap.size+2≤b) (fun b hb=>by rcases hb with hb | hb;exact Nat.ne_of_lt (Nat.lt_succ_of_lt (HFF.out b hb));omega) [.int .i64 k,.int .i64 k1,.int .i64 n1,.string s1,.slice A1 na1 ca1,.slice B1 nb1 cb1,.string ⟨s.toArray⟩,.slice RA i rc] 0 KeepF.refl));obtain ⟨WG,hWG⟩:∃ W',WF.setCells (w.heap.size+1) 0 [.int .i64 k,.int .i64 k1,.int .i64 n1,.string s1,.slice A1 na1 ca1,.slice B1 nb1 cb1,.string ⟨s.toArray⟩,.slice RA i rc]=W':=⟨_,rfl⟩
    rw [hWG] at HB2 HL2 HKF2;simp only [];rw [hWG];clear hWG c0 f0 l0 HB0 HB1 HL HKF;obtain ⟨c0,f0,l0⟩:=HB2.out.rules;go_wp2;refine bodyPost_ret (v:=.agg #[.int .i64 k,.int .i64 k1,.int .i64 n1,.string s1,.slice A1 na1 ca1,.slice B1 nb1 cb1,.string ⟨s.toArray⟩,.slice RA i rc]) (by simp only [results,Tryz.results11];go_simp) rfl ?_;refine ⟨[.int .i64 k,.int .i64 k1,.int .i64 n1,.string s1,.slice A1 na1 ca1,.slice B1 nb1 cb1,.string ⟨s.toArray⟩,.slice RA i rc],rfl,?_,HL2.out⟩;have hvv:=(HVV.out.keep (KeepF.of_below HL2.out)).mono (F':=FN F w) fun b _ h=>.inl h
    have hl:i=((kids.take 6).map (cutE r)).length:=by rw [List.length_map,List.length_take,HNR.out];have:=HM.out;omega
    have he:(kids.take i).map (cutE r)=(kids.take 6).map (cutE r):=by rw [← HM.out,← HNR.out,Nat.min_comm,← List.take_take,List.take_length]
    have hrr:ERs wr (FO (fun b=>F b∨w.heap.size+2≤b) (.slice RA i rc)) css ((kids.take 6).map (cutE r)):=by rw [← he];exact HV.out
    exact ER.into hvv (RR.imp hrr fun c y (hc:ER wr _ c y)=>((hc.mono (F':=fun b=>F b∨w.heap.size+2≤b) fun b _ h=>h.1).keep HKF2.out).mono fun b _ h=>h.imp id fun h=>by omega) hl (by rw [← hl];exact HRR.out.1) HRR.out.2.1 (((HRR.out.2.2.mono (F':=fun b=>F b∨w.heap.size+2≤b) fun b _ h=>.inr h).keep HKF2.out).mono fun b _ h=>h.imp id fun h=>by omega)
set_option linter.unusedVariables false
set_option linter.unusedSimpArgs false
open Go.RowKit
attribute [local go_sem] run_index_arr run_part_agg run_part_one run_field_agg
theorem rEv14 {env:List (List UInt8 × JV)} {v:JV} {s:List UInt8} {ya yb:EJ} {cs:List Value} {EA:Option Addr} {n ec:Nat} {F:Nat→Prop} {w:World} (hF:∀ b,F b→b<w.heap.size) (hx:ER w F cs (.mk 14 v s [ya,yb])) (hcx:camE (.mk 14 v s [ya,yb]))
  (ka:KidR EA n ec F env w ya) (kb:KidR EA n ec F env w yb) (oa ob:Option JV) (hoa:evE env ya=oa) (hob:evE env yb=ob) (op:Option JV) (hop:combJ env 14 v s [oa,ob]=op) :
  Calls Tryz.prog 17 #[.agg cs.toArray,.slice EA n ec] w (IsP op F w):=by
 obtain ⟨k1,n1,s1,A1,na1,ca1,B1,nb1,cb1,A,ca,css0,rfl,hv,h1,h2,h3,h4⟩:=hx.out;obtain ⟨b,o,kx,px,nx,sx,Ax,nax,cax,Bx,nbx,cbx,zx,Cx,ncx,ccx,rfl,hb,hER,hz⟩:=kid_cellsE h1 h4 (i:=0) (x:=ya) rfl;have HKA:=aW (fun (W:World) (h:Below w.heap.size w W)=>ka W _ h (hER.bel h));obtain ⟨b',o',ky,py,ny,sy,Ay,nay,cay,By,nby,cby,zy,Cy,ncy,ccy,hbb,hb2,hER2,hz2⟩:=kid_cellsE h1 h4 (i:=1) (x:=yb) rfl;injection hbb with hbb;injection hbb with hb1 hb3
 subst hb1 hb3;have HKB:=aW (fun (W:World) (h:Below w.heap.size w W)=>kb W _ h (hER2.bel h));have HZ2:=aW hz2;rw [hoa] at HKA;rw [hob] at HKB;obtain ⟨nr,hnr⟩:∃ q:Nat,2=q:=⟨_,rfl⟩
 have hnr1:0<nr:=by omega
 have hnr2:1<nr:=by omega
 have HFF:=aW hF;have HOP:=aW hop;have HVS:=aW hv;have HH0:=aW (((Held.nil w).push 28 #[.int .i64 14,.int .i64 k1,.int .i64 n1,.string s1,.slice A1 na1 ca1,.slice B1 nb1 cb1,.string ⟨s.toArray⟩,.slice (some ⟨b,o,none⟩) nr ca] (g:=w.heap.size) rfl).push 40 #[.int .i64 0,.int .i64 0,.string ⟨#[]⟩,.slice none 0 0,.slice none 0 0,.bool false] (g:=w.heap.size+1) (by simp));obtain ⟨z0,z1,z2,z3,z4,z5,z6,z7⟩:=hz _ HH0.out.1;rw [zeroC0] at z0 z1 z2 z3 z4 z5 z6 z7;have hlb:b<w.heap.size:=hb;have hlb2:b≠w.heap.size+1:=by omega
 rw [show ([ya,yb]:List EJ).length=nr from hnr];obtain ⟨c0,f0,l0⟩:=HH0.out.b1.rules;clear hF hx hcx hv h1 h2 h3 h4 hER hz hb hoa hob hop hnr ka kb hER2 hz2 hb2;go_enter Tryz.func17,Tryz.ntmps17;go_wp2_with fail;refine (HKA.out _ HH0.out.1).mono ?_;rintro e w1 ⟨k5,n5,s5,A5,na5,ca5,B5,nb5,cb5,va,ba,rfl,hva,hca,hoa,hga,hza,hb1⟩;obtain ⟨WA,hWA⟩:∃ W,w1.alloc (.cells #[.int .i64 k5,.int .i64 n5,.string s5,.slice A5 na5 ca5,.slice B5 nb5 cb5,.bool ba] 40)=W:=⟨_,rfl⟩
 have HWA:=aW hWA;have HH1:=aW (show Held [(w1.heap.size,40,#[.int .i64 k5,.int .i64 n5,.string s5,.slice A5 na5 ca5,.slice B5 nb5 cb5,.bool ba]),(w.heap.size+1,40,#[.int .i64 0,.int .i64 0,.string ⟨#[]⟩,.slice none 0 0,.slice none 0 0,.bool false]),(w.heap.size,28,#[.int .i64 14,.int .i64 k1,.int .i64 n1,.string s1,.slice A1 na1 ca1,.slice B1 nb1 cb1,.string ⟨s.toArray⟩,.slice (some ⟨b,o,none⟩) nr ca])] w WA by rw [← hWA];exact (HH0.out.keep hb1).push 40 #[.int .i64 k5,.int .i64 n5,.string s5,.slice A5 na5 ca5,.slice B5 nb5 cb5,.bool ba] (g:=w1.heap.size) rfl);have HW1:=aW (show Below w1.heap.size w1 WA by rw [← hWA];exact (Below.refl _ w1).alloc (Nat.le_refl _) _);have HVA:=aW (fun (W:World) (h:Below w1.heap.size w1 W)=>IsP.val (w:=w) (by simp) hva h);have HQA:=aW (And.intro hca (And.intro hoa (And.intro hga hza)));have hs1:w.heap.size+2≤w1.heap.size:=by have:=hb1.size;simpa using this
 have hn1:w1.heap.size≠w.heap.size+1:=by omega
 have hn2:w1.heap.size≠w.heap.size:=by omega
 clear hWA hva hca hoa hga hza hb1 c0 f0 l0 z0 z1 z2 z3 z4 z5 z6 z7 HKA;go_upto_region 24 with fail;rw [HWA.out];clear HWA;obtain ⟨c0,f0,l0⟩:=HH1.out.b2.rules;obtain ⟨c1,f1,l1⟩:=HH1.out.b1.rules;obtain ⟨c2,f2,l2⟩:=HH1.out.b0.rules;cases ba with
 | false =>
  have HX:=aW (show op=none by rw [← HOP.out,HQA.out.2.1];rfl);go_upto_region 25 with fail
  try simp only []
  go_step;go_step;go_step;go_step;refine wpList_store_mid rfl 40 (.tmp 4) (.tmp 98) rfl (w.heap.size+1) 0 #[.int .i64 0,.int .i64 0,.string ⟨#[]⟩,.slice none 0 0,.slice none 0 0,.bool false] rfl rfl HH1.out.b1.there (by kernel_rfl) (by first | kernel_rfl | simp [Value.oneCell']) ?_;have HBR:=aW (HH1.out.b1.set6C (.int .i64 0) (.int .i64 0) (.string ⟨#[]⟩) (.slice none 0 0) (.slice none 0 0) (.bool false));have HPT:=aW (show IsP op F w (.returned (.agg #[.int .i64 0,.int .i64 0,.string ⟨#[]⟩,.slice none 0 0,.slice none 0 0,.bool false])) (WA.setCells (w.heap.size+1) 0 [.int .i64 0,.int .i64 0,.string ⟨#[]⟩,.slice none 0 0,.slice none 0 0,.bool false]) from IsP.nilC HX.out HH1.out.1);obtain ⟨WG,hWG⟩:∃ W',WA.setCells (w.heap.size+1) 0 [.int .i64 0,.int .i64 0,.string ⟨#[]⟩,.slice none 0 0,.slice none 0 0,.bool false]=W':=⟨_,rfl⟩
  rw [hWG] at HBR HPT
  try simp only []
  rw [hWG];clear hWG;obtain ⟨cR,fR,lR⟩:=HBR.out.rules;go_wp2_with ((with_reducible refine bodyPost_ret (v:=.agg #[.int .i64 0,.int .i64 0,.string ⟨#[]⟩,.slice none 0 0,.slice none 0 0,.bool false]) ?_ rfl ?_);(simp only [results,Tryz.results17];go_simp);exact HPT.out)
 | true =>
 have HOA:=aW (show oa=some va from HQA.out.2.1);have HGA:=aW (HQA.out.2.2.1 rfl);have HCA:=aW HQA.out.1;clear HQA;go_wp2_with fail;refine (rBoolV _ _ _ _ _ _ _ _ _ _ _).mono ?_;rintro e w2 ⟨rfl,hb2⟩;have HH2:=aW (HH1.out.keep hb2);have HW2:=aW (HW1.out.trans (hb2.mono HW1.out.size));clear hb2 c0 f0 l0 c1 f1 l1 c2 f2 l2;obtain ⟨c0,f0,l0⟩:=HH2.out.b2.rules;obtain ⟨c1,f1,l1⟩:=HH2.out.b1.rules;obtain ⟨c2,f2,l2⟩:=HH2.out.b0.rules;have HKN:=aW (vr_head (HVA.out _ (Below.refl _ _)));have HBO:=aW (show op=(if k5=2 then (if decide (n5=1)=false then some (jBool (decide (n5=1))) else (isB ob).map jBool) else none) by
  rw [← HOP.out,HOA.out];show (match isB (some va) with | none=>none | some t=>if t=decide ((14:Int)=15) then some (jBool t) else (isB ob).map jBool)=_
  rw [isB_if,HKN.out.1,HKN.out.2.1];by_cases h:k5=2
  ·rw [if_pos h,if_pos h];rfl
  ·rw [if_neg h,if_neg h])
 by_cases hk2:k5=2;rotate_left
 ·have e2:(k5 == 2)=false:=by simp [hk2]
  have HX:=aW (show op=none by rw [HBO.out,if_neg hk2]);clear hk2 HBO;go_upto_region 49 with fail
  try simp only []
  go_step;go_step;go_step;go_step;refine wpList_store_mid rfl 40 (.tmp 4) (.tmp 174) rfl (w.heap.size+1) 0 #[.int .i64 0,.int .i64 0,.string ⟨#[]⟩,.slice none 0 0,.slice none 0 0,.bool false] rfl rfl HH2.out.b1.there (by kernel_rfl) (by first | kernel_rfl | simp [Value.oneCell']) ?_;have HBR:=aW (HH2.out.b1.set6C (.int .i64 0) (.int .i64 0) (.string ⟨#[]⟩) (.slice none 0 0) (.slice none 0 0) (.bool false));have HPT:=aW (show IsP op F w (.returned (.agg #[.int .i64 0,.int .i64 0,.string ⟨#[]⟩,.slice none 0 0,.slice none 0 0,.bool false])) (w2.setCells (w.heap.size+1) 0 [.int .i64 0,.int .i64 0,.string ⟨#[]⟩,.slice none 0 0,.slice none 0 0,.bool false]) from IsP.nilC HX.out HH2.out.1);obtain ⟨WG,hWG⟩:∃ W',w2.setCells (w.heap.size+1) 0 [.int .i64 0,.int .i64 0,.string ⟨#[]⟩,.slice none 0 0,.slice none 0 0,.bool false]=W':=⟨_,rfl⟩
  rw [hWG] at HBR HPT
  try simp only []
  rw [hWG];clear hWG;obtain ⟨cR,fR,lR⟩:=HBR.out.rules;go_wp2_with ((with_reducible refine bodyPost_ret (v:=.agg #[.int .i64 0,.int .i64 0,.string ⟨#[]⟩,.slice none 0 0,.slice none 0 0,.bool false]) ?_ rfl ?_);(simp only [results,Tryz.results17];go_simp);exact HPT.out)
 have e2:(k5 == 2)=true:=by simp [hk2]
 have HBP:=aW (show op=(if decide (n5=1)=false then some (jBool (decide (n5=1))) else (isB ob).map jBool) by rw [HBO.out,if_pos hk2]);clear hk2 HBO;by_cases hd:decide (n5=1)=false
 ·have HX:=aW (show op=some (jBool false) by rw [HBP.out,if_pos hd,hd]);have e3:(n5 == 1)=false:=by rw [← hd];rfl
  have HTR:=aW (fun W=>rTruthV false W);clear hd HBP;go_upto_region 51 with fail;go_wp2_with fail;refine (HTR.out _).mono ?_;rintro e w3 ⟨rfl,hb3⟩;have HH3:=aW (HH2.out.keep hb3);clear hb3 c0 f0 l0 c1 f1 l1 c2 f2 l2
  try simp only []
  go_step;refine wpList_store_mid rfl 40 (.tmp 4) (.tmp 181) rfl (w.heap.size+1) 0 #[.int .i64 2,.int .i64 0,.string ⟨#[]⟩,.slice none 0 0,.slice none 0 0,.bool true] rfl rfl HH3.out.b1.there (by kernel_rfl) (by first | kernel_rfl | simp [Value.oneCell']) ?_;have HBR:=aW (HH3.out.b1.set6C (.int .i64 2) (.int .i64 0) (.string ⟨#[]⟩) (.slice none 0 0) (.slice none 0 0) (.bool true));have HPT:=aW (show IsP op F w (.returned (.agg #[.int .i64 2,.int .i64 0,.string ⟨#[]⟩,.slice none 0 0,.slice none 0 0,.bool true])) (w3.setCells (w.heap.size+1) 0 [.int .i64 2,.int .i64 0,.string ⟨#[]⟩,.slice none 0 0,.slice none 0 0,.bool true]) from atomJ_put (s:=[]) (by rw [HX.out];rfl) (by rfl) (came_atom (by unfold iw;omega) (by unfold iw;omega) (by simp)) HFF.out HH3.out.1);obtain ⟨WG,hWG⟩:∃ W',w3.setCells (w.heap.size+1) 0 [.int .i64 2,.int .i64 0,.string ⟨#[]⟩,.slice none 0 0,.slice none 0 0,.bool true]=W':=⟨_,rfl⟩
  rw [hWG] at HBR HPT
  try simp only []
  rw [hWG];clear hWG;obtain ⟨cR,fR,lR⟩:=HBR.out.rules;go_wp2_with ((with_reducible refine bodyPost_ret (v:=.agg #[.int .i64 2,.int .i64 0,.string ⟨#[]⟩,.slice none 0 0,.slice none 0 0,.bool true]) ?_ rfl ?_);(simp only [results,Tryz.results17];go_simp);exact HPT.out)
 have e3:(n5 == 1)=true:=by
  have:decide (n5=1)=true:=by revert hd;cases decide (n5=1)<;>simp
  rw [← this];rfl
 have HBQ:=aW (show op=(isB ob).map jBool by rw [HBP.out,if_neg hd]);clear hd HBP;obtain ⟨y0,y1,y2,y3,y4,y5,y6,y7⟩:=HZ2.out _ HH2.out.1;rw [Nat.one_mul] at y0 y1 y2 y3 y4 y5 y6 y7;have hlb9:b<w2.heap.size:=Nat.lt_of_lt_of_le hlb HH2.out.1.size;have hs2:w.heap.size+2≤w2.heap.size:=Nat.le_trans hs1 HW2.out.size;go_upto_region 52 with fail;go_wp2_with fail;refine (HKB.out _ HH2.out.1).mono ?_;rintro e w3 ⟨k6,n6,s6,A6,na6,ca6,B6,nb6,cb6,vb,bb,rfl,hvb,hcb,hob,hgb,hzb,hb3⟩;have HVB:=aW (vr_head (IsP.val (w:=w) hs2 hvb (Below.refl _ _)));have HQB:=aW (And.intro hob hzb);have HH3:=aW (HH2.out.keep hb3);have HOX:=aW (show op=(if (bb && (k6 == 2))=true then some (jBool (n6 == 1)) else none) by
  rw [HBQ.out,HQB.out.1];cases bb with
  | false=>rfl
  | true =>
   rw [if_pos rfl,isB_if,HVB.out.1,HVB.out.2.1];by_cases h:k6=2
   ·have h9:(k6 == 2)=true:=by simp [h]
    rw [if_pos h,h9];rfl
   ·have h9:(k6 == 2)=false:=by simp [h]
    rw [if_neg h,h9];rfl)
 clear hvb hcb hob hgb hzb hb3 c0 f0 l0 c1 f1 l1 c2 f2 l2 y0 y1 y2 y3 y4 y5 y6 y7;obtain ⟨bq,hbq⟩:∃ q,(bb && (k6 == 2))=q:=⟨_,rfl⟩
 obtain ⟨tq,htq⟩:∃ q,(n6 == 1)=q:=⟨_,rfl⟩
 have HBV:=aW (show Calls Tryz.prog 47 #[.agg #[.int .i64 k6,.int .i64 n6,.string s6,.slice A6 na6 ca6,.slice B6 nb6 cb6,.bool bb]] w3 fun e w'=>e=.returned (.tuple #[.bool tq,.bool bq])∧Below w3.heap.size w3 w' by rw [← hbq,← htq];exact rBoolV _ _ _ _ _ _ _ _ _ bb w3);rw [hbq,htq] at HOX;clear hbq htq;go_wp2_with fail;refine HBV.out.mono ?_;rintro e w4 ⟨rfl,hb4⟩;have HH4:=aW (HH3.out.keep hb4);clear hb4;cases bq with
 | false =>
  have HX:=aW (show op=none by rw [HOX.out];rfl);go_upto_region 54 with fail
  try simp only []
  go_step;go_step;go_step;go_step;refine wpList_store_mid rfl 40 (.tmp 4) (.tmp 194) rfl (w.heap.size+1) 0 #[.int .i64 0,.int .i64 0,.string ⟨#[]⟩,.slice none 0 0,.slice none 0 0,.bool false] rfl rfl HH4.out.b1.there (by kernel_rfl) (by first | kernel_rfl | simp [Value.oneCell']) ?_;have HBR:=aW (HH4.out.b1.set6C (.int .i64 0) (.int .i64 0) (.string ⟨#[]⟩) (.slice none 0 0) (.slice none 0 0) (.bool false));have HPT:=aW (show IsP op F w (.returned (.agg #[.int .i64 0,.int .i64 0,.string ⟨#[]⟩,.slice none 0 0,.slice none 0 0,.bool false])) (w4.setCells (w.heap.size+1) 0 [.int .i64 0,.int .i64 0,.string ⟨#[]⟩,.slice none 0 0,.slice none 0 0,.bool false]) from IsP.nilC HX.out HH4.out.1);obtain ⟨WG,hWG⟩:∃ W',w4.setCells (w.heap.size+1) 0 [.int .i64 0,.int .i64 0,.string ⟨#[]⟩,.slice none 0 0,.slice none 0 0,.bool false]=W':=⟨_,rfl⟩
  rw [hWG] at HBR HPT
  try simp only []
  rw [hWG];clear hWG;obtain ⟨cR,fR,lR⟩:=HBR.out.rules;go_wp2_with ((with_reducible refine bodyPost_ret (v:=.agg #[.int .i64 0,.int .i64 0,.string ⟨#[]⟩,.slice none 0 0,.slice none 0 0,.bool false]) ?_ rfl ?_);(simp only [results,Tryz.results17];go_simp);exact HPT.out)
 | true =>
 have HX:=aW (show op=some (jBool tq) by rw [HOX.out];rfl);have HTR:=aW (fun W=>rTruthV tq W);go_upto_region 55 with fail;go_wp2_with fail;refine (HTR.out _).mono ?_;rintro e w5 ⟨rfl,hb5⟩;have HH5:=aW (HH4.out.keep hb5);clear hb5
 try simp only []
 go_step;refine wpList_store_mid rfl 40 (.tmp 4) (.tmp 196) rfl (w.heap.size+1) 0 #[.int .i64 2,.int .i64 (if tq=true then 1 else 0),.string ⟨#[]⟩,.slice none 0 0,.slice none 0 0,.bool true] rfl rfl HH5.out.b1.there (by kernel_rfl) (by first | kernel_rfl | simp [Value.oneCell']) ?_;have HBR:=aW (HH5.out.b1.set6C (.int .i64 2) (.int .i64 (if tq=true then 1 else 0)) (.string ⟨#[]⟩) (.slice none 0 0) (.slice none 0 0) (.bool true));have HPT:=aW (show IsP op F w (.returned (.agg #[.int .i64 2,.int .i64 (if tq=true then 1 else 0),.string ⟨#[]⟩,.slice none 0 0,.slice none 0 0,.bool true])) (w5.setCells (w.heap.size+1) 0 [.int .i64 2,.int .i64 (if tq=true then 1 else 0),.string ⟨#[]⟩,.slice none 0 0,.slice none 0 0,.bool true]) from atomJ_put (s:=[]) HX.out (good_bool tq) (came_atom (by unfold iw;omega) (by unfold iw;split<;>omega) (by simp)) HFF.out HH5.out.1);obtain ⟨WG,hWG⟩:∃ W',w5.setCells (w.heap.size+1) 0 [.int .i64 2,.int .i64 (if tq=true then 1 else 0),.string ⟨#[]⟩,.slice none 0 0,.slice none 0 0,.bool true]=W':=⟨_,rfl⟩
 rw [hWG] at HBR HPT
 try simp only []
 rw [hWG];clear hWG;obtain ⟨cR,fR,lR⟩:=HBR.out.rules;go_wp2_with ((with_reducible refine bodyPost_ret (v:=.agg #[.int .i64 2,.int .i64 (if tq=true then 1 else 0),.string ⟨#[]⟩,.slice none 0 0,.slice none 0 0,.bool true]) ?_ rfl ?_);(simp only [results,Tryz.results17];go_simp);exact HPT.out)
theorem rEv15 {env:List (List UInt8 × JV)} {v:JV} {s:List UInt8} {ya yb:EJ} {cs:List Value} {EA:Option Addr} {n ec:Nat} {F:Nat→Prop} {w:World} (hF:∀ b,F b→b<w.heap.size) (hx:ER w F cs (.mk 15 v s [ya,yb])) (hcx:camE (.mk 15 v s [ya,yb]))
  (ka:KidR EA n ec F env w ya) (kb:KidR EA n ec F env w yb) (oa ob:Option JV) (hoa:evE env ya=oa) (hob:evE env yb=ob) (op:Option JV) (hop:combJ env 15 v s [oa,ob]=op) :
  Calls Tryz.prog 17 #[.agg cs.toArray,.slice EA n ec] w (IsP op F w):=by
 obtain ⟨k1,n1,s1,A1,na1,ca1,B1,nb1,cb1,A,ca,css0,rfl,hv,h1,h2,h3,h4⟩:=hx.out;obtain ⟨b,o,kx,px,nx,sx,Ax,nax,cax,Bx,nbx,cbx,zx,Cx,ncx,ccx,rfl,hb,hER,hz⟩:=kid_cellsE h1 h4 (i:=0) (x:=ya) rfl;have HKA:=aW (fun (W:World) (h:Below w.heap.size w W)=>ka W _ h (hER.bel h));obtain ⟨b',o',ky,py,ny,sy,Ay,nay,cay,By,nby,cby,zy,Cy,ncy,ccy,hbb,hb2,hER2,hz2⟩:=kid_cellsE h1 h4 (i:=1) (x:=yb) rfl;injection hbb with hbb;injection hbb with hb1 hb3
 subst hb1 hb3;have HKB:=aW (fun (W:World) (h:Below w.heap.size w W)=>kb W _ h (hER2.bel h));have HZ2:=aW hz2;rw [hoa] at HKA;rw [hob] at HKB;obtain ⟨nr,hnr⟩:∃ q:Nat,2=q:=⟨_,rfl⟩
 have hnr1:0<nr:=by omega
 have hnr2:1<nr:=by omega
 have HFF:=aW hF;have HOP:=aW hop;have HVS:=aW hv;have HH0:=aW (((Held.nil w).push 28 #[.int .i64 15,.int .i64 k1,.int .i64 n1,.string s1,.slice A1 na1 ca1,.slice B1 nb1 cb1,.string ⟨s.toArray⟩,.slice (some ⟨b,o,none⟩) nr ca] (g:=w.heap.size) rfl).push 40 #[.int .i64 0,.int .i64 0,.string ⟨#[]⟩,.slice none 0 0,.slice none 0 0,.bool false] (g:=w.heap.size+1) (by simp));obtain ⟨z0,z1,z2,z3,z4,z5,z6,z7⟩:=hz _ HH0.out.1;rw [zeroC0] at z0 z1 z2 z3 z4 z5 z6 z7;have hlb:b<w.heap.size:=hb;have hlb2:b≠w.heap.size+1:=by omega
 rw [show ([ya,yb]:List EJ).length=nr from hnr];obtain ⟨c0,f0,l0⟩:=HH0.out.b1.rules;clear hF hx hcx hv h1 h2 h3 h4 hER hz hb hoa hob hop hnr ka kb hER2 hz2 hb2;go_enter Tryz.func17,Tryz.ntmps17;go_wp2_with fail;refine (HKA.out _ HH0.out.1).mono ?_;rintro e w1 ⟨k5,n5,s5,A5,na5,ca5,B5,nb5,cb5,va,ba,rfl,hva,hca,hoa,hga,hza,hb1⟩;obtain ⟨WA,hWA⟩:∃ W,w1.alloc (.cells #[.int .i64 k5,.int .i64 n5,.string s5,.slice A5 na5 ca5,.slice B5 nb5 cb5,.bool ba] 40)=W:=⟨_,rfl⟩
 have HWA:=aW hWA;have HH1:=aW (show Held [(w1.heap.size,40,#[.int .i64 k5,.int .i64 n5,.string s5,.slice A5 na5 ca5,.slice B5 nb5 cb5,.bool ba]),(w.heap.size+1,40,#[.int .i64 0,.int .i64 0,.string ⟨#[]⟩,.slice none 0 0,.slice none 0 0,.bool false]),(w.heap.size,28,#[.int .i64 15,.int .i64 k1,.int .i64 n1,.string s1,.slice A1 na1 ca1,.slice B1 nb1 cb1,.string ⟨s.toArray⟩,.slice (some ⟨b,o,none⟩) nr ca])] w WA by rw [← hWA];exact (HH0.out.keep hb1).push 40 #[.int .i64 k5,.int .i64 n5,.string s5,.slice A5 na5 ca5,.slice B5 nb5 cb5,.bool ba] (g:=w1.heap.size) rfl);have HW1:=aW (show Below w1.heap.size w1 WA by rw [← hWA];exact (Below.refl _ w1).alloc (Nat.le_refl _) _);have HVA:=aW (fun (W:World) (h:Below w1.heap.size w1 W)=>IsP.val (w:=w) (by simp) hva h);have HQA:=aW (And.intro hca (And.intro hoa (And.intro hga hza)));have hs1:w.heap.size+2≤w1.heap.size:=by have:=hb1.size;simpa using this
 have hn1:w1.heap.size≠w.heap.size+1:=by omega
 have hn2:w1.heap.size≠w.heap.size:=by omega
 clear hWA hva hca hoa hga hza hb1 c0 f0 l0 z0 z1 z2 z3 z4 z5 z6 z7 HKA;go_upto_region 24 with fail;rw [HWA.out];clear HWA;obtain ⟨c0,f0,l0⟩:=HH1.out.b2.rules;obtain ⟨c1,f1,l1⟩:=HH1.out.b1.rules;obtain ⟨c2,f2,l2⟩:=HH1.out.b0.rules;cases ba with
 | false =>
  have HX:=aW (show op=none by rw [← HOP.out,HQA.out.2.1];rfl);go_upto_region 25 with fail
  try simp only []
  go_step;go_step;go_step;go_step;refine wpList_store_mid rfl 40 (.tmp 4) (.tmp 98) rfl (w.heap.size+1) 0 #[.int .i64 0,.int .i64 0,.string ⟨#[]⟩,.slice none 0 0,.slice none 0 0,.bool false] rfl rfl HH1.out.b1.there (by kernel_rfl) (by first | kernel_rfl | simp [Value.oneCell']) ?_;have HBR:=aW (HH1.out.b1.set6C (.int .i64 0) (.int .i64 0) (.string ⟨#[]⟩) (.slice none 0 0) (.slice none 0 0) (.bool false));have HPT:=aW (show IsP op F w (.returned (.agg #[.int .i64 0,.int .i64 0,.string ⟨#[]⟩,.slice none 0 0,.slice none 0 0,.bool false])) (WA.setCells (w.heap.size+1) 0 [.int .i64 0,.int .i64 0,.string ⟨#[]⟩,.slice none 0 0,.slice none 0 0,.bool false]) from IsP.nilC HX.out HH1.out.1);obtain ⟨WG,hWG⟩:∃ W',WA.setCells (w.heap.size+1) 0 [.int .i64 0,.int .i64 0,.string ⟨#[]⟩,.slice none 0 0,.slice none 0 0,.bool false]=W':=⟨_,rfl⟩
  rw [hWG] at HBR HPT
  try simp only []
  rw [hWG];clear hWG;obtain ⟨cR,fR,lR⟩:=HBR.out.rules;go_wp2_with ((with_reducible refine bodyPost_ret (v:=.agg #[.int .i64 0,.int .i64 0,.string ⟨#[]⟩,.slice none 0 0,.slice none 0 0,.bool false]) ?_ rfl ?_);(simp only [results,Tryz.results17];go_simp);exact HPT.out)
 | true =>
 have HOA:=aW (show oa=some va from HQA.out.2.1);have HGA:=aW (HQA.out.2.2.1 rfl);have HCA:=aW HQA.out.1;clear HQA;go_wp2_with fail;refine (rBoolV _ _ _ _ _ _ _ _ _ _ _).mono ?_;rintro e w2 ⟨rfl,hb2⟩;have HH2:=aW (HH1.out.keep hb2);have HW2:=aW (HW1.out.trans (hb2.mono HW1.out.size));clear hb2 c0 f0 l0 c1 f1 l1 c2 f2 l2;obtain ⟨c0,f0,l0⟩:=HH2.out.b2.rules;obtain ⟨c1,f1,l1⟩:=HH2.out.b1.rules;obtain ⟨c2,f2,l2⟩:=HH2.out.b0.rules;have HKN:=aW (vr_head (HVA.out _ (Below.refl _ _)));have HBO:=aW (show op=(if k5=2 then (if decide (n5=1)=true then some (jBool (decide (n5=1))) else (isB ob).map jBool) else none) by
  rw [← HOP.out,HOA.out];show (match isB (some va) with | none=>none | some t=>if t=decide ((15:Int)=15) then some (jBool t) else (isB ob).map jBool)=_
  rw [isB_if,HKN.out.1,HKN.out.2.1];by_cases h:k5=2
  ·rw [if_pos h,if_pos h];rfl
  ·rw [if_neg h,if_neg h])
 by_cases hk2:k5=2;rotate_left
 ·have e2:(k5 == 2)=false:=by simp [hk2]
  have HX:=aW (show op=none by rw [HBO.out,if_neg hk2]);clear hk2 HBO;go_upto_region 49 with fail
  try simp only []
  go_step;go_step;go_step;go_step;refine wpList_store_mid rfl 40 (.tmp 4) (.tmp 174) rfl (w.heap.size+1) 0 #[.int .i64 0,.int .i64 0,.string ⟨#[]⟩,.slice none 0 0,.slice none 0 0,.bool false] rfl rfl HH2.out.b1.there (by kernel_rfl) (by first | kernel_rfl | simp [Value.oneCell']) ?_;have HBR:=aW (HH2.out.b1.set6C (.int .i64 0) (.int .i64 0) (.string ⟨#[]⟩) (.slice none 0 0) (.slice none 0 0) (.bool false));have HPT:=aW (show IsP op F w (.returned (.agg #[.int .i64 0,.int .i64 0,.string ⟨#[]⟩,.slice none 0 0,.slice none 0 0,.bool false])) (w2.setCells (w.heap.size+1) 0 [.int .i64 0,.int .i64 0,.string ⟨#[]⟩,.slice none 0 0,.slice none 0 0,.bool false]) from IsP.nilC HX.out HH2.out.1);obtain ⟨WG,hWG⟩:∃ W',w2.setCells (w.heap.size+1) 0 [.int .i64 0,.int .i64 0,.string ⟨#[]⟩,.slice none 0 0,.slice none 0 0,.bool false]=W':=⟨_,rfl⟩
  rw [hWG] at HBR HPT
  try simp only []
  rw [hWG];clear hWG;obtain ⟨cR,fR,lR⟩:=HBR.out.rules;go_wp2_with ((with_reducible refine bodyPost_ret (v:=.agg #[.int .i64 0,.int .i64 0,.string ⟨#[]⟩,.slice none 0 0,.slice none 0 0,.bool false]) ?_ rfl ?_);(simp only [results,Tryz.results17];go_simp);exact HPT.out)
 have e2:(k5 == 2)=true:=by simp [hk2]
 have HBP:=aW (show op=(if decide (n5=1)=true then some (jBool (decide (n5=1))) else (isB ob).map jBool) by rw [HBO.out,if_pos hk2]);clear hk2 HBO;by_cases hd:decide (n5=1)=true
 ·have HX:=aW (show op=some (jBool true) by rw [HBP.out,if_pos hd,hd]);have e3:(n5 == 1)=true:=by rw [← hd];rfl
  have HTR:=aW (fun W=>rTruthV true W);clear hd HBP;go_upto_region 51 with fail;go_wp2_with fail;refine (HTR.out _).mono ?_;rintro e w3 ⟨rfl,hb3⟩;have HH3:=aW (HH2.out.keep hb3);clear hb3 c0 f0 l0 c1 f1 l1 c2 f2 l2
  try simp only []
  go_step;refine wpList_store_mid rfl 40 (.tmp 4) (.tmp 181) rfl (w.heap.size+1) 0 #[.int .i64 2,.int .i64 1,.string ⟨#[]⟩,.slice none 0 0,.slice none 0 0,.bool true] rfl rfl HH3.out.b1.there (by kernel_rfl) (by first | kernel_rfl | simp [Value.oneCell']) ?_;have HBR:=aW (HH3.out.b1.set6C (.int .i64 2) (.int .i64 1) (.string ⟨#[]⟩) (.slice none 0 0) (.slice none 0 0) (.bool true));have HPT:=aW (show IsP op F w (.returned (.agg #[.int .i64 2,.int .i64 1,.string ⟨#[]⟩,.slice none 0 0,.slice none 0 0,.bool true])) (w3.setCells (w.heap.size+1) 0 [.int .i64 2,.int .i64 1,.string ⟨#[]⟩,.slice none 0 0,.slice none 0 0,.bool true]) from atomJ_put (s:=[]) (by rw [HX.out];rfl) (by rfl) (came_atom (by unfold iw;omega) (by unfold iw;omega) (by simp)) HFF.out HH3.out.1);obtain ⟨WG,hWG⟩:∃ W',w3.setCells (w.heap.size+1) 0 [.int .i64 2,.int .i64 1,.string ⟨#[]⟩,.slice none 0 0,.slice none 0 0,.bool true]=W':=⟨_,rfl⟩
  rw [hWG] at HBR HPT
  try simp only []
  rw [hWG];clear hWG;obtain ⟨cR,fR,lR⟩:=HBR.out.rules;go_wp2_with ((with_reducible refine bodyPost_ret (v:=.agg #[.int .i64 2,.int .i64 1,.string ⟨#[]⟩,.slice none 0 0,.slice none 0 0,.bool true]) ?_ rfl ?_);(simp only [results,Tryz.results17];go_simp);exact HPT.out)
 have e3:(n5 == 1)=false:=by
  have:decide (n5=1)=false:=by revert hd;cases decide (n5=1)<;>simp
  rw [← this];rfl
 have HBQ:=aW (show op=(isB ob).map jBool by rw [HBP.out,if_neg hd]);clear hd HBP;obtain ⟨y0,y1,y2,y3,y4,y5,y6,y7⟩:=HZ2.out _ HH2.out.1;rw [Nat.one_mul] at y0 y1 y2 y3 y4 y5 y6 y7;have hlb9:b<w2.heap.size:=Nat.lt_of_lt_of_le hlb HH2.out.1.size;have hs2:w.heap.size+2≤w2.heap.size:=Nat.le_trans hs1 HW2.out.size;go_upto_region 52 with fail;go_wp2_with fail;refine (HKB.out _ HH2.out.1).mono ?_;rintro e w3 ⟨k6,n6,s6,A6,na6,ca6,B6,nb6,cb6,vb,bb,rfl,hvb,hcb,hob,hgb,hzb,hb3⟩;have HVB:=aW (vr_head (IsP.val (w:=w) hs2 hvb (Below.refl _ _)));have HQB:=aW (And.intro hob hzb);have HH3:=aW (HH2.out.keep hb3);have HOX:=aW (show op=(if (bb && (k6 == 2))=true then some (jBool (n6 == 1)) else none) by
  rw [HBQ.out,HQB.out.1];cases bb with
  | false=>rfl
  | true =>
   rw [if_pos rfl,isB_if,HVB.out.1,HVB.out.2.1];by_cases h:k6=2
   ·have h9:(k6 == 2)=true:=by simp [h]
    rw [if_pos h,h9];rfl
   ·have h9:(k6 == 2)=false:=by simp [h]
    rw [if_neg h,h9];rfl)
 clear hvb hcb hob hgb hzb hb3 c0 f0 l0 c1 f1 l1 c2 f2 l2 y0 y1 y2 y3 y4 y5 y6 y7;obtain ⟨bq,hbq⟩:∃ q,(bb && (k6 == 2))=q:=⟨_,rfl⟩
 obtain ⟨tq,htq⟩:∃ q,(n6 == 1)=q:=⟨_,rfl⟩
 have HBV:=aW (show Calls Tryz.prog 47 #[.agg #[.int .i64 k6,.int .i64 n6,.string s6,.slice A6 na6 ca6,.slice B6 nb6 cb6,.bool bb]] w3 fun e w'=>e=.returned (.tuple #[.bool tq,.bool bq])∧Below w3.heap.size w3 w' by rw [← hbq,← htq];exact rBoolV _ _ _ _ _ _ _ _ _ bb w3);rw [hbq,htq] at HOX;clear hbq htq;go_wp2_with fail;refine HBV.out.mono ?_;rintro e w4 ⟨rfl,hb4⟩;have HH4:=aW (HH3.out.keep hb4);clear hb4;cases bq with
 | false =>
  have HX:=aW (show op=none by rw [HOX.out];rfl);go_upto_region 54 with fail
  try simp only []
  go_step;go_step;go_step;go_step;refine wpList_store_mid rfl 40 (.tmp 4) (.tmp 194) rfl (w.heap.size+1) 0 #[.int .i64 0,.int .i64 0,.string ⟨#[]⟩,.slice none 0 0,.slice none 0 0,.bool false] rfl rfl HH4.out.b1.there (by kernel_rfl) (by first | kernel_rfl | simp [Value.oneCell']) ?_;have HBR:=aW (HH4.out.b1.set6C (.int .i64 0) (.int .i64 0) (.string ⟨#[]⟩) (.slice none 0 0) (.slice none 0 0) (.bool false));have HPT:=aW (show IsP op F w (.returned (.agg #[.int .i64 0,.int .i64 0,.string ⟨#[]⟩,.slice none 0 0,.slice none 0 0,.bool false])) (w4.setCells (w.heap.size+1) 0 [.int .i64 0,.int .i64 0,.string ⟨#[]⟩,.slice none 0 0,.slice none 0 0,.bool false]) from IsP.nilC HX.out HH4.out.1);obtain ⟨WG,hWG⟩:∃ W',w4.setCells (w.heap.size+1) 0 [.int .i64 0,.int .i64 0,.string ⟨#[]⟩,.slice none 0 0,.slice none 0 0,.bool false]=W':=⟨_,rfl⟩
  rw [hWG] at HBR HPT
  try simp only []
  rw [hWG];clear hWG;obtain ⟨cR,fR,lR⟩:=HBR.out.rules;go_wp2_with ((with_reducible refine bodyPost_ret (v:=.agg #[.int .i64 0,.int .i64 0,.string ⟨#[]⟩,.slice none 0 0,.slice none 0 0,.bool false]) ?_ rfl ?_);(simp only [results,Tryz.results17];go_simp);exact HPT.out)
 | true =>
 have HX:=aW (show op=some (jBool tq) by rw [HOX.out];rfl);have HTR:=aW (fun W=>rTruthV tq W);go_upto_region 55 with fail;go_wp2_with fail;refine (HTR.out _).mono ?_;rintro e w5 ⟨rfl,hb5⟩;have HH5:=aW (HH4.out.keep hb5);clear hb5
 try simp only []
 go_step;refine wpList_store_mid rfl 40 (.tmp 4) (.tmp 196) rfl (w.heap.size+1) 0 #[.int .i64 2,.int .i64 (if tq=true then 1 else 0),.string ⟨#[]⟩,.slice none 0 0,.slice none 0 0,.bool true] rfl rfl HH5.out.b1.there (by kernel_rfl) (by first | kernel_rfl | simp [Value.oneCell']) ?_;have HBR:=aW (HH5.out.b1.set6C (.int .i64 2) (.int .i64 (if tq=true then 1 else 0)) (.string ⟨#[]⟩) (.slice none 0 0) (.slice none 0 0) (.bool true));have HPT:=aW (show IsP op F w (.returned (.agg #[.int .i64 2,.int .i64 (if tq=true then 1 else 0),.string ⟨#[]⟩,.slice none 0 0,.slice none 0 0,.bool true])) (w5.setCells (w.heap.size+1) 0 [.int .i64 2,.int .i64 (if tq=true then 1 else 0),.string ⟨#[]⟩,.slice none 0 0,.slice none 0 0,.bool true]) from atomJ_put (s:=[]) HX.out (good_bool tq) (came_atom (by unfold iw;omega) (by unfold iw;split<;>omega) (by simp)) HFF.out HH5.out.1);obtain ⟨WG,hWG⟩:∃ W',w5.setCells (w.heap.size+1) 0 [.int .i64 2,.int .i64 (if tq=true then 1 else 0),.string ⟨#[]⟩,.slice none 0 0,.slice none 0 0,.bool true]=W':=⟨_,rfl⟩
 rw [hWG] at HBR HPT
 try simp only []
 rw [hWG];clear hWG;obtain ⟨cR,fR,lR⟩:=HBR.out.rules;go_wp2_with ((with_reducible refine bodyPost_ret (v:=.agg #[.int .i64 2,.int .i64 (if tq=true then 1 else 0),.string ⟨#[]⟩,.slice none 0 0,.slice none 0 0,.bool true]) ?_ rfl ?_);(simp only [results,Tryz.results17];go_simp);exact HPT.out)
end Go.Proofs.YtgolomgmnanbpaaGreatDoor
