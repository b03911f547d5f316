import Derived.Test.YtgolomgmnanbpaaGreatDoorW34
import Derived.Test.YtgolomgmnanbpaaGreatDoorW36
import Derived.Test.YtgolomgmnanbpaaGreatDoorW01
set_option maxRecDepth 100000
set_option maxHeartbeats 16000000
namespace Go.Proofs.YtgolomgmnanbpaaGreatDoor
set_option linter.unusedVariables false
set_option linter.unusedSimpArgs false
open Go.RowKit
attribute [local go_sem] run_index_arr run_part_agg run_part_one run_field_agg
def FO (G:Nat→Prop) (row:Value) (b:Nat):Prop:=G b∧some b≠row.ownBlock
theorem vrs_growG {w w2:World} {G:Nat→Prop} {row row2:Value} {css:List (List Value)} {kids:List JV} (h:VRs w (FO G row) css kids) (hg:w.grownBy w2 row.ownBlock) (ho:row2.ownBlock=row.ownBlock∨row2.ownBlock=some w.heap.size) :
  VRs w2 (FO G row2) css kids:=by
 have h1:VRs w (fun b=>FO G row b∧b<w.heap.size) css kids:=h.mono fun b hb hF=>⟨hF,hb⟩
 have h2:VRs w2 (fun b=>FO G row b∧b<w.heap.size) css kids:=h1.keep (KeepF.of_grown hg fun b hb=>hb.1.2);refine h2.mono fun b _ hF=>⟨hF.1.1,fun e=>?_⟩
 rcases ho with ho | ho
 ·exact hF.1.2 (by rw [e,ho])
 ·rw [ho] at e;have:b=w.heap.size:=by injection e
  omega
theorem Held.grown {L:List (Nat × TypeId × Array Value)} {w0 W W':World} {r:Option Nat} (h:Held L w0 W) (hg:W.grownBy W' r) (hr:∀ k,r=some k→w0.heap.size≤k) (hL:∀ x ∈ L,some x.1≠r):Held L w0 W' :=
 ⟨h.1.grown hg h.1.size hr,fun x hx=>(h.2 x hx).grown hg (hL x hx)⟩
theorem allS_some:∀ xs:List JV,allS (xs.map some)=some xs
 | []=>rfl
 | x::r=>by rw [List.map_cons,allS,allS_some r]
theorem allS_none:∀ {l:List (Option JV)},none ∈ l→allS l=none
 | none::r,_=>rfl
 | some v::r,h=>by
  rw [allS,allS_none (l:=r) (by simpa using h)]
theorem came_good {xs:List JV} (h:∀ x ∈ xs,Came x∧good x=true) (hn:xs.length≤16000):Came (jArr xs):=by
 have hnod:∀ l:List JV,(∀ x ∈ l,good x=true)→nodesL l≤256*l.length:=by
  intro l
  induction l with
  | nil=>intro _;simp [nodesL]
  | cons x r ih =>
   intro hg;have h1:=(good_J (hg x List.mem_cons_self)).2;have h2:=ih (fun y hy=>hg y (List.mem_cons_of_mem _ hy));rw [nodesL,List.length_cons];omega
 have h3:=hnod xs (fun x hx=>(h x hx).2);refine ⟨?_,?_,?_⟩
 ·unfold jArr inJ;exact ⟨by unfold iw;omega,by unfold iw;omega,inL_iff.2 fun x hx=>(h x hx).1.ints⟩
 ·unfold jArr nodesJ;omega
 ·unfold jArr lenJ;exact ⟨by simp,by omega,by simp,by simp,lenL_iff.2 fun x hx=>(h x hx).1.lens⟩
def listJ (l:List (Option JV)):Option JV:=match allS l with | some xs=>if good (jArr xs)=true then some (jArr xs) else none | none=>none
theorem infoVal9:(Tryz.prog.info? 25).map (fun i=>(i.zero,i.size,i.bytes))=some (some (.agg #[.int .i64 0,.int .i64 0,.string ⟨#[]⟩,.slice none 0 0,.slice none 0 0]),5,80):=by kernel_rfl
theorem mList {pv:Value} {F:Nat→Prop} {env:List (List UInt8 × JV)} {w:World} {k:Int} {v:JV} {s:List UInt8} {kids:List EJ} {cs:List Value} (hG:GOE w) (hF:∀ b,F b→b<w.heap.size) (hk:∀ y ∈ kids,KidC pv F env w y) (hx:ER w F cs (.mk k v s kids)) (hn:kids.length≤16000) :
  Calls Tryz.prog 74 #[pv,.agg cs.toArray] w (ExP (listJ (kids.map (evE env))) F w):=by
 obtain ⟨k1,n1,s1,A1,na1,ca1,B1,nb1,cb1,A,ca,css0,rfl,hv,h1,h2,h3,h4⟩:=hx.out;have HKD:=aW (And.intro h1 h4);have HKC:=aW hk;obtain ⟨nr,hnr⟩:∃ q,kids.length=q:=⟨_,rfl⟩
 have HNR:=aW hnr;rw [hnr] at h2 hn ⊢;have HH0:=aW (((Held.nil w).push 28 #[.int .i64 k,.int .i64 k1,.int .i64 n1,.string s1,.slice A1 na1 ca1,.slice B1 nb1 cb1,.string ⟨s.toArray⟩,.slice A nr ca] (g:=w.heap.size) rfl).push 25 #[.int .i64 0,.int .i64 0,.string ⟨#[]⟩,.slice none 0 0,.slice none 0 0] (g:=w.heap.size+1) (by simp));have HG:=aW hG;have HFF:=aW hF;obtain ⟨i0,hi,hz0,hz1,hz2⟩:=info_parts infoVal9;have HI:=aW hi;obtain ⟨W0,hW0⟩:∃ W0:World,W0.heap.size=w.heap.size+2:=⟨(w.alloc (.cells #[] 25)).alloc (.cells #[] 25),by simp⟩
 have HW0:=aW hW0;clear hW0 hk hx hv h1 h2 h3 h4 hnr hG hF hi;obtain ⟨c0,f0,l0⟩:=HH0.out.b1.rules;go_enter Tryz.func74,Tryz.ntmps74;go_wp2;clear c0 f0 l0;go_loopg [6,16] nr (fun gk s6 s16 wr => ∃ (i:Nat) (row:Value) (xs:List JV) (css:List (List Value)),row=s6∧i≤nr∧gk=nr-i∧s16=.int .i64 (i:Int) ∧
  Hid (Held [(w.heap.size+1,25,#[.int .i64 0,.int .i64 0,.string ⟨#[]⟩,.slice none 0 0,.slice none 0 0]),(w.heap.size,28,#[.int .i64 k,.int .i64 k1,.int .i64 n1,.string s1,.slice A1 na1 ca1,.slice B1 nb1 cb1,.string ⟨s.toArray⟩,.slice A nr ca])] w wr) ∧
  Hid (wr.ownsRow (w.heap.size+2) 25 5 row i css.flatten)∧Hid (VRs wr (FO (FN F W0) row) css xs)∧Hid (xs.length=i∧(kids.take i).map (evE env)=xs.map some∧∀ x ∈ xs,Came x∧good x=true))
 case atStart=>exact ⟨0,_,[],[],rfl,Nat.zero_le _,by go_num,rfl,HH0,aW (World.ownsRow_nil _ _ _ _),aW VRs.nil,aW ⟨rfl,rfl,fun x hx=>by cases hx⟩⟩
 case round =>
  obtain ⟨i,row,xs,css,rfl,hin,hgk,rfl,HH,HO,HV,HX⟩:=hrel;have HGK:=aW hgk;clear hgk HH0;by_cases hlt:i<nr
  ·obtain ⟨x,hx⟩:∃ x,kids[i]? = some x:=⟨_,List.getElem?_eq_getElem (by rw [HNR.out];exact hlt)⟩
   have hxm:=List.mem_of_getElem? hx;obtain ⟨b,o,k',k1',n1',s1',A1',na1',ca1',B1',nb1',cb1',s',A2',n2',ca2',rfl,hb,hER,hz⟩:=kid_cellsE HKD.out.1 HKD.out.2 hx;obtain ⟨z0,z1,z2,z3,z4,z5,z6,z7⟩:=hz wr HH.out.1;have HTK:=aW (show kids.take (i+1)=kids.take i++[x] by rw [List.take_add_one,hx];rfl);have HXN:=aW (show evE env x=none→listJ (kids.map (evE env))=none from fun h0=>by
    unfold listJ;rw [allS_none (List.mem_map.2 ⟨x,hxm,h0⟩)])
   have HE:=aW (fun (W:World) (h:Below w.heap.size w W)=>HKC.out x hxm W _ h (hER.bel h));have hlb:b<wr.heap.size:=Nat.lt_of_lt_of_le hb HH.out.1.size;have HP:=aW ((HH.out).push 28 #[.int .i64 k',.int .i64 k1',.int .i64 n1',.string s1',.slice A1' na1' ca1',.slice B1' nb1' cb1',.string s',.slice A2' n2' ca2'] (g:=wr.heap.size) rfl);have HO1:=aW (HO.out.alloc (.cells #[.int .i64 k',.int .i64 k1',.int .i64 n1',.string s1',.slice A1' na1' ca1',.slice B1' nb1' cb1',.string s',.slice A2' n2' ca2'] 28));have HV1:=aW (HV.out.below ((Below.refl _ wr).alloc (Nat.le_refl _) (.cells #[.int .i64 k',.int .i64 k1',.int .i64 n1',.string s1',.slice A1' na1' ca1',.slice B1' nb1' cb1',.string s',.slice A2' n2' ca2'] 28)));clear hz hER hx hxm hb;go_wp2_with fail;refine (HE.out _ HP.out.1).mono ?_;rintro e w4 ⟨cs4,v4,b4,rfl,hv4,hc4,ho4,hg4,hb4⟩;clear z0 z1 z2 z3 z4 z5 z6 z7;have HV4:=aW hv4;obtain ⟨k5,n5,s5,A5,na5,ca5,B5,nb5,cb5,rfl⟩:=hv4.form;have HQ4:=aW (And.intro hc4 (And.intro ho4 hg4));have hsz:wr.heap.size<w4.heap.size:=by have:=hb4.size;simp at this;omega
   obtain ⟨W5,hW5⟩:∃ W5,w4.alloc (.cells #[.int .i64 k5,.int .i64 n5,.string s5,.slice A5 na5 ca5,.slice B5 nb5 cb5] 25)=W5:=⟨_,rfl⟩
   have h45:Below w4.heap.size w4 W5:=by rw [← hW5];exact (Below.refl _ w4).alloc (Nat.le_refl _) _
   have HP5:=aW (show Held ((w4.heap.size,25,#[.int .i64 k5,.int .i64 n5,.string s5,.slice A5 na5 ca5,.slice B5 nb5 cb5])::_) w W5 by rw [← hW5];exact (HP.out.keep hb4).push 25 #[.int .i64 k5,.int .i64 n5,.string s5,.slice A5 na5 ca5,.slice B5 nb5 cb5] (g:=w4.heap.size) rfl);have HO5:=aW (ownBel (ownBel HO1.out hb4) h45);have HV5:=aW ((HV1.out.below hb4).below h45);have HX5:=aW (HV4.out.bel h45);have HS5:=aW (show W5.heap.size=w4.heap.size+1 by rw [← hW5];simp);have HW5:=aW hW5;have hwr2:w.heap.size+2≤wr.heap.size:=HH.out.b0.lt;clear hv4 hc4 ho4 hg4 hb4 h45 hW5;cases b4
   ·go_wp2_with fail;rw [HW5.out];refine (mNone _).mono ?_;rintro e wn ⟨rfl,hbn⟩;have HHN:=aW (HP5.out.keep hbn);clear hbn;obtain ⟨c1,f1,l1⟩:=HHN.out.b2.rules;go_wp2;refine bodyPost_ret (v:=.tuple #[.agg #[.int .i64 0,.int .i64 0,.string ⟨#[]⟩,.slice none 0 0,.slice none 0 0],.bool false]) (by simp only [results,Tryz.results74];go_simp) rfl ?_;exact ExP.none_ (w1:=w) (HXN.out (by rw [HQ4.out.2.1];rfl)) (five_bel HHN.out.1 (by omega) _ _ _ _ _)
   ·have HXG:=aW (And.intro HQ4.out.1 (HQ4.out.2.2 rfl));have HOE:=aW (show evE env x=some v4 by rw [HQ4.out.2.1];rfl);have HRW:=aW (fun (j:Nat) (e:row.ownBlock=some j)=>HO.out.lt j e);go_upto_region 8 with (fail);rw [HW5.out];obtain ⟨c0,f0,l0⟩:=HP5.out.b0.rules;have hO6:=aW (HO5.out.alloc (.cells #[.int .i64 k5,.int .i64 n5,.string s5,.slice A5 na5 ca5,.slice B5 nb5 cb5] 25));have hR6:=aW (Rd.of_blk (Blk.new W5 25 #[.int .i64 k5,.int .i64 n5,.string s5,.slice A5 na5 ca5,.slice B5 nb5 cb5]));have H1C:=aW (show ∀ u ∈ ([.int .i64 k5,.int .i64 n5,.string s5,.slice A5 na5 ca5,.slice B5 nb5 cb5]:List Value),u.oneCell'=true from HV4.out.one);have HBS:=aW (show w.heap.size+2≤(W5.alloc (.cells #[.int .i64 k5,.int .i64 n5,.string s5,.slice A5 na5 ca5,.slice B5 nb5 cb5] 25)).heap.size by rw [World.size_alloc,HS5.out];omega);go_wp2_with (at_builtin;refine wpList_append_rd _ rfl _ _ 22 rfl (w.heap.size+2) 25 i0 _ 5 80 Tryz.underlying22 HI.out hz0 hz1 hz2 rfl (by decide) row i css.flatten rfl hO6.out (some ⟨W5.heap.size,0,none⟩) 1 1 (fun h=>by cases h) [.int .i64 k5,.int .i64 n5,.string s5,.slice A5 na5 ca5,.slice B5 nb5 cb5] rfl rfl hR6.out H1C.out (by unfold maxLen;omega) (by omega) HBS.out ?_;intro row2 w6 hown6 hgr6 hob6);have hHH:Held [(w.heap.size+1,25,#[.int .i64 0,.int .i64 0,.string ⟨#[]⟩,.slice none 0 0,.slice none 0 0]),(w.heap.size,28,#[.int .i64 k,.int .i64 k1,.int .i64 n1,.string s1,.slice A1 na1 ca1,.slice B1 nb1 cb1,.string ⟨s.toArray⟩,.slice (some ⟨b,o,none⟩) nr ca])] w w6:=by
     refine ((HP5.out.pop.pop).alloc _).grown hgr6 (fun j e=>by have:=HRW.out j e;omega) (fun y hy e=>?_);simp only [List.mem_cons,List.not_mem_nil,or_false] at hy;rcases hy with rfl | rfl
     ·have:=HRW.out _ e.symm;omega
     ·have:=HRW.out _ e.symm;omega
    have hVV:VRs w6 (FO (FN F W0) row2) (css++[([.int .i64 k5,.int .i64 n5,.string s5,.slice A5 na5 ca5,.slice B5 nb5 cb5]:List Value)]) (xs++[v4]):=by
     refine vrs_growG ?_ hgr6 hob6;refine (HV5.out.below ((Below.refl _ _).alloc (Nat.le_refl _) _)).snoc ((HX5.out.bel ((Below.refl _ _).alloc (Nat.le_refl _) _)).mono fun b' _ hb'=>?_);have hw0:=HW0.out;rcases hb' with hb' | hb'
     ·exact ⟨.inl hb',fun e=>by have:=HRW.out _ e.symm;have:=HFF.out _ hb';omega⟩
     ·simp at hb';exact ⟨.inr (by omega),fun e=>by have:=HRW.out _ e.symm;omega⟩
    have hOO:w6.ownsRow (w.heap.size+2) 25 5 row2 (i+1) (css++[([.int .i64 k5,.int .i64 n5,.string s5,.slice A5 na5 ca5,.slice B5 nb5 cb5]:List Value)]).flatten:=by
     rw [List.flatten_append];simpa using hown6
    have hXX:(xs++[v4]).length=i+1∧(kids.take (i+1)).map (evE env)=(xs++[v4]).map some∧∀ x ∈ xs++[v4],Came x∧good x=true:=by
     obtain ⟨a1,a2,a3⟩:=HX.out;refine ⟨by rw [List.length_append,a1];rfl,by rw [HTK.out,List.map_append,a2,List.map_append];simp [HOE.out],fun y hy=>?_⟩;rcases List.mem_append.1 hy with hy | hy
     ·exact a3 y hy
     ·obtain rfl:y=v4:=by simpa using hy
      exact HXG.out
    have H9:=aW (And.intro hHH (And.intro hOO (And.intro hVV hXX)));clear hHH hOO hVV hXX hown6 hgr6 hob6 c0 f0 l0;go_roundg (nr-(i+1))
    case measure=>have:=HGK.out;omega
    case rel=>exact ⟨i+1,row2,_,_,rfl,by omega,rfl,by go_num,aW H9.out.1,aW H9.out.2.1,aW H9.out.2.2.1,aW H9.out.2.2.2⟩
  ·obtain rfl:i=nr:=by omega
   obtain ⟨RA,rc,rfl,hrc,hrn,hrr⟩:=own_parts HO.out;obtain ⟨a1,a2,a3⟩:=HX.out;have hall:kids.map (evE env)=xs.map some:=by rw [← a2,List.take_of_length_le (Nat.le_of_eq HNR.out)]
   have HOP:=aW (show listJ (kids.map (evE env))=if good (jArr xs)=true then some (jArr xs) else none by unfold listJ;rw [hall,allS_some]);have hcl:Came (jArr xs):=came_good a3 (by omega);have HCL:=aW hcl;have hw0:=HW0.out;have HLI:=aW (vListF css xs (FN F W0) RA i rc wr (HG.out.keep HH.out.1).gok (HV.out.mono fun b _ h=>h.1) a1 (hrr.mono fun b _ h=>.inr (by omega)) (by omega) hcl);clear a1 a2 a3 hall hcl hrc hrn hrr;go_wp2_with fail;refine HLI.out.mono ?_;rintro e w4 ⟨cs4,rfl,hvg,hvn,hb4⟩;by_cases hg:good (jArr xs)=true
   ·have hg':good (.mk 5 0 [] xs [])=true:=hg;have hv4:=hvg hg';rw [if_pos hg'];obtain ⟨k5,n5,s5,A5,na5,ca5,B5,nb5,cb5,hf⟩:=hv4.form;obtain rfl:cs4=#[.int .i64 k5,.int .i64 n5,.string s5,.slice A5 na5 ca5,.slice B5 nb5 cb5]:=by rw [← Array.toArray_toList (xs:=cs4)];exact congrArg List.toArray hf
    have HP4:=aW ((HH.out.keep hb4).push 25 #[.int .i64 k5,.int .i64 n5,.string s5,.slice A5 na5 ca5,.slice B5 nb5 cb5] (g:=w4.heap.size) rfl);have HV4:=aW ((hv4.bel ((Below.refl _ w4).alloc (Nat.le_refl _) (.cells #[.int .i64 k5,.int .i64 n5,.string s5,.slice A5 na5 ca5,.slice B5 nb5 cb5] 25))).mono (F':=FN F W0) fun b _ hb=>by
     rcases hb with (hb | hb) | hb
     ·exact .inl hb
     ·exact .inr hb
     ·exact .inr (by have:=HH.out.b0.lt;omega))
    have hne:w4.heap.size≠w.heap.size+1:=by have:=HH.out.b0.lt;have:=hb4.size;omega
    have hne2:w.heap.size+1≠w4.heap.size:=hne.symm;have HG5:=aW (show listJ (kids.map (evE env))=some (jArr xs) by rw [HOP.out,if_pos hg]);have HGG:=aW hg;clear hvg hvn hb4 hf hv4 hg hg';obtain ⟨c0,f0,l0⟩:=HP4.out.b0.rules;obtain ⟨c1,f1,l1⟩:=HP4.out.b1.rules;go_wp2;refine bodyPost_ret (v:=.tuple #[.agg #[.int .i64 k5,.int .i64 n5,.string s5,.slice A5 na5 ca5,.slice B5 nb5 cb5],.bool true]) (by simp only [results,Tryz.results74];go_simp) rfl ?_;refine ⟨_,jArr xs,true,rfl,?_,HCL.out,by rw [HG5.out];rfl,fun _=>HGG.out,five_bel HP4.out.1 (by omega) _ _ _ _ _⟩;exact HV4.out.out5 HFF.out (by rw [HW0.out];omega) (g:=w.heap.size+1) (by omega) (by rw [HW0.out];omega) _ _ _ _ _
   ·have hg':¬ good (.mk 5 0 [] xs [])=true:=hg;rw [if_neg hg'];obtain rfl:=hvn hg';have HP4:=aW ((HH.out.keep hb4).push 25 #[.int .i64 0,.int .i64 0,.string ⟨#[]⟩,.slice none 0 0,.slice none 0 0] (g:=w4.heap.size) rfl);have hne:w4.heap.size≠w.heap.size+1:=by have:=HH.out.b0.lt;have:=hb4.size;omega
    have hne2:w.heap.size+1≠w4.heap.size:=hne.symm;have HG5:=aW (show listJ (kids.map (evE env))=none by rw [HOP.out,if_neg hg]);clear hvg hvn hb4 hg hg';unfold zeroCs;obtain ⟨c0,f0,l0⟩:=HP4.out.b0.rules;obtain ⟨c1,f1,l1⟩:=HP4.out.b1.rules;go_wp2;refine bodyPost_ret (v:=.tuple #[.agg #[.int .i64 0,.int .i64 0,.string ⟨#[]⟩,.slice none 0 0,.slice none 0 0],.bool false]) (by simp only [results,Tryz.results74];go_simp) rfl ?_;exact ExP.none_ (w1:=w) HG5.out (five_bel HP4.out.1 (by omega) _ _ _ _ _)
end Go.Proofs.YtgolomgmnanbpaaGreatDoor
