import Derived.Test.YtgolomgmnanbpaaGreatDoorV24
import Derived.Test.YtgolomgmnanbpaaGreatDoorV23
import Derived.Test.YtgolomgmnanbpaaGreatDoorV22
open Go.Value renaming int → Zi, slice → Zs, string → Zt, pointer → Zp
open Go.IntKind renaming i64 → Zq
set_option maxRecDepth 100000
set_option maxHeartbeats 16000000
set_option linter.unusedVariables false
set_option linter.unusedSimpArgs false
namespace Go.Proofs.YtgolomgmnanbpaaGreatDoor
section
open Go.RowKit
attribute [local go_sem] aa ac ae ab
def FO (G:Nat->Prop) (row:Value) (b:Nat):Prop:=G b/\some b≠row.ownBlock
theorem lB {w w2:World} {G:Nat->Prop} {row row2:Value} {css:List (List Value)} {kids:List JV} (h:VRs w (FO G row) css kids) (hg:w.grownBy w2 row.ownBlock) (ho:row2.ownBlock=row.ownBlock∨row2.ownBlock=some w.heap.size) :
  VRs w2 (FO G row2) css kids:=by
 have h1:VRs w (λ b=>FO G row b/\b<w.heap.size) css kids:=h.mono λ b hb hF=>⟨hF,hb⟩
 have h2:VRs w2 (λ b=>FO G row b/\b<w.heap.size) css kids:=h1.keep (af.of_grown hg λ b hb=>hb.1.2);refine h2.mono λ b _ hF=>⟨hF.1.1,λ e=>?_⟩
 rcases ho with ho | ho
 ·exact hF.1.2 (by rw [e,ho])
 ·rw [ho] at e;have:b=w.heap.size:=by injection e
  omega
theorem aj.grown {L:List (Nat × TypeId × Array Value)} {w0 W W':World} {r:Option Nat} (h:aj L w0 W) (hg:W.grownBy W' r) (hr:∀ k,r=some k->w0.heap.size<=k) (hL:∀ x ∈ L,some x.1≠r):aj L w0 W' :=
 ⟨h.1.grown hg h.1.size hr,λ x hx=>(h.2 x hx).grown hg (hL x hx)⟩
theorem iz:∀ xs:List JV,nh (xs.map some)=some xs
 | []=>rfl
 | x::r=>by rw [List.map_cons,nh,iz r]
theorem iJ:∀ {l:List (Option JV)},none ∈ l->nh l=none
 | none::r,_=>rfl
 |some v::r,h=>by
  rw [nh,iJ (l:=r) (by simpa using h)]
theorem iv {xs:List JV} (h:∀ x ∈ xs,au x/\good x=true) (hn:xs.length<=16000):au (dM xs):=by
 have hnod:∀ l:List JV,(∀ x ∈ l,good x=true)->ay l<=256*l.length:=by
  intro l
  induction l with
  | nil=>intro _;simp [ay]
  |cons x r ih =>
   intro hg;have h1:=(dH (hg x List.mem_cons_self)).2;have h2:=ih (λ y hy=>hg y (List.mem_cons_of_mem _ hy));rw [ay,List.length_cons];omega
 have h3:=hnod xs (λ x hx=>(h x hx).2);refine ⟨?_,?_,?_⟩
 ·unfold dM inJ;exact ⟨by unfold iw;omega,by unfold iw;omega,lM.2 λ x hx=>(h x hx).1.ints⟩
 ·unfold dM ar;omega
 ·unfold dM kH;exact ⟨by simp,by omega,by simp,by simp,jT.2 λ x hx=>(h x hx).1.lens⟩
def iW (l:List (Option JV)):Option JV:=match nh l with | some xs=>if good (dM xs)=true then some (dM xs) else none | none=>none
theorem nJ:(Tryz.prog.info? 25).map (λ i=>(i.zero,i.size,i.bytes))=some (some (.agg #[Zi Zq 0,Zi Zq 0,Zt ⟨#[]⟩,Zs none 0 0,Zs none 0 0]),5,80):=by kernel_rfl
theorem xG {pv:Value} {F:Nat->Prop} {env:List (List UInt8 × JV)} {w:World} {k:Int} {v:JV} {s:List UInt8} {kids:List EJ} {cs:List Value} (hG:GOE w) (hF:∀ b,F b->b<w.heap.size) (hk:∀ y ∈ kids,bW pv F env w y) (hx:ER w F cs (.mk k v s kids)) (hn:kids.length<=16000) :
  Calls Tryz.prog 74 #[pv,.agg cs.toArray] w (ExP (iW (kids.map (evE env))) F w):=by
 obtain ⟨k1,n1,s1,A1,na1,ca1,B1,nb1,cb1,A,ca,css0,rfl,hv,h1,h2,h3,h4⟩:=hx.out;have HKD:=aW (And.intro h1 h4);have HKC:=aW hk;obtain ⟨nr,hnr⟩:∃ q,kids.length=q:=⟨_,rfl⟩
 have HNR:=aW hnr;rw [hnr] at h2 hn ⊢;have HH0:=aW (((aj.nil w).push 28 #[Zi Zq k,Zi Zq k1,Zi Zq n1,Zt s1,Zs A1 na1 ca1,Zs B1 nb1 cb1,Zt ⟨s.toArray⟩,Zs A nr ca] (g:=w.heap.size) rfl).push 25 #[Zi Zq 0,Zi Zq 0,Zt ⟨#[]⟩,Zs none 0 0,Zs none 0 0] (g:=w.heap.size+1) (by simp));have HG:=aW hG;have HFF:=aW hF;obtain ⟨i0,hi,hz0,hz1,hz2⟩:=info_parts nJ;have HI:=aW hi;obtain ⟨W0,hW0⟩:∃ W0:World,W0.heap.size=w.heap.size+2:=⟨(w.alloc (.cells #[] 25)).alloc (.cells #[] 25),by simp⟩
 have HW0:=aW hW0;clear hW0 hk hx hv h1 h2 h3 h4 hnr hG hF hi;obtain ⟨c0,f0,l0⟩:=HH0.out.b1.rules;go_enter Tryz.func74,Tryz.ntmps74;go_wp2;clear c0 f0 l0;go_loopg [6,16] nr (λ gk s6 s16 wr => ∃ (i:Nat) (row:Value) (xs:List JV) (css:List (List Value)),row=s6/\i<=nr/\gk=nr-i/\s16=Zi Zq (i:Int) /\
  Hid (aj [(w.heap.size+1,25,#[Zi Zq 0,Zi Zq 0,Zt ⟨#[]⟩,Zs none 0 0,Zs none 0 0]),(w.heap.size,28,#[Zi Zq k,Zi Zq k1,Zi Zq n1,Zt s1,Zs A1 na1 ca1,Zs B1 nb1 cb1,Zt ⟨s.toArray⟩,Zs A nr ca])] w wr) /\
  Hid (wr.ownsRow (w.heap.size+2) 25 5 row i css.flatten)/\Hid (VRs wr (FO (FN F W0) row) css xs)/\Hid (xs.length=i/\(kids.take i).map (evE env)=xs.map some/\∀ x ∈ xs,au x/\good x=true))
 case atStart=>exact ⟨0,_,[],[],rfl,Nat.zero_le _,by go_num,rfl,HH0,aW (World.ownsRow_nil _ _ _ _),aW VRs.nil,aW ⟨rfl,rfl,λ x hx=>by cases hx⟩⟩
 case round =>
  obtain ⟨i,row,xs,css,rfl,hin,hgk,rfl,HH,HO,HV,HX⟩:=hrel;have HGK:=aW hgk;clear hgk HH0;by_cases hlt:i<nr
  ·obtain ⟨x,hx⟩:∃ x,kids[i]? = some x:=⟨_,List.getElem?_eq_getElem (by rw [HNR.out];exact hlt)⟩
   have hxm:=List.mem_of_getElem? hx;obtain ⟨b,o,k',k1',n1',s1',A1',na1',ca1',B1',nb1',cb1',s',A2',n2',ca2',rfl,hb,hER,hz⟩:=aq HKD.out.1 HKD.out.2 hx;obtain ⟨z0,z1,z2,z3,z4,z5,z6,z7⟩:=hz wr HH.out.1;have HTK:=aW (show kids.take (i+1)=kids.take i++[x] by rw [List.take_add_one,hx];rfl);have HXN:=aW (show evE env x=none->iW (kids.map (evE env))=none from λ h0=>by
    unfold iW;rw [iJ (List.mem_map.2 ⟨x,hxm,h0⟩)])
   have HE:=aW (λ (W:World) (h:Below w.heap.size w W)=>HKC.out x hxm W _ h (hER.bel h));have hlb:b<wr.heap.size:=Nat.lt_of_lt_of_le hb HH.out.1.size;have HP:=aW ((HH.out).push 28 #[Zi Zq k',Zi Zq k1',Zi Zq n1',Zt s1',Zs A1' na1' ca1',Zs B1' nb1' cb1',Zt s',Zs A2' n2' ca2'] (g:=wr.heap.size) rfl);have HO1:=aW (HO.out.alloc (.cells #[Zi Zq k',Zi Zq k1',Zi Zq n1',Zt s1',Zs A1' na1' ca1',Zs B1' nb1' cb1',Zt s',Zs A2' n2' ca2'] 28));have HV1:=aW (HV.out.below ((Below.refl _ wr).alloc (Nat.le_refl _) (.cells #[Zi Zq k',Zi Zq k1',Zi Zq n1',Zt s1',Zs A1' na1' ca1',Zs B1' nb1' cb1',Zt s',Zs A2' n2' ca2'] 28)));clear hz hER hx hxm hb;go_wp2_with fail;refine (HE.out _ HP.out.1).mono ?_;rintro e w4 ⟨cs4,v4,b4,rfl,hv4,hc4,ho4,hg4,hb4⟩;clear z0 z1 z2 z3 z4 z5 z6 z7;have HV4:=aW hv4;obtain ⟨k5,n5,s5,A5,na5,ca5,B5,nb5,cb5,rfl⟩:=hv4.form;have HQ4:=aW (And.intro hc4 (And.intro ho4 hg4));have hsz:wr.heap.size<w4.heap.size:=by have:=hb4.size;simp at this;omega
   obtain ⟨W5,hW5⟩:∃ W5,w4.alloc (.cells #[Zi Zq k5,Zi Zq n5,Zt s5,Zs A5 na5 ca5,Zs B5 nb5 cb5] 25)=W5:=⟨_,rfl⟩
   have h45:Below w4.heap.size w4 W5:=by rw [← hW5];exact (Below.refl _ w4).alloc (Nat.le_refl _) _
   have HP5:=aW (show aj ((w4.heap.size,25,#[Zi Zq k5,Zi Zq n5,Zt s5,Zs A5 na5 ca5,Zs B5 nb5 cb5])::_) w W5 by rw [← hW5];exact (HP.out.keep hb4).push 25 #[Zi Zq k5,Zi Zq n5,Zt s5,Zs A5 na5 ca5,Zs B5 nb5 cb5] (g:=w4.heap.size) rfl);have HO5:=aW (dG (dG HO1.out hb4) h45);have HV5:=aW ((HV1.out.below hb4).below h45);have HX5:=aW (HV4.out.bel h45);have HS5:=aW (show W5.heap.size=w4.heap.size+1 by rw [← hW5];simp);have HW5:=aW hW5;have hwr2:w.heap.size+2<=wr.heap.size:=HH.out.b0.lt;clear hv4 hc4 ho4 hg4 hb4 h45 hW5;cases b4
   ·go_wp2_with fail;rw [HW5.out];refine (bM _).mono ?_;rintro e wn ⟨rfl,hbn⟩;have HHN:=aW (HP5.out.keep hbn);clear hbn;obtain ⟨c1,f1,l1⟩:=HHN.out.b2.rules;go_wp2;refine bodyPost_ret (v:=.tuple #[.agg #[Zi Zq 0,Zi Zq 0,Zt ⟨#[]⟩,Zs none 0 0,Zs none 0 0],.bool false]) (by simp only [results,Tryz.results74];go_simp) rfl ?_;exact ExP.none_ (w1:=w) (HXN.out (by rw [HQ4.out.2.1];rfl)) (ah HHN.out.1 (by omega) _ _ _ _ _)
   ·have HXG:=aW (And.intro HQ4.out.1 (HQ4.out.2.2 rfl));have HOE:=aW (show evE env x=some v4 by rw [HQ4.out.2.1];rfl);have HRW:=aW (λ (j:Nat) (e:row.ownBlock=some j)=>HO.out.lt j e);go_upto_region 8 with (fail);rw [HW5.out];obtain ⟨c0,f0,l0⟩:=HP5.out.b0.rules;have hO6:=aW (HO5.out.alloc (.cells #[Zi Zq k5,Zi Zq n5,Zt s5,Zs A5 na5 ca5,Zs B5 nb5 cb5] 25));have hR6:=aW (Rd.of_blk (Blk.new W5 25 #[Zi Zq k5,Zi Zq n5,Zt s5,Zs A5 na5 ca5,Zs B5 nb5 cb5]));have H1C:=aW (show ∀ u ∈ ([Zi Zq k5,Zi Zq n5,Zt s5,Zs A5 na5 ca5,Zs B5 nb5 cb5]:List Value),u.oneCell'=true from HV4.out.one);have HBS:=aW (show w.heap.size+2<=(W5.alloc (.cells #[Zi Zq k5,Zi Zq n5,Zt s5,Zs A5 na5 ca5,Zs B5 nb5 cb5] 25)).heap.size by rw [World.size_alloc,HS5.out];omega);go_wp2_with (at_builtin;refine ag _ rfl _ _ 22 rfl (w.heap.size+2) 25 i0 _ 5 80 Tryz.underlying22 HI.out hz0 hz1 hz2 rfl (by decide) row i css.flatten rfl hO6.out (some ⟨W5.heap.size,0,none⟩) 1 1 (λ h=>by cases h) [Zi Zq k5,Zi Zq n5,Zt s5,Zs A5 na5 ca5,Zs B5 nb5 cb5] rfl rfl hR6.out H1C.out (by unfold maxLen;omega) (by omega) HBS.out ?_;intro row2 w6 hown6 hgr6 hob6);have hHH:aj [(w.heap.size+1,25,#[Zi Zq 0,Zi Zq 0,Zt ⟨#[]⟩,Zs none 0 0,Zs none 0 0]),(w.heap.size,28,#[Zi Zq k,Zi Zq k1,Zi Zq n1,Zt s1,Zs A1 na1 ca1,Zs B1 nb1 cb1,Zt ⟨s.toArray⟩,Zs (some ⟨b,o,none⟩) nr ca])] w w6:=by
     refine ((HP5.out.pop.pop).alloc _).grown hgr6 (λ j e=>by have:=HRW.out j e;omega) (λ y hy e=>?_);simp only [List.mem_cons,List.not_mem_nil,or_false] at hy;rcases hy with rfl | rfl
     ·have:=HRW.out _ e.symm;omega
     ·have:=HRW.out _ e.symm;omega
    have hVV:VRs w6 (FO (FN F W0) row2) (css++[([Zi Zq k5,Zi Zq n5,Zt s5,Zs A5 na5 ca5,Zs B5 nb5 cb5]:List Value)]) (xs++[v4]):=by
     refine lB ?_ hgr6 hob6;refine (HV5.out.below ((Below.refl _ _).alloc (Nat.le_refl _) _)).snoc ((HX5.out.bel ((Below.refl _ _).alloc (Nat.le_refl _) _)).mono λ b' _ hb'=>?_);have hw0:=HW0.out;rcases hb' with hb' | hb'
     ·exact ⟨.inl hb',λ e=>by have:=HRW.out _ e.symm;have:=HFF.out _ hb';omega⟩
     ·simp at hb';exact ⟨.inr (by omega),λ e=>by have:=HRW.out _ e.symm;omega⟩
    have hOO:w6.ownsRow (w.heap.size+2) 25 5 row2 (i+1) (css++[([Zi Zq k5,Zi Zq n5,Zt s5,Zs A5 na5 ca5,Zs B5 nb5 cb5]:List Value)]).flatten:=by
     rw [List.flatten_append];simpa using hown6
    have hXX:(xs++[v4]).length=i+1/\(kids.take (i+1)).map (evE env)=(xs++[v4]).map some/\∀ x ∈ xs++[v4],au x/\good x=true:=by
     obtain ⟨a1,a2,a3⟩:=HX.out;refine ⟨by rw [List.length_append,a1];rfl,by rw [HTK.out,List.map_append,a2,List.map_append];simp [HOE.out],λ y hy=>?_⟩;rcases List.mem_append.1 hy with hy | hy
     ·exact a3 y hy
     ·obtain rfl:y=v4:=by simpa using hy
      exact HXG.out
    have H9:=aW (And.intro hHH (And.intro hOO (And.intro hVV hXX)));clear hHH hOO hVV hXX hown6 hgr6 hob6 c0 f0 l0;go_roundg (nr-(i+1))
    case measure=>have:=HGK.out;omega
    case rel=>exact ⟨i+1,row2,_,_,rfl,by omega,rfl,by go_num,aW H9.out.1,aW H9.out.2.1,aW H9.out.2.2.1,aW H9.out.2.2.2⟩
  ·obtain rfl:i=nr:=by omega
   obtain ⟨RA,rc,rfl,hrc,hrn,hrr⟩:=aP HO.out;obtain ⟨a1,a2,a3⟩:=HX.out;have hall:kids.map (evE env)=xs.map some:=by rw [← a2,List.take_of_length_le (Nat.le_of_eq HNR.out)]
   have HOP:=aW (show iW (kids.map (evE env))=if good (dM xs)=true then some (dM xs) else none by unfold iW;rw [hall,iz]);have hcl:au (dM xs):=iv a3 (by omega);have HCL:=aW hcl;have hw0:=HW0.out;have HLI:=aW (vO css xs (FN F W0) RA i rc wr (HG.out.keep HH.out.1).gok (HV.out.mono λ b _ h=>h.1) a1 (hrr.mono λ b _ h=>.inr (by omega)) (by omega) hcl);clear a1 a2 a3 hall hcl hrc hrn hrr;go_wp2_with fail;refine HLI.out.mono ?_;rintro e w4 ⟨cs4,rfl,hvg,hvn,hb4⟩;by_cases hg:good (dM xs)=true
   ·have hg':good (.mk 5 0 [] xs [])=true:=hg;have hv4:=hvg hg';rw [if_pos hg'];obtain ⟨k5,n5,s5,A5,na5,ca5,B5,nb5,cb5,hf⟩:=hv4.form;obtain rfl:cs4=#[Zi Zq k5,Zi Zq n5,Zt s5,Zs A5 na5 ca5,Zs B5 nb5 cb5]:=by rw [← Array.toArray_toList (xs:=cs4)];exact congrArg List.toArray hf
    have HP4:=aW ((HH.out.keep hb4).push 25 #[Zi Zq k5,Zi Zq n5,Zt s5,Zs A5 na5 ca5,Zs B5 nb5 cb5] (g:=w4.heap.size) rfl);have HV4:=aW ((hv4.bel ((Below.refl _ w4).alloc (Nat.le_refl _) (.cells #[Zi Zq k5,Zi Zq n5,Zt s5,Zs A5 na5 ca5,Zs B5 nb5 cb5] 25))).mono (F':=FN F W0) λ b _ hb=>by
     rcases hb with (hb | hb) | hb
     ·exact .inl hb
     ·exact .inr hb
     ·exact .inr (by have:=HH.out.b0.lt;omega))
    have hne:w4.heap.size≠w.heap.size+1:=by have:=HH.out.b0.lt;have:=hb4.size;omega
    have hne2:w.heap.size+1≠w4.heap.size:=hne.symm;have HG5:=aW (show iW (kids.map (evE env))=some (dM xs) by rw [HOP.out,if_pos hg]);have HGG:=aW hg;clear hvg hvn hb4 hf hv4 hg hg';obtain ⟨c0,f0,l0⟩:=HP4.out.b0.rules;obtain ⟨c1,f1,l1⟩:=HP4.out.b1.rules;go_wp2;refine bodyPost_ret (v:=.tuple #[.agg #[Zi Zq k5,Zi Zq n5,Zt s5,Zs A5 na5 ca5,Zs B5 nb5 cb5],.bool true]) (by simp only [results,Tryz.results74];go_simp) rfl ?_;refine ⟨_,dM xs,true,rfl,?_,HCL.out,by rw [HG5.out];rfl,λ _=>HGG.out,ah HP4.out.1 (by omega) _ _ _ _ _⟩;exact HV4.out.out5 HFF.out (by rw [HW0.out];omega) (g:=w.heap.size+1) (by omega) (by rw [HW0.out];omega) _ _ _ _ _
   ·have hg':¬ good (.mk 5 0 [] xs [])=true:=hg;rw [if_neg hg'];obtain rfl:=hvn hg';have HP4:=aW ((HH.out.keep hb4).push 25 #[Zi Zq 0,Zi Zq 0,Zt ⟨#[]⟩,Zs none 0 0,Zs none 0 0] (g:=w4.heap.size) rfl);have hne:w4.heap.size≠w.heap.size+1:=by have:=HH.out.b0.lt;have:=hb4.size;omega
    have hne2:w.heap.size+1≠w4.heap.size:=hne.symm;have HG5:=aW (show iW (kids.map (evE env))=none by rw [HOP.out,if_neg hg]);clear hvg hvn hb4 hg hg';unfold cW;obtain ⟨c0,f0,l0⟩:=HP4.out.b0.rules;obtain ⟨c1,f1,l1⟩:=HP4.out.b1.rules;go_wp2;refine bodyPost_ret (v:=.tuple #[.agg #[Zi Zq 0,Zi Zq 0,Zt ⟨#[]⟩,Zs none 0 0,Zs none 0 0],.bool false]) (by simp only [results,Tryz.results74];go_simp) rfl ?_;exact ExP.none_ (w1:=w) HG5.out (ah HP4.out.1 (by omega) _ _ _ _ _)
theorem vU {pv:Value} {F:Nat->Prop} {env:List (List UInt8 × JV)} {w:World} {k:Int} {v:JV} {s:List UInt8} {y:EJ} {r:List EJ} {cs:List Value} (hG:GOE w) (hF:∀ b,F b->b<w.heap.size) (hk:bW pv F env w y) (hx:ER w F cs (.mk k v s (y::r))) :
  Calls Tryz.prog 73 #[pv,.agg cs.toArray] w (ExP (match evE env y with | some a=>gv a s | none=>none) F w):=by
 obtain ⟨k1,n1,s1,A1,na1,ca1,B1,nb1,cb1,A,ca,css,rfl,hv,h1,h2,h3,h4⟩:=hx.out;obtain ⟨b,o,kx,px,nx,sx,Ax,nax,cax,Bx,nbx,cbx,tx,Cx,ncx,ccx,rfl,hb,hER,hz⟩:=aq h1 h4 (i:=0) (x:=y) rfl;have HKC:=aW (λ (W:World) (h:Below w.heap.size w W)=>hk W _ h (hER.bel h));have HZZ:=aW (λ (W:World) (h:Below w.heap.size w W)=>hz W h);obtain ⟨nr,hnr⟩:∃ q,(y::r).length=q:=⟨_,rfl⟩
 have hnr1:1<=nr:=by rw [← hnr];simp
 rw [hnr] at h2 ⊢;have HLB:=aW hb;obtain ⟨o0,ho0⟩:∃ o,evE env y=o:=⟨_,rfl⟩
 rw [ho0] at HKC ⊢;have HH0:=aW (((aj.nil w).push 28 #[Zi Zq k,Zi Zq k1,Zi Zq n1,Zt s1,Zs A1 na1 ca1,Zs B1 nb1 cb1,Zt ⟨s.toArray⟩,Zs (some ⟨b,o,none⟩) nr ca] (g:=w.heap.size) rfl).push 25 #[Zi Zq 0,Zi Zq 0,Zt ⟨#[]⟩,Zs none 0 0,Zs none 0 0] (g:=w.heap.size+1) (by simp));have HG:=aW hG;have HFF:=aW hF;clear hk hx hv h1 h2 h3 h4 hER hz hb hnr ho0 hG hF;obtain ⟨op,hop⟩:∃ p,(match o0 with | some a=>gv a s | none=>none)=p:=⟨_,rfl⟩
 have HOP:=aW hop;rw [hop];clear hop;obtain ⟨c0,f0,l0⟩:=HH0.out.b1.rules;obtain ⟨z0,z1,z2,z3,z4,z5,z6,z7⟩:=HZZ.out _ (Below.refl _ _);simp only [Nat.zero_mul,Nat.add_zero] at z0 z1 z2 z3 z4 z5 z6 z7;have lb:=HLB.out;go_enter Tryz.func73,Tryz.ntmps73;go_wp2_with fail;refine (HKC.out _ HH0.out.1).mono ?_;rintro e w1 ⟨cs1,v1,b1,rfl,hv1,hc1,ho,hg1,hb1⟩;have HV1:=aW hv1;obtain ⟨k5,n5,s5,A5,na5,ca5,B5,nb5,cb5,rfl⟩:=hv1.form;have HH1:=aW ((HH0.out.keep hb1).push 25 #[Zi Zq k5,Zi Zq n5,Zt s5,Zs A5 na5 ca5,Zs B5 nb5 cb5] (g:=w1.heap.size) rfl);have HO:=aW ho;have HGD:=aW hg1;have HC1:=aW hc1;have HB01:=aW hb1;clear hb1 c0 f0 l0 hv1 hc1 ho hg1 z0 z1 z2 z3 z4 z5 z6 z7 lb;cases b1
 ·go_wp2_with fail;refine (bM _).mono ?_;rintro e wn ⟨rfl,hbn⟩;have HHN:=aW (HH1.out.keep hbn);clear hbn;obtain ⟨c1,f1,l1⟩:=HHN.out.b1.rules;go_wp2;refine bodyPost_ret (v:=.tuple #[.agg #[Zi Zq 0,Zi Zq 0,Zt ⟨#[]⟩,Zs none 0 0,Zs none 0 0],.bool false]) (by simp only [results,Tryz.results73];go_simp) rfl ?_;exact ExP.none_ (w1:=w) (by rw [← HOP.out,HO.out];rfl) (ah HHN.out.1 (by omega) _ _ _ _ _)
 ·obtain ⟨c0,f0,l0⟩:=HH1.out.b0.rules;obtain ⟨c2,f2,l2⟩:=HH1.out.b2.rules;have HGT:=aW (yi s _ (HG.out.keep HH1.out.1).gok (HV1.out.bel ((Below.refl _ w1).alloc (Nat.le_refl _) (.cells #[Zi Zq k5,Zi Zq n5,Zt s5,Zs A5 na5 ca5,Zs B5 nb5 cb5] 25))) HC1.out (HGD.out rfl));have HOQ:=aW (show op=gv v1 s by rw [← HOP.out,HO.out];rfl);go_wp2_with fail;refine HGT.out.mono ?_;rintro e w2 ⟨cs2,u,b2,rfl,hv2,hc2,ho2,hg2,hb2⟩;have HV2:=aW hv2;obtain ⟨k6,n6,s6,A6,na6,ca6,B6,nb6,cb6,rfl⟩:=hv2.form;have HH2:=aW (HH1.out.keep hb2);have HQ2:=aW (And.intro hc2 (And.intro ho2 hg2));have hsz:w.heap.size+2<=w1.heap.size:=by have:=HB01.out.size;simpa using this
  have hsz2:w1.heap.size<w2.heap.size:=by have:=hb2.size;simp at this;omega
  have HSZ:=aW (And.intro hsz hsz2);clear hb2 hv2 hc2 ho2 hg2 c0 f0 l0 c2 f2 l2 HGT hsz hsz2;obtain ⟨c9,f9,l9⟩:=HH2.out.b1.rules;go_wp2;refine bodyPost_ret (v:=.tuple #[.agg #[Zi Zq k6,Zi Zq n6,Zt s6,Zs A6 na6 ca6,Zs B6 nb6 cb6],.bool b2]) (by simp only [results,Tryz.results73];go_simp) rfl ?_;refine ⟨_,u,b2,rfl,?_,HQ2.out.1,by rw [HOQ.out,HQ2.out.2.1],HQ2.out.2.2,ah HH2.out.1 (by omega) _ _ _ _ _⟩;exact HV2.out.out5 HFF.out (by simp;omega) (g:=w.heap.size+1) (by omega) (by simp) _ _ _ _ _
theorem nw {n:Int} {s:List UInt8} {kids:List JV} {keys:List (List UInt8)} (h:good (.mk 4 n s kids keys)=true):aL s=true:=by
 have h1:=(aK (dH h).1).1;unfold aI at h1;simp at h1;exact h1.1.1.2
theorem vX {pv:Value} {F:Nat->Prop} {env:List (List UInt8 × JV)} {w:World} {k:Int} {v:JV} {s:List UInt8} {y:EJ} {r:List EJ} {cs:List Value} (hG:GOE w) (hF:∀ b,F b->b<w.heap.size) (hk:bW pv F env w y) (hx:ER w F cs (.mk k v s (y::r))) :
  Calls Tryz.prog 76 #[pv,.agg cs.toArray] w (ExP (match evE env y with | some a=>fv a | none=>none) F w):=by
 obtain ⟨k1,n1,s1,A1,na1,ca1,B1,nb1,cb1,A,ca,css,rfl,hv,h1,h2,h3,h4⟩:=hx.out;obtain ⟨b,o,kx,px,nx,sx,Ax,nax,cax,Bx,nbx,cbx,tx,Cx,ncx,ccx,rfl,hb,hER,hz⟩:=aq h1 h4 (i:=0) (x:=y) rfl;have HKC:=aW (λ (W:World) (h:Below w.heap.size w W)=>hk W _ h (hER.bel h));have HZZ:=aW (λ (W:World) (h:Below w.heap.size w W)=>hz W h);obtain ⟨nr,hnr⟩:∃ q,(y::r).length=q:=⟨_,rfl⟩
 have hnr1:1<=nr:=by rw [← hnr];simp
 rw [hnr] at h2 ⊢;have HLB:=aW hb;obtain ⟨o0,ho0⟩:∃ o,evE env y=o:=⟨_,rfl⟩
 rw [ho0] at HKC ⊢;have HH0:=aW (((aj.nil w).push 28 #[Zi Zq k,Zi Zq k1,Zi Zq n1,Zt s1,Zs A1 na1 ca1,Zs B1 nb1 cb1,Zt ⟨s.toArray⟩,Zs (some ⟨b,o,none⟩) nr ca] (g:=w.heap.size) rfl).push 25 #[Zi Zq 0,Zi Zq 0,Zt ⟨#[]⟩,Zs none 0 0,Zs none 0 0] (g:=w.heap.size+1) (by simp));have HG:=aW hG;have HFF:=aW hF;clear hk hx hv h1 h2 h3 h4 hER hz hb hnr ho0 hG hF;obtain ⟨op,hop⟩:∃ p,(match o0 with | some a=>fv a | none=>none)=p:=⟨_,rfl⟩
 have HOP:=aW hop;rw [hop];clear hop;obtain ⟨c0,f0,l0⟩:=HH0.out.b1.rules;obtain ⟨z0,z1,z2,z3,z4,z5,z6,z7⟩:=HZZ.out _ (Below.refl _ _);simp only [Nat.zero_mul,Nat.add_zero] at z0 z1 z2 z3 z4 z5 z6 z7;have lb:=HLB.out;go_enter Tryz.func76,Tryz.ntmps76;go_wp2_with fail;refine (HKC.out _ HH0.out.1).mono ?_;rintro e w1 ⟨cs1,v1,b1,rfl,hv1,hc1,ho,hg1,hb1⟩;obtain ⟨vk,vn,vs,vkids,vkeys⟩:=v1;obtain ⟨VA,VB,va,vb,vcss,rfl,_⟩:=hv1.out;have hkl:vkids.length<=4194304:=hc1.out.2.2.2.1;have hsl:vs.length<=4194304:=hc1.out.2.2.1;obtain ⟨nk,hnk⟩:∃ q,vkids.length=q:=⟨_,rfl⟩
 obtain ⟨ny,hny⟩:∃ q,vkeys.length=q:=⟨_,rfl⟩
 rw [hnk] at hkl;have HNK:=aW hnk;rw [hnk,hny];have HH1:=aW ((HH0.out.keep hb1).push 25 #[Zi Zq vk,Zi Zq vn,Zt ⟨vs.toArray⟩,Zs VA nk va,Zs VB ny vb] (g:=w1.heap.size) rfl);have HO:=aW ho;have HGD:=aW hg1;have hsz:w.heap.size+2<=w1.heap.size:=by have:=hb1.size;simpa using this
 clear hb1 c0 f0 l0 hv1 hc1 ho hg1 z0 z1 z2 z3 z4 z5 z6 z7 lb hnk hny;obtain ⟨c0,f0,l0⟩:=HH1.out.b0.rules;obtain ⟨c2,f2,l2⟩:=HH1.out.b1.rules;cases b1
 ·go_wp2_with fail;refine (bM _).mono ?_;rintro e wn ⟨rfl,hbn⟩;have HHN:=aW (HH1.out.keep hbn);clear hbn c0 f0 l0 c2 f2 l2;obtain ⟨c1,f1,l1⟩:=HHN.out.b1.rules;go_wp2;refine bodyPost_ret (v:=.tuple #[.agg #[Zi Zq 0,Zi Zq 0,Zt ⟨#[]⟩,Zs none 0 0,Zs none 0 0],.bool false]) (by simp only [results,Tryz.results76];go_simp) rfl ?_;exact ExP.none_ (w1:=w) (by rw [← HOP.out,HO.out];rfl) (ah HHN.out.1 (by omega) _ _ _ _ _)
 ·have HOQ:=aW (show op=fv (.mk vk vn vs vkids vkeys) by rw [← HOP.out,HO.out];rfl);by_cases h4:vk=4
  ·subst h4;have HPT:=aW (sW vs _ (HG.out.keep HH1.out.1).gok hsl (nw (HGD.out rfl)));have hpl:=qd vs;have HOZ:=aW (show op=some (cC (gq vs)) by rw [HOQ.out];rfl);obtain ⟨pp,hpp⟩:∃ q,gq vs=q:=⟨_,rfl⟩
   unfold sI at HPT;rw [hpp] at HPT hpl HOZ;clear hpp;go_wp2_with fail;refine HPT.out.mono ?_;rintro e w2 ⟨⟨RA,rc,rfl⟩,hb2⟩;have HH2:=aW (HH1.out.keep hb2);clear hb2 c0 f0 l0 c2 f2 l2;go_wp2_with fail;refine (og (pp:Int) _).mono ?_;rintro e w3 ⟨rfl,hb3⟩;have HH3:=aW (HH2.out.keep hb3);clear hb3;obtain ⟨c9,f9,l9⟩:=HH3.out.b1.rules;go_wp2;refine bodyPost_ret (v:=.tuple #[.agg #[Zi Zq 3,Zi Zq (pp:Int),Zt ⟨#[]⟩,Zs none 0 0,Zs none 0 0],.bool true]) (by simp only [results,Tryz.results76];go_simp) rfl ?_;exact ExP.num_ (by unfold iw;omega) HOZ.out (ah HH3.out.1 (by omega) _ _ _ _ _)
  ·have e4:(vk == 4)=false:=by simp [h4]
   by_cases h5:vk<5
   ·have HOZ:=aW (show op=none by rw [HOQ.out];show (if vk=4 then _ else if 5<=vk then _ else none)=none;rw [if_neg h4,if_neg (by omega)]);clear h4;go_wp2_with fail;refine (bM _).mono ?_;rintro e wn ⟨rfl,hbn⟩;have HHN:=aW (HH1.out.keep hbn);clear hbn c0 f0 l0 c2 f2 l2;obtain ⟨c1,f1,l1⟩:=HHN.out.b1.rules;go_wp2;refine bodyPost_ret (v:=.tuple #[.agg #[Zi Zq 0,Zi Zq 0,Zt ⟨#[]⟩,Zs none 0 0,Zs none 0 0],.bool false]) (by simp only [results,Tryz.results76];go_simp) rfl ?_;exact ExP.none_ (w1:=w) HOZ.out (ah HHN.out.1 (by omega) _ _ _ _ _)
   ·have HOZ:=aW (show op=some (cC nk) by rw [HOQ.out];show (if vk=4 then _ else if 5<=vk then some (cC vkids.length) else none)=_;rw [if_neg h4,if_pos (by omega),HNK.out]);clear h4;go_wp2_with fail;refine (og (nk:Int) _).mono ?_;rintro e w3 ⟨rfl,hb3⟩;have HH3:=aW (HH1.out.keep hb3);clear hb3 c0 f0 l0 c2 f2 l2;obtain ⟨c9,f9,l9⟩:=HH3.out.b1.rules;go_wp2;refine bodyPost_ret (v:=.tuple #[.agg #[Zi Zq 3,Zi Zq (nk:Int),Zt ⟨#[]⟩,Zs none 0 0,Zs none 0 0],.bool true]) (by simp only [results,Tryz.results76];go_simp) rfl ?_;exact ExP.num_ (by unfold iw;omega) HOZ.out (ah HH3.out.1 (by omega) _ _ _ _ _)
theorem xw:∀ (N:Nat) (v:JV),ar v<=N->∀ d,aN d v=true->au v->tu v
 | 0,v,h,_,_,_=>by have:=bj v;omega
 |N+1,.mk k n s kids keys,hN,d,hg,hc=>by
  intro row base m l cs w ho hv hn;obtain ⟨h1,_,h3⟩:=aK hg;obtain ⟨_,hiw,hsl,hkl,hyl,hyy,hkc⟩:=hc.out;have ih:∀ x ∈ kids,tu x:=λ x hx=>xw N x (by unfold ar at hN;have:=eS hx;omega) (d-1) (bC.1 h3 x hx) (hkc x hx)
  obtain ⟨A,B,ca,cb,css,rfl,hvs,hca,hcb,_,_,hrA,hrB⟩:=hv.out;have hmn:m<=100000000000:=by omega
  have hk:=aH h1;rcases (by omega:k=1∨k=2∨k=3∨k=4∨k=5∨k=6) with rfl | rfl | rfl | rfl | rfl | rfl
  ·have e:aJ (.mk 1 n s kids keys)=[1]:=by unfold aJ;rfl
   rw [e];exact wk row base m l w n s A B _ ca _ cb ho hmn
  ·have hn01:n=0∨n=1:=by unfold aI at h1;simp at h1;exact h1.1.1.1
   rcases hn01 with rfl | rfl
   ·have e:aJ (.mk 2 0 s kids keys)=[2]:=by unfold aJ;rfl
    rw [e];exact ug row base m l w 0 s A B _ ca _ cb ho hmn
   ·have e:aJ (.mk 2 1 s kids keys)=[3]:=by unfold aJ;rfl
    rw [e];exact uo row base m l w 0 s A B _ ca _ cb ho hmn
  ·have e:aJ (.mk 3 n s kids keys)=iS n:=by unfold aJ;rfl
   rw [e];exact wg row base m l w n s A B _ ca _ cb ho hmn hiw
  ·have e:aJ (.mk 4 n s kids keys)=bL s:=by unfold aJ;rfl
   rw [e];exact vT row base m l w n s A B _ ca _ cb ho hmn hsl
  ·have e:aJ (.mk 5 n s kids keys)=6::(aE false kids keys++[0]):=by unfold aJ;rfl
   rw [e] at hn ⊢;exact wm row base m l w n s A B _ ca _ cb kids keys css ho hvs hrA hrB rfl rfl (λ h=>by cases h) hca hcb hkl hyy ih hn
  ·have e:aJ (.mk 6 n s kids keys)=7::(aE true kids keys++[0]):=by unfold aJ;rfl
   rw [e] at hn ⊢;exact xg row base m l w n s A B _ ca _ cb kids keys css ho hvs hrA hrB rfl rfl (λ _=>(dx h1).2.2.1) hca hcb hkl hyy ih hn
def x8 (v:JV) (w:World) (e:Ending) (w':World):Prop:=∃ (A:Option Addr) (n cap:Nat) (er:Int),e=.returned (.tuple #[Zs A n cap,Zi Zq er])/\(good v=true->er=0/\n=(aJ v).length)/\(good v=false->er=140/\n=0)/\Below w.heap.size w w'
theorem sM (v:JV) (cs:List Value) (F:Nat->Prop) (w:World) (hG:GOK w) (hv:VR w F cs v) (hc:au v):Calls Tryz.prog 36 #[.agg cs.toArray] w (x8 v w):=by
 have HV:=aW hv;obtain ⟨k1,n1,s1,A1,na1,ca1,B1,nb1,cb1,rfl⟩:=hv.form;have HH0:=aW ((aj.nil w).push 25 #[Zi Zq k1,Zi Zq n1,Zt s1,Zs A1 na1 ca1,Zs B1 nb1 cb1] (g:=w.heap.size) rfl);have HCK:=aW (λ (q:Int) (hq:dV v=q)=>ey hq (hG.keep HH0.out.1) (hv.bel HH0.out.1) hc);have HC:=aW hc;clear hG hv hc;obtain ⟨c0,f0,l0⟩:=HH0.out.b0.rules;by_cases hg:good v=true
 ·have HE:=aW (HCK.out 0 (by unfold dV;rw [if_pos hg]));have HLY:=aW (xw _ v (Nat.le_refl _) 8 ((dH hg).1) HC.out);have hbk:=io v;have hbn:=ej v 8 ((dH hg).1) HC.out.lens;have hnd:=(dH hg).2;have hcl:(aJ v).length<=100000000000:=by omega
  have HCL:=aW hcl;have HGD:=aW hg;clear hg HCK hbk hbn hnd hcl;go_enter Tryz.func36,Tryz.ntmps36;go_wp2_with fail;refine HE.out.mono ?_;rintro e w1 ⟨rfl,hb1⟩;have HH1:=aW (HH0.out.keep hb1);have HLC:=aW (HLY.out (Zs none 0 0) w1.heap.size 0 [] _ w1 (bc.nil w1) ((HV.out.bel HH1.out.1).mono λ b hb _=>hb) (by have:=HCL.out;omega));clear hb1 c0 f0 l0;obtain ⟨c0,f0,l0⟩:=HH1.out.b0.rules;go_wp2_with fail;refine HLC.out.mono ?_;rintro e w2 ⟨r2,m2,rfl,ho2,hg2⟩;have HB2:=aW (HH1.out.1.trans ((hg2.below (base:=w1.heap.size) (Nat.le_refl _) (λ k h=>by cases h)).mono HH1.out.1.size));obtain ⟨A2,c2,rfl,_⟩:=aP ho2.2.1;have HL2:=aW ho2.1;clear ho2 hg2 c0 f0 l0;go_wp2;go_ret2;exact ⟨A2,m2,c2,0,rfl,λ _=>⟨rfl,by rw [← HL2.out];rfl⟩,λ h=>(by rw [HGD.out] at h;cases h),HB2.out⟩
 ·have HE:=aW (HCK.out 140 (by unfold dV;rw [if_neg hg]));have HGD:=aW hg;clear hg HCK;go_enter Tryz.func36,Tryz.ntmps36;go_wp2_with fail;refine HE.out.mono ?_;rintro e w1 ⟨rfl,hb1⟩;have HH1:=aW (HH0.out.keep hb1);clear hb1 c0 f0 l0;go_wp2;go_ret2;exact ⟨none,0,0,140,rfl,λ h=>absurd h HGD.out,λ _=>⟨rfl,rfl⟩,HH1.out.1⟩
def IsP (o:Option JV) (F:Nat->Prop) (w:World) (e:Ending) (w':World):Prop:=∃ (k n:Int) (s:ByteArray) (A:Option Addr) (na ca:Nat) (B:Option Addr) (nb cb:Nat) (v:JV) (b:Bool),
 e=.returned (.agg #[Zi Zq k,Zi Zq n,Zt s,Zs A na ca,Zs B nb cb,.bool b])/\VR w' (FN F w) [Zi Zq k,Zi Zq n,Zt s,Zs A na ca,Zs B nb cb] v/\au v/\o=(if b=true then some v else none)/\(b=true->good v=true)/\(b=false->v=eP)/\Below w.heap.size w w'
def dA (EA:Option Addr) (n ec:Nat) (F:Nat->Prop) (env:List (List UInt8 × JV)) (w:World) (y:EJ):Prop :=
 ∀ W (cs:List Value),Below w.heap.size w W->ER W F cs y->Calls Tryz.prog 17 #[.agg cs.toArray,Zs EA n ec] W (IsP (evE env y) F W)
theorem IsP.nil {o:Option JV} {F:Nat->Prop} {w w':World} (ho:o=none) (hb:Below w.heap.size w w'):IsP o F w (.returned (.agg #[Zi Zq 0,Zi Zq 0,Zt ⟨#[]⟩,Zs none 0 0,Zs none 0 0,.bool false])) w' :=
 ⟨0,0,⟨#[]⟩,none,0,0,none,0,0,eP,false,rfl,VR.zero,aw (by unfold iw;omega) (by unfold iw;omega) (by simp),by rw [ho];rfl,(λ h=>by cases h),λ _=>rfl,hb⟩
theorem IsP.nilC {o:Option JV} {F:Nat->Prop} {w W:World} (ho:o=none) (hb:Below w.heap.size w W):IsP o F w (.returned (.agg #[Zi Zq 0,Zi Zq 0,Zt ⟨#[]⟩,Zs none 0 0,Zs none 0 0,.bool false])) (W.setCells (w.heap.size+1) 0 [Zi Zq 0,Zi Zq 0,Zt ⟨#[]⟩,Zs none 0 0,Zs none 0 0,.bool false]):=IsP.nil ho (cx (Nat.le_succ _) _ 0 hb)
theorem IsP.put {o:Option JV} {F:Nat->Prop} {w W:World} {k n:Int} {s:ByteArray} {A:Option Addr} {na ca:Nat} {B:Option Addr} {nb cb:Nat} {v:JV} (ho:o=some v) (hg:good v=true) (hc:au v) (hF:∀ b,F b->b<w.heap.size) (hv:VR W (λ b=>F b∨w.heap.size+2<=b) [Zi Zq k,Zi Zq n,Zt s,Zs A na ca,Zs B nb cb] v) (hb:Below w.heap.size w W) :
  IsP o F w (.returned (.agg #[Zi Zq k,Zi Zq n,Zt s,Zs A na ca,Zs B nb cb,.bool true])) (W.setCells (w.heap.size+1) 0 [Zi Zq k,Zi Zq n,Zt s,Zs A na ca,Zs B nb cb,.bool true]):=by
 have hk:∀ b,(F b∨w.heap.size+2<=b)->b≠w.heap.size+1:=λ b hb=>by
  rcases hb with hb | hb
  ·have:=hF b hb;omega
  ·omega
 refine ⟨k,n,s,A,na,ca,B,nb,cb,v,true,rfl,?_,hc,by rw [ho];rfl,λ _=>hg,(λ h=>by cases h),cx (Nat.le_succ _) _ 0 hb⟩;exact (hv.keep (af.setC hk _ 0 af.refl)).mono λ b _ h=>h.imp id λ h=>by omega
theorem IsP.val {F:Nat->Prop} {w W W' W2:World} {cs:List Value} {v:JV} (hs:w.heap.size+2<=W.heap.size) (hv:VR W' (FN F W) cs v) (hb:Below W'.heap.size W' W2):VR W2 (λ b=>F b∨w.heap.size+2<=b) cs v :=
 (hv.mono λ b _ h=>h.imp id λ h=>by omega).bel hb
theorem aM {o:Option JV} {F:Nat->Prop} {w W:World} {k n:Int} {s:List UInt8} (ho:o=some (.mk k n s [] [])) (hg:good (.mk k n s [] [])=true) (hc:au (.mk k n s [] [])) (hF:∀ b,F b->b<w.heap.size) (hb:Below w.heap.size w W) :
  IsP o F w (.returned (.agg #[Zi Zq k,Zi Zq n,Zt ⟨s.toArray⟩,Zs none 0 0,Zs none 0 0,.bool true])) (W.setCells (w.heap.size+1) 0 [Zi Zq k,Zi Zq n,Zt ⟨s.toArray⟩,Zs none 0 0,Zs none 0 0,.bool true]) :=
 IsP.put ho hg hc hF (VR.atom k n s) hb
theorem Blk.set6C {w:World} {g:Nat} {t:TypeId} {c0 c1 c2 c3 c4 c5:Value} (h:Blk w g t #[c0,c1,c2,c3,c4,c5]) (x0 x1 x2 x3 x4 x5:Value):Blk (w.setCells g 0 [x0,x1,x2,x3,x4,x5]) g t #[x0,x1,x2,x3,x4,x5]:=by
 replace h:=h.set_ 0 x0;simp only [List.setIfInBounds_toArray,List.set_cons_succ,List.set_cons_zero] at h;replace h:=h.set_ 1 x1;simp only [List.setIfInBounds_toArray,List.set_cons_succ,List.set_cons_zero] at h;replace h:=h.set_ 2 x2;simp only [List.setIfInBounds_toArray,List.set_cons_succ,List.set_cons_zero] at h;replace h:=h.set_ 3 x3;simp only [List.setIfInBounds_toArray,List.set_cons_succ,List.set_cons_zero] at h;replace h:=h.set_ 4 x4;simp only [List.setIfInBounds_toArray,List.set_cons_succ,List.set_cons_zero] at h;replace h:=h.set_ 5 x5;simp only [List.setIfInBounds_toArray,List.set_cons_succ,List.set_cons_zero] at h;exact h
theorem br {W:World} {F:Nat->Prop} {k n:Int} {s:ByteArray} {A:Option Addr} {na ca:Nat} {B:Option Addr} {nb cb:Nat} {v:JV} (h:VR W F [Zi Zq k,Zi Zq n,Zt s,Zs A na ca,Zs B nb cb] v):v.kind=k/\v.num=n/\s=⟨v.txt.toArray⟩/\na=v.kids.length:=by
 obtain ⟨vk,vn,vs,vks,vys⟩:=v;obtain ⟨_,_,_,_,_,e,_⟩:=h.out;injection e with e1 e;injection e with e2 e;injection e with e3 e;injection e with e4 e
 injection e1 with _ e1;injection e2 with _ e2;injection e3 with e3;injection e4 with _ e4 _
 exact ⟨e1.symm,e2.symm,e3,e4⟩
theorem fF {v:JV} (h:au v):iw v.num:=by
 obtain ⟨vk,vn,vs,vks,vys⟩:=v;exact h.out.2.1
theorem fP {env:List (List UInt8 × JV)} {K:Int} {v:JV} {s:List UInt8} {a:JV} (h:8<=K/\K<=13):bg env K v s [some a,none]=none:=by
 unfold bg;rw [if_neg (by omega),if_neg (by omega),if_neg (by omega)];show (if K=3 then _ else _)=none
 rw [if_neg (by omega),if_neg (by omega),if_neg (by omega),if_neg (by omega),if_neg (by omega)];rfl
theorem mC {env:List (List UInt8 × JV)} {K:Int} {v:JV} {s:List UInt8} {a b:JV} (h:8<=K/\K<=10):bg env K v s [some a,some b]=if a.kind=3/\b.kind=3 then mB K a.num b.num else none:=by
 unfold bg;rw [if_neg (by omega),if_neg (by omega),if_neg (by omega)];show (if K=3 then _ else _)=_
 rw [if_neg (by omega),if_neg (by omega),if_neg (by omega),if_neg (by omega),if_neg (by omega)];show (if 11<=K then _ else _)=_
 rw [if_neg (by omega)]
theorem lW {env:List (List UInt8 × JV)} {K:Int} {v:JV} {s:List UInt8} {a b:JV} (h:11<=K/\K<=13):bg env K v s [some a,some b]=some (qZ K (bp a b)):=by
 unfold bg;rw [if_neg (by omega),if_neg (by omega),if_neg (by omega)];show (if K=3 then _ else _)=_
 rw [if_neg (by omega),if_neg (by omega),if_neg (by omega),if_neg (by omega),if_neg (by omega)];show (if 11<=K then _ else _)=_
 rw [if_pos (by omega)]
theorem kg (a:JV):isB (some a)=if a.kind=2 then some (decide (a.num=1)) else none:=rfl
theorem ju {o:Int} (h:iw o):dT o=some (cC o):=by unfold dT;exact if_pos h
theorem mp {o:Int} (h:¬ iw o):dT o=none:=by unfold dT;exact if_neg h
theorem dP {x:Nat}:x+0*8=x:=by omega
theorem yq {env:List (List UInt8 × JV)} {v:JV} {s:List UInt8} {ya yb:EJ} {cs:List Value} {EA:Option Addr} {n ec:Nat} {F:Nat->Prop} {w:World} (hF:∀ b,F b->b<w.heap.size) (hx:ER w F cs (.mk 5 v s [ya])) (hcx:bh (.mk 5 v s [ya]))
  (ka:dA EA n ec F env w ya) (kb:dA EA n ec F env w yb) (oa ob:Option JV) (hoa:evE env ya=oa) (hob:evE env yb=ob) (op:Option JV) (hop:bg env 5 v s [oa]=op) :
  Calls Tryz.prog 17 #[.agg cs.toArray,Zs EA n ec] w (IsP op F w):=by
 obtain ⟨k1,n1,s1,A1,na1,ca1,B1,nb1,cb1,A,ca,css0,rfl,hv,h1,h2,h3,h4⟩:=hx.out;obtain ⟨b,o,kx,px,nx,sx,Ax,nax,cax,Bx,nbx,cbx,zx,Cx,ncx,ccx,rfl,hb,hER,hz⟩:=aq h1 h4 (i:=0) (x:=ya) rfl;have HKA:=aW (λ (W:World) (h:Below w.heap.size w W)=>ka W _ h (hER.bel h));rw [hoa] at HKA;obtain ⟨nr,hnr⟩:∃ q:Nat,1=q:=⟨_,rfl⟩
 have hnr1:0<nr:=by omega
 have HFF:=aW hF;have HOP:=aW hop;have HVS:=aW hv;have HH0:=aW (((aj.nil w).push 28 #[Zi Zq 5,Zi Zq k1,Zi Zq n1,Zt s1,Zs A1 na1 ca1,Zs B1 nb1 cb1,Zt ⟨s.toArray⟩,Zs (some ⟨b,o,none⟩) nr ca] (g:=w.heap.size) rfl).push 40 #[Zi Zq 0,Zi Zq 0,Zt ⟨#[]⟩,Zs none 0 0,Zs none 0 0,.bool false] (g:=w.heap.size+1) (by simp));obtain ⟨z0,z1,z2,z3,z4,z5,z6,z7⟩:=hz _ HH0.out.1;rw [dP] at z0 z1 z2 z3 z4 z5 z6 z7;have hlb:b<w.heap.size:=hb;have hlb2:b≠w.heap.size+1:=by omega
 rw [show ([ya]:List EJ).length=nr from hnr];obtain ⟨c0,f0,l0⟩:=HH0.out.b1.rules;clear hF hx hcx hv h1 h2 h3 h4 hER hz hb hoa hob hop hnr ka kb;go_enter Tryz.func17,Tryz.ntmps17;go_wp2_with fail;refine (HKA.out _ HH0.out.1).mono ?_;rintro e w1 ⟨k5,n5,s5,A5,na5,ca5,B5,nb5,cb5,va,ba,rfl,hva,hca,hoa,hga,hza,hb1⟩;obtain ⟨WA,hWA⟩:∃ W,w1.alloc (.cells #[Zi Zq k5,Zi Zq n5,Zt s5,Zs A5 na5 ca5,Zs B5 nb5 cb5,.bool ba] 40)=W:=⟨_,rfl⟩
 have HWA:=aW hWA;have HH1:=aW (show aj [(w1.heap.size,40,#[Zi Zq k5,Zi Zq n5,Zt s5,Zs A5 na5 ca5,Zs B5 nb5 cb5,.bool ba]),(w.heap.size+1,40,#[Zi Zq 0,Zi Zq 0,Zt ⟨#[]⟩,Zs none 0 0,Zs none 0 0,.bool false]),(w.heap.size,28,#[Zi Zq 5,Zi Zq k1,Zi Zq n1,Zt s1,Zs A1 na1 ca1,Zs B1 nb1 cb1,Zt ⟨s.toArray⟩,Zs (some ⟨b,o,none⟩) nr ca])] w WA by rw [← hWA];exact (HH0.out.keep hb1).push 40 #[Zi Zq k5,Zi Zq n5,Zt s5,Zs A5 na5 ca5,Zs B5 nb5 cb5,.bool ba] (g:=w1.heap.size) rfl);have HW1:=aW (show Below w1.heap.size w1 WA by rw [← hWA];exact (Below.refl _ w1).alloc (Nat.le_refl _) _);have HVA:=aW (λ (W:World) (h:Below w1.heap.size w1 W)=>IsP.val (w:=w) (by simp) hva h);have HQA:=aW (And.intro hca (And.intro hoa (And.intro hga hza)));have hs1:w.heap.size+2<=w1.heap.size:=by have:=hb1.size;simpa using this
 have hn1:w1.heap.size≠w.heap.size+1:=by omega
 have hn2:w1.heap.size≠w.heap.size:=by omega
 clear hWA hva hca hoa hga hza hb1 c0 f0 l0 z0 z1 z2 z3 z4 z5 z6 z7 HKA;go_upto_region 24 with fail;rw [HWA.out];clear HWA;obtain ⟨c0,f0,l0⟩:=HH1.out.b2.rules;obtain ⟨c1,f1,l1⟩:=HH1.out.b1.rules;obtain ⟨c2,f2,l2⟩:=HH1.out.b0.rules;cases ba with
 |false =>
  have HX:=aW (show op=none by rw [← HOP.out,HQA.out.2.1];rfl);go_upto_region 25 with fail
  try simp only []
  go_step;go_step;go_step;go_step;refine bS rfl 40 4 98 rfl (w.heap.size+1) 0 #[Zi Zq 0,Zi Zq 0,Zt ⟨#[]⟩,Zs none 0 0,Zs none 0 0,.bool false] rfl rfl HH1.out.b1.there ?_;have HBR:=aW (HH1.out.b1.set6C (Zi Zq 0) (Zi Zq 0) (Zt ⟨#[]⟩) (Zs none 0 0) (Zs none 0 0) (.bool false));have HPT:=aW (show IsP op F w (.returned (.agg #[Zi Zq 0,Zi Zq 0,Zt ⟨#[]⟩,Zs none 0 0,Zs none 0 0,.bool false])) (WA.setCells (w.heap.size+1) 0 [Zi Zq 0,Zi Zq 0,Zt ⟨#[]⟩,Zs none 0 0,Zs none 0 0,.bool false]) from IsP.nilC HX.out HH1.out.1);obtain ⟨WG,hWG⟩:∃ W',WA.setCells (w.heap.size+1) 0 [Zi Zq 0,Zi Zq 0,Zt ⟨#[]⟩,Zs none 0 0,Zs none 0 0,.bool false]=W':=⟨_,rfl⟩
  rw [hWG] at HBR HPT
  try simp only []
  rw [hWG];clear hWG;obtain ⟨cR,fR,lR⟩:=HBR.out.rules;go_wp2_with ((with_reducible refine bodyPost_ret (v:=.agg #[Zi Zq 0,Zi Zq 0,Zt ⟨#[]⟩,Zs none 0 0,Zs none 0 0,.bool false]) ?_ rfl ?_);(simp only [results,Tryz.results17];go_simp);exact HPT.out)
 | true =>
 have HOA:=aW (show oa=some va from HQA.out.2.1);have HGA:=aW (HQA.out.2.2.1 rfl);have HCA:=aW HQA.out.1;clear HQA;go_wp2_with fail;refine (cU _ _ _ _ _ _ _ _ _ _ _).mono ?_;rintro e w2 ⟨rfl,hb2⟩;have HH2:=aW (HH1.out.keep hb2);have HW2:=aW (HW1.out.trans (hb2.mono HW1.out.size));clear hb2 c0 f0 l0 c1 f1 l1 c2 f2 l2;obtain ⟨c0,f0,l0⟩:=HH2.out.b2.rules;obtain ⟨c1,f1,l1⟩:=HH2.out.b1.rules;obtain ⟨c2,f2,l2⟩:=HH2.out.b0.rules;have HBO:=aW (show op=(if k5=2 then some (aG (!decide (n5=1))) else none) by
  rw [← HOP.out,HOA.out];obtain ⟨vk,vn,vs,vks,vys⟩:=va;obtain ⟨_,_,_,_,_,e,_⟩:=(HVA.out _ (Below.refl _ _)).out;injection e with e1 e;injection e with e2 e
  injection e1 with _ e1;injection e2 with _ e2
  subst e1 e2;show (isB (some (.mk k5 n5 vs vks vys))).map (λ b=>aG (!b))=_
  unfold isB;show Option.map (λ b=>aG (!b)) (if k5=2 then some (decide (n5=1)) else none)=_
  split<;>rfl)
 by_cases hk2:k5=2;rotate_left
 ·have e2:(k5 == 2)=false:=by simp [hk2]
  have HX:=aW (show op=none by rw [HBO.out,if_neg hk2]);clear hk2 HBO;go_upto_region 35 with fail
  try simp only []
  go_step;go_step;go_step;go_step;refine bS rfl 40 4 125 rfl (w.heap.size+1) 0 #[Zi Zq 0,Zi Zq 0,Zt ⟨#[]⟩,Zs none 0 0,Zs none 0 0,.bool false] rfl rfl HH2.out.b1.there ?_;have HBR:=aW (HH2.out.b1.set6C (Zi Zq 0) (Zi Zq 0) (Zt ⟨#[]⟩) (Zs none 0 0) (Zs none 0 0) (.bool false));have HPT:=aW (show IsP op F w (.returned (.agg #[Zi Zq 0,Zi Zq 0,Zt ⟨#[]⟩,Zs none 0 0,Zs none 0 0,.bool false])) (w2.setCells (w.heap.size+1) 0 [Zi Zq 0,Zi Zq 0,Zt ⟨#[]⟩,Zs none 0 0,Zs none 0 0,.bool false]) from IsP.nilC HX.out HH2.out.1);obtain ⟨WG,hWG⟩:∃ W',w2.setCells (w.heap.size+1) 0 [Zi Zq 0,Zi Zq 0,Zt ⟨#[]⟩,Zs none 0 0,Zs none 0 0,.bool false]=W':=⟨_,rfl⟩
  rw [hWG] at HBR HPT
  try simp only []
  rw [hWG];clear hWG;obtain ⟨cR,fR,lR⟩:=HBR.out.rules;go_wp2_with ((with_reducible refine bodyPost_ret (v:=.agg #[Zi Zq 0,Zi Zq 0,Zt ⟨#[]⟩,Zs none 0 0,Zs none 0 0,.bool false]) ?_ rfl ?_);(simp only [results,Tryz.results17];go_simp);exact HPT.out)
 have e2:(k5 == 2)=true:=by simp [hk2]
 have HX:=aW (show op=some (aG (!(n5 == 1))) by rw [HBO.out,if_pos hk2];rfl);clear hk2 HBO;obtain ⟨t,ht⟩:∃ t,(!(n5 == 1))=t:=⟨_,rfl⟩
 have HTR:=aW (λ W=>bZ t W);rw [ht] at HX;go_upto_region 36 with fail;go_wp2_with fail;refine (HTR.out _).mono ?_;rintro e w3 ⟨rfl,hb3⟩;have HH3:=aW (HH2.out.keep hb3);clear hb3 ht c0 f0 l0 c1 f1 l1 c2 f2 l2
 try simp only []
 go_step;refine bS rfl 40 4 128 rfl (w.heap.size+1) 0 #[Zi Zq 2,Zi Zq (if t=true then 1 else 0),Zt ⟨#[]⟩,Zs none 0 0,Zs none 0 0,.bool true] rfl rfl HH3.out.b1.there ?_;have HBR:=aW (HH3.out.b1.set6C (Zi Zq 2) (Zi Zq (if t=true then 1 else 0)) (Zt ⟨#[]⟩) (Zs none 0 0) (Zs none 0 0) (.bool true));have HPT:=aW (show IsP op F w (.returned (.agg #[Zi Zq 2,Zi Zq (if t=true then 1 else 0),Zt ⟨#[]⟩,Zs none 0 0,Zs none 0 0,.bool true])) (w3.setCells (w.heap.size+1) 0 [Zi Zq 2,Zi Zq (if t=true then 1 else 0),Zt ⟨#[]⟩,Zs none 0 0,Zs none 0 0,.bool true]) from aM (s:=[]) HX.out (df t) (aw (by unfold iw;omega) (by unfold iw;split<;>omega) (by simp)) HFF.out HH3.out.1);obtain ⟨WG,hWG⟩:∃ W',w3.setCells (w.heap.size+1) 0 [Zi Zq 2,Zi Zq (if t=true then 1 else 0),Zt ⟨#[]⟩,Zs none 0 0,Zs none 0 0,.bool true]=W':=⟨_,rfl⟩
 rw [hWG] at HBR HPT
 try simp only []
 rw [hWG];clear hWG;obtain ⟨cR,fR,lR⟩:=HBR.out.rules;go_wp2_with ((with_reducible refine bodyPost_ret (v:=.agg #[Zi Zq 2,Zi Zq (if t=true then 1 else 0),Zt ⟨#[]⟩,Zs none 0 0,Zs none 0 0,.bool true]) ?_ rfl ?_);(simp only [results,Tryz.results17];go_simp);exact HPT.out)
theorem yd {env:List (List UInt8 × JV)} {v:JV} {s:List UInt8} {ya yb:EJ} {cs:List Value} {EA:Option Addr} {n ec:Nat} {F:Nat->Prop} {w:World} (hF:∀ b,F b->b<w.heap.size) (hx:ER w F cs (.mk 1 v s [])) (hcx:bh (.mk 1 v s [])) (hgv:good v=true) (op:Option JV) (hop:bg env 1 v s []=op) :
  Calls Tryz.prog 17 #[.agg cs.toArray,Zs EA n ec] w (IsP op F w):=by
 obtain ⟨k1,n1,s1,A1,na1,ca1,B1,nb1,cb1,A,ca,css0,rfl,hv,h1,h2,h3,h4⟩:=hx.out;have HFF:=aW hF;have HOP:=aW hop;have HVS:=aW hv;have HH0:=aW (((aj.nil w).push 28 #[Zi Zq 1,Zi Zq k1,Zi Zq n1,Zt s1,Zs A1 na1 ca1,Zs B1 nb1 cb1,Zt ⟨s.toArray⟩,Zs A 0 ca] (g:=w.heap.size) rfl).push 40 #[Zi Zq 0,Zi Zq 0,Zt ⟨#[]⟩,Zs none 0 0,Zs none 0 0,.bool false] (g:=w.heap.size+1) (by simp));obtain ⟨W0,hW0⟩:∃ W,(w.alloc (.cells #[Zi Zq 1,Zi Zq k1,Zi Zq n1,Zt s1,Zs A1 na1 ca1,Zs B1 nb1 cb1,Zt ⟨s.toArray⟩,Zs A 0 ca] 28)).alloc (.cells #[Zi Zq 0,Zi Zq 0,Zt ⟨#[]⟩,Zs none 0 0,Zs none 0 0,.bool false] 40)=W:=⟨_,rfl⟩
 have HHW:=aW (show aj [(w.heap.size+1,40,#[Zi Zq 0,Zi Zq 0,Zt ⟨#[]⟩,Zs none 0 0,Zs none 0 0,.bool false]),(w.heap.size,28,#[Zi Zq 1,Zi Zq k1,Zi Zq n1,Zt s1,Zs A1 na1 ca1,Zs B1 nb1 cb1,Zt ⟨s.toArray⟩,Zs A 0 ca])] w W0 by rw [← hW0];exact HH0.out);have HW0:=aW hW0;clear hW0 HH0;have HX:=aW (show op=some v by rw [← HOP.out];rfl);have HGV:=aW (And.intro hgv (by unfold bh at hcx;exact hcx.2.1:au v));clear hF hx hcx hv h1 h2 h3 h4 hop hgv;go_enter Tryz.func17,Tryz.ntmps17;go_upto_region 1 with fail;rw [HW0.out];obtain ⟨c0,f0,l0⟩:=HHW.out.b1.rules;go_upto_region 3 with fail;go_wp2_with fail;refine (d9 _ _ _ _ _ _ _ _ _ _).mono ?_;rintro e w5 ⟨rfl,hb5⟩;have HH5:=aW (HHW.out.keep hb5);clear hb5 c0 f0 l0
 try simp only []
 go_step;refine bS rfl 40 4 29 rfl (w.heap.size+1) 0 #[Zi Zq k1,Zi Zq n1,Zt s1,Zs A1 na1 ca1,Zs B1 nb1 cb1,.bool true] rfl rfl HH5.out.b0.there ?_;have HBR:=aW (HH5.out.b0.set6C (Zi Zq k1) (Zi Zq n1) (Zt s1) (Zs A1 na1 ca1) (Zs B1 nb1 cb1) (.bool true));have HPT:=aW (show IsP op F w (.returned (.agg #[Zi Zq k1,Zi Zq n1,Zt s1,Zs A1 na1 ca1,Zs B1 nb1 cb1,.bool true])) (w5.setCells (w.heap.size+1) 0 [Zi Zq k1,Zi Zq n1,Zt s1,Zs A1 na1 ca1,Zs B1 nb1 cb1,.bool true]) from IsP.put HX.out HGV.out.1 HGV.out.2 HFF.out ((HVS.out.bel HH5.out.1).mono λ b _ h=>.inl h) HH5.out.1);obtain ⟨WG,hWG⟩:∃ W',w5.setCells (w.heap.size+1) 0 [Zi Zq k1,Zi Zq n1,Zt s1,Zs A1 na1 ca1,Zs B1 nb1 cb1,.bool true]=W':=⟨_,rfl⟩
 rw [hWG] at HBR HPT
 try simp only []
 rw [hWG];clear hWG;obtain ⟨cR,fR,lR⟩:=HBR.out.rules;go_wp2_with ((with_reducible refine bodyPost_ret (v:=.agg #[Zi Zq k1,Zi Zq n1,Zt s1,Zs A1 na1 ca1,Zs B1 nb1 cb1,.bool true]) ?_ rfl ?_);(simp only [results,Tryz.results17];go_simp);exact HPT.out)
end
end Go.Proofs.YtgolomgmnanbpaaGreatDoor
