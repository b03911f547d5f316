import Derived.Test.YtgmnmnnoahdjnaaGreatDoorC42
import Derived.Test.YtgmnmnnoahdjnaaGreatDoorC41
open Go.Value renaming int → Zi, slice → Zs, string → Zt, pointer → Zp
open Go.IntKind renaming i64 → Zq
set_option maxRecDepth 100000
set_option maxHeartbeats 16000000
set_option linter.unusedVariables false
set_option linter.unusedSimpArgs false
namespace Go.Proofs.YtgmnmnnoahdjnaaGreatDoor
section
open Go.RowKit
attribute [local go_sem] aa ac ae ab
theorem qR (p q s:Addr) (w:World) :
  CallsD Tryz.prog 85 #[Zp (some p),Zp (some q),Zp (some s)] .returning w λ e u' w'=>e=.returned (.tuple #[])/\u'=.returning/\w'=w:=by
 refine callsD_of_wpS Tryz.func85 rfl λ c₀ cs hu=>?_
 simp only [Tryz.ntmps85,List.size_toArray,List.length_cons,List.length_nil,Nat.reduceAdd,Nat.reduceSub,Array.replicate_succ,
   Array.replicate_zero,List.push_toArray,List.append_toArray,List.nil_append,List.cons_append]
 apply wpS_seq;apply wpS_region;simp [wpOpsS,go_sem,recoverD,hu,Exit.thenS];refine wpS_of_wp ?_;go_wp2;cases c₀
 simp_all [bodyPostS,results,Tryz.results85]
theorem jZ (b d f:Nat) (x:Int) (c c' c'':Value) (w:World) (hbd:b≠d) (hbf:b≠f) (hdf:d≠f) (hp:w.cell? ⟨b,0,none⟩=some c) (hz:w.frozen? ⟨b,0,none⟩=false) (hq:w.cell? ⟨d,0,none⟩=some c') (hy:w.frozen? ⟨d,0,none⟩=false) (hr:w.cell? ⟨f,0,none⟩=some c'') (hx:w.frozen? ⟨f,0,none⟩=false) :
  CallsD Tryz.prog 85 #[Zp (some ⟨b,0,none⟩),Zp (some ⟨d,0,none⟩),Zp (some ⟨f,0,none⟩)] (.panicking [{ v:=.iface 117 (Zi Zq x),recovered:=false }]) w λ e u' w' =>
   e=.returned (.tuple #[])/\u'=.panicking [{ v:=.iface 117 (Zi Zq x),recovered:=true }]/\w'=((w.setCell ⟨b,0,none⟩ (Zs none 0 0)).setCell ⟨d,0,none⟩ (Zi Zq x)).setCell ⟨f,0,none⟩ (Zi Zq 330):=by
 have hta:∀ w:World,(Instr.typeAssert (.iface 117 (Zi Zq x)) 20 117 true).run Tryz.prog w=.ok (.tuple #[Zi Zq x,.bool true]) w:=λ _=>by kernel_rfl
 refine callsD_of_wpS Tryz.func85 rfl λ c₀ cs hu=>?_
 simp only [Tryz.ntmps85,List.size_toArray,List.length_cons,List.length_nil,Nat.reduceAdd,Nat.reduceSub,Array.replicate_succ,
   Array.replicate_zero,List.push_toArray,List.append_toArray,List.nil_append,List.cons_append]
 apply wpS_seq;apply wpS_region;simp [wpOpsS,go_sem,recoverD,hu,Exit.thenS];refine wpS_of_wp ?_;go_wp2;simp [bodyPostS,results,Tryz.results85]
def vc (r:PR (List SJ)) (T:List ak) (w:World) (e:Ending) (w':World):Prop:=match r with
 | .ok l q => ∃ (A':Option Addr) (n ca:Nat) (css:List (List Value)),e=.returned (.tuple #[.agg #[Zs A' n ca],Zi Zq 0,Zi Zq 0])/\n=l.length/\n<=ca/\(A'=none->ca=0)/\SRs w' (NW w) css l/\RdF w' (NW w) A' css.flatten/\Below w.heap.size w w'
 | .bad q=>e=.returned (.tuple #[.agg #[Zs none 0 0],Zi Zq (tkA T q:Nat),Zi Zq 330])/\Below w.heap.size w w'
theorem yJ (T:List ak) (A:Option Addr) (nT cap:Nat) (w:World) (hT:WT T) (hG:GOE w) (hR:Rd w A (bA T)) (hn:nT<=1000) (hl:T.length=nT) (h0:0<nT) (hc:nT<=cap) :
  Calls Tryz.prog 51 #[Zs A nT cap] w (vc (gJ T) T w):=by
 have hmf:∀ (fn:Fn) (first cap:Array Value) (w:World),(Instr.makeFunc fn first cap).run Tryz.prog w=.ok (.func fn first cap) w:=λ _ _ _ _=>rfl
 have HG:=aW hG;have HR:=aW hR;have HL:=aW hl;clear hG hR hl;obtain ⟨B1,hB1⟩:∃ b,w.heap.size+1=b:=⟨_,rfl⟩
 obtain ⟨B2,hB2⟩:∃ b,B1+1=b:=⟨_,rfl⟩
 obtain ⟨g,hg⟩:∃ b,B2+1=b:=⟨_,rfl⟩
 obtain ⟨W0,hW0⟩:∃ W',((((w.alloc (.cells #[Zs none 0 0] 24)).alloc (.cells #[Zi Zq 0] 3)).alloc (.cells #[Zi Zq 0] 27)).alloc (.cells #[Zi Zq 0,Zs A nT cap] 123))=W':=⟨_,rfl⟩
 have hb0:Below w.heap.size w W0:=by rw [← hW0];exact ((((Below.refl _ w).alloc (Nat.le_refl _) _).alloc (by simp) _).alloc (by simp;omega) _).alloc (by simp;omega) _
 have HP0:=aW (show Blk W0 w.heap.size 24 #[Zs none 0 0]/\Blk W0 B1 3 #[Zi Zq 0]/\Blk W0 B2 27 #[Zi Zq 0] by
  have h1:=Blk.new w 24 #[Zs none 0 0];have h2:=Blk.new (w.alloc (.cells #[Zs none 0 0] 24)) 3 #[Zi Zq 0];have h3:=Blk.new ((w.alloc (.cells #[Zs none 0 0] 24)).alloc (.cells #[Zi Zq 0] 3)) 27 #[Zi Zq 0];simp only [World.size_alloc,hB1,hB2] at h2 h3;rw [← hW0];exact ⟨((h1.alloc _).alloc _).alloc _,(h2.alloc _).alloc _,h3.alloc _⟩)
 have HVP:=aW (show VP W0 g A nT cap T 0 from ⟨by
   have h4:=Blk.new (((w.alloc (.cells #[Zs none 0 0] 24)).alloc (.cells #[Zi Zq 0] 3)).alloc (.cells #[Zi Zq 0] 27)) 123 #[Zi Zq 0,Zs A nT cap];simp only [World.size_alloc,hB1,hB2,hg] at h4;rw [← hW0];exact h4,λ hne=>by
   obtain ⟨b,o,e,hb,hc⟩:=HR.out hne;refine ⟨b,o,e,Nat.lt_of_lt_of_le hb hb0.size,by omega,λ i hi=>?_⟩;exact (hb0.cell (p:=⟨b,o+i,none⟩) hb).trans (hc i hi),HL.out,w,HG.out,by omega,hb0⟩)
 have HBS:=aW (And.intro hB1 (And.intro hB2 hg));have HB0:=aW hb0;have hst:=sM g A nT cap T hT hn 0 W0 HVP.out h0;have HSP:=aW (mJ T);obtain ⟨r,hr⟩:∃ r,gJ T=r:=⟨_,rfl⟩
 rw [hr] at HSP ⊢;have hgs:g≠w.heap.size/\g≠B1/\g≠B2:=by omega
 have hbs:w.heap.size≠B1/\w.heap.size≠B2/\B1≠B2:=by omega
 clear hr hb0;cases hrs:eS T [] 0 with
 |bad q =>
  have HRR:=aW (show r=.bad q by rw [HSP.out,hrs]);rw [hrs] at hst;unfold jp aL at hst;have HST:=aW hst;clear hst hrs
  go_enter_defers Tryz.func51,Tryz.ntmps51
  go_wp2_with fail;refine HST.out.mono ?_;rintro e w2 ⟨rfl,hg2⟩;have c0:=HP0.out.1.grown hg2 (by simp;omega);have c1:=HP0.out.2.1.grown hg2 (by simp;omega);have c2:=HP0.out.2.2.grown hg2 (by simp;omega);refine leaves_cons (f:=85) (args:=#[Zp (some ⟨w.heap.size,0,none⟩),Zp (some ⟨B1,0,none⟩),Zp (some ⟨B2,0,none⟩)]) (by simp) (by simp [go_sem]) ?_;refine (jZ w.heap.size B1 B2 (tkA T q:Nat) _ _ _ w2 hbs.1 hbs.2.1 hbs.2.2 (c0.cell 0) (c0.frozen 0) (c1.cell 0) (c1.frozen 0) (c2.cell 0) (c2.frozen 0)).mono ?_;rintro e u' w3 ⟨rfl,rfl,rfl⟩;have d0:=(c0.set_ 0 (Zs none 0 0))
  refine ⟨.tuple #[.agg #[Zs none 0 0],Zi Zq (tkA T q:Nat),Zi Zq 330],?_,?_⟩
  ·obtain ⟨x0,x1,x2⟩:=c0.rules;obtain ⟨y0,y1,y2⟩:=c1.rules;obtain ⟨z0,z1,z2⟩:=c2.rules;simp only [results,Tryz.results51];go_simp
  ·rw [HRR.out];have hB:=HBS.out;have hbw:Below w.heap.size w w2:=HB0.out.grown hg2 HB0.out.size (λ k e=>by injection e with e;omega);exact ⟨rfl,((hbw.setCell (p:=⟨w.heap.size,0,none⟩) (Nat.le_refl _) _).setCell (p:=⟨B1,0,none⟩) (by show w.heap.size<=B1;omega) _).setCell (p:=⟨B2,0,none⟩) (by show w.heap.size<=B2;omega) _⟩
 |ok l q =>
  have hq:=(sV hT (acc:=[]) (p:=0) (by rw [HL.out];exact h0):(eS T [] 0).In0 T 0)
  rw [hrs] at hq;have hqn:q<nT:=by have h9:=hq.2;rw [HL.out] at h9;exact h9
  have HRQ:=aW (show r=if tkK T q=6 then .ok l q else .bad q by rw [HSP.out,hrs]);rw [hrs] at hst;unfold jp at hst;have HST:=aW hst;clear hst hrs hq;have hqi:(q:Int)<(nT:Int):=by omega
  go_enter_defers Tryz.func51,Tryz.ntmps51
  go_wp2_with fail;refine HST.out.mono ?_;rintro e w2 ⟨A3,n3,c3,css3,rfl,hl1,hl2,hl3,hl4,hl5,hv2,hg2⟩;have HLS:=aW (And.intro hl1 (And.intro hl2 (And.intro hl3 (And.intro hl4 hl5))));have hB:=HBS.out;have hbw:Below w.heap.size w w2:=HB0.out.grown hg2 HB0.out.size (λ k e=>by injection e with e;omega);have HC2:=aW (And.intro (HP0.out.1.grown hg2 (by simp;omega)) (And.intro (HP0.out.2.1.grown hg2 (by simp;omega)) (HP0.out.2.2.grown hg2 (by simp;omega))));have HV2:=aW hv2;have HBW:=aW hbw;have HGB:=aW hg2;obtain ⟨x0,x1,x2⟩:=HC2.out.1.rules;clear hl1 hl2 hl3 hl4 hl5 hv2 hg2 hbw hB;go_upto_region 4 with fail;obtain ⟨W3,hW3⟩:∃ W',w2.setCell ⟨w.heap.size,0,none⟩ (Zs A3 n3 c3)=W':=⟨_,rfl⟩
  rw [hW3];have hbw3:Below w.heap.size w W3:=by rw [← hW3];exact HBW.out.setCell (p:=⟨w.heap.size,0,none⟩) (Nat.le_refl _) _
  have HC3:=aW (show Blk W3 w.heap.size 24 #[Zs A3 n3 c3]/\Blk W3 B1 3 #[Zi Zq 0]/\Blk W3 B2 27 #[Zi Zq 0] by
   rw [← hW3];exact ⟨HC2.out.1.set_ 0 _,HC2.out.2.1.far (p:=⟨w.heap.size,0,none⟩) (Ne.symm hbs.1) _,HC2.out.2.2.far (p:=⟨w.heap.size,0,none⟩) (Ne.symm hbs.2.1) _⟩)
  have hv3:VP W3 g A nT cap T q:=⟨by rw [← hW3];exact HV2.out.blk.far (p:=⟨w.heap.size,0,none⟩) hgs.1 _,λ hne=>by
   obtain ⟨b,o,e,hb,hc⟩:=HR.out hne;refine ⟨b,o,e,Nat.lt_of_lt_of_le hb hbw3.size,by have:=HBS.out;omega,λ i hi=>?_⟩;exact (hbw3.cell (p:=⟨b,o+i,none⟩) hb).trans (hc i hi),HL.out,w,HG.out,by have:=HBS.out;omega,hbw3⟩
  have HL3:=aW (show SRs W3 (NW W0) css3 l/\RdF W3 (NW W0) A3 css3.flatten by
   have hk:ah (NW W0) w2 W3:=by rw [← hW3];exact ah.set ah.refl (λ k hk=>by have:=HP0.out.1.lt;unfold NW at hk;omega) 0 _
   exact ⟨RR.imp HLS.out.2.2.2.1 λ c y hc=>SR.keep hc hk,HLS.out.2.2.2.2.keep hk⟩)
  have HV3:=aW hv3;have HBW3:=aW hbw3;clear hW3 x0 x1 x2 HC2 HV2 HBW HGB;obtain ⟨b,o,rfl,hb,hbg,z0,z1,z2,z3⟩:=hv3.tok hqn;obtain ⟨c0,f0,l0⟩:=hv3.blk.rules;clear hv3 hbw3 z1 z2 z3;by_cases hk:tkK T q=6
  ·have HRR:=aW (show r=.ok l q by rw [HRQ.out,if_pos hk]);rw [hk] at z0;clear hk;refine wp_region_noPanic ?_;go_quiet (fail);refine NoPanic.normal ?_;have d0:=(HC3.out.1.drewN nq)
   have d1:=(HC3.out.2.1.drewN nq)
   have d2:=(HC3.out.2.2.drewN nq)
   obtain ⟨x0,x1,x2⟩:=d0.rules;obtain ⟨u0,u1,u2⟩:=d1.rules;obtain ⟨v0,v1,v2⟩:=d2.rules;go_wp2;refine leaves_cons (f:=85) (args:=#[Zp (some ⟨w.heap.size,0,none⟩),Zp (some ⟨B1,0,none⟩),Zp (some ⟨B2,0,none⟩)]) (by simp) (by simp [go_sem]) ?_;refine (qR ⟨w.heap.size,0,none⟩ ⟨B1,0,none⟩ ⟨B2,0,none⟩ _).mono ?_;rintro e u' w5 ⟨rfl,rfl,rfl⟩;refine ⟨.tuple #[.agg #[Zs A3 n3 c3],Zi Zq 0,Zi Zq 0],?_,?_⟩
   ·simp only [results,Tryz.results51];go_simp
   ·rw [HRR.out];have hb0s:=HP0.out.1.lt;have hb1s:=HP0.out.2.1.lt;have hb2s:=HP0.out.2.2.lt;have hk:ah (NW W0) W3 ((((W3.drewN nq).setCell ⟨w.heap.size,0,none⟩ (Zs A3 n3 c3)).setCell ⟨B1,0,none⟩ (Zi Zq 0)).setCell ⟨B2,0,none⟩ (Zi Zq 0)) :=
     (((ah.of_below (ai (Below.refl _ W3) nq)).set (λ k hk=>by unfold NW at hk;omega) 0 _).set (λ k hk=>by unfold NW at hk;omega) 0 _).set (λ k hk=>by unfold NW at hk;omega) 0 _
    have hm:∀ b,NW W0 b->NW w b:=λ b hb=>Nat.le_trans HB0.out.size hb
    have hB:=HBS.out;exact ⟨A3,n3,c3,css3,rfl,HLS.out.1,HLS.out.2.1,HLS.out.2.2.1,RR.imp HL3.out.1 λ c y hc=>(SR.keep hc hk).mono λ b _ hb=>hm b hb,(HL3.out.2.keep hk).mono λ b _ hb=>hm b hb,
     (((ai HBW3.out nq).setCell (p:=⟨w.heap.size,0,none⟩) (Nat.le_refl _) _).setCell (p:=⟨B1,0,none⟩) (by show w.heap.size<=B1;omega) _).setCell (p:=⟨B2,0,none⟩) (by show w.heap.size<=B2;omega) _⟩
  ·have HRR:=aW (show r=.bad q by rw [HRQ.out,if_neg hk]);obtain ⟨kk,hkk⟩:∃ k,tkK T q=k:=⟨_,rfl⟩
   rw [hkk] at z0 hk;have hkb:(kk != 6)=true:=by simpa using hk
   clear hk hkk;have hfa:=λ W (h:Below W3.heap.size W3 W)=>jg W g (some ⟨b,o,none⟩) nT cap T q (HV3.out.keep h) hqn hn
   unfold aL at hfa;have HFA:=aW hfa;clear hfa;refine wp_region_noPanic ?_;go_quiet (fail);refine NoPanic.normal ?_;go_wp2_with fail;refine (HFA.out _ (ai (Below.refl _ _) _)).mono ?_;rintro e w4 ⟨rfl,hb4⟩;have hb34:Below W3.heap.size W3 w4:=(ai (Below.refl _ W3) nq).trans hb4;have d0:=HC3.out.1.keep hb34;have d1:=HC3.out.2.1.keep hb34;have d2:=HC3.out.2.2.keep hb34;refine leaves_cons (f:=85) (args:=#[Zp (some ⟨w.heap.size,0,none⟩),Zp (some ⟨B1,0,none⟩),Zp (some ⟨B2,0,none⟩)]) (by simp) (by simp [go_sem]) ?_;refine (jZ w.heap.size B1 B2 (tkA T q:Nat) _ _ _ w4 hbs.1 hbs.2.1 hbs.2.2 (d0.cell 0) (d0.frozen 0) (d1.cell 0) (d1.frozen 0) (d2.cell 0) (d2.frozen 0)).mono ?_;rintro e u' w5 ⟨rfl,rfl,rfl⟩;refine ⟨.tuple #[.agg #[Zs none 0 0],Zi Zq (tkA T q:Nat),Zi Zq 330],?_,?_⟩
   ·obtain ⟨x0,x1,x2⟩:=d0.rules;obtain ⟨y0,y1,y2⟩:=d1.rules;obtain ⟨z0,z1,z2⟩:=d2.rules;simp only [results,Tryz.results51];go_simp
   ·rw [HRR.out];have hB:=HBS.out;have hbw:Below w.heap.size w w4:=HBW3.out.trans (hb34.mono HBW3.out.size);exact ⟨rfl,((hbw.setCell (p:=⟨w.heap.size,0,none⟩) (Nat.le_refl _) _).setCell (p:=⟨B1,0,none⟩) (by show w.heap.size<=B1;omega) _).setCell (p:=⟨B2,0,none⟩) (by show w.heap.size<=B2;omega) _⟩
def oM (o:List SJ × Int × Int) (w:World) (e:Ending) (w':World):Prop:=∃ (A:Option Addr) (n ca:Nat) (css:List (List Value)),e=.returned (.tuple #[.agg #[Zs A n ca],Zi Zq o.2.1,Zi Zq o.2.2])/\n=o.1.length/\n<=ca/\(A=none->ca=0)/\SRs w' (NW w) css o.1/\RdF w' (NW w) A css.flatten/\Below w.heap.size w w'
theorem oM.err {at_ e:Int} {w w':World} (h:Below w.heap.size w w'):oM ([],at_,e) w (.returned (.tuple #[.agg #[Zs none 0 0],Zi Zq at_,Zi Zq e])) w' :=
 ⟨none,0,0,[],rfl,rfl,Nat.le_refl _,λ _=>rfl,RR.nil,RdF.nil,h⟩
def A7 (T:List ak):PR (List SJ)->List SJ × Int × Int
 | .bad p=>([],(tkA T p:Nat),330)
 | .ok b _=>if fG b=true then (b,0,0) else ([],0,331)
theorem oc {T:List ak} (hT:WT T) (hG:TG T) (h0:0<T.length) {l:List SJ} {q:Nat} (h:gJ T=.ok l q):aK l/\l.length<=1000:=by
 rw [mJ] at h;cases hs:eS T [] 0 with
 | bad p=>rw [hs] at h;cases h
 |ok l' q' =>
  rw [hs] at h;simp only at h;split at h
  ·injection h with h1 h2
   subst h1 h2;have h3:=(zf hT hG (pM T+1)).1 [] 0 l' q' h0 (Nat.le_refl _) trivial hs;have h4:=(sV hT (acc:=[]) h0:(eS T [] 0).In0 T 0)
   rw [hs] at h4;have:=h4.2;have:=hG.1;exact ⟨h3.1,by omega⟩
  ·cases h
theorem uJ (s:ByteArray) (w:World) (hG:GOE w) (hs:s.size<=4194304):Calls Tryz.prog 22 #[Zt s] w (oM (cO (sl s)) w):=by
 obtain ⟨o,ho⟩:∃ o,cO (sl s)=o:=⟨_,rfl⟩
 rw [ho];obtain ⟨⟨T,pl,er⟩,hlx⟩:∃ r,gh (sl s)=r:=⟨_,rfl⟩
 have HO:=aW (show o=(if er≠0 then ([],pl,er) else A7 T (gJ T)) by rw [← ho];unfold cO;rw [hlx];rfl);have HLX:=aW (λ W (h:Below w.heap.size w W)=>(show Calls Tryz.prog 50 #[Zt s] W (lC (T,pl,er) W) from hlx ▸ yg s W ((hG.keep h).gok) hs));have HWT:=aW (λ (h:er=0)=>r4 (l:=sl s) (T:=T) (a:=pl) (by rw [hlx,h]));have HG:=aW hG;clear ho hlx hG;unfold lC at HLX;have HH0:=aW ((aT.nil w).push 24 #[Zs none 0 0] (g:=w.heap.size) rfl);by_cases he:er=0
 ·obtain ⟨hT,hTG,hTn⟩:=HWT.out he;subst he;obtain ⟨nT,hnT⟩:∃ n,T.length=n:=⟨_,rfl⟩
  have hn:nT<=1000:=by rw [← hnT];exact hTG.1
  have h0:0<nT:=by rw [← hnT];exact List.length_pos_iff.2 hTn
  have HPA:=aW (λ A cap W (h:Below w.heap.size w W) (hR:Rd W A (bA T)) (hc:nT<=cap)=>yJ T A nT cap W hT (HG.out.keep h) hR hn hnT h0 hc);have HPC:=aW (λ l q (h:gJ T=.ok l q)=>oc hT hTG (by rw [hnT];exact h0) h);have HNT:=aW hnT;obtain ⟨rP,hrP⟩:∃ r,gJ T=r:=⟨_,rfl⟩
  have HO1:=aW (show o=A7 T rP by rw [HO.out,if_neg (λ h=>h rfl),hrP]);rw [hrP] at HPA HPC;clear hT hTG hTn hn h0 hnT hrP HWT HO;cases rP with
  |bad q =>
   have HR:=aW (show o=(([]:List SJ),((tkA T q:Nat):Int),(330:Int)) from HO1.out);rw [HR.out];unfold vc at HPA;go_enter Tryz.func22,Tryz.ntmps22;go_wp2_with (go_at_call 50;refine (HLX.out _ HH0.out.1).mono ?_;rintro e w1 ⟨v,rfl,⟨A1,cap1,rfl,hcap1,hrd1⟩,hb1⟩;have HH1:=aW (HH0.out.keep hb1);rw [HNT.out] at hcap1;rw [HNT.out]);go_wp2_with fail;refine (HPA.out A1 cap1 _ HH1.out.1 hrd1 hcap1).mono ?_;rintro e w2 ⟨rfl,hb2⟩;have HH2:=aW (HH1.out.keep hb2);obtain ⟨c0,f0,l0⟩:=HH2.out.b0.rules;clear hb2 hrd1 hb1;go_wp2;refine bodyPost_ret (v:=.tuple #[.agg #[Zs none 0 0],Zi Zq (tkA T q:Nat),Zi Zq 330]) (by simp only [results,Tryz.results22];go_simp) rfl ?_;exact oM.err ((HH2.out.1.setCell (p:=⟨w.heap.size,0,none⟩) (Nat.le_refl _) _).alloc (by have:=HH2.out.1.size;simpa [World.setCell] using this) _)
  |ok l q =>
   obtain ⟨hcam,hl9⟩:=HPC.out l q rfl;have HCM:=aW (And.intro hcam hl9);obtain ⟨mb,hmb⟩:∃ b,fG l=b:=⟨_,rfl⟩
   have HR:=aW (show o=if mb=true then (l,(0:Int),(0:Int)) else (([]:List SJ),(0:Int),(331:Int)) by rw [HO1.out,← hmb];rfl);have HPE:=aW (show eq l=if mb=true then 0 else 332 by unfold eq;rw [hmb]);unfold vc at HPA;clear hcam hl9 hmb HPC HO1;go_enter Tryz.func22,Tryz.ntmps22;go_wp2_with (go_at_call 50;refine (HLX.out _ HH0.out.1).mono ?_;rintro e w1 ⟨v,rfl,⟨A1,cap1,rfl,hcap1,hrd1⟩,hb1⟩;have HH1:=aW (HH0.out.keep hb1);rw [HNT.out] at hcap1;rw [HNT.out]);go_wp2_with fail;refine (HPA.out A1 cap1 _ HH1.out.1 hrd1 hcap1).mono ?_;rintro e w2 ⟨A',n,ca,css,rfl,hl1,hl2,hl3,hl4,hl5,hb2⟩;have HH3:=aW ((HH1.out.keep hb2).push 24 #[Zs A' n ca] (g:=w2.heap.size) rfl);have hx1:w.heap.size<w1.heap.size:=HH1.out.b0.lt;have hz:Below w2.heap.size w2 (w2.alloc (.cells #[Zs A' n ca] 24)):=(Below.refl _ w2).alloc (Nat.le_refl _) _;have HCK:=aW (lX l css A' n ca (NW w1) (w2.alloc (.cells #[Zs A' n ca] 24)) (HG.out.keep HH3.out.1) (RR.imp hl4 λ c y hc=>SR.bel hc hz) hl1.symm hl2 (hl5.keep (ah.of_below hz)) HCM.out.1 (by have:=HCM.out.2;omega));unfold rx at HCK;rw [HPE.out] at HCK;have HLS:=aW (And.intro hl1 (And.intro hl2 (And.intro hl3 (And.intro (RR.imp hl4 λ c y hc=>SR.bel hc hz) (hl5.keep (ah.of_below hz))))));have HW2:=aW hb2.size;clear hl1 hl2 hl3 hl4 hl5 hb2 hrd1 hb1 hz;go_wp2_with fail;refine HCK.out.mono ?_;rintro e w4 ⟨rfl,hb4⟩;have HH4:=aW (HH3.out.keep hb4);obtain ⟨c0,f0,l0⟩:=HH4.out.b0.rules;obtain ⟨d0,g0,m0⟩:=HH4.out.b1.rules;have HB4:=aW hb4;have hne:w.heap.size≠w2.heap.size:=Nat.ne_of_lt (Nat.lt_of_lt_of_le hx1 HW2.out);clear hb4;cases mb
   ·go_wp2;refine bodyPost_ret (v:=.tuple #[.agg #[Zs none 0 0],Zi Zq 0,Zi Zq 331]) (by simp only [results,Tryz.results22];go_simp) rfl ?_;rw [HR.out];exact oM.err (HH4.out.1.setCell (p:=⟨w.heap.size,0,none⟩) (Nat.le_refl _) _)
   ·go_wp2;refine bodyPost_ret (v:=.tuple #[.agg #[Zs A' n ca],Zi Zq 0,Zi Zq 0]) (by simp only [results,Tryz.results22];go_simp) rfl ?_;have hk:ah (NW w1) (w2.alloc (.cells #[Zs A' n ca] 24)) (w4.setCell ⟨w.heap.size,0,none⟩ (Zs A' n ca)):=ah.set (ah.of_below HB4.out) (λ k hk=>by unfold NW at hk;omega) 0 _;rw [HR.out];exact ⟨A',n,ca,css,rfl,HLS.out.1,HLS.out.2.1,HLS.out.2.2.1,RR.imp HLS.out.2.2.2.1 λ c y hc=>(SR.keep hc hk).mono λ b _ hb=>by unfold NW at hb ⊢;omega,(HLS.out.2.2.2.2.keep hk).mono λ b _ hb=>by unfold NW at hb ⊢;omega,HH4.out.1.setCell (p:=⟨w.heap.size,0,none⟩) (Nat.le_refl _) _⟩
 ·have heb:(er != 0)=true:=by simpa using he
  have HR:=aW (show o=([],pl,er) by rw [HO.out,if_pos he]);clear he;rw [HR.out];go_enter Tryz.func22,Tryz.ntmps22;go_wp2_with (go_at_call 50;refine (HLX.out _ HH0.out.1).mono ?_;rintro e w1 ⟨v,rfl,hts,hb1⟩;have HH1:=aW (HH0.out.keep hb1);obtain ⟨c0,f0,l0⟩:=HH1.out.b0.rules;clear hts hb1);refine bodyPost_ret (v:=.tuple #[.agg #[Zs none 0 0],Zi Zq pl,Zi Zq er]) (by simp only [results,Tryz.results22];go_simp) rfl ?_;exact oM.err (HH1.out.1.setCell (p:=⟨w.heap.size,0,none⟩) (Nat.le_refl _) _)
end
section
theorem pA (k:Int) (l:List EJ):bZ (eOp k l)=2+bM l:=by unfold eOp bZ;simp [cn,b8,dr,dh]
theorem xl:bZ aM=2:=by unfold aM bZ bM;simp [cn,b8,dr,dh]
theorem j6 (v:JV):bZ (fa v)=1+b8 v:=by unfold fa bZ bM;simp
theorem ow:∀ a b:List EJ,bM (a++b)=bM a+bM b
 | [],b=>by simp [bM]
 | x::r,b=>by rw [List.cons_append,bM,bM,ow r b];omega
section
variable {T:List ak} (hG:TG T)
include hG
theorem zd:∀ (n:Nat),(∀ lvl p x q,aC T n lvl p=.ok x q->bZ x+p*4010<=q*4010)/\(∀ lvl x p y q,fI T n lvl x p=.ok y q->bZ y+p*4010<=bZ x+q*4010)/\(∀ x p y q,dK T n x p=.ok y q->bZ y+p*4010<=bZ x+q*4010) /\
  (∀ p x q,bz T n p=.ok x q->bZ x+p*4010<=q*4010)/\(∀ acc p x q,dJ T n acc p=.ok x q->bZ x+p*4010<=bM acc+q*4010)
 | 0=>⟨λ lvl p x q h=>(by unfold aC at h;cases h),λ lvl x p y q h=>(by unfold fI at h;cases h),λ x p y q h=>(by unfold dK at h;cases h),λ p x q h=>(by unfold bz at h;cases h),λ acc p x q h=>by unfold dJ at h;cases h⟩
 |n+1=>by
  obtain ⟨hE,hB,hP,hA,hL⟩:=zd n;refine ⟨λ lvl p x q h=>?_,λ lvl x p y q h=>?_,λ x p y q h=>?_,λ p x q h=>?_,λ acc p x q h=>?_⟩
  ·unfold aC at h;split at h
   ·cases ho:dx T lvl p with
    | none=>rw [ho] at h;exact hE _ _ _ _ h
    |some k =>
     rw [ho] at h;simp only at h;cases hx:aC T n lvl (p+1) with
     | bad q=>rw [hx] at h;cases h
     |ok y r =>
      rw [hx] at h;injection h with h1 h2
      subst h1 h2;have:=hE _ _ _ _ hx;rw [pA];simp only [bM];omega
   ·split at h
    ·cases hx:bz T n p with
     | bad q=>rw [hx] at h;cases h
     |ok y r =>
      rw [hx] at h;have h1:=hA _ _ _ hx;have h2:=hP _ _ _ _ h;omega
    ·cases hx:aC T n (lvl+1) p with
     | bad q=>rw [hx] at h;cases h
     |ok y r =>
      rw [hx] at h;have h1:=hE _ _ _ _ hx;have h2:=hB _ _ _ _ _ h;omega
  ·unfold fI at h;cases ho:dx T lvl p with
   | none=>rw [ho] at h;injection h with h1 h2;subst h1 h2;omega
   |some k =>
    rw [ho] at h;simp only at h;cases hy:aC T n (lvl+1) (p+1) with
    | bad q=>rw [hy] at h;cases h
    |ok z r =>
     rw [hy] at h;have h1:=hE _ _ _ _ hy;have hs:bZ (eOp k [x,z])=2+(bZ x+(bZ z+0)):=by rw [pA];rfl
     simp only at h;split at h
     ·injection h with h3 h4;subst h3 h4;omega
     ·have:=hB _ _ _ _ _ h;omega
  ·unfold dK at h;split at h
   ·split at h
    ·have h1:=hP _ _ _ _ h;have h2:=(hG.2 (p+1)).1;have hs:bZ (.mk 3 cn (tkT T (p+1)) [x])=2+(tkT T (p+1)).length+(bZ x+0):=by rw [bZ,bM,bM];simp [cn,b8,dr,dh]
     omega
    ·cases h
   ·injection h with h1 h2;subst h1 h2;omega
  ·unfold bz at h;have hg:=hG.2 p;split at h
   ·injection h with h1 h2;subst h1 h2
    have hs:bZ (.mk 2 cn (tkT T p) [])=2+(tkT T p).length:=by unfold bZ bM;simp [cn,b8,dr,dh]
    omega
   split at h
   ·injection h with h1 h2;subst h1 h2
    rw [j6];simp [nr,b8,dr,dh];omega
   split at h
   ·injection h with h1 h2;subst h1 h2
    rw [j6];simp [jX,b8,dr,dh];omega
   split at h
   ·injection h with h1 h2;subst h1 h2
    rw [j6];simp [b8,dr,dh];omega
   split at h
   ·injection h with h1 h2;subst h1 h2
    rw [j6];simp [fP,b8,dr,dh];omega
   split at h
   ·injection h with h1 h2;subst h1 h2
    rw [j6];simp [fP,b8,dr,dh];omega
   split at h
   ·cases hx:aC T n 1 (p+1) with
    | bad q=>rw [hx] at h;cases h
    |ok y r =>
     rw [hx] at h;simp only at h;split at h
     ·injection h with h1 h2;subst h1 h2
      have:=hE _ _ _ _ hx;omega
     ·cases h
   split at h
   ·split at h
    ·injection h with h1 h2;subst h1 h2
     rw [pA];simp only [bM];omega
    ·have:=hL _ _ _ _ h;simp only [bM] at this;omega
   ·cases h
  ·unfold dJ at h;cases hy:aC T n 1 p with
   | bad q=>rw [hy] at h;cases h
   |ok z r =>
    rw [hy] at h;simp only at h;have h1:=hE _ _ _ _ hy;have hs:bM (acc++[z])=bM acc+(bZ z+0):=ow _ _;split at h
    ·have:=hL _ _ _ _ h;omega
    ·split at h
     ·injection h with h3 h4;subst h3 h4
      rw [pA];omega
     ·cases h
theorem zg:∀ (n:Nat),(∀ acc p x q,bt T n acc p=.ok x q->aA x+p*4010<=aA acc+q*4010)/\(∀ p x q,br T n p=.ok x q->aA x+p*4010<=q*4010)
 | 0=>⟨λ acc p x q h=>(by unfold bt at h;cases h),λ p x q h=>by unfold br at h;cases h⟩
 |n+1=>by
  obtain ⟨hS,hK⟩:=zg n;have hE:=λ p x q=>(zd hG n).1 1 p x q
  have hz:=xl;have hsn:∀ (acc:List SJ) (x:SJ),aA (acc++[x])=aA acc+(eI x+0):=λ acc x=>kN _ _
  have hmk:∀ k s a b body els,eI (.mk k s a b body els)=1+s.length+bZ a+bZ b+aA body+aA els:=λ _ _ _ _ _ _=>by rw [eI]
  have h0:aA []=0:=rfl;have h00:([]:List UInt8).length=0:=rfl;refine ⟨λ acc p x q h=>?_,λ p x q h=>?_⟩
  ·unfold bt at h;split at h
   ·cases hy:aC T n 1 (p+1) with
    | bad q=>rw [hy] at h;cases h
    |ok a r =>
     rw [hy] at h;simp only at h;split at h
     ·cases hz:aC T n 1 (r+1) with
      | bad q=>rw [hz] at h;cases h
      |ok b u =>
       rw [hz] at h;simp only at h;split at h
       ·have h1:=hE _ _ _ hy;have h2:=hE _ _ _ hz;have h3:=hS _ _ _ _ h;rw [hsn,hmk,h0,h00] at h3;omega
       ·cases h
     ·cases h
   split at h
   ·cases hy:aC T n 1 (p+1) with
    | bad q=>rw [hy] at h;cases h
    |ok a r =>
     rw [hy] at h;simp only at h;cases hv:br T n r with
     | bad q=>rw [hv] at h;cases h
     |ok body u =>
      rw [hv] at h;simp only at h;have h1:=hE _ _ _ hy;have h2:=hK _ _ _ hv;split at h
      ·cases hw:br T n (u+1) with
       | bad q=>rw [hw] at h;cases h
       |ok els t =>
        rw [hw] at h;simp only at h;have h3:=hK _ _ _ hw;have h4:=hS _ _ _ _ h;rw [hsn,hmk,hz,h00] at h4;omega
      ·have h4:=hS _ _ _ _ h;rw [hsn,hmk,hz,h0,h00] at h4;omega
   split at h
   ·split at h
    ·split at h
     ·cases hy:aC T n 1 (p+3) with
      | bad q=>rw [hy] at h;cases h
      |ok a r =>
       rw [hy] at h;simp only at h;cases hv:br T n r with
       | bad q=>rw [hv] at h;cases h
       |ok body u =>
        rw [hv] at h;simp only at h;have h1:=hE _ _ _ hy;have h2:=hK _ _ _ hv;have h4:=hS _ _ _ _ h;have h5:=(hG.2 (p+1)).1;rw [hsn,hmk,hz,h0] at h4;omega
     ·cases h
    ·cases h
   ·injection h with h1 h2;subst h1 h2;omega
  ·unfold br at h;split at h
   ·cases hy:bt T n [] (p+1) with
    | bad q=>rw [hy] at h;cases h
    |ok l r =>
     rw [hy] at h;simp only at h;split at h
     ·injection h with h1 h2;subst h1 h2
      have h3:=hS _ _ _ _ hy;rw [h0] at h3;omega
     ·cases h
   ·cases h
end
theorem uu (l:List UInt8):aA (cO l).1<=4010000:=by
 unfold cO;split
 ·exact Nat.zero_le _
 ·rename_i h
  obtain ⟨T,a,e,hl⟩:∃ T a e,gh l=(T,a,e):=⟨_,_,_,rfl⟩
  rw [hl] at h ⊢;have h0:e=0:=Decidable.byContradiction λ hn=>h hn
  subst h0;obtain ⟨hT,hG,hne⟩:=r4 hl;simp only;cases hp:gJ T with
  | bad p=>exact Nat.zero_le _
  |ok b q =>
   simp only;split
   ·rw [mJ] at hp;cases hs:eS T [] 0 with
    | bad p=>rw [hs] at hp;cases hp
    |ok l' q' =>
     rw [hs] at hp;simp only at hp;split at hp
     ·injection hp with h1 h2
      subst h1 h2;have h3:=(zg hG (pM T+1)).1 [] 0 l' q' hs;have h4:=(sV hT (acc:=[]) (List.length_pos_iff.2 hne):(eS T [] 0).In0 T 0)
      rw [hs] at h4;have h5:q'<T.length:=h4.2;have h6:=hG.1;have h7:aA []=0:=rfl;rw [h7] at h3;show aA l'<=4010000
      omega
     ·cases hp
   ·exact Nat.zero_le _
end
end Go.Proofs.YtgmnmnnoahdjnaaGreatDoor
