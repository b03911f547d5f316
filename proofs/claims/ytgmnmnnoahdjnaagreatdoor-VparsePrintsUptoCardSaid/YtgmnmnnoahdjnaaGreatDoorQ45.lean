import Derived.Test.YtgmnmnnoahdjnaaGreatDoorQ44
import Derived.Test.YtgmnmnnoahdjnaaGreatDoorQ42
open Go.Value renaming int → Zi, slice → Zs, string → Zt, pointer → Zp
open Go.IntKind renaming i64 → Zq
set_option maxRecDepth 100000
set_option maxHeartbeats 16000000
set_option linter.unusedVariables false
set_option linter.unusedSimpArgs false
namespace Go.Proofs.YtgmnmnnoahdjnaaGreatDoor
section
open Go.RowKit
attribute [local go_sem] aa ac ae ab
theorem qP (p q s:Addr) (w:World) :
  CallsD Tryz.prog 85 #[Zp (some p),Zp (some q),Zp (some s)] .returning w λ e u' w'=>e=.returned (.tuple #[])/\u'=.returning/\w'=w:=by
 refine callsD_of_wpS Tryz.func85 rfl λ c₀ cs hu=>?_
 simp only [Tryz.ntmps85,List.size_toArray,List.length_cons,List.length_nil,Nat.reduceAdd,Nat.reduceSub,Array.replicate_succ,
   Array.replicate_zero,List.push_toArray,List.append_toArray,List.nil_append,List.cons_append]
 apply wpS_seq;apply wpS_region;simp [wpOpsS,go_sem,recoverD,hu,Exit.thenS];refine wpS_of_wp ?_;go_wp2;cases c₀
 simp_all [bodyPostS,results,Tryz.results85]
theorem j4 (b d f:Nat) (x:Int) (c c' c'':Value) (w:World) (hbd:b≠d) (hbf:b≠f) (hdf:d≠f) (hp:w.cell? ⟨b,0,none⟩=some c) (hz:w.frozen? ⟨b,0,none⟩=false) (hq:w.cell? ⟨d,0,none⟩=some c') (hy:w.frozen? ⟨d,0,none⟩=false) (hr:w.cell? ⟨f,0,none⟩=some c'') (hx:w.frozen? ⟨f,0,none⟩=false) :
  CallsD Tryz.prog 85 #[Zp (some ⟨b,0,none⟩),Zp (some ⟨d,0,none⟩),Zp (some ⟨f,0,none⟩)] (.panicking [{ v:=.iface 117 (Zi Zq x),recovered:=false }]) w λ e u' w' =>
   e=.returned (.tuple #[])/\u'=.panicking [{ v:=.iface 117 (Zi Zq x),recovered:=true }]/\w'=((w.setCell ⟨b,0,none⟩ (Zs none 0 0)).setCell ⟨d,0,none⟩ (Zi Zq x)).setCell ⟨f,0,none⟩ (Zi Zq 330):=by
 have hta:∀ w:World,(Instr.typeAssert (.iface 117 (Zi Zq x)) 20 117 true).run Tryz.prog w=.ok (.tuple #[Zi Zq x,.bool true]) w:=λ _=>by kernel_rfl
 refine callsD_of_wpS Tryz.func85 rfl λ c₀ cs hu=>?_
 simp only [Tryz.ntmps85,List.size_toArray,List.length_cons,List.length_nil,Nat.reduceAdd,Nat.reduceSub,Array.replicate_succ,
   Array.replicate_zero,List.push_toArray,List.append_toArray,List.nil_append,List.cons_append]
 apply wpS_seq;apply wpS_region;simp [wpOpsS,go_sem,recoverD,hu,Exit.thenS];refine wpS_of_wp ?_;go_wp2;simp [bodyPostS,results,Tryz.results85]
def uL (r:PR (List SJ)) (T:List aq) (w:World) (e:Ending) (w':World):Prop:=match r with
 | .ok l q => ∃ (A':Option Addr) (n ca:Nat) (css:List (List Value)),e=.returned (.tuple #[.agg #[Zs A' n ca],Zi Zq 0,Zi Zq 0])/\n=l.length/\n<=ca/\(A'=none->ca=0)/\SRs w' (NW w) css l/\RdF w' (NW w) A' css.flatten/\Below w.heap.size w w'
 | .bad q=>e=.returned (.tuple #[.agg #[Zs none 0 0],Zi Zq (tkA T q:Nat),Zi Zq 330])/\Below w.heap.size w w'
theorem yk (T:List aq) (A:Option Addr) (nT cap:Nat) (w:World) (hT:WT T) (hG:GOE w) (hR:Rd w A (bz T)) (hn:nT<=1000) (hl:T.length=nT) (h0:0<nT) (hc:nT<=cap) :
  Calls Tryz.prog 51 #[Zs A nT cap] w (uL (jn T) T w):=by
 have hmf:∀ (fn:Fn) (first cap:Array Value) (w:World),(Instr.makeFunc fn first cap).run Tryz.prog w=.ok (.func fn first cap) w:=λ _ _ _ _=>rfl
 have HG:=aW hG;have HR:=aW hR;have HL:=aW hl;clear hG hR hl;obtain ⟨B1,hB1⟩:∃ b,w.heap.size+1=b:=⟨_,rfl⟩
 obtain ⟨B2,hB2⟩:∃ b,B1+1=b:=⟨_,rfl⟩
 obtain ⟨g,hg⟩:∃ b,B2+1=b:=⟨_,rfl⟩
 obtain ⟨W0,hW0⟩:∃ W',((((w.alloc (.cells #[Zs none 0 0] 24)).alloc (.cells #[Zi Zq 0] 3)).alloc (.cells #[Zi Zq 0] 27)).alloc (.cells #[Zi Zq 0,Zs A nT cap] 123))=W':=⟨_,rfl⟩
 have hb0:Below w.heap.size w W0:=by rw [← hW0];exact ((((Below.refl _ w).alloc (Nat.le_refl _) _).alloc (by simp) _).alloc (by simp;omega) _).alloc (by simp;omega) _
 have HP0:=aW (show Blk W0 w.heap.size 24 #[Zs none 0 0]/\Blk W0 B1 3 #[Zi Zq 0]/\Blk W0 B2 27 #[Zi Zq 0] by
  have h1:=Blk.new w 24 #[Zs none 0 0];have h2:=Blk.new (w.alloc (.cells #[Zs none 0 0] 24)) 3 #[Zi Zq 0];have h3:=Blk.new ((w.alloc (.cells #[Zs none 0 0] 24)).alloc (.cells #[Zi Zq 0] 3)) 27 #[Zi Zq 0];simp only [World.size_alloc,hB1,hB2] at h2 h3;rw [← hW0];exact ⟨((h1.alloc _).alloc _).alloc _,(h2.alloc _).alloc _,h3.alloc _⟩)
 have HVP:=aW (show VP W0 g A nT cap T 0 from ⟨by
   have h4:=Blk.new (((w.alloc (.cells #[Zs none 0 0] 24)).alloc (.cells #[Zi Zq 0] 3)).alloc (.cells #[Zi Zq 0] 27)) 123 #[Zi Zq 0,Zs A nT cap];simp only [World.size_alloc,hB1,hB2,hg] at h4;rw [← hW0];exact h4,λ hne=>by
   obtain ⟨b,o,e,hb,hc⟩:=HR.out hne;refine ⟨b,o,e,Nat.lt_of_lt_of_le hb hb0.size,by omega,λ i hi=>?_⟩;exact (hb0.cell (p:=⟨b,o+i,none⟩) hb).trans (hc i hi),HL.out,w,HG.out,by omega,hb0⟩)
 have HBS:=aW (And.intro hB1 (And.intro hB2 hg));have HB0:=aW hb0;have hst:=sL g A nT cap T hT hn 0 W0 HVP.out h0;have HSP:=aW (qM T);obtain ⟨r,hr⟩:∃ r,jn T=r:=⟨_,rfl⟩
 rw [hr] at HSP ⊢;have hgs:g≠w.heap.size/\g≠B1/\g≠B2:=by omega
 have hbs:w.heap.size≠B1/\w.heap.size≠B2/\B1≠B2:=by omega
 clear hr hb0;cases hrs:eS T [] 0 with
 |bad q =>
  have HRR:=aW (show r=.bad q by rw [HSP.out,hrs]);rw [hrs] at hst;unfold jr aQ at hst;have HST:=aW hst;clear hst hrs
  go_enter_defers Tryz.func51,Tryz.ntmps51
  go_wp2_with fail;refine HST.out.mono ?_;rintro e w2 ⟨rfl,hg2⟩;have c0:=HP0.out.1.grown hg2 (by simp;omega);have c1:=HP0.out.2.1.grown hg2 (by simp;omega);have c2:=HP0.out.2.2.grown hg2 (by simp;omega);refine leaves_cons (f:=85) (args:=#[Zp (some ⟨w.heap.size,0,none⟩),Zp (some ⟨B1,0,none⟩),Zp (some ⟨B2,0,none⟩)]) (by simp) (by simp [go_sem]) ?_;refine (j4 w.heap.size B1 B2 (tkA T q:Nat) _ _ _ w2 hbs.1 hbs.2.1 hbs.2.2 (c0.cell 0) (c0.frozen 0) (c1.cell 0) (c1.frozen 0) (c2.cell 0) (c2.frozen 0)).mono ?_;rintro e u' w3 ⟨rfl,rfl,rfl⟩;have d0:=(c0.set_ 0 (Zs none 0 0))
  refine ⟨.tuple #[.agg #[Zs none 0 0],Zi Zq (tkA T q:Nat),Zi Zq 330],?_,?_⟩
  ·obtain ⟨x0,x1,x2⟩:=c0.rules;obtain ⟨y0,y1,y2⟩:=c1.rules;obtain ⟨z0,z1,z2⟩:=c2.rules;simp only [results,Tryz.results51];go_simp
  ·rw [HRR.out];have hB:=HBS.out;have hbw:Below w.heap.size w w2:=HB0.out.grown hg2 HB0.out.size (λ k e=>by injection e with e;omega);exact ⟨rfl,((hbw.setCell (p:=⟨w.heap.size,0,none⟩) (Nat.le_refl _) _).setCell (p:=⟨B1,0,none⟩) (by show w.heap.size<=B1;omega) _).setCell (p:=⟨B2,0,none⟩) (by show w.heap.size<=B2;omega) _⟩
 |ok l q =>
  have hq:=(vk hT (acc:=[]) (p:=0) (by rw [HL.out];exact h0):(eS T [] 0).In0 T 0)
  rw [hrs] at hq;have hqn:q<nT:=by have h9:=hq.2;rw [HL.out] at h9;exact h9
  have HRQ:=aW (show r=if tkK T q=6 then .ok l q else .bad q by rw [HSP.out,hrs]);rw [hrs] at hst;unfold jr at hst;have HST:=aW hst;clear hst hrs hq;have hqi:(q:Int)<(nT:Int):=by omega
  go_enter_defers Tryz.func51,Tryz.ntmps51
  go_wp2_with fail;refine HST.out.mono ?_;rintro e w2 ⟨A3,n3,c3,css3,rfl,hl1,hl2,hl3,hl4,hl5,hv2,hg2⟩;have HLS:=aW (And.intro hl1 (And.intro hl2 (And.intro hl3 (And.intro hl4 hl5))));have hB:=HBS.out;have hbw:Below w.heap.size w w2:=HB0.out.grown hg2 HB0.out.size (λ k e=>by injection e with e;omega);have HC2:=aW (And.intro (HP0.out.1.grown hg2 (by simp;omega)) (And.intro (HP0.out.2.1.grown hg2 (by simp;omega)) (HP0.out.2.2.grown hg2 (by simp;omega))));have HV2:=aW hv2;have HBW:=aW hbw;have HGB:=aW hg2;obtain ⟨x0,x1,x2⟩:=HC2.out.1.rules;clear hl1 hl2 hl3 hl4 hl5 hv2 hg2 hbw hB;go_upto_region 4 with fail;obtain ⟨W3,hW3⟩:∃ W',w2.setCell ⟨w.heap.size,0,none⟩ (Zs A3 n3 c3)=W':=⟨_,rfl⟩
  rw [hW3];have hbw3:Below w.heap.size w W3:=by rw [← hW3];exact HBW.out.setCell (p:=⟨w.heap.size,0,none⟩) (Nat.le_refl _) _
  have HC3:=aW (show Blk W3 w.heap.size 24 #[Zs A3 n3 c3]/\Blk W3 B1 3 #[Zi Zq 0]/\Blk W3 B2 27 #[Zi Zq 0] by
   rw [← hW3];exact ⟨HC2.out.1.set_ 0 _,HC2.out.2.1.far (p:=⟨w.heap.size,0,none⟩) (Ne.symm hbs.1) _,HC2.out.2.2.far (p:=⟨w.heap.size,0,none⟩) (Ne.symm hbs.2.1) _⟩)
  have hv3:VP W3 g A nT cap T q:=⟨by rw [← hW3];exact HV2.out.blk.far (p:=⟨w.heap.size,0,none⟩) hgs.1 _,λ hne=>by
   obtain ⟨b,o,e,hb,hc⟩:=HR.out hne;refine ⟨b,o,e,Nat.lt_of_lt_of_le hb hbw3.size,by have:=HBS.out;omega,λ i hi=>?_⟩;exact (hbw3.cell (p:=⟨b,o+i,none⟩) hb).trans (hc i hi),HL.out,w,HG.out,by have:=HBS.out;omega,hbw3⟩
  have HL3:=aW (show SRs W3 (NW W0) css3 l/\RdF W3 (NW W0) A3 css3.flatten by
   have hk:ah (NW W0) w2 W3:=by rw [← hW3];exact ah.set ah.refl (λ k hk=>by have:=HP0.out.1.lt;unfold NW at hk;omega) 0 _
   exact ⟨RR.imp HLS.out.2.2.2.1 λ c y hc=>SR.keep hc hk,HLS.out.2.2.2.2.keep hk⟩)
  have HV3:=aW hv3;have HBW3:=aW hbw3;clear hW3 x0 x1 x2 HC2 HV2 HBW HGB;obtain ⟨b,o,rfl,hb,hbg,z0,z1,z2,z3⟩:=hv3.tok hqn;obtain ⟨c0,f0,l0⟩:=hv3.blk.rules;clear hv3 hbw3 z1 z2 z3;by_cases hk:tkK T q=6
  ·have HRR:=aW (show r=.ok l q by rw [HRQ.out,if_pos hk]);rw [hk] at z0;clear hk;refine wp_region_noPanic ?_;go_quiet (fail);refine NoPanic.normal ?_;have d0:=(HC3.out.1.drewN nq)
   have d1:=(HC3.out.2.1.drewN nq)
   have d2:=(HC3.out.2.2.drewN nq)
   obtain ⟨x0,x1,x2⟩:=d0.rules;obtain ⟨u0,u1,u2⟩:=d1.rules;obtain ⟨v0,v1,v2⟩:=d2.rules;go_wp2;refine leaves_cons (f:=85) (args:=#[Zp (some ⟨w.heap.size,0,none⟩),Zp (some ⟨B1,0,none⟩),Zp (some ⟨B2,0,none⟩)]) (by simp) (by simp [go_sem]) ?_;refine (qP ⟨w.heap.size,0,none⟩ ⟨B1,0,none⟩ ⟨B2,0,none⟩ _).mono ?_;rintro e u' w5 ⟨rfl,rfl,rfl⟩;refine ⟨.tuple #[.agg #[Zs A3 n3 c3],Zi Zq 0,Zi Zq 0],?_,?_⟩
   ·simp only [results,Tryz.results51];go_simp
   ·rw [HRR.out];have hb0s:=HP0.out.1.lt;have hb1s:=HP0.out.2.1.lt;have hb2s:=HP0.out.2.2.lt;have hk:ah (NW W0) W3 ((((W3.drewN nq).setCell ⟨w.heap.size,0,none⟩ (Zs A3 n3 c3)).setCell ⟨B1,0,none⟩ (Zi Zq 0)).setCell ⟨B2,0,none⟩ (Zi Zq 0)) :=
     (((ah.of_below (aj (Below.refl _ W3) nq)).set (λ k hk=>by unfold NW at hk;omega) 0 _).set (λ k hk=>by unfold NW at hk;omega) 0 _).set (λ k hk=>by unfold NW at hk;omega) 0 _
    have hm:∀ b,NW W0 b->NW w b:=λ b hb=>Nat.le_trans HB0.out.size hb
    have hB:=HBS.out;exact ⟨A3,n3,c3,css3,rfl,HLS.out.1,HLS.out.2.1,HLS.out.2.2.1,RR.imp HL3.out.1 λ c y hc=>(SR.keep hc hk).mono λ b _ hb=>hm b hb,(HL3.out.2.keep hk).mono λ b _ hb=>hm b hb,
     (((aj HBW3.out nq).setCell (p:=⟨w.heap.size,0,none⟩) (Nat.le_refl _) _).setCell (p:=⟨B1,0,none⟩) (by show w.heap.size<=B1;omega) _).setCell (p:=⟨B2,0,none⟩) (by show w.heap.size<=B2;omega) _⟩
  ·have HRR:=aW (show r=.bad q by rw [HRQ.out,if_neg hk]);obtain ⟨kk,hkk⟩:∃ k,tkK T q=k:=⟨_,rfl⟩
   rw [hkk] at z0 hk;have hkb:(kk != 6)=true:=by simpa using hk
   clear hk hkk;have hfa:=λ W (h:Below W3.heap.size W3 W)=>jg W g (some ⟨b,o,none⟩) nT cap T q (HV3.out.keep h) hqn hn
   unfold aQ at hfa;have HFA:=aW hfa;clear hfa;refine wp_region_noPanic ?_;go_quiet (fail);refine NoPanic.normal ?_;go_wp2_with fail;refine (HFA.out _ (aj (Below.refl _ _) _)).mono ?_;rintro e w4 ⟨rfl,hb4⟩;have hb34:Below W3.heap.size W3 w4:=(aj (Below.refl _ W3) nq).trans hb4;have d0:=HC3.out.1.keep hb34;have d1:=HC3.out.2.1.keep hb34;have d2:=HC3.out.2.2.keep hb34;refine leaves_cons (f:=85) (args:=#[Zp (some ⟨w.heap.size,0,none⟩),Zp (some ⟨B1,0,none⟩),Zp (some ⟨B2,0,none⟩)]) (by simp) (by simp [go_sem]) ?_;refine (j4 w.heap.size B1 B2 (tkA T q:Nat) _ _ _ w4 hbs.1 hbs.2.1 hbs.2.2 (d0.cell 0) (d0.frozen 0) (d1.cell 0) (d1.frozen 0) (d2.cell 0) (d2.frozen 0)).mono ?_;rintro e u' w5 ⟨rfl,rfl,rfl⟩;refine ⟨.tuple #[.agg #[Zs none 0 0],Zi Zq (tkA T q:Nat),Zi Zq 330],?_,?_⟩
   ·obtain ⟨x0,x1,x2⟩:=d0.rules;obtain ⟨y0,y1,y2⟩:=d1.rules;obtain ⟨z0,z1,z2⟩:=d2.rules;simp only [results,Tryz.results51];go_simp
   ·rw [HRR.out];have hB:=HBS.out;have hbw:Below w.heap.size w w4:=HBW3.out.trans (hb34.mono HBW3.out.size);exact ⟨rfl,((hbw.setCell (p:=⟨w.heap.size,0,none⟩) (Nat.le_refl _) _).setCell (p:=⟨B1,0,none⟩) (by show w.heap.size<=B1;omega) _).setCell (p:=⟨B2,0,none⟩) (by show w.heap.size<=B2;omega) _⟩
def pc (o:List SJ × Int × Int) (w:World) (e:Ending) (w':World):Prop:=∃ (A:Option Addr) (n ca:Nat) (css:List (List Value)),e=.returned (.tuple #[.agg #[Zs A n ca],Zi Zq o.2.1,Zi Zq o.2.2])/\n=o.1.length/\n<=ca/\(A=none->ca=0)/\SRs w' (NW w) css o.1/\RdF w' (NW w) A css.flatten/\Below w.heap.size w w'
theorem pc.err {at_ e:Int} {w w':World} (h:Below w.heap.size w w'):pc ([],at_,e) w (.returned (.tuple #[.agg #[Zs none 0 0],Zi Zq at_,Zi Zq e])) w' :=
 ⟨none,0,0,[],rfl,rfl,Nat.le_refl _,λ _=>rfl,RR.nil,RdF.nil,h⟩
def AK (T:List aq):PR (List SJ)->List SJ × Int × Int
 | .bad p=>([],(tkA T p:Nat),330)
 | .ok b _=>if ie b=true then (b,0,0) else ([],0,331)
theorem oE {T:List aq} (hT:WT T) (hG:TG T) (h0:0<T.length) {l:List SJ} {q:Nat} (h:jn T=.ok l q):a9 l/\l.length<=1000:=by
 rw [qM] at h;cases hs:eS T [] 0 with
 | bad p=>rw [hs] at h;cases h
 |ok l' q' =>
  rw [hs] at h;simp only at h;split at h
  ·injection h with h1 h2
   subst h1 h2;have h3:=(yJ hT hG (pM T+1)).1 [] 0 l' q' h0 (Nat.le_refl _) trivial hs;have h4:=(vk hT (acc:=[]) h0:(eS T [] 0).In0 T 0)
   rw [hs] at h4;have:=h4.2;have:=hG.1;exact ⟨h3.1,by omega⟩
  ·cases h
theorem kS (s:ByteArray) (w:World) (hG:GOE w) (hs:s.size<=4194304):Calls Tryz.prog 22 #[Zt s] w (pc (dU (sl s)) w):=by
 obtain ⟨o,ho⟩:∃ o,dU (sl s)=o:=⟨_,rfl⟩
 rw [ho];obtain ⟨⟨T,pl,er⟩,hlx⟩:∃ r,iK (sl s)=r:=⟨_,rfl⟩
 have HO:=aW (show o=(if er≠0 then ([],pl,er) else AK T (jn T)) by rw [← ho];unfold dU;rw [hlx];rfl);have HLX:=aW (λ W (h:Below w.heap.size w W)=>(show Calls Tryz.prog 50 #[Zt s] W (lJ (T,pl,er) W) from hlx ▸ xy s W ((hG.keep h).gok) hs));have HWT:=aW (λ (h:er=0)=>vF (l:=sl s) (T:=T) (a:=pl) (by rw [hlx,h]));have HG:=aW hG;clear ho hlx hG;unfold lJ at HLX;have HH0:=aW ((aH.nil w).push 24 #[Zs none 0 0] (g:=w.heap.size) rfl);by_cases he:er=0
 ·obtain ⟨hT,hTG,hTn⟩:=HWT.out he;subst he;obtain ⟨nT,hnT⟩:∃ n,T.length=n:=⟨_,rfl⟩
  have hn:nT<=1000:=by rw [← hnT];exact hTG.1
  have h0:0<nT:=by rw [← hnT];exact List.length_pos_iff.2 hTn
  have HPA:=aW (λ A cap W (h:Below w.heap.size w W) (hR:Rd W A (bz T)) (hc:nT<=cap)=>yk T A nT cap W hT (HG.out.keep h) hR hn hnT h0 hc);have HPC:=aW (λ l q (h:jn T=.ok l q)=>oE hT hTG (by rw [hnT];exact h0) h);have HNT:=aW hnT;obtain ⟨rP,hrP⟩:∃ r,jn T=r:=⟨_,rfl⟩
  have HO1:=aW (show o=AK T rP by rw [HO.out,if_neg (λ h=>h rfl),hrP]);rw [hrP] at HPA HPC;clear hT hTG hTn hn h0 hnT hrP HWT HO;cases rP with
  |bad q =>
   have HR:=aW (show o=(([]:List SJ),((tkA T q:Nat):Int),(330:Int)) from HO1.out);rw [HR.out];unfold uL at HPA;go_enter Tryz.func22,Tryz.ntmps22;go_wp2_with (go_at_call 50;refine (HLX.out _ HH0.out.1).mono ?_;rintro e w1 ⟨v,rfl,⟨A1,cap1,rfl,hcap1,hrd1⟩,hb1⟩;have HH1:=aW (HH0.out.keep hb1);rw [HNT.out] at hcap1;rw [HNT.out]);go_wp2_with fail;refine (HPA.out A1 cap1 _ HH1.out.1 hrd1 hcap1).mono ?_;rintro e w2 ⟨rfl,hb2⟩;have HH2:=aW (HH1.out.keep hb2);obtain ⟨c0,f0,l0⟩:=HH2.out.b0.rules;clear hb2 hrd1 hb1;go_wp2;refine bodyPost_ret (v:=.tuple #[.agg #[Zs none 0 0],Zi Zq (tkA T q:Nat),Zi Zq 330]) (by simp only [results,Tryz.results22];go_simp) rfl ?_;exact pc.err ((HH2.out.1.setCell (p:=⟨w.heap.size,0,none⟩) (Nat.le_refl _) _).alloc (by have:=HH2.out.1.size;simpa [World.setCell] using this) _)
  |ok l q =>
   obtain ⟨hcam,hl9⟩:=HPC.out l q rfl;have HCM:=aW (And.intro hcam hl9);obtain ⟨mb,hmb⟩:∃ b,ie l=b:=⟨_,rfl⟩
   have HR:=aW (show o=if mb=true then (l,(0:Int),(0:Int)) else (([]:List SJ),(0:Int),(331:Int)) by rw [HO1.out,← hmb];rfl);have HPE:=aW (show mS l=if mb=true then 0 else 332 by unfold mS;rw [hmb]);unfold uL at HPA;clear hcam hl9 hmb HPC HO1;go_enter Tryz.func22,Tryz.ntmps22;go_wp2_with (go_at_call 50;refine (HLX.out _ HH0.out.1).mono ?_;rintro e w1 ⟨v,rfl,⟨A1,cap1,rfl,hcap1,hrd1⟩,hb1⟩;have HH1:=aW (HH0.out.keep hb1);rw [HNT.out] at hcap1;rw [HNT.out]);go_wp2_with fail;refine (HPA.out A1 cap1 _ HH1.out.1 hrd1 hcap1).mono ?_;rintro e w2 ⟨A',n,ca,css,rfl,hl1,hl2,hl3,hl4,hl5,hb2⟩;have HH3:=aW ((HH1.out.keep hb2).push 24 #[Zs A' n ca] (g:=w2.heap.size) rfl);have hx1:w.heap.size<w1.heap.size:=HH1.out.b0.lt;have hz:Below w2.heap.size w2 (w2.alloc (.cells #[Zs A' n ca] 24)):=(Below.refl _ w2).alloc (Nat.le_refl _) _;have HCK:=aW (pm l css A' n ca (NW w1) (w2.alloc (.cells #[Zs A' n ca] 24)) (HG.out.keep HH3.out.1) (RR.imp hl4 λ c y hc=>SR.bel hc hz) hl1.symm hl2 (hl5.keep (ah.of_below hz)) HCM.out.1 (by have:=HCM.out.2;omega));unfold tM at HCK;rw [HPE.out] at HCK;have HLS:=aW (And.intro hl1 (And.intro hl2 (And.intro hl3 (And.intro (RR.imp hl4 λ c y hc=>SR.bel hc hz) (hl5.keep (ah.of_below hz))))));have HW2:=aW hb2.size;clear hl1 hl2 hl3 hl4 hl5 hb2 hrd1 hb1 hz;go_wp2_with fail;refine HCK.out.mono ?_;rintro e w4 ⟨rfl,hb4⟩;have HH4:=aW (HH3.out.keep hb4);obtain ⟨c0,f0,l0⟩:=HH4.out.b0.rules;obtain ⟨d0,g0,m0⟩:=HH4.out.b1.rules;have HB4:=aW hb4;have hne:w.heap.size≠w2.heap.size:=Nat.ne_of_lt (Nat.lt_of_lt_of_le hx1 HW2.out);clear hb4;cases mb
   ·go_wp2;refine bodyPost_ret (v:=.tuple #[.agg #[Zs none 0 0],Zi Zq 0,Zi Zq 331]) (by simp only [results,Tryz.results22];go_simp) rfl ?_;rw [HR.out];exact pc.err (HH4.out.1.setCell (p:=⟨w.heap.size,0,none⟩) (Nat.le_refl _) _)
   ·go_wp2;refine bodyPost_ret (v:=.tuple #[.agg #[Zs A' n ca],Zi Zq 0,Zi Zq 0]) (by simp only [results,Tryz.results22];go_simp) rfl ?_;have hk:ah (NW w1) (w2.alloc (.cells #[Zs A' n ca] 24)) (w4.setCell ⟨w.heap.size,0,none⟩ (Zs A' n ca)):=ah.set (ah.of_below HB4.out) (λ k hk=>by unfold NW at hk;omega) 0 _;rw [HR.out];exact ⟨A',n,ca,css,rfl,HLS.out.1,HLS.out.2.1,HLS.out.2.2.1,RR.imp HLS.out.2.2.2.1 λ c y hc=>(SR.keep hc hk).mono λ b _ hb=>by unfold NW at hb ⊢;omega,(HLS.out.2.2.2.2.keep hk).mono λ b _ hb=>by unfold NW at hb ⊢;omega,HH4.out.1.setCell (p:=⟨w.heap.size,0,none⟩) (Nat.le_refl _) _⟩
 ·have heb:(er != 0)=true:=by simpa using he
  have HR:=aW (show o=([],pl,er) by rw [HO.out,if_pos he]);clear he;rw [HR.out];go_enter Tryz.func22,Tryz.ntmps22;go_wp2_with (go_at_call 50;refine (HLX.out _ HH0.out.1).mono ?_;rintro e w1 ⟨v,rfl,hts,hb1⟩;have HH1:=aW (HH0.out.keep hb1);obtain ⟨c0,f0,l0⟩:=HH1.out.b0.rules;clear hts hb1);refine bodyPost_ret (v:=.tuple #[.agg #[Zs none 0 0],Zi Zq pl,Zi Zq er]) (by simp only [results,Tryz.results22];go_simp) rfl ?_;exact pc.err (HH1.out.1.setCell (p:=⟨w.heap.size,0,none⟩) (Nat.le_refl _) _)
theorem ui (l:List UInt8):a9 (dU l).1/\(dU l).1.length<=1000:=by
 unfold dU;split
 ·exact ⟨trivial,Nat.zero_le _⟩
 ·rename_i h
  obtain ⟨T,a,e,hl⟩:∃ T a e,iK l=(T,a,e):=⟨_,_,_,rfl⟩
  rw [hl] at h ⊢;have h0:e=0:=Decidable.byContradiction λ hn=>h hn
  subst h0;obtain ⟨hT,hG,hne⟩:=vF hl;simp only;cases hp:jn T with
  | bad p=>exact ⟨trivial,Nat.zero_le _⟩
  |ok b q =>
   have h1:=oE hT hG (List.length_pos_iff.2 hne) hp;simp only;split
   ·exact h1
   ·exact ⟨trivial,Nat.zero_le _⟩
theorem Ae:decide (bt (aw (dU jo).1)<=100000)=true:=by kernel_rfl
def yK:List UInt8:=[105,102,32,110,111,116,32,97,61,61,49,32,97,110,100,40,98,32,111,114,32,99,41,123,101,109,105,116,32,49,32,46,120,44,48,59,125]
theorem SR.zero {W:World} {F:Nat->Prop}:SR W F [Zi Zq 0,Zt ⟨#[]⟩,Zi Zq 0,Zi Zq 0,Zi Zq 0,Zt ⟨#[]⟩,Zs none 0 0,Zs none 0 0,Zt ⟨#[]⟩,Zs none 0 0,Zi Zq 0,Zi Zq 0,Zi Zq 0,Zt ⟨#[]⟩,Zs none 0 0,Zs none 0 0,Zt ⟨#[]⟩,Zs none 0 0,Zs none 0 0,Zs none 0 0] (.mk 0 [] bQ bQ [] []) :=
 SR.into (k:=0) (s:=[]) (acs:=[Zi Zq 0,Zi Zq 0,Zi Zq 0,Zt ⟨#[]⟩,Zs none 0 0,Zs none 0 0,Zt ⟨#[]⟩,Zs none 0 0]) (bcs:=[Zi Zq 0,Zi Zq 0,Zi Zq 0,Zt ⟨#[]⟩,Zs none 0 0,Zs none 0 0,Zt ⟨#[]⟩,Zs none 0 0]) (css:=[]) (dss:=[]) ER.zero ER.zero RR.nil rfl (Nat.le_refl _) (λ _=>rfl) RdF.nil RR.nil rfl (Nat.le_refl _) (λ _=>rfl) RdF.nil
theorem xC (w:World) (hG:GOE w):Calls Tryz.prog 14 #[] w (λ e w'=>e=.returned (.bool true)/\Below w.heap.size w w'):=by
 obtain ⟨l,hl⟩:∃ l,(dU jo).1=l:=⟨_,rfl⟩
 have hc:=(ui jo).1;have hsh:=wN;have hok:=Bh;have hmy:=Af;have htx:=yp;have hln:=Ae;rw [hl] at hc hsh hmy htx hln;rw [decide_eq_true_eq] at hln;have h1:dU jo=(l,0,0):=Prod.ext hl hok;obtain ⟨s,a,b,x,els,rfl⟩:∃ s a b x els,l=[.mk 2 s a b [x] els]:=by
  match l,hsh with
  |[.mk k s a b body els],h =>
   simp only [decide_eq_true_eq] at h;obtain ⟨rfl,h⟩:=h;obtain ⟨x,rfl⟩:=List.length_eq_one_iff.1 h;exact ⟨s,a,b,x,els,rfl⟩
 have HPR:=aW (show dV [.mk 2 s a b [x] els]=(yK,0) by unfold dV;rw [if_pos hmy,htx];rfl);have HP1:=aW (λ W (h:Below w.heap.size w W)=>kS ⟨jo.toArray⟩ W (hG.keep h) (by decide));rw [eQ,h1] at HP1;have HP2:=aW (λ W (h:Below w.heap.size w W)=>kS ⟨#[101,109,105,116,32,97,32,60,32,98,32,60,32,99,44,32,49,59]⟩ W (hG.keep h) (by decide));rw [show sl ⟨#[101,109,105,116,32,97,32,60,32,98,32,60,32,99,44,32,49,59]⟩=[101,109,105,116,32,97,32,60,32,98,32,60,32,99,44,32,49,59] from rfl] at HP2;have HP3:=aW (λ W (h:Below w.heap.size w W)=>kS ⟨#[101,109,105,116,32,49,44,32,50]⟩ W (hG.keep h) (by decide));rw [show sl ⟨#[101,109,105,116,32,49,44,32,50]⟩=[101,109,105,116,32,49,44,32,50] from rfl] at HP3;unfold pc at HP1 HP2 HP3;rw [Ag] at HP2;rw [Ad] at HP3;unfold jo at HP1;have HPT:=aW (λ (W:World) (A:Option Addr) (n ca:Nat) (css:List (List Value)) (F:Nat->Prop) (h:Below w.heap.size w W) (hS:SRs W F css [.mk 2 s a b [x] els]) (hn:n=1) (hca:n<=ca) (hR:RdF W F A css.flatten)=>wJ [.mk 2 s a b [x] els] css A n ca F W (hG.keep h) hS (by rw [hn];rfl) hca hR hc (by omega) (by omega));unfold wZ at HPT;rw [HPR.out] at HPT;unfold yK at HPT;have HCK:=aW (λ (W:World) (h:Below w.heap.size w W) (p:Nat) (hp:p=W.heap.size)=>pm [.mk 0 [] bQ bQ [] []] [[Zi Zq 0,Zt ⟨#[]⟩,Zi Zq 0,Zi Zq 0,Zi Zq 0,Zt ⟨#[]⟩,Zs none 0 0,Zs none 0 0,Zt ⟨#[]⟩,Zs none 0 0,Zi Zq 0,Zi Zq 0,Zi Zq 0,Zt ⟨#[]⟩,Zs none 0 0,Zs none 0 0,Zt ⟨#[]⟩,Zs none 0 0,Zs none 0 0,Zs none 0 0]] (some ⟨p,0,none⟩) 1 1 (λ _=>True)
  (W.alloc (.cells #[Zi Zq 0,Zt ⟨#[]⟩,Zi Zq 0,Zi Zq 0,Zi Zq 0,Zt ⟨#[]⟩,Zs none 0 0,Zs none 0 0,Zt ⟨#[]⟩,Zs none 0 0,Zi Zq 0,Zi Zq 0,Zi Zq 0,Zt ⟨#[]⟩,Zs none 0 0,Zs none 0 0,Zt ⟨#[]⟩,Zs none 0 0,Zs none 0 0,Zs none 0 0] 48)) (hG.keep (h.alloc h.size _)) (RR.nil.snoc SR.zero) rfl (Nat.le_refl _) (by subst hp;exact RdF.of_blkP (Blk.new W 48 #[Zi Zq 0,Zt ⟨#[]⟩,Zi Zq 0,Zi Zq 0,Zi Zq 0,Zt ⟨#[]⟩,Zs none 0 0,Zs none 0 0,Zt ⟨#[]⟩,Zs none 0 0,Zi Zq 0,Zi Zq 0,Zi Zq 0,Zt ⟨#[]⟩,Zs none 0 0,Zs none 0 0,Zt ⟨#[]⟩,Zs none 0 0,Zs none 0 0,Zs none 0 0]) trivial)
  (by unfold a9 fX;exact ⟨⟨by decide,by simp,gv,gv,by simp,by simp,trivial,trivial⟩,trivial⟩) (by decide))
 rw [show mS [.mk 0 [] bQ bQ [] []]=332 from rfl] at HCK;unfold tM at HCK;have HW:=aW (Below.refl w.heap.size w);clear hl hc hsh hok hmy htx hln h1 HPR;go_enter Tryz.func14,Tryz.ntmps14;go_upto_region 2 with (go_at_call 22;refine (HP1.out _ HW.out).mono ?_;rintro e w1 ⟨A,n,ca,css,rfl,hn,hca,hA,hS,hR,hb1⟩;simp only [List.length_cons,List.length_nil,Nat.zero_add] at hn;subst hn);obtain ⟨W2,hW2⟩:∃ W',w1.alloc (.cells #[Zs A 1 ca] 24)=W':=⟨_,rfl⟩
 have hb2:Below w1.heap.size w1 W2:=by rw [← hW2];exact (Below.refl _ _).alloc (Nat.le_refl _) _
 obtain ⟨bl,o,ka,kva,nva,sva,Ava,nka,cka,Bva,nya,cya,sa,Ca,nxa,cxa,kb,kvb,nvb,svb,Avb,nkb,ckb,Bvb,nyb,cyb,sb,Cb,nxb,cxb,BA,LA,cb,cl,bss,lss,rfl,hbl,_,_,_,_,_,_,hz⟩:=du hS hR (i:=0) rfl;have z0:=(hb2.cell (p:=⟨bl,o+(0*20+0),none⟩) hbl).trans (hz 0 _ rfl);have z18:=(hb2.cell (p:=⟨bl,o+(0*20+18),none⟩) hbl).trans (hz 18 _ rfl);simp only [Nat.zero_mul,Nat.add_zero,Nat.zero_add,List.length_cons,List.length_nil] at z0 z18;have hblk:=Blk.new w1 24 #[Zs (some ⟨bl,o,none⟩) 1 ca];rw [hW2] at hblk ⊢;obtain ⟨c0,f0,l0⟩:=hblk.rules;have HB2:=aW (hb1.trans (hb2.mono hb1.size));have HS2:=aW (And.intro (RR.imp hS λ c y (hc:SR _ _ c y)=>hc.bel hb2) (hR.keep (ah.of_below hb2)));have hca1:1<=ca:=hca;clear hS hR hz hb1 hb2 hblk hW2 hA hca;go_upto_region 5 with (go_at_call 16;refine (HPT.out _ _ _ _ _ _ HB2.out HS2.out.1 rfl hca1 HS2.out.2).mono ?_;rintro e w3 ⟨rfl,hb3⟩);have HB3:=aW (HB2.out.trans (hb3.mono HB2.out.size));clear hb3 HB2 HS2 c0 f0 l0 z0 z18;go_upto_region 6 with (go_at_call 22;refine (HP2.out _ HB3.out).mono ?_;rintro e w4 ⟨A4,n4,ca4,css4,rfl,q1,q2,q3,q4,q5,hb4⟩;clear q1 q2 q3 q4 q5);have HB4:=aW ((HB3.out.trans (hb4.mono HB3.out.size)).alloc ((HB3.out.trans (hb4.mono HB3.out.size)).size) (.cells #[Zs A4 n4 ca4] 24));obtain ⟨W4,hW4⟩:∃ W',w4.alloc (.cells #[Zs A4 n4 ca4] 24)=W':=⟨_,rfl⟩
 rw [hW4] at HB4 ⊢;clear hb4 hW4 HB3;go_upto_region 7 with (go_at_call 22;refine (HP3.out _ HB4.out).mono ?_;rintro e w5 ⟨A5,n5,ca5,css5,rfl,q1,q2,q3,q4,q5,hb5⟩;clear q1 q2 q3 q4 q5);have HB5:=aW ((HB4.out.trans (hb5.mono HB4.out.size)).alloc ((HB4.out.trans (hb5.mono HB4.out.size)).size) (.cells #[Zs A5 n5 ca5] 24));obtain ⟨W5,hW5⟩:∃ W',w5.alloc (.cells #[Zs A5 n5 ca5] 24)=W':=⟨_,rfl⟩
 rw [hW5] at HB5 ⊢;clear hb5 hW5 HB4;go_wp2_with (go_at_call 18;refine (HCK.out _ HB5.out _ (by first | rfl | simp)).mono ?_;rintro e w6 ⟨rfl,hb6⟩);go_ret;exact ⟨rfl,(HB5.out.alloc HB5.out.size _).trans (hb6.mono (HB5.out.alloc HB5.out.size _).size)⟩
end
end Go.Proofs.YtgmnmnnoahdjnaaGreatDoor
