import Derived.Test.YtgmnmnnoahdjnaaGreatDoorB40
import Derived.Test.YtgmnmnnoahdjnaaGreatDoorB42
set_option maxRecDepth 100000
set_option maxHeartbeats 16000000
set_option linter.unusedVariables false
set_option linter.unusedSimpArgs false
namespace Go.Proofs.YtgmnmnnoahdjnaaGreatDoor
section
open Go.RowKit
attribute [local go_sem] aa ac ae ab
theorem pG (p q s:Addr) (w:World) :
  CallsD Tryz.prog 85 #[.pointer (some p),.pointer (some q),.pointer (some s)] .returning w fun e u' w'=>e=.returned (.tuple #[])∧u'=.returning∧w'=w:=by
 refine callsD_of_wpS Tryz.func85 rfl fun c₀ cs hu=>?_
 simp only [Tryz.ntmps85,List.size_toArray,List.length_cons,List.length_nil,Nat.reduceAdd,Nat.reduceSub,Array.replicate_succ,
   Array.replicate_zero,List.push_toArray,List.append_toArray,List.nil_append,List.cons_append]
 apply wpS_seq;apply wpS_region;simp [wpOpsS,go_sem,recoverD,hu,Exit.thenS];refine wpS_of_wp ?_;go_wp2;cases c₀
 simp_all [bodyPostS,results,Tryz.results85]
theorem jB (b d f:Nat) (x:Int) (c c' c'':Value) (w:World) (hbd:b≠d) (hbf:b≠f) (hdf:d≠f) (hp:w.cell? ⟨b,0,none⟩=some c) (hz:w.frozen? ⟨b,0,none⟩=false) (hq:w.cell? ⟨d,0,none⟩=some c') (hy:w.frozen? ⟨d,0,none⟩=false) (hr:w.cell? ⟨f,0,none⟩=some c'') (hx:w.frozen? ⟨f,0,none⟩=false) :
  CallsD Tryz.prog 85 #[.pointer (some ⟨b,0,none⟩),.pointer (some ⟨d,0,none⟩),.pointer (some ⟨f,0,none⟩)] (.panicking [{ v:=.iface 117 (.int .i64 x),recovered:=false }]) w fun e u' w' =>
   e=.returned (.tuple #[])∧u'=.panicking [{ v:=.iface 117 (.int .i64 x),recovered:=true }]∧w'=((w.setCell ⟨b,0,none⟩ (.slice none 0 0)).setCell ⟨d,0,none⟩ (.int .i64 x)).setCell ⟨f,0,none⟩ (.int .i64 330):=by
 have hta:∀ w:World,(Instr.typeAssert (.iface 117 (.int .i64 x)) 20 117 true).run Tryz.prog w=.ok (.tuple #[.int .i64 x,.bool true]) w:=fun _=>by kernel_rfl
 refine callsD_of_wpS Tryz.func85 rfl fun c₀ cs hu=>?_
 simp only [Tryz.ntmps85,List.size_toArray,List.length_cons,List.length_nil,Nat.reduceAdd,Nat.reduceSub,Array.replicate_succ,
   Array.replicate_zero,List.push_toArray,List.append_toArray,List.nil_append,List.cons_append]
 apply wpS_seq;apply wpS_region;simp [wpOpsS,go_sem,recoverD,hu,Exit.thenS];refine wpS_of_wp ?_;go_wp2;simp [bodyPostS,results,Tryz.results85]
def tp (r:PR (List SJ)) (T:List ak) (w:World) (e:Ending) (w':World):Prop:=match r with
 | .ok l q => ∃ (A':Option Addr) (n ca:Nat) (css:List (List Value)),e=.returned (.tuple #[.agg #[.slice A' n ca],.int .i64 0,.int .i64 0])∧n=l.length∧n≤ca∧(A'=none→ca=0)∧SRs w' (NW w) css l∧RdF w' (NW w) A' css.flatten∧Below w.heap.size w w'
 | .bad q=>e=.returned (.tuple #[.agg #[.slice none 0 0],.int .i64 (tkA T q:Nat),.int .i64 330])∧Below w.heap.size w w'
theorem wt (T:List ak) (A:Option Addr) (nT cap:Nat) (w:World) (hT:WT T) (hG:GOE w) (hR:Rd w A (bu T)) (hn:nT≤1000) (hl:T.length=nT) (h0:0<nT) (hc:nT≤cap) :
  Calls Tryz.prog 51 #[.slice A nT cap] w (tp (gG T) T w):=by
 have hmf:∀ (fn:Fn) (first cap:Array Value) (w:World),(Instr.makeFunc fn first cap).run Tryz.prog w=.ok (.func fn first cap) w:=fun _ _ _ _=>rfl
 have HG:=aW hG;have HR:=aW hR;have HL:=aW hl;clear hG hR hl;obtain ⟨B1,hB1⟩:∃ b,w.heap.size+1=b:=⟨_,rfl⟩
 obtain ⟨B2,hB2⟩:∃ b,B1+1=b:=⟨_,rfl⟩
 obtain ⟨g,hg⟩:∃ b,B2+1=b:=⟨_,rfl⟩
 obtain ⟨W0,hW0⟩:∃ W',((((w.alloc (.cells #[.slice none 0 0] 24)).alloc (.cells #[.int .i64 0] 3)).alloc (.cells #[.int .i64 0] 27)).alloc (.cells #[.int .i64 0,.slice A nT cap] 123))=W':=⟨_,rfl⟩
 have hb0:Below w.heap.size w W0:=by rw [← hW0];exact ((((Below.refl _ w).alloc (Nat.le_refl _) _).alloc (by simp) _).alloc (by simp;omega) _).alloc (by simp;omega) _
 have HP0:=aW (show Blk W0 w.heap.size 24 #[.slice none 0 0]∧Blk W0 B1 3 #[.int .i64 0]∧Blk W0 B2 27 #[.int .i64 0] by
  have h1:=Blk.new w 24 #[.slice none 0 0];have h2:=Blk.new (w.alloc (.cells #[.slice none 0 0] 24)) 3 #[.int .i64 0];have h3:=Blk.new ((w.alloc (.cells #[.slice none 0 0] 24)).alloc (.cells #[.int .i64 0] 3)) 27 #[.int .i64 0];simp only [World.size_alloc,hB1,hB2] at h2 h3;rw [← hW0];exact ⟨((h1.alloc _).alloc _).alloc _,(h2.alloc _).alloc _,h3.alloc _⟩)
 have HVP:=aW (show VP W0 g A nT cap T 0 from ⟨by
   have h4:=Blk.new (((w.alloc (.cells #[.slice none 0 0] 24)).alloc (.cells #[.int .i64 0] 3)).alloc (.cells #[.int .i64 0] 27)) 123 #[.int .i64 0,.slice A nT cap];simp only [World.size_alloc,hB1,hB2,hg] at h4;rw [← hW0];exact h4,fun hne=>by
   obtain ⟨b,o,e,hb,hc⟩:=HR.out hne;refine ⟨b,o,e,Nat.lt_of_lt_of_le hb hb0.size,by omega,fun i hi=>?_⟩;exact (hb0.cell (p:=⟨b,o+i,none⟩) hb).trans (hc i hi),HL.out,w,HG.out,by omega,hb0⟩)
 have HBS:=aW (And.intro hB1 (And.intro hB2 hg));have HB0:=aW hb0;have hst:=rm g A nT cap T hT hn 0 W0 HVP.out h0;have HSP:=aW (pB T);obtain ⟨r,hr⟩:∃ r,gG T=r:=⟨_,rfl⟩
 rw [hr] at HSP ⊢;have hgs:g≠w.heap.size∧g≠B1∧g≠B2:=by omega
 have hbs:w.heap.size≠B1∧w.heap.size≠B2∧B1≠B2:=by omega
 clear hr hb0;cases hrs:eS T [] 0 with
 |bad q =>
  have HRR:=aW (show r=.bad q by rw [HSP.out,hrs]);rw [hrs] at hst;unfold iU aK at hst;have HST:=aW hst;clear hst hrs
  go_enter_defers Tryz.func51,Tryz.ntmps51
  go_wp2_with fail;refine HST.out.mono ?_;rintro e w2 ⟨rfl,hg2⟩;have c0:=HP0.out.1.grown hg2 (by simp;omega);have c1:=HP0.out.2.1.grown hg2 (by simp;omega);have c2:=HP0.out.2.2.grown hg2 (by simp;omega);refine leaves_cons (f:=85) (args:=#[.pointer (some ⟨w.heap.size,0,none⟩),.pointer (some ⟨B1,0,none⟩),.pointer (some ⟨B2,0,none⟩)]) (by simp) (by simp [go_sem]) ?_;refine (jB w.heap.size B1 B2 (tkA T q:Nat) _ _ _ w2 hbs.1 hbs.2.1 hbs.2.2 (c0.cell 0) (c0.frozen 0) (c1.cell 0) (c1.frozen 0) (c2.cell 0) (c2.frozen 0)).mono ?_;rintro e u' w3 ⟨rfl,rfl,rfl⟩;have d0:=(c0.set_ 0 (.slice none 0 0))
  refine ⟨.tuple #[.agg #[.slice none 0 0],.int .i64 (tkA T q:Nat),.int .i64 330],?_,?_⟩
  ·obtain ⟨x0,x1,x2⟩:=c0.rules;obtain ⟨y0,y1,y2⟩:=c1.rules;obtain ⟨z0,z1,z2⟩:=c2.rules;simp only [results,Tryz.results51];go_simp
  ·rw [HRR.out];have hB:=HBS.out;have hbw:Below w.heap.size w w2:=HB0.out.grown hg2 HB0.out.size (fun k e=>by injection e with e;omega);exact ⟨rfl,((hbw.setCell (p:=⟨w.heap.size,0,none⟩) (Nat.le_refl _) _).setCell (p:=⟨B1,0,none⟩) (by show w.heap.size≤B1;omega) _).setCell (p:=⟨B2,0,none⟩) (by show w.heap.size≤B2;omega) _⟩
 |ok l q =>
  have hq:=(tL hT (acc:=[]) (p:=0) (by rw [HL.out];exact h0):(eS T [] 0).In0 T 0)
  rw [hrs] at hq;have hqn:q<nT:=by have h9:=hq.2;rw [HL.out] at h9;exact h9
  have HRQ:=aW (show r=if tkK T q=6 then .ok l q else .bad q by rw [HSP.out,hrs]);rw [hrs] at hst;unfold iU at hst;have HST:=aW hst;clear hst hrs hq;have hqi:(q:Int)<(nT:Int):=by omega
  go_enter_defers Tryz.func51,Tryz.ntmps51
  go_wp2_with fail;refine HST.out.mono ?_;rintro e w2 ⟨A3,n3,c3,css3,rfl,hl1,hl2,hl3,hl4,hl5,hv2,hg2⟩;have HLS:=aW (And.intro hl1 (And.intro hl2 (And.intro hl3 (And.intro hl4 hl5))));have hB:=HBS.out;have hbw:Below w.heap.size w w2:=HB0.out.grown hg2 HB0.out.size (fun k e=>by injection e with e;omega);have HC2:=aW (And.intro (HP0.out.1.grown hg2 (by simp;omega)) (And.intro (HP0.out.2.1.grown hg2 (by simp;omega)) (HP0.out.2.2.grown hg2 (by simp;omega))));have HV2:=aW hv2;have HBW:=aW hbw;have HGB:=aW hg2;obtain ⟨x0,x1,x2⟩:=HC2.out.1.rules;clear hl1 hl2 hl3 hl4 hl5 hv2 hg2 hbw hB;go_upto_region 4 with fail;obtain ⟨W3,hW3⟩:∃ W',w2.setCell ⟨w.heap.size,0,none⟩ (.slice A3 n3 c3)=W':=⟨_,rfl⟩
  rw [hW3];have hbw3:Below w.heap.size w W3:=by rw [← hW3];exact HBW.out.setCell (p:=⟨w.heap.size,0,none⟩) (Nat.le_refl _) _
  have HC3:=aW (show Blk W3 w.heap.size 24 #[.slice A3 n3 c3]∧Blk W3 B1 3 #[.int .i64 0]∧Blk W3 B2 27 #[.int .i64 0] by
   rw [← hW3];exact ⟨HC2.out.1.set_ 0 _,HC2.out.2.1.far (p:=⟨w.heap.size,0,none⟩) (Ne.symm hbs.1) _,HC2.out.2.2.far (p:=⟨w.heap.size,0,none⟩) (Ne.symm hbs.2.1) _⟩)
  have hv3:VP W3 g A nT cap T q:=⟨by rw [← hW3];exact HV2.out.blk.far (p:=⟨w.heap.size,0,none⟩) hgs.1 _,fun hne=>by
   obtain ⟨b,o,e,hb,hc⟩:=HR.out hne;refine ⟨b,o,e,Nat.lt_of_lt_of_le hb hbw3.size,by have:=HBS.out;omega,fun i hi=>?_⟩;exact (hbw3.cell (p:=⟨b,o+i,none⟩) hb).trans (hc i hi),HL.out,w,HG.out,by have:=HBS.out;omega,hbw3⟩
  have HL3:=aW (show SRs W3 (NW W0) css3 l∧RdF W3 (NW W0) A3 css3.flatten by
   have hk:ah (NW W0) w2 W3:=by rw [← hW3];exact ah.set ah.refl (fun k hk=>by have:=HP0.out.1.lt;unfold NW at hk;omega) 0 _
   exact ⟨RR.imp HLS.out.2.2.2.1 fun c y hc=>SR.keep hc hk,HLS.out.2.2.2.2.keep hk⟩)
  have HV3:=aW hv3;have HBW3:=aW hbw3;clear hW3 x0 x1 x2 HC2 HV2 HBW HGB;obtain ⟨b,o,rfl,hb,hbg,z0,z1,z2,z3⟩:=hv3.tok hqn;obtain ⟨c0,f0,l0⟩:=hv3.blk.rules;clear hv3 hbw3 z1 z2 z3;by_cases hk:tkK T q=6
  ·have HRR:=aW (show r=.ok l q by rw [HRQ.out,if_pos hk]);rw [hk] at z0;clear hk;refine wp_region_noPanic ?_;go_quiet (fail);refine NoPanic.normal ?_;have d0:=(HC3.out.1.drewN nq)
   have d1:=(HC3.out.2.1.drewN nq)
   have d2:=(HC3.out.2.2.drewN nq)
   obtain ⟨x0,x1,x2⟩:=d0.rules;obtain ⟨u0,u1,u2⟩:=d1.rules;obtain ⟨v0,v1,v2⟩:=d2.rules;go_wp2;refine leaves_cons (f:=85) (args:=#[.pointer (some ⟨w.heap.size,0,none⟩),.pointer (some ⟨B1,0,none⟩),.pointer (some ⟨B2,0,none⟩)]) (by simp) (by simp [go_sem]) ?_;refine (pG ⟨w.heap.size,0,none⟩ ⟨B1,0,none⟩ ⟨B2,0,none⟩ _).mono ?_;rintro e u' w5 ⟨rfl,rfl,rfl⟩;refine ⟨.tuple #[.agg #[.slice A3 n3 c3],.int .i64 0,.int .i64 0],?_,?_⟩
   ·simp only [results,Tryz.results51];go_simp
   ·rw [HRR.out];have hb0s:=HP0.out.1.lt;have hb1s:=HP0.out.2.1.lt;have hb2s:=HP0.out.2.2.lt;have hk:ah (NW W0) W3 ((((W3.drewN nq).setCell ⟨w.heap.size,0,none⟩ (.slice A3 n3 c3)).setCell ⟨B1,0,none⟩ (.int .i64 0)).setCell ⟨B2,0,none⟩ (.int .i64 0)) :=
     (((ah.of_below (ai (Below.refl _ W3) nq)).set (fun k hk=>by unfold NW at hk;omega) 0 _).set (fun k hk=>by unfold NW at hk;omega) 0 _).set (fun k hk=>by unfold NW at hk;omega) 0 _
    have hm:∀ b,NW W0 b→NW w b:=fun b hb=>Nat.le_trans HB0.out.size hb
    have hB:=HBS.out;exact ⟨A3,n3,c3,css3,rfl,HLS.out.1,HLS.out.2.1,HLS.out.2.2.1,RR.imp HL3.out.1 fun c y hc=>(SR.keep hc hk).mono fun b _ hb=>hm b hb,(HL3.out.2.keep hk).mono fun b _ hb=>hm b hb,
     (((ai HBW3.out nq).setCell (p:=⟨w.heap.size,0,none⟩) (Nat.le_refl _) _).setCell (p:=⟨B1,0,none⟩) (by show w.heap.size≤B1;omega) _).setCell (p:=⟨B2,0,none⟩) (by show w.heap.size≤B2;omega) _⟩
  ·have HRR:=aW (show r=.bad q by rw [HRQ.out,if_neg hk]);obtain ⟨kk,hkk⟩:∃ k,tkK T q=k:=⟨_,rfl⟩
   rw [hkk] at z0 hk;have hkb:(kk != 6)=true:=by simpa using hk
   clear hk hkk;have hfa:=fun W (h:Below W3.heap.size W3 W)=>iJ W g (some ⟨b,o,none⟩) nT cap T q (HV3.out.keep h) hqn hn
   unfold aK at hfa;have HFA:=aW hfa;clear hfa;refine wp_region_noPanic ?_;go_quiet (fail);refine NoPanic.normal ?_;go_wp2_with fail;refine (HFA.out _ (ai (Below.refl _ _) _)).mono ?_;rintro e w4 ⟨rfl,hb4⟩;have hb34:Below W3.heap.size W3 w4:=(ai (Below.refl _ W3) nq).trans hb4;have d0:=HC3.out.1.keep hb34;have d1:=HC3.out.2.1.keep hb34;have d2:=HC3.out.2.2.keep hb34;refine leaves_cons (f:=85) (args:=#[.pointer (some ⟨w.heap.size,0,none⟩),.pointer (some ⟨B1,0,none⟩),.pointer (some ⟨B2,0,none⟩)]) (by simp) (by simp [go_sem]) ?_;refine (jB w.heap.size B1 B2 (tkA T q:Nat) _ _ _ w4 hbs.1 hbs.2.1 hbs.2.2 (d0.cell 0) (d0.frozen 0) (d1.cell 0) (d1.frozen 0) (d2.cell 0) (d2.frozen 0)).mono ?_;rintro e u' w5 ⟨rfl,rfl,rfl⟩;refine ⟨.tuple #[.agg #[.slice none 0 0],.int .i64 (tkA T q:Nat),.int .i64 330],?_,?_⟩
   ·obtain ⟨x0,x1,x2⟩:=d0.rules;obtain ⟨y0,y1,y2⟩:=d1.rules;obtain ⟨z0,z1,z2⟩:=d2.rules;simp only [results,Tryz.results51];go_simp
   ·rw [HRR.out];have hB:=HBS.out;have hbw:Below w.heap.size w w4:=HBW3.out.trans (hb34.mono HBW3.out.size);exact ⟨rfl,((hbw.setCell (p:=⟨w.heap.size,0,none⟩) (Nat.le_refl _) _).setCell (p:=⟨B1,0,none⟩) (by show w.heap.size≤B1;omega) _).setCell (p:=⟨B2,0,none⟩) (by show w.heap.size≤B2;omega) _⟩
def nH (o:List SJ × Int × Int) (w:World) (e:Ending) (w':World):Prop:=∃ (A:Option Addr) (n ca:Nat) (css:List (List Value)),e=.returned (.tuple #[.agg #[.slice A n ca],.int .i64 o.2.1,.int .i64 o.2.2])∧n=o.1.length∧n≤ca∧(A=none→ca=0)∧SRs w' (NW w) css o.1∧RdF w' (NW w) A css.flatten∧Below w.heap.size w w'
theorem nH.err {at_ e:Int} {w w':World} (h:Below w.heap.size w w'):nH ([],at_,e) w (.returned (.tuple #[.agg #[.slice none 0 0],.int .i64 at_,.int .i64 e])) w' :=
 ⟨none,0,0,[],rfl,rfl,Nat.le_refl _,fun _=>rfl,RR.nil,RdF.nil,h⟩
def yL (T:List ak):PR (List SJ)→List SJ × Int × Int
 | .bad p=>([],(tkA T p:Nat),330)
 | .ok b _=>if jz b=true then (b,0,0) else ([],0,331)
theorem nc {T:List ak} (hT:WT T) (hG:TG T) (h0:0<T.length) {l:List SJ} {q:Nat} (h:gG T=.ok l q):bg l∧l.length≤1000:=by
 rw [pB] at h;cases hs:eS T [] 0 with
 | bad p=>rw [hs] at h;cases h
 |ok l' q' =>
  rw [hs] at h;simp only at h;split at h
  ·injection h with h1 h2
   subst h1 h2;have h3:=(wN hT hG (pM T+1)).1 [] 0 l' q' h0 (Nat.le_refl _) trivial hs;have h4:=(tL hT (acc:=[]) h0:(eS T [] 0).In0 T 0)
   rw [hs] at h4;have:=h4.2;have:=hG.1;exact ⟨h3.1,by omega⟩
  ·cases h
theorem iI (s:ByteArray) (w:World) (hG:GOE w) (hs:s.size≤4194304):Calls Tryz.prog 22 #[.string s] w (nH (cY (sl s)) w):=by
 obtain ⟨o,ho⟩:∃ o,cY (sl s)=o:=⟨_,rfl⟩
 rw [ho];obtain ⟨⟨T,pl,er⟩,hlx⟩:∃ r,gh (sl s)=r:=⟨_,rfl⟩
 have HO:=aW (show o=(if er≠0 then ([],pl,er) else yL T (gG T)) by rw [← ho];unfold cY;rw [hlx];rfl);have HLX:=aW (fun W (h:Below w.heap.size w W)=>(show Calls Tryz.prog 50 #[.string s] W (kL (T,pl,er) W) from hlx ▸ vM s W ((hG.keep h).gok) hs));have HWT:=aW (fun (h:er=0)=>ud (l:=sl s) (T:=T) (a:=pl) (by rw [hlx,h]));have HG:=aW hG;clear ho hlx hG;unfold kL at HLX;have HH0:=aW ((aL.nil w).push 24 #[.slice none 0 0] (g:=w.heap.size) rfl);by_cases he:er=0
 ·obtain ⟨hT,hTG,hTn⟩:=HWT.out he;subst he;obtain ⟨nT,hnT⟩:∃ n,T.length=n:=⟨_,rfl⟩
  have hn:nT≤1000:=by rw [← hnT];exact hTG.1
  have h0:0<nT:=by rw [← hnT];exact List.length_pos_iff.2 hTn
  have HPA:=aW (fun A cap W (h:Below w.heap.size w W) (hR:Rd W A (bu T)) (hc:nT≤cap)=>wt T A nT cap W hT (HG.out.keep h) hR hn hnT h0 hc);have HPC:=aW (fun l q (h:gG T=.ok l q)=>nc hT hTG (by rw [hnT];exact h0) h);have HNT:=aW hnT;obtain ⟨rP,hrP⟩:∃ r,gG T=r:=⟨_,rfl⟩
  have HO1:=aW (show o=yL T rP by rw [HO.out,if_neg (fun h=>h rfl),hrP]);rw [hrP] at HPA HPC;clear hT hTG hTn hn h0 hnT hrP HWT HO;cases rP with
  |bad q =>
   have HR:=aW (show o=(([]:List SJ),((tkA T q:Nat):Int),(330:Int)) from HO1.out);rw [HR.out];unfold tp at HPA;go_enter Tryz.func22,Tryz.ntmps22;go_wp2_with (go_at_call 50;refine (HLX.out _ HH0.out.1).mono ?_;rintro e w1 ⟨v,rfl,⟨A1,cap1,rfl,hcap1,hrd1⟩,hb1⟩;have HH1:=aW (HH0.out.keep hb1);rw [HNT.out] at hcap1;rw [HNT.out]);go_wp2_with fail;refine (HPA.out A1 cap1 _ HH1.out.1 hrd1 hcap1).mono ?_;rintro e w2 ⟨rfl,hb2⟩;have HH2:=aW (HH1.out.keep hb2);obtain ⟨c0,f0,l0⟩:=HH2.out.b0.rules;clear hb2 hrd1 hb1;go_wp2;refine bodyPost_ret (v:=.tuple #[.agg #[.slice none 0 0],.int .i64 (tkA T q:Nat),.int .i64 330]) (by simp only [results,Tryz.results22];go_simp) rfl ?_;exact nH.err ((HH2.out.1.setCell (p:=⟨w.heap.size,0,none⟩) (Nat.le_refl _) _).alloc (by have:=HH2.out.1.size;simpa [World.setCell] using this) _)
  |ok l q =>
   obtain ⟨hcam,hl9⟩:=HPC.out l q rfl;have HCM:=aW (And.intro hcam hl9);obtain ⟨mb,hmb⟩:∃ b,jz l=b:=⟨_,rfl⟩
   have HR:=aW (show o=if mb=true then (l,(0:Int),(0:Int)) else (([]:List SJ),(0:Int),(331:Int)) by rw [HO1.out,← hmb];rfl);have HPE:=aW (show lP l=if mb=true then 0 else 332 by unfold lP;rw [hmb]);unfold tp at HPA;clear hcam hl9 hmb HPC HO1;go_enter Tryz.func22,Tryz.ntmps22;go_wp2_with (go_at_call 50;refine (HLX.out _ HH0.out.1).mono ?_;rintro e w1 ⟨v,rfl,⟨A1,cap1,rfl,hcap1,hrd1⟩,hb1⟩;have HH1:=aW (HH0.out.keep hb1);rw [HNT.out] at hcap1;rw [HNT.out]);go_wp2_with fail;refine (HPA.out A1 cap1 _ HH1.out.1 hrd1 hcap1).mono ?_;rintro e w2 ⟨A',n,ca,css,rfl,hl1,hl2,hl3,hl4,hl5,hb2⟩;have HH3:=aW ((HH1.out.keep hb2).push 24 #[.slice A' n ca] (g:=w2.heap.size) rfl);have hx1:w.heap.size<w1.heap.size:=HH1.out.b0.lt;have hz:Below w2.heap.size w2 (w2.alloc (.cells #[.slice A' n ca] 24)):=(Below.refl _ w2).alloc (Nat.le_refl _) _;have HCK:=aW (nQ l css A' n ca (NW w1) (w2.alloc (.cells #[.slice A' n ca] 24)) (HG.out.keep HH3.out.1) (RR.imp hl4 fun c y hc=>SR.bel hc hz) hl1.symm hl2 (hl5.keep (ah.of_below hz)) HCM.out.1 (by have:=HCM.out.2;omega));unfold r5 at HCK;rw [HPE.out] at HCK;have HLS:=aW (And.intro hl1 (And.intro hl2 (And.intro hl3 (And.intro (RR.imp hl4 fun c y hc=>SR.bel hc hz) (hl5.keep (ah.of_below hz))))));have HW2:=aW hb2.size;clear hl1 hl2 hl3 hl4 hl5 hb2 hrd1 hb1 hz;go_wp2_with fail;refine HCK.out.mono ?_;rintro e w4 ⟨rfl,hb4⟩;have HH4:=aW (HH3.out.keep hb4);obtain ⟨c0,f0,l0⟩:=HH4.out.b0.rules;obtain ⟨d0,g0,m0⟩:=HH4.out.b1.rules;have HB4:=aW hb4;have hne:w.heap.size≠w2.heap.size:=Nat.ne_of_lt (Nat.lt_of_lt_of_le hx1 HW2.out);clear hb4;cases mb
   ·go_wp2;refine bodyPost_ret (v:=.tuple #[.agg #[.slice none 0 0],.int .i64 0,.int .i64 331]) (by simp only [results,Tryz.results22];go_simp) rfl ?_;rw [HR.out];exact nH.err (HH4.out.1.setCell (p:=⟨w.heap.size,0,none⟩) (Nat.le_refl _) _)
   ·go_wp2;refine bodyPost_ret (v:=.tuple #[.agg #[.slice A' n ca],.int .i64 0,.int .i64 0]) (by simp only [results,Tryz.results22];go_simp) rfl ?_;have hk:ah (NW w1) (w2.alloc (.cells #[.slice A' n ca] 24)) (w4.setCell ⟨w.heap.size,0,none⟩ (.slice A' n ca)):=ah.set (ah.of_below HB4.out) (fun k hk=>by unfold NW at hk;omega) 0 _;rw [HR.out];exact ⟨A',n,ca,css,rfl,HLS.out.1,HLS.out.2.1,HLS.out.2.2.1,RR.imp HLS.out.2.2.2.1 fun c y hc=>(SR.keep hc hk).mono fun b _ hb=>by unfold NW at hb ⊢;omega,(HLS.out.2.2.2.2.keep hk).mono fun b _ hb=>by unfold NW at hb ⊢;omega,HH4.out.1.setCell (p:=⟨w.heap.size,0,none⟩) (Nat.le_refl _) _⟩
 ·have heb:(er != 0)=true:=by simpa using he
  have HR:=aW (show o=([],pl,er) by rw [HO.out,if_pos he]);clear he;rw [HR.out];go_enter Tryz.func22,Tryz.ntmps22;go_wp2_with (go_at_call 50;refine (HLX.out _ HH0.out.1).mono ?_;rintro e w1 ⟨v,rfl,hts,hb1⟩;have HH1:=aW (HH0.out.keep hb1);obtain ⟨c0,f0,l0⟩:=HH1.out.b0.rules;clear hts hb1);refine bodyPost_ret (v:=.tuple #[.agg #[.slice none 0 0],.int .i64 pl,.int .i64 er]) (by simp only [results,Tryz.results22];go_simp) rfl ?_;exact nH.err (HH1.out.1.setCell (p:=⟨w.heap.size,0,none⟩) (Nat.le_refl _) _)
theorem sI (l:List UInt8):bg (cY l).1∧(cY l).1.length≤1000:=by
 unfold cY;split
 ·exact ⟨trivial,Nat.zero_le _⟩
 ·rename_i h
  obtain ⟨T,a,e,hl⟩:∃ T a e,gh l=(T,a,e):=⟨_,_,_,rfl⟩
  rw [hl] at h ⊢;have h0:e=0:=Decidable.byContradiction fun hn=>h hn
  subst h0;obtain ⟨hT,hG,hne⟩:=ud hl;simp only;cases hp:gG T with
  | bad p=>exact ⟨trivial,Nat.zero_le _⟩
  |ok b q =>
   have h1:=nc hT hG (List.length_pos_iff.2 hne) hp;simp only;split
   ·exact h1
   ·exact ⟨trivial,Nat.zero_le _⟩
theorem yc:decide (bO (aq (cY iS).1)≤100000)=true:=by kernel_rfl
def wO:List UInt8:=[105,102,32,110,111,116,32,97,61,61,49,32,97,110,100,40,98,32,111,114,32,99,41,123,101,109,105,116,32,49,32,46,120,44,48,59,125]
theorem SR.zero {W:World} {F:Nat→Prop}:SR W F [.int .i64 0,.string ⟨#[]⟩,.int .i64 0,.int .i64 0,.int .i64 0,.string ⟨#[]⟩,.slice none 0 0,.slice none 0 0,.string ⟨#[]⟩,.slice none 0 0,.int .i64 0,.int .i64 0,.int .i64 0,.string ⟨#[]⟩,.slice none 0 0,.slice none 0 0,.string ⟨#[]⟩,.slice none 0 0,.slice none 0 0,.slice none 0 0] (.mk 0 [] aZ aZ [] []) :=
 SR.into (k:=0) (s:=[]) (acs:=[.int .i64 0,.int .i64 0,.int .i64 0,.string ⟨#[]⟩,.slice none 0 0,.slice none 0 0,.string ⟨#[]⟩,.slice none 0 0]) (bcs:=[.int .i64 0,.int .i64 0,.int .i64 0,.string ⟨#[]⟩,.slice none 0 0,.slice none 0 0,.string ⟨#[]⟩,.slice none 0 0]) (css:=[]) (dss:=[]) ER.zero ER.zero RR.nil rfl (Nat.le_refl _) (fun _=>rfl) RdF.nil RR.nil rfl (Nat.le_refl _) (fun _=>rfl) RdF.nil
theorem vQ (w:World) (hG:GOE w):Calls Tryz.prog 14 #[] w (fun e w'=>e=.returned (.bool true)∧Below w.heap.size w w'):=by
 obtain ⟨l,hl⟩:∃ l,(cY iS).1=l:=⟨_,rfl⟩
 have hc:=(sI iS).1;have hsh:=ve;have hok:=zf;have hmy:=yd;have htx:=wA;have hln:=yc;rw [hl] at hc hsh hmy htx hln;rw [decide_eq_true_eq] at hln;have h1:cY iS=(l,0,0):=Prod.ext hl hok;obtain ⟨s,a,b,x,els,rfl⟩:∃ s a b x els,l=[.mk 2 s a b [x] els]:=by
  match l,hsh with
  |[.mk k s a b body els],h =>
   simp only [decide_eq_true_eq] at h;obtain ⟨rfl,h⟩:=h;obtain ⟨x,rfl⟩:=List.length_eq_one_iff.1 h;exact ⟨s,a,b,x,els,rfl⟩
 have HPR:=aW (show dG [.mk 2 s a b [x] els]=(wO,0) by unfold dG;rw [if_pos hmy,htx];rfl);have HP1:=aW (fun W (h:Below w.heap.size w W)=>iI ⟨iS.toArray⟩ W (hG.keep h) (by decide));rw [ii,h1] at HP1;have HP2:=aW (fun W (h:Below w.heap.size w W)=>iI ⟨#[101,109,105,116,32,97,32,60,32,98,32,60,32,99,44,32,49,59]⟩ W (hG.keep h) (by decide));rw [show sl ⟨#[101,109,105,116,32,97,32,60,32,98,32,60,32,99,44,32,49,59]⟩=[101,109,105,116,32,97,32,60,32,98,32,60,32,99,44,32,49,59] from rfl] at HP2;have HP3:=aW (fun W (h:Below w.heap.size w W)=>iI ⟨#[101,109,105,116,32,49,44,32,50]⟩ W (hG.keep h) (by decide));rw [show sl ⟨#[101,109,105,116,32,49,44,32,50]⟩=[101,109,105,116,32,49,44,32,50] from rfl] at HP3;unfold nH at HP1 HP2 HP3;rw [ye] at HP2;rw [ya] at HP3;unfold iS at HP1;have HPT:=aW (fun (W:World) (A:Option Addr) (n ca:Nat) (css:List (List Value)) (F:Nat→Prop) (h:Below w.heap.size w W) (hS:SRs W F css [.mk 2 s a b [x] els]) (hn:n=1) (hca:n≤ca) (hR:RdF W F A css.flatten)=>uX [.mk 2 s a b [x] els] css A n ca F W (hG.keep h) hS (by rw [hn];rfl) hca hR hc (by omega) (by omega));unfold vr at HPT;rw [HPR.out] at HPT;unfold wO at HPT;have HCK:=aW (fun (W:World) (h:Below w.heap.size w W) (p:Nat) (hp:p=W.heap.size)=>nQ [.mk 0 [] aZ aZ [] []] [[.int .i64 0,.string ⟨#[]⟩,.int .i64 0,.int .i64 0,.int .i64 0,.string ⟨#[]⟩,.slice none 0 0,.slice none 0 0,.string ⟨#[]⟩,.slice none 0 0,.int .i64 0,.int .i64 0,.int .i64 0,.string ⟨#[]⟩,.slice none 0 0,.slice none 0 0,.string ⟨#[]⟩,.slice none 0 0,.slice none 0 0,.slice none 0 0]] (some ⟨p,0,none⟩) 1 1 (fun _=>True)
  (W.alloc (.cells #[.int .i64 0,.string ⟨#[]⟩,.int .i64 0,.int .i64 0,.int .i64 0,.string ⟨#[]⟩,.slice none 0 0,.slice none 0 0,.string ⟨#[]⟩,.slice none 0 0,.int .i64 0,.int .i64 0,.int .i64 0,.string ⟨#[]⟩,.slice none 0 0,.slice none 0 0,.string ⟨#[]⟩,.slice none 0 0,.slice none 0 0,.slice none 0 0] 48)) (hG.keep (h.alloc h.size _)) (RR.nil.snoc SR.zero) rfl (Nat.le_refl _) (by subst hp;exact RdF.of_blkP (Blk.new W 48 #[.int .i64 0,.string ⟨#[]⟩,.int .i64 0,.int .i64 0,.int .i64 0,.string ⟨#[]⟩,.slice none 0 0,.slice none 0 0,.string ⟨#[]⟩,.slice none 0 0,.int .i64 0,.int .i64 0,.int .i64 0,.string ⟨#[]⟩,.slice none 0 0,.slice none 0 0,.string ⟨#[]⟩,.slice none 0 0,.slice none 0 0,.slice none 0 0]) trivial)
  (by unfold bg fG;exact ⟨⟨by decide,by simp,fR,fR,by simp,by simp,trivial,trivial⟩,trivial⟩) (by decide))
 rw [show lP [.mk 0 [] aZ aZ [] []]=332 from rfl] at HCK;unfold r5 at HCK;have HW:=aW (Below.refl w.heap.size w);clear hl hc hsh hok hmy htx hln h1 HPR;go_enter Tryz.func14,Tryz.ntmps14;go_upto_region 2 with (go_at_call 22;refine (HP1.out _ HW.out).mono ?_;rintro e w1 ⟨A,n,ca,css,rfl,hn,hca,hA,hS,hR,hb1⟩;simp only [List.length_cons,List.length_nil,Nat.zero_add] at hn;subst hn);obtain ⟨W2,hW2⟩:∃ W',w1.alloc (.cells #[.slice A 1 ca] 24)=W':=⟨_,rfl⟩
 have hb2:Below w1.heap.size w1 W2:=by rw [← hW2];exact (Below.refl _ _).alloc (Nat.le_refl _) _
 obtain ⟨bl,o,ka,kva,nva,sva,Ava,nka,cka,Bva,nya,cya,sa,Ca,nxa,cxa,kb,kvb,nvb,svb,Avb,nkb,ckb,Bvb,nyb,cyb,sb,Cb,nxb,cxb,BA,LA,cb,cl,bss,lss,rfl,hbl,_,_,_,_,_,_,hz⟩:=ec hS hR (i:=0) rfl;have z0:=(hb2.cell (p:=⟨bl,o+(0*20+0),none⟩) hbl).trans (hz 0 _ rfl);have z18:=(hb2.cell (p:=⟨bl,o+(0*20+18),none⟩) hbl).trans (hz 18 _ rfl);simp only [Nat.zero_mul,Nat.add_zero,Nat.zero_add,List.length_cons,List.length_nil] at z0 z18;have hblk:=Blk.new w1 24 #[.slice (some ⟨bl,o,none⟩) 1 ca];rw [hW2] at hblk ⊢;obtain ⟨c0,f0,l0⟩:=hblk.rules;have HB2:=aW (hb1.trans (hb2.mono hb1.size));have HS2:=aW (And.intro (RR.imp hS fun c y (hc:SR _ _ c y)=>hc.bel hb2) (hR.keep (ah.of_below hb2)));have hca1:1≤ca:=hca;clear hS hR hz hb1 hb2 hblk hW2 hA hca;go_upto_region 5 with (go_at_call 16;refine (HPT.out _ _ _ _ _ _ HB2.out HS2.out.1 rfl hca1 HS2.out.2).mono ?_;rintro e w3 ⟨rfl,hb3⟩);have HB3:=aW (HB2.out.trans (hb3.mono HB2.out.size));clear hb3 HB2 HS2 c0 f0 l0 z0 z18;go_upto_region 6 with (go_at_call 22;refine (HP2.out _ HB3.out).mono ?_;rintro e w4 ⟨A4,n4,ca4,css4,rfl,q1,q2,q3,q4,q5,hb4⟩;clear q1 q2 q3 q4 q5);have HB4:=aW ((HB3.out.trans (hb4.mono HB3.out.size)).alloc ((HB3.out.trans (hb4.mono HB3.out.size)).size) (.cells #[.slice A4 n4 ca4] 24));obtain ⟨W4,hW4⟩:∃ W',w4.alloc (.cells #[.slice A4 n4 ca4] 24)=W':=⟨_,rfl⟩
 rw [hW4] at HB4 ⊢;clear hb4 hW4 HB3;go_upto_region 7 with (go_at_call 22;refine (HP3.out _ HB4.out).mono ?_;rintro e w5 ⟨A5,n5,ca5,css5,rfl,q1,q2,q3,q4,q5,hb5⟩;clear q1 q2 q3 q4 q5);have HB5:=aW ((HB4.out.trans (hb5.mono HB4.out.size)).alloc ((HB4.out.trans (hb5.mono HB4.out.size)).size) (.cells #[.slice A5 n5 ca5] 24));obtain ⟨W5,hW5⟩:∃ W',w5.alloc (.cells #[.slice A5 n5 ca5] 24)=W':=⟨_,rfl⟩
 rw [hW5] at HB5 ⊢;clear hb5 hW5 HB4;go_wp2_with (go_at_call 18;refine (HCK.out _ HB5.out _ (by first | rfl | simp)).mono ?_;rintro e w6 ⟨rfl,hb6⟩);go_ret;exact ⟨rfl,(HB5.out.alloc HB5.out.size _).trans (hb6.mono (HB5.out.alloc HB5.out.size _).size)⟩
mutual
theorem kZ:∀ (x:EJ),j2 4194304 x→bB x
 | .mk k v s kids,h=>by
  unfold j2 at h;obtain ⟨_,h1,h2,h3,h4,h5,h6⟩:=h;unfold bB;exact ⟨h1,df.of h2 h3,h4,h5,mF kids h6⟩
theorem mF:∀ (l:List EJ),iP 4194304 l→gO l
 | [],_=>trivial
 | x::r,h=>by unfold iP at h;unfold gO;exact ⟨kZ x h.1,mF r h.2⟩
end
mutual
theorem tD:∀ (x:SJ),gZ 4194304 x→fG x
 | .mk k s a b body els,h=>by
  unfold gZ at h;obtain ⟨_,h1,h2,h3,h4,h5,h6,h7,h8⟩:=h;unfold fG;exact ⟨h1,h2,kZ a h3,kZ b h4,h5,h6,iq body h7,iq els h8⟩
theorem iq:∀ (l:List SJ),ia 4194304 l→bg l
 | [],_=>trivial
 | x::r,h=>by unfold ia at h;unfold bg;exact ⟨tD x h.1,iq r h.2⟩
end
theorem mG {l:List SJ} (h:∀ v ∈ l,gZ 4194304 v):bg l:=iq l (iy.2 h)
def jM (W:World) (A:Option Addr) (n ca:Nat) (p:List SJ):Prop:=∃ css,SRs W TT css p∧RdF W TT A css.flatten∧p.length=n∧n≤ca
section
variable {w W W':World} {A A':Option Addr} {n n' ca ca':Nat} {p q:List SJ} {F:Nat→Prop} {e:Ending}
theorem jM.bel (h:jM W A n ca p) (hb:Below W.heap.size W W'):jM W' A n ca p:=by
 obtain ⟨css,h1,h2,h3⟩:=h;exact ⟨css,RR.imp h1 fun c x hc=>hc.bel hb,h2.keep (ah.of_below hb),h3⟩
theorem vl.has (h:vl p F w e W):∃ A n ca,e=.returned (.agg #[.slice A n ca])∧jM W A n ca p∧Below w.heap.size w W:=by
 obtain ⟨A,n,ca,css,rfl,h1,h2,_,h3,h4,h5⟩:=h;exact ⟨A,n,ca,rfl,⟨css,RR.imp h3 fun c x hc=>hc.mono fun _ _ _=>trivial,h4.mono fun _ _ _=>trivial,h1.symm,h2⟩,h5⟩
theorem nH.has {o:List SJ × Int × Int} (h:nH o w e W):∃ A n ca,e=.returned (.tuple #[.agg #[.slice A n ca],.int .i64 o.2.1,.int .i64 o.2.2])∧jM W A n ca o.1∧Below w.heap.size w W:=by
 obtain ⟨A,n,ca,css,rfl,h1,h2,_,h3,h4,h5⟩:=h;exact ⟨A,n,ca,rfl,⟨css,RR.imp h3 fun c x hc=>hc.mono fun _ _ _=>trivial,h4.mono fun _ _ _=>trivial,h1.symm,h2⟩,h5⟩
theorem od:∀ l:List SJ,l.length≤cJ l
 | []=>Nat.le_refl _
 |x::r=>by
  have h1:=od r;have h2:=pS x;unfold cJ;rw [List.length_cons];omega
theorem xp (h:jM W A n ca p) (hG:GOE W) (hC:bg p) (hs:cJ p≤4194304):Calls Tryz.prog 16 #[.agg #[.slice A n ca]] W (vr p W):=by
 obtain ⟨css,h1,h2,h3,h4⟩:=h;have hl:=od p;have ht:=ix p hC;exact uX p css A n ca TT W hG h1 h3 h4 h2 hC (by omega) (by omega)
theorem xn (h:jM W A n ca p) (hG:GOE W) (hC:bg p) (hs:cJ p≤4194304):Calls Tryz.prog 18 #[.agg #[.slice A n ca]] W (r5 (lP p) W):=by
 obtain ⟨css,h1,h2,h3,h4⟩:=h;have hl:=od p;exact nQ p css A n ca TT W hG h1 h3 h4 h2 hC (by omega)
theorem yz (h:jM W A n ca p) (h':jM W A' n' ca' q) (hC:bg p) (hC':bg q) (hl:p.length≤4194304) (hl':q.length≤4194304):Calls Tryz.prog 24 #[.agg #[.slice A n ca],.agg #[.slice A' n' ca']] W (EqX (p=q) W):=by
 obtain ⟨css,h1,h2,h3,h4⟩:=h;obtain ⟨css',h1',h2',h3',h4'⟩:=h';exact x9 p q css css' A A' n n' ca ca' TT TT W h1 h2 h3 h4 h1' h2' h3' h4' hC hC' (by omega) (by omega)
theorem tV (h:jM W A n ca p) (h':jM W A' n' ca' p) (hC:bg p) (hl:p.length≤4194304):Calls Tryz.prog 24 #[.agg #[.slice A n ca],.agg #[.slice A' n' ca']] W (fun e W'=>e=.returned (.bool true)∧Below W.heap.size W W') :=
 (yz h h' hC hC hl hl).mono fun e W' ⟨t,h1,h2,h3⟩=>⟨by rw [h1,h2.2 rfl],h3⟩
theorem xo (s:ByteArray) (hG:GOE W) (hs:s.size≤4194304) {o:List SJ × Int × Int} (ho:cY (sl s)=o):Calls Tryz.prog 22 #[.string s] W (fun e W' => ∃ A n ca,e=.returned (.tuple #[.agg #[.slice A n ca],.int .i64 o.2.1,.int .i64 o.2.2])∧jM W' A n ca o.1∧Below W.heap.size W W'):=by
 subst ho;exact (iI s W hG hs).mono fun e W' h=>h.has
theorem zk {l:List SJ} (hS:wY w A ca l) (hL:∀ v ∈ l,gZ 4194304 v) (hn:l.length≤4194304) (hln:l.length=n) (hb:Below w.heap.size w W) :
  Calls Tryz.prog 15 #[.agg #[.slice A n ca]] W (fun e W' => ∃ A n ca,e=.returned (.agg #[.slice A n ca])∧jM W' A n ca (dq 14 l)∧Below W.heap.size W W'):=by
 obtain ⟨css,h1,hc,_,h2⟩:=hS;subst hln;exact (yC (fun b=>b<w.heap.size) l A l.length ca css W (fun b h=>Nat.lt_of_lt_of_le h hb.size) (RR.imp h1 fun c x hx=>(hx.mono (F':=fun b=>b<w.heap.size) fun b hb' _=>hb').bel hb) ((h2.mono (F':=fun b=>b<w.heap.size) fun b hb' _=>hb').keep (ah.of_below hb)) rfl hc (mG hL) hn).mono fun e W' h=>h.has
end
theorem ou (p:List SJ):(jz p=false∧dG p=([],332))∨(jz p=true∧512<(fA p).length∧dG p=([],3))∨(jz p=true∧(fA p).length≤512∧dG p=(fA p,0)):=by
 unfold dG;cases h:jz p with
 | false=>exact .inl ⟨rfl,by simp⟩
 |true =>
  by_cases h5:512<(fA p).length
  ·exact .inr (.inl ⟨rfl,h5,by simp [h5]⟩)
  ·exact .inr (.inr ⟨rfl,by omega,by simp [h5]⟩)
structure wQ (l:List SJ) (p:List SJ):Prop where
 cam:bg p
 sum:cJ p≤1048576
 len:p.length≤5
theorem wQ.of {l:List SJ} (hL:∀ v ∈ l,gZ 4194304 v) (hs:cJ l≤1048576):wQ l (dq 14 l) :=
 ⟨kY 14 l (mG hL),Nat.le_trans (mh 14 l) hs,le 14 l⟩
theorem ms (A:Option Addr) (ca:Nat) (l:List SJ) (w:World) (hG:GOE w) (hS0:wY w A ca l) (hL:∀ v ∈ l,gZ 4194304 v) (hn0:l.length≤4194304) (hm:cJ l≤1048576) :
  Calls Tryz.prog 6 #[.agg #[.slice A l.length ca]] w (fun e w'=>e=.returned (.bool true)∧Below w.heap.size w w'):=by
 obtain ⟨n,hn⟩:∃ n,l.length=n:=⟨_,rfl⟩
 have HCV:=aW (wQ.of hL hm);have HFW:=aW (fun (W:World) (hb:Below w.heap.size w W)=>zk (n:=n) hS0 hL hn0 hn hb);rw [hn];obtain ⟨p,hp⟩:∃ p,dq 14 l=p:=⟨_,rfl⟩
 rw [hp] at HCV HFW;have HG:=aW (fun (W:World) (hb:Below w.heap.size w W)=>hG.keep hb);have HH0:=aW ((aL.nil w).push 24 #[.slice A n ca] (g:=w.heap.size) rfl);have HWK:=aW (fun (W:World) (hb:Below w.heap.size w W)=>vQ W (hG.keep hb));clear hS0 hL hn0 hm hn hp hG;go_enter Tryz.func6,Tryz.ntmps6;go_upto_region 3 with (go_at_call 14;refine (HWK.out _ HH0.out.1).mono ?_;rintro e w1 ⟨rfl,hb1⟩);have HH1:=aW (HH0.out.keep hb1);obtain ⟨c1,f1,l1⟩:=HH1.out.b0.rules;clear HH0 hb1;go_upto_region 4 with (go_at_call 15;refine (HFW.out _ HH1.out.1).mono ?_;rintro e w2 ⟨A2,n2,ca2,rfl,hh2,hb2⟩);have HB2:=aW (HH1.out.1.trans (hb2.mono HH1.out.1.size));obtain ⟨W3,hW3⟩:∃ W',w2.alloc (.cells #[.slice A2 n2 ca2] 24)=W':=⟨_,rfl⟩
 have hb3:Below w2.heap.size w2 W3:=by rw [← hW3];exact (Below.refl _ _).alloc (Nat.le_refl _) _
 have HB3:=aW (HB2.out.trans (hb3.mono HB2.out.size));have HP3:=aW (hh2.bel hb3);have HX3:=aW (show Blk W3 w2.heap.size 24 #[.slice A2 n2 ca2] by rw [← hW3];exact Blk.new _ _ _);rw [hW3];clear hW3 hb3 hh2 hb2 c1 f1 l1 HB2 HH1;obtain ⟨c3,f3,l3⟩:=HX3.out.rules;obtain ⟨⟨t,q⟩,hpr⟩:∃ r,dG p=r:=⟨_,rfl⟩
 have HPT:=aW (xp HP3.out (HG.out _ HB3.out) HCV.out.cam (Nat.le_trans HCV.out.sum (by decide)));unfold vr at HPT;rw [hpr] at HPT;simp only at HPT;have HJ:=aW (ou p);rw [hpr] at HJ;clear hpr;go_upto_region 5 with (go_at_call 16;refine HPT.out.mono ?_;rintro e w4 ⟨rfl,hb4⟩);have HB4:=aW (HB3.out.trans (hb4.mono HB3.out.size));have HP4:=aW (HP3.out.bel hb4);have HX4:=aW (HX3.out.keep hb4);clear hb4 c3 f3 l3 HX3 HP3 HB3 HPT;obtain ⟨c4,f4,l4⟩:=HX4.out.rules;have HCK:=aW (xn HP4.out (HG.out _ HB4.out) HCV.out.cam (Nat.le_trans HCV.out.sum (by decide)));unfold r5 at HCK;have hpg:lP p=(if jz p=true then 0 else 332):=rfl;rw [hpg] at HCK;clear hpg;rcases HJ.out with ⟨hm,he⟩ | ⟨hm,_,he⟩ | ⟨hm,hl5,he⟩
 ·injection he with he1 he2
  subst he1 he2;rw [hm] at HCK;simp only [Bool.false_eq_true,if_false] at HCK;clear hm HJ;go_wp2_with (go_at_call 18;refine HCK.out.mono ?_;rintro e w5 ⟨rfl,hb5⟩);go_ret;exact ⟨rfl,HB4.out.trans (hb5.mono HB4.out.size)⟩
 ·injection he with he1 he2
  subst he1 he2;rw [hm] at HCK;simp only [if_true] at HCK;clear hm HJ;go_wp2_with (go_at_call 18;refine HCK.out.mono ?_;rintro e w5 ⟨rfl,hb5⟩);go_ret;exact ⟨rfl,HB4.out.trans (hb5.mono HB4.out.size)⟩
 ·injection he with he1 he2
  subst he2;have HPA:=aW (xo (W:=w4) ⟨t.toArray⟩ (HG.out _ HB4.out) (by show t.toArray.size≤_;rw [he1];simp;omega) (o:=(p,0,0)) (by rw [ii,he1];exact pE hm HCV.out.cam hl5));clear hm HJ he1 hl5 HCK;go_upto_region 8 with (go_at_call 22;refine HPA.out.mono ?_;rintro e w5 ⟨A5,n5,ca5,rfl,hh5,hb5⟩);obtain ⟨W5,hW5⟩:∃ W',w5.alloc (.cells #[.slice A5 n5 ca5] 24)=W':=⟨_,rfl⟩
  have hb6:Below w5.heap.size w5 W5:=by rw [← hW5];exact (Below.refl _ _).alloc (Nat.le_refl _) _
  have hb46:Below w4.heap.size w4 W5:=hb5.trans (hb6.mono hb5.size);have HB5:=aW (HB4.out.trans (hb46.mono HB4.out.size));have HX5:=aW (show Blk W5 w5.heap.size 24 #[.slice A5 n5 ca5] by rw [← hW5];exact Blk.new _ _ _);have HX6:=aW (HX4.out.keep hb46);have HSM:=aW (tV (hh5.bel hb6) (HP4.out.bel hb46) HCV.out.cam (by have:=HCV.out.len;omega));rw [hW5];clear hW5 hh5 hb5 hb6 hb46 c4 f4 l4 HX4 HP4 HB4 HPA;obtain ⟨c5,f5,l5⟩:=HX5.out.rules;obtain ⟨c6,f6,l6⟩:=HX6.out.rules;go_wp2_with (go_at_call 24;refine HSM.out.mono ?_;rintro e w6 ⟨rfl,hb7⟩);go_ret;exact ⟨rfl,HB5.out.trans (hb7.mono HB5.out.size)⟩
end
end Go.Proofs.YtgmnmnnoahdjnaaGreatDoor
