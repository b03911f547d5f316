import Derived.Test.YtgmnmnnoahdjnaaGreatDoorY37
import Derived.Test.YtgmnmnnoahdjnaaGreatDoorY36
open Go.Value renaming int → Zi, slice → Zs, string → Zt, pointer → Zp
open Go.IntKind renaming i64 → Zq
set_option maxRecDepth 100000
set_option maxHeartbeats 16000000
set_option linter.unusedVariables false
set_option linter.unusedSimpArgs false
namespace Go.Proofs.YtgmnmnnoahdjnaaGreatDoor
section
open Go.RowKit
attribute [local go_sem] aa ac ae ab
theorem qi (p q s:Addr) (w:World) :
  CallsD Tryz.prog 85 #[Zp (some p),Zp (some q),Zp (some s)] .returning w λ e u' w'=>e=.returned (.tuple #[])/\u'=.returning/\w'=w:=by
 refine callsD_of_wpS Tryz.func85 rfl λ c₀ cs hu=>?_
 simp only [Tryz.ntmps85,List.size_toArray,List.length_cons,List.length_nil,Nat.reduceAdd,Nat.reduceSub,Array.replicate_succ,
   Array.replicate_zero,List.push_toArray,List.append_toArray,List.nil_append,List.cons_append]
 apply wpS_seq;apply wpS_region;simp [wpOpsS,go_sem,recoverD,hu,Exit.thenS];refine wpS_of_wp ?_;go_wp2;cases c₀
 simp_all [bodyPostS,results,Tryz.results85]
theorem jO (b d f:Nat) (x:Int) (c c' c'':Value) (w:World) (hbd:b≠d) (hbf:b≠f) (hdf:d≠f) (hp:w.cell? ⟨b,0,none⟩=some c) (hz:w.frozen? ⟨b,0,none⟩=false) (hq:w.cell? ⟨d,0,none⟩=some c') (hy:w.frozen? ⟨d,0,none⟩=false) (hr:w.cell? ⟨f,0,none⟩=some c'') (hx:w.frozen? ⟨f,0,none⟩=false) :
  CallsD Tryz.prog 85 #[Zp (some ⟨b,0,none⟩),Zp (some ⟨d,0,none⟩),Zp (some ⟨f,0,none⟩)] (.panicking [{ v:=.iface 117 (Zi Zq x),recovered:=false }]) w λ e u' w' =>
   e=.returned (.tuple #[])/\u'=.panicking [{ v:=.iface 117 (Zi Zq x),recovered:=true }]/\w'=((w.setCell ⟨b,0,none⟩ (Zs none 0 0)).setCell ⟨d,0,none⟩ (Zi Zq x)).setCell ⟨f,0,none⟩ (Zi Zq 330):=by
 have hta:∀ w:World,(Instr.typeAssert (.iface 117 (Zi Zq x)) 20 117 true).run Tryz.prog w=.ok (.tuple #[Zi Zq x,.bool true]) w:=λ _=>by kernel_rfl
 refine callsD_of_wpS Tryz.func85 rfl λ c₀ cs hu=>?_
 simp only [Tryz.ntmps85,List.size_toArray,List.length_cons,List.length_nil,Nat.reduceAdd,Nat.reduceSub,Array.replicate_succ,
   Array.replicate_zero,List.push_toArray,List.append_toArray,List.nil_append,List.cons_append]
 apply wpS_seq;apply wpS_region;simp [wpOpsS,go_sem,recoverD,hu,Exit.thenS];refine wpS_of_wp ?_;go_wp2;simp [bodyPostS,results,Tryz.results85]
def t7 (r:PR (List SJ)) (T:List ap) (w:World) (e:Ending) (w':World):Prop:=match r with
 | .ok l q => ∃ (A':Option Addr) (n ca:Nat) (css:List (List Value)),e=.returned (.tuple #[.agg #[Zs A' n ca],Zi Zq 0,Zi Zq 0])/\n=l.length/\n<=ca/\(A'=none->ca=0)/\SRs w' (NW w) css l/\RdF w' (NW w) A' css.flatten/\Below w.heap.size w w'
 | .bad q=>e=.returned (.tuple #[.agg #[Zs none 0 0],Zi Zq (tkA T q:Nat),Zi Zq 330])/\Below w.heap.size w w'
theorem xn (T:List ap) (A:Option Addr) (nT cap:Nat) (w:World) (hT:WT T) (hG:GOE w) (hR:Rd w A (aG T)) (hn:nT<=1000) (hl:T.length=nT) (h0:0<nT) (hc:nT<=cap) :
  Calls Tryz.prog 51 #[Zs A nT cap] w (t7 (fL T) T w):=by
 have hmf:∀ (fn:Fn) (first cap:Array Value) (w:World),(Instr.makeFunc fn first cap).run Tryz.prog w=.ok (.func fn first cap) w:=λ _ _ _ _=>rfl
 have HG:=aW hG;have HR:=aW hR;have HL:=aW hl;clear hG hR hl;obtain ⟨B1,hB1⟩:∃ b,w.heap.size+1=b:=⟨_,rfl⟩
 obtain ⟨B2,hB2⟩:∃ b,B1+1=b:=⟨_,rfl⟩
 obtain ⟨g,hg⟩:∃ b,B2+1=b:=⟨_,rfl⟩
 obtain ⟨W0,hW0⟩:∃ W',((((w.alloc (.cells #[Zs none 0 0] 24)).alloc (.cells #[Zi Zq 0] 3)).alloc (.cells #[Zi Zq 0] 27)).alloc (.cells #[Zi Zq 0,Zs A nT cap] 123))=W':=⟨_,rfl⟩
 have hb0:Below w.heap.size w W0:=by rw [← hW0];exact ((((Below.refl _ w).alloc (Nat.le_refl _) _).alloc (by simp) _).alloc (by simp;omega) _).alloc (by simp;omega) _
 have HP0:=aW (show Blk W0 w.heap.size 24 #[Zs none 0 0]/\Blk W0 B1 3 #[Zi Zq 0]/\Blk W0 B2 27 #[Zi Zq 0] by
  have h1:=Blk.new w 24 #[Zs none 0 0];have h2:=Blk.new (w.alloc (.cells #[Zs none 0 0] 24)) 3 #[Zi Zq 0];have h3:=Blk.new ((w.alloc (.cells #[Zs none 0 0] 24)).alloc (.cells #[Zi Zq 0] 3)) 27 #[Zi Zq 0];simp only [World.size_alloc,hB1,hB2] at h2 h3;rw [← hW0];exact ⟨((h1.alloc _).alloc _).alloc _,(h2.alloc _).alloc _,h3.alloc _⟩)
 have HVP:=aW (show VP W0 g A nT cap T 0 from ⟨by
   have h4:=Blk.new (((w.alloc (.cells #[Zs none 0 0] 24)).alloc (.cells #[Zi Zq 0] 3)).alloc (.cells #[Zi Zq 0] 27)) 123 #[Zi Zq 0,Zs A nT cap];simp only [World.size_alloc,hB1,hB2,hg] at h4;rw [← hW0];exact h4,λ hne=>by
   obtain ⟨b,o,e,hb,hc⟩:=HR.out hne;refine ⟨b,o,e,Nat.lt_of_lt_of_le hb hb0.size,by omega,λ i hi=>?_⟩;exact (hb0.cell (p:=⟨b,o+i,none⟩) hb).trans (hc i hi),HL.out,w,HG.out,by omega,hb0⟩)
 have HBS:=aW (And.intro hB1 (And.intro hB2 hg));have HB0:=aW hb0;have hst:=rW g A nT cap T hT hn 0 W0 HVP.out h0;have HSP:=aW (jN T);obtain ⟨r,hr⟩:∃ r,fL T=r:=⟨_,rfl⟩
 rw [hr] at HSP ⊢;have hgs:g≠w.heap.size/\g≠B1/\g≠B2:=by omega
 have hbs:w.heap.size≠B1/\w.heap.size≠B2/\B1≠B2:=by omega
 clear hr hb0;cases hrs:eS T [] 0 with
 |bad q =>
  have HRR:=aW (show r=.bad q by rw [HSP.out,hrs]);rw [hrs] at hst;unfold jl aM at hst;have HST:=aW hst;clear hst hrs
  go_enter_defers Tryz.func51,Tryz.ntmps51
  go_wp2_with fail;refine HST.out.mono ?_;rintro e w2 ⟨rfl,hg2⟩;have c0:=HP0.out.1.grown hg2 (by simp;omega);have c1:=HP0.out.2.1.grown hg2 (by simp;omega);have c2:=HP0.out.2.2.grown hg2 (by simp;omega);refine leaves_cons (f:=85) (args:=#[Zp (some ⟨w.heap.size,0,none⟩),Zp (some ⟨B1,0,none⟩),Zp (some ⟨B2,0,none⟩)]) (by simp) (by simp [go_sem]) ?_;refine (jO w.heap.size B1 B2 (tkA T q:Nat) _ _ _ w2 hbs.1 hbs.2.1 hbs.2.2 (c0.cell 0) (c0.frozen 0) (c1.cell 0) (c1.frozen 0) (c2.cell 0) (c2.frozen 0)).mono ?_;rintro e u' w3 ⟨rfl,rfl,rfl⟩;have d0:=(c0.set_ 0 (Zs none 0 0))
  refine ⟨.tuple #[.agg #[Zs none 0 0],Zi Zq (tkA T q:Nat),Zi Zq 330],?_,?_⟩
  ·obtain ⟨x0,x1,x2⟩:=c0.rules;obtain ⟨y0,y1,y2⟩:=c1.rules;obtain ⟨z0,z1,z2⟩:=c2.rules;simp only [results,Tryz.results51];go_simp
  ·rw [HRR.out];have hB:=HBS.out;have hbw:Below w.heap.size w w2:=HB0.out.grown hg2 HB0.out.size (λ k e=>by injection e with e;omega);exact ⟨rfl,((hbw.setCell (p:=⟨w.heap.size,0,none⟩) (Nat.le_refl _) _).setCell (p:=⟨B1,0,none⟩) (by show w.heap.size<=B1;omega) _).setCell (p:=⟨B2,0,none⟩) (by show w.heap.size<=B2;omega) _⟩
 |ok l q =>
  have hq:=(uy hT (acc:=[]) (p:=0) (by rw [HL.out];exact h0):(eS T [] 0).In0 T 0)
  rw [hrs] at hq;have hqn:q<nT:=by have h9:=hq.2;rw [HL.out] at h9;exact h9
  have HRQ:=aW (show r=if tkK T q=6 then .ok l q else .bad q by rw [HSP.out,hrs]);rw [hrs] at hst;unfold jl at hst;have HST:=aW hst;clear hst hrs hq;have hqi:(q:Int)<(nT:Int):=by omega
  go_enter_defers Tryz.func51,Tryz.ntmps51
  go_wp2_with fail;refine HST.out.mono ?_;rintro e w2 ⟨A3,n3,c3,css3,rfl,hl1,hl2,hl3,hl4,hl5,hv2,hg2⟩;have HLS:=aW (And.intro hl1 (And.intro hl2 (And.intro hl3 (And.intro hl4 hl5))));have hB:=HBS.out;have hbw:Below w.heap.size w w2:=HB0.out.grown hg2 HB0.out.size (λ k e=>by injection e with e;omega);have HC2:=aW (And.intro (HP0.out.1.grown hg2 (by simp;omega)) (And.intro (HP0.out.2.1.grown hg2 (by simp;omega)) (HP0.out.2.2.grown hg2 (by simp;omega))));have HV2:=aW hv2;have HBW:=aW hbw;have HGB:=aW hg2;obtain ⟨x0,x1,x2⟩:=HC2.out.1.rules;clear hl1 hl2 hl3 hl4 hl5 hv2 hg2 hbw hB;go_upto_region 4 with fail;obtain ⟨W3,hW3⟩:∃ W',w2.setCell ⟨w.heap.size,0,none⟩ (Zs A3 n3 c3)=W':=⟨_,rfl⟩
  rw [hW3];have hbw3:Below w.heap.size w W3:=by rw [← hW3];exact HBW.out.setCell (p:=⟨w.heap.size,0,none⟩) (Nat.le_refl _) _
  have HC3:=aW (show Blk W3 w.heap.size 24 #[Zs A3 n3 c3]/\Blk W3 B1 3 #[Zi Zq 0]/\Blk W3 B2 27 #[Zi Zq 0] by
   rw [← hW3];exact ⟨HC2.out.1.set_ 0 _,HC2.out.2.1.far (p:=⟨w.heap.size,0,none⟩) (Ne.symm hbs.1) _,HC2.out.2.2.far (p:=⟨w.heap.size,0,none⟩) (Ne.symm hbs.2.1) _⟩)
  have hv3:VP W3 g A nT cap T q:=⟨by rw [← hW3];exact HV2.out.blk.far (p:=⟨w.heap.size,0,none⟩) hgs.1 _,λ hne=>by
   obtain ⟨b,o,e,hb,hc⟩:=HR.out hne;refine ⟨b,o,e,Nat.lt_of_lt_of_le hb hbw3.size,by have:=HBS.out;omega,λ i hi=>?_⟩;exact (hbw3.cell (p:=⟨b,o+i,none⟩) hb).trans (hc i hi),HL.out,w,HG.out,by have:=HBS.out;omega,hbw3⟩
  have HL3:=aW (show SRs W3 (NW W0) css3 l/\RdF W3 (NW W0) A3 css3.flatten by
   have hk:af (NW W0) w2 W3:=by rw [← hW3];exact af.set af.refl (λ k hk=>by have:=HP0.out.1.lt;unfold NW at hk;omega) 0 _
   exact ⟨RR.imp HLS.out.2.2.2.1 λ c y hc=>SR.keep hc hk,HLS.out.2.2.2.2.keep hk⟩)
  have HV3:=aW hv3;have HBW3:=aW hbw3;clear hW3 x0 x1 x2 HC2 HV2 HBW HGB;obtain ⟨b,o,rfl,hb,hbg,z0,z1,z2,z3⟩:=hv3.tok hqn;obtain ⟨c0,f0,l0⟩:=hv3.blk.rules;clear hv3 hbw3 z1 z2 z3;by_cases hk:tkK T q=6
  ·have HRR:=aW (show r=.ok l q by rw [HRQ.out,if_pos hk]);rw [hk] at z0;clear hk;refine wp_region_noPanic ?_;go_quiet (fail);refine NoPanic.normal ?_;have d0:=(HC3.out.1.drewN nq)
   have d1:=(HC3.out.2.1.drewN nq)
   have d2:=(HC3.out.2.2.drewN nq)
   obtain ⟨x0,x1,x2⟩:=d0.rules;obtain ⟨u0,u1,u2⟩:=d1.rules;obtain ⟨v0,v1,v2⟩:=d2.rules;go_wp2;refine leaves_cons (f:=85) (args:=#[Zp (some ⟨w.heap.size,0,none⟩),Zp (some ⟨B1,0,none⟩),Zp (some ⟨B2,0,none⟩)]) (by simp) (by simp [go_sem]) ?_;refine (qi ⟨w.heap.size,0,none⟩ ⟨B1,0,none⟩ ⟨B2,0,none⟩ _).mono ?_;rintro e u' w5 ⟨rfl,rfl,rfl⟩;refine ⟨.tuple #[.agg #[Zs A3 n3 c3],Zi Zq 0,Zi Zq 0],?_,?_⟩
   ·simp only [results,Tryz.results51];go_simp
   ·rw [HRR.out];have hb0s:=HP0.out.1.lt;have hb1s:=HP0.out.2.1.lt;have hb2s:=HP0.out.2.2.lt;have hk:af (NW W0) W3 ((((W3.drewN nq).setCell ⟨w.heap.size,0,none⟩ (Zs A3 n3 c3)).setCell ⟨B1,0,none⟩ (Zi Zq 0)).setCell ⟨B2,0,none⟩ (Zi Zq 0)) :=
     (((af.of_below (aj (Below.refl _ W3) nq)).set (λ k hk=>by unfold NW at hk;omega) 0 _).set (λ k hk=>by unfold NW at hk;omega) 0 _).set (λ k hk=>by unfold NW at hk;omega) 0 _
    have hm:∀ b,NW W0 b->NW w b:=λ b hb=>Nat.le_trans HB0.out.size hb
    have hB:=HBS.out;exact ⟨A3,n3,c3,css3,rfl,HLS.out.1,HLS.out.2.1,HLS.out.2.2.1,RR.imp HL3.out.1 λ c y hc=>(SR.keep hc hk).mono λ b _ hb=>hm b hb,(HL3.out.2.keep hk).mono λ b _ hb=>hm b hb,
     (((aj HBW3.out nq).setCell (p:=⟨w.heap.size,0,none⟩) (Nat.le_refl _) _).setCell (p:=⟨B1,0,none⟩) (by show w.heap.size<=B1;omega) _).setCell (p:=⟨B2,0,none⟩) (by show w.heap.size<=B2;omega) _⟩
  ·have HRR:=aW (show r=.bad q by rw [HRQ.out,if_neg hk]);obtain ⟨kk,hkk⟩:∃ k,tkK T q=k:=⟨_,rfl⟩
   rw [hkk] at z0 hk;have hkb:(kk != 6)=true:=by simpa using hk
   clear hk hkk;have hfa:=λ W (h:Below W3.heap.size W3 W)=>iT W g (some ⟨b,o,none⟩) nT cap T q (HV3.out.keep h) hqn hn
   unfold aM at hfa;have HFA:=aW hfa;clear hfa;refine wp_region_noPanic ?_;go_quiet (fail);refine NoPanic.normal ?_;go_wp2_with fail;refine (HFA.out _ (aj (Below.refl _ _) _)).mono ?_;rintro e w4 ⟨rfl,hb4⟩;have hb34:Below W3.heap.size W3 w4:=(aj (Below.refl _ W3) nq).trans hb4;have d0:=HC3.out.1.keep hb34;have d1:=HC3.out.2.1.keep hb34;have d2:=HC3.out.2.2.keep hb34;refine leaves_cons (f:=85) (args:=#[Zp (some ⟨w.heap.size,0,none⟩),Zp (some ⟨B1,0,none⟩),Zp (some ⟨B2,0,none⟩)]) (by simp) (by simp [go_sem]) ?_;refine (jO w.heap.size B1 B2 (tkA T q:Nat) _ _ _ w4 hbs.1 hbs.2.1 hbs.2.2 (d0.cell 0) (d0.frozen 0) (d1.cell 0) (d1.frozen 0) (d2.cell 0) (d2.frozen 0)).mono ?_;rintro e u' w5 ⟨rfl,rfl,rfl⟩;refine ⟨.tuple #[.agg #[Zs none 0 0],Zi Zq (tkA T q:Nat),Zi Zq 330],?_,?_⟩
   ·obtain ⟨x0,x1,x2⟩:=d0.rules;obtain ⟨y0,y1,y2⟩:=d1.rules;obtain ⟨z0,z1,z2⟩:=d2.rules;simp only [results,Tryz.results51];go_simp
   ·rw [HRR.out];have hB:=HBS.out;have hbw:Below w.heap.size w w4:=HBW3.out.trans (hb34.mono HBW3.out.size);exact ⟨rfl,((hbw.setCell (p:=⟨w.heap.size,0,none⟩) (Nat.le_refl _) _).setCell (p:=⟨B1,0,none⟩) (by show w.heap.size<=B1;omega) _).setCell (p:=⟨B2,0,none⟩) (by show w.heap.size<=B2;omega) _⟩
def kX (o:List SJ × Int × Int) (w:World) (e:Ending) (w':World):Prop:=∃ (A:Option Addr) (n ca:Nat) (css:List (List Value)),e=.returned (.tuple #[.agg #[Zs A n ca],Zi Zq o.2.1,Zi Zq o.2.2])/\n=o.1.length/\n<=ca/\(A=none->ca=0)/\SRs w' (NW w) css o.1/\RdF w' (NW w) A css.flatten/\Below w.heap.size w w'
theorem kX.err {at_ e:Int} {w w':World} (h:Below w.heap.size w w'):kX ([],at_,e) w (.returned (.tuple #[.agg #[Zs none 0 0],Zi Zq at_,Zi Zq e])) w' :=
 ⟨none,0,0,[],rfl,rfl,Nat.le_refl _,λ _=>rfl,RR.nil,RdF.nil,h⟩
def wQ (T:List ap):PR (List SJ)->List SJ × Int × Int
 | .bad p=>([],(tkA T p:Nat),330)
 | .ok b _=>if lX b=true then (b,0,0) else ([],0,331)
theorem km {T:List ap} (hT:WT T) (hG:TG T) (h0:0<T.length) {l:List SJ} {q:Nat} (h:fL T=.ok l q):bY l/\l.length<=1000:=by
 rw [jN] at h;cases hs:eS T [] 0 with
 | bad p=>rw [hs] at h;cases h
 |ok l' q' =>
  rw [hs] at h;simp only at h;split at h
  ·injection h with h1 h2
   subst h1 h2;have h3:=(xK hT hG (pM T+1)).1 [] 0 l' q' h0 (Nat.le_refl _) trivial hs;have h4:=(uy hT (acc:=[]) h0:(eS T [] 0).In0 T 0)
   rw [hs] at h4;have:=h4.2;have:=hG.1;exact ⟨h3.1,by omega⟩
  ·cases h
theorem iS (s:ByteArray) (w:World) (hG:GOE w) (hs:s.size<=4194304):Calls Tryz.prog 22 #[Zt s] w (kX (cW (sl s)) w):=by
 obtain ⟨o,ho⟩:∃ o,cW (sl s)=o:=⟨_,rfl⟩
 rw [ho];obtain ⟨⟨T,pl,er⟩,hlx⟩:∃ r,ey (sl s)=r:=⟨_,rfl⟩
 have HO:=aW (show o=(if er≠0 then ([],pl,er) else wQ T (fL T)) by rw [← ho];unfold cW;rw [hlx];rfl);have HLX:=aW (λ W (h:Below w.heap.size w W)=>(show Calls Tryz.prog 50 #[Zt s] W (fC (T,pl,er) W) from hlx ▸ wD s W ((hG.keep h).gok) hs));have HWT:=aW (λ (h:er=0)=>rq (l:=sl s) (T:=T) (a:=pl) (by rw [hlx,h]));have HG:=aW hG;clear ho hlx hG;unfold fC at HLX;have HH0:=aW ((az.nil w).push 24 #[Zs none 0 0] (g:=w.heap.size) rfl);by_cases he:er=0
 ·obtain ⟨hT,hTG,hTn⟩:=HWT.out he;subst he;obtain ⟨nT,hnT⟩:∃ n,T.length=n:=⟨_,rfl⟩
  have hn:nT<=1000:=by rw [← hnT];exact hTG.1
  have h0:0<nT:=by rw [← hnT];exact List.length_pos_iff.2 hTn
  have HPA:=aW (λ A cap W (h:Below w.heap.size w W) (hR:Rd W A (aG T)) (hc:nT<=cap)=>xn T A nT cap W hT (HG.out.keep h) hR hn hnT h0 hc);have HPC:=aW (λ l q (h:fL T=.ok l q)=>km hT hTG (by rw [hnT];exact h0) h);have HNT:=aW hnT;obtain ⟨rP,hrP⟩:∃ r,fL T=r:=⟨_,rfl⟩
  have HO1:=aW (show o=wQ T rP by rw [HO.out,if_neg (λ h=>h rfl),hrP]);rw [hrP] at HPA HPC;clear hT hTG hTn hn h0 hnT hrP HWT HO;cases rP with
  |bad q =>
   have HR:=aW (show o=(([]:List SJ),((tkA T q:Nat):Int),(330:Int)) from HO1.out);rw [HR.out];unfold t7 at HPA;go_enter Tryz.func22,Tryz.ntmps22;go_wp2_with (go_at_call 50;refine (HLX.out _ HH0.out.1).mono ?_;rintro e w1 ⟨v,rfl,⟨A1,cap1,rfl,hcap1,hrd1⟩,hb1⟩;have HH1:=aW (HH0.out.keep hb1);rw [HNT.out] at hcap1;rw [HNT.out]);go_wp2_with fail;refine (HPA.out A1 cap1 _ HH1.out.1 hrd1 hcap1).mono ?_;rintro e w2 ⟨rfl,hb2⟩;have HH2:=aW (HH1.out.keep hb2);obtain ⟨c0,f0,l0⟩:=HH2.out.b0.rules;clear hb2 hrd1 hb1;go_wp2;refine bodyPost_ret (v:=.tuple #[.agg #[Zs none 0 0],Zi Zq (tkA T q:Nat),Zi Zq 330]) (by simp only [results,Tryz.results22];go_simp) rfl ?_;exact kX.err ((HH2.out.1.setCell (p:=⟨w.heap.size,0,none⟩) (Nat.le_refl _) _).alloc (by have:=HH2.out.1.size;simpa [World.setCell] using this) _)
  |ok l q =>
   obtain ⟨hcam,hl9⟩:=HPC.out l q rfl;have HCM:=aW (And.intro hcam hl9);obtain ⟨mb,hmb⟩:∃ b,lX l=b:=⟨_,rfl⟩
   have HR:=aW (show o=if mb=true then (l,(0:Int),(0:Int)) else (([]:List SJ),(0:Int),(331:Int)) by rw [HO1.out,← hmb];rfl);have HPE:=aW (show o6 l=if mb=true then 0 else 332 by unfold o6;rw [hmb]);unfold t7 at HPA;clear hcam hl9 hmb HPC HO1;go_enter Tryz.func22,Tryz.ntmps22;go_wp2_with (go_at_call 50;refine (HLX.out _ HH0.out.1).mono ?_;rintro e w1 ⟨v,rfl,⟨A1,cap1,rfl,hcap1,hrd1⟩,hb1⟩;have HH1:=aW (HH0.out.keep hb1);rw [HNT.out] at hcap1;rw [HNT.out]);go_wp2_with fail;refine (HPA.out A1 cap1 _ HH1.out.1 hrd1 hcap1).mono ?_;rintro e w2 ⟨A',n,ca,css,rfl,hl1,hl2,hl3,hl4,hl5,hb2⟩;have HH3:=aW ((HH1.out.keep hb2).push 24 #[Zs A' n ca] (g:=w2.heap.size) rfl);have hx1:w.heap.size<w1.heap.size:=HH1.out.b0.lt;have hz:Below w2.heap.size w2 (w2.alloc (.cells #[Zs A' n ca] 24)):=(Below.refl _ w2).alloc (Nat.le_refl _) _;have HCK:=aW (qW l css A' n ca (NW w1) (w2.alloc (.cells #[Zs A' n ca] 24)) (HG.out.keep HH3.out.1) (RR.imp hl4 λ c y hc=>SR.bel hc hz) hl1.symm hl2 (hl5.keep (af.of_below hz)) HCM.out.1 (by have:=HCM.out.2;omega));unfold v9 at HCK;rw [HPE.out] at HCK;have HLS:=aW (And.intro hl1 (And.intro hl2 (And.intro hl3 (And.intro (RR.imp hl4 λ c y hc=>SR.bel hc hz) (hl5.keep (af.of_below hz))))));have HW2:=aW hb2.size;clear hl1 hl2 hl3 hl4 hl5 hb2 hrd1 hb1 hz;go_wp2_with fail;refine HCK.out.mono ?_;rintro e w4 ⟨rfl,hb4⟩;have HH4:=aW (HH3.out.keep hb4);obtain ⟨c0,f0,l0⟩:=HH4.out.b0.rules;obtain ⟨d0,g0,m0⟩:=HH4.out.b1.rules;have HB4:=aW hb4;have hne:w.heap.size≠w2.heap.size:=Nat.ne_of_lt (Nat.lt_of_lt_of_le hx1 HW2.out);clear hb4;cases mb
   ·go_wp2;refine bodyPost_ret (v:=.tuple #[.agg #[Zs none 0 0],Zi Zq 0,Zi Zq 331]) (by simp only [results,Tryz.results22];go_simp) rfl ?_;rw [HR.out];exact kX.err (HH4.out.1.setCell (p:=⟨w.heap.size,0,none⟩) (Nat.le_refl _) _)
   ·go_wp2;refine bodyPost_ret (v:=.tuple #[.agg #[Zs A' n ca],Zi Zq 0,Zi Zq 0]) (by simp only [results,Tryz.results22];go_simp) rfl ?_;have hk:af (NW w1) (w2.alloc (.cells #[Zs A' n ca] 24)) (w4.setCell ⟨w.heap.size,0,none⟩ (Zs A' n ca)):=af.set (af.of_below HB4.out) (λ k hk=>by unfold NW at hk;omega) 0 _;rw [HR.out];exact ⟨A',n,ca,css,rfl,HLS.out.1,HLS.out.2.1,HLS.out.2.2.1,RR.imp HLS.out.2.2.2.1 λ c y hc=>(SR.keep hc hk).mono λ b _ hb=>by unfold NW at hb ⊢;omega,(HLS.out.2.2.2.2.keep hk).mono λ b _ hb=>by unfold NW at hb ⊢;omega,HH4.out.1.setCell (p:=⟨w.heap.size,0,none⟩) (Nat.le_refl _) _⟩
 ·have heb:(er != 0)=true:=by simpa using he
  have HR:=aW (show o=([],pl,er) by rw [HO.out,if_pos he]);clear he;rw [HR.out];go_enter Tryz.func22,Tryz.ntmps22;go_wp2_with (go_at_call 50;refine (HLX.out _ HH0.out.1).mono ?_;rintro e w1 ⟨v,rfl,hts,hb1⟩;have HH1:=aW (HH0.out.keep hb1);obtain ⟨c0,f0,l0⟩:=HH1.out.b0.rules;clear hts hb1);refine bodyPost_ret (v:=.tuple #[.agg #[Zs none 0 0],Zi Zq pl,Zi Zq er]) (by simp only [results,Tryz.results22];go_simp) rfl ?_;exact kX.err (HH1.out.1.setCell (p:=⟨w.heap.size,0,none⟩) (Nat.le_refl _) _)
theorem ve:∀ d,tX d
 | 0=>sw 0 λ h=>absurd rfl h
 | d+1=>sw (d+1) λ _=>wS d (ve d)
def zf (l:List SJ) (w:World) (e:Ending) (w':World):Prop:=e=.returned (.tuple #[Zt ⟨(fV l).1.toArray⟩,Zi Zq (fV l).2])/\Below w.heap.size w w'
theorem yR (l:List SJ) (css:List (List Value)) (A:Option Addr) (n ca:Nat) (F:Nat->Prop) (w:World) (hG:GOE w) (hS:SRs w F css l) (hln:l.length=n) (hnc:n<=ca) (hR:RdF w F A css.flatten) (hC:bY l) (hn:n<=4194304) (hlen:dY (aT l)<=100000000000) :
  Calls Tryz.prog 16 #[.agg #[Zs A n ca]] w (zf l w):=by
 have HH0:=aW ((az.nil w).push 24 #[Zs A n ca] (g:=w.heap.size) rfl);have HCK:=aW (λ (W:World) (h:Below w.heap.size w W)=>qW l css A n ca F W (hG.keep h) (RR.imp hS λ c x hc=>hc.bel h) hln hnc (hR.keep (af.of_below h)) hC hn);obtain ⟨b,hb⟩:∃ b,lX l=b:=⟨_,rfl⟩
 have hq:o6 l=(if b=true then 0 else 332):=by unfold o6;rw [hb]
 unfold v9 at HCK;rw [hq] at HCK;clear hq;obtain ⟨c0,f0,l0⟩:=HH0.out.b0.rules;have HGG:=aW hG;cases b with
 |false =>
  have HP:=aW (show fV l=([],332) by unfold fV;rw [hb];rfl);simp only [Bool.false_eq_true,if_false] at HCK;clear hS hR hC hG hb hlen;go_enter Tryz.func16,Tryz.ntmps16;go_wp2_with (go_at_call 18;refine (HCK.out _ HH0.out.1).mono ?_;rintro e w1 ⟨rfl,hb1⟩);go_ret2;exact ⟨by rw [HP.out];rfl,HH0.out.1.trans (hb1.mono HH0.out.1.size)⟩
 |true =>
  simp only [if_true] at HCK;have HM:=aW hb;have HPG:=aW (show (aE (aT l) ([],false)).1=mj l from vh hb hC);have HST:=aW (λ (w1:World) (h:Below w.heap.size w w1)=>show WP (w1.alloc (.cells #[Zs none 0 0,.bool false] 71)) w1.heap.size (Zs none 0 0) 0 [] false from
   ⟨Blk.new _ _ _,(by have h1:=iV.nil (w1.alloc (.cells #[Zs none 0 0,.bool false] 71));rw [World.size_alloc] at h1;exact h1),w,hG,h.size,h.alloc h.size _⟩)
  have HSS:=aW (λ (w1:World) (h:Below w.heap.size w w1)=>show SRs (w1.alloc (.cells #[Zs none 0 0,.bool false] 71)) (PbM w1.heap.size (Zs none 0 0) (w1.alloc (.cells #[Zs none 0 0,.bool false] 71))) css l/\RdF (w1.alloc (.cells #[Zs none 0 0,.bool false] 71)) (PbM w1.heap.size (Zs none 0 0) (w1.alloc (.cells #[Zs none 0 0,.bool false] 71))) A css.flatten from by
   have hbb:Below w.heap.size w (w1.alloc (.cells #[Zs none 0 0,.bool false] 71)):=h.alloc h.size _;have hs:=h.size;have hk:af (λ k=>F k/\k<w.heap.size) w (w1.alloc (.cells #[Zs none 0 0,.bool false] 71)):=af.of_below hbb;have hm:∀ k,k<(w1.alloc (.cells #[Zs none 0 0,.bool false] 71)).heap.size->F k/\k<w.heap.size->PbM w1.heap.size (Zs none 0 0) (w1.alloc (.cells #[Zs none 0 0,.bool false] 71)) k:=λ k hk hF=>⟨hk,by omega,λ e=>by cases e⟩
   exact ⟨RR.imp hS λ c x hc=>((hc.mono (F':=λ k=>F k/\k<w.heap.size) λ k hk hF=>⟨hF,hk⟩).keep hk).mono hm,((hR.mono (F':=λ k=>F k/\k<w.heap.size) λ k hk hF=>⟨hF,hk⟩).keep hk).mono hm⟩)
  have HIH:=aW (λ (w1:World) (h:Below w.heap.size w w1)=>ve 12 l css A n ca (w1.alloc (.cells #[Zs none 0 0,.bool false] 71)) w1.heap.size (Zs none 0 0) 0 ([],false) (HST.out w1 h) (HSS.out w1 h).1 hln hnc (HSS.out w1 h).2 hb hC hn (by show 0+_<=_;omega));clear hS hR hC hG hb hlen HSS hln;go_enter Tryz.func16,Tryz.ntmps16;go_upto_region 4 with (go_at_call 18;refine (HCK.out _ HH0.out.1).mono ?_;rintro e w1 ⟨rfl,hb1⟩;obtain ⟨c1,f1,l1⟩:=((HH0.out.keep hb1).alloc (.cells #[Zs none 0 0,.bool false] 71)).b0.rules);have HB1:=aW (HH0.out.1.trans (hb1.mono HH0.out.1.size));have HC:=aW (HIH.out _ HB1.out);go_upto_region 6 with (go_at_call 44;refine HC.out.mono ?_;rintro e w2 ⟨rfl,row,n2,hw2,hm2⟩);have hn2:=hw2.own.1;rw [HPG.out] at hw2 hn2;have HBF:=aW (show Below w.heap.size w w2 from (HB1.out.alloc HB1.out.size _).trans (hm2.below (by have:=HB1.out.size;simp;omega) HB1.out.size (λ k e=>by cases e)));have hcv:=(BS.of_own (l:=mj l) (by rw [hn2];exact hw2.own.2.1)).conv;obtain ⟨RA,rc,rfl,hrc,_,_⟩:=bP hw2.own.2.1;obtain ⟨d0,g0,k0⟩:=hw2.blk.rules;have HN2:=aW hn2;clear hm2 hw2 hn2 c0 f0 l0 c1 f1 l1;by_cases h512:512<n2
  ·have HP:=aW (show fV l=([],3) by unfold fV;rw [HM.out,HN2.out];simp [h512]);have h5:(512:Int)<(n2:Int):=by omega
   go_wp2;go_ret2;exact ⟨by rw [HP.out];rfl,HBF.out⟩
  ·have HP:=aW (show fV l=(mj l,0) by unfold fV;rw [HM.out,HN2.out];simp [h512]);have h5:¬ (512:Int)<(n2:Int):=by omega
   go_wp2;go_ret2;exact ⟨by rw [HP.out];rfl,HBF.out⟩
theorem nQ (l:List UInt8):bY (cW l).1/\(cW l).1.length<=1000:=by
 unfold cW;split
 ·exact ⟨trivial,Nat.zero_le _⟩
 ·rename_i h
  obtain ⟨T,a,e,hl⟩:∃ T a e,ey l=(T,a,e):=⟨_,_,_,rfl⟩
  rw [hl] at h ⊢;have h0:e=0:=Decidable.byContradiction λ hn=>h hn
  subst h0;obtain ⟨hT,hG,hne⟩:=rq hl;simp only;cases hp:fL T with
  | bad p=>exact ⟨trivial,Nat.zero_le _⟩
  |ok b q =>
   have h1:=km hT hG (List.length_pos_iff.2 hne) hp;simp only;split
   ·exact h1
   ·exact ⟨trivial,Nat.zero_le _⟩
theorem yW:decide (dY (aT (cW ji).1)<=100000)=true:=by kernel_rfl
def xM:List UInt8:=[105,102,32,110,111,116,32,97,61,61,49,32,97,110,100,40,98,32,111,114,32,99,41,123,101,109,105,116,32,49,32,46,120,44,48,59,125]
theorem SR.zero {W:World} {F:Nat->Prop}:SR W F [Zi Zq 0,Zt ⟨#[]⟩,Zi Zq 0,Zi Zq 0,Zi Zq 0,Zt ⟨#[]⟩,Zs none 0 0,Zs none 0 0,Zt ⟨#[]⟩,Zs none 0 0,Zi Zq 0,Zi Zq 0,Zi Zq 0,Zt ⟨#[]⟩,Zs none 0 0,Zs none 0 0,Zt ⟨#[]⟩,Zs none 0 0,Zs none 0 0,Zs none 0 0] (.mk 0 [] aR aR [] []) :=
 SR.into (k:=0) (s:=[]) (acs:=[Zi Zq 0,Zi Zq 0,Zi Zq 0,Zt ⟨#[]⟩,Zs none 0 0,Zs none 0 0,Zt ⟨#[]⟩,Zs none 0 0]) (bcs:=[Zi Zq 0,Zi Zq 0,Zi Zq 0,Zt ⟨#[]⟩,Zs none 0 0,Zs none 0 0,Zt ⟨#[]⟩,Zs none 0 0]) (css:=[]) (dss:=[]) ER.zero ER.zero RR.nil rfl (Nat.le_refl _) (λ _=>rfl) RdF.nil RR.nil rfl (Nat.le_refl _) (λ _=>rfl) RdF.nil
theorem wF (w:World) (hG:GOE w):Calls Tryz.prog 14 #[] w (λ e w'=>e=.returned (.bool true)/\Below w.heap.size w w'):=by
 obtain ⟨l,hl⟩:∃ l,(cW ji).1=l:=⟨_,rfl⟩
 have hc:=(nQ ji).1;have hsh:=vS;have hok:=zB;have hmy:=yX;have htx:=xt;have hln:=yW;rw [hl] at hc hsh hmy htx hln;rw [decide_eq_true_eq] at hln;have h1:cW ji=(l,0,0):=Prod.ext hl hok;obtain ⟨s,a,b,x,els,rfl⟩:∃ s a b x els,l=[.mk 2 s a b [x] els]:=by
  match l,hsh with
  |[.mk k s a b body els],h =>
   simp only [decide_eq_true_eq] at h;obtain ⟨rfl,h⟩:=h;obtain ⟨x,rfl⟩:=List.length_eq_one_iff.1 h;exact ⟨s,a,b,x,els,rfl⟩
 have HPR:=aW (show fV [.mk 2 s a b [x] els]=(xM,0) by unfold fV;rw [if_pos hmy,htx];rfl);have HP1:=aW (λ W (h:Below w.heap.size w W)=>iS ⟨ji.toArray⟩ W (hG.keep h) (by decide));rw [eO,h1] at HP1;have HP2:=aW (λ W (h:Below w.heap.size w W)=>iS ⟨#[101,109,105,116,32,97,32,60,32,98,32,60,32,99,44,32,49,59]⟩ W (hG.keep h) (by decide));rw [show sl ⟨#[101,109,105,116,32,97,32,60,32,98,32,60,32,99,44,32,49,59]⟩=[101,109,105,116,32,97,32,60,32,98,32,60,32,99,44,32,49,59] from rfl] at HP2;have HP3:=aW (λ W (h:Below w.heap.size w W)=>iS ⟨#[101,109,105,116,32,49,44,32,50]⟩ W (hG.keep h) (by decide));rw [show sl ⟨#[101,109,105,116,32,49,44,32,50]⟩=[101,109,105,116,32,49,44,32,50] from rfl] at HP3;unfold kX at HP1 HP2 HP3;rw [yY] at HP2;rw [yV] at HP3;unfold ji at HP1;have HPT:=aW (λ (W:World) (A:Option Addr) (n ca:Nat) (css:List (List Value)) (F:Nat->Prop) (h:Below w.heap.size w W) (hS:SRs W F css [.mk 2 s a b [x] els]) (hn:n=1) (hca:n<=ca) (hR:RdF W F A css.flatten)=>yR [.mk 2 s a b [x] els] css A n ca F W (hG.keep h) hS (by rw [hn];rfl) hca hR hc (by omega) (by omega));unfold zf at HPT;rw [HPR.out] at HPT;unfold xM at HPT;have HCK:=aW (λ (W:World) (h:Below w.heap.size w W) (p:Nat) (hp:p=W.heap.size)=>qW [.mk 0 [] aR aR [] []] [[Zi Zq 0,Zt ⟨#[]⟩,Zi Zq 0,Zi Zq 0,Zi Zq 0,Zt ⟨#[]⟩,Zs none 0 0,Zs none 0 0,Zt ⟨#[]⟩,Zs none 0 0,Zi Zq 0,Zi Zq 0,Zi Zq 0,Zt ⟨#[]⟩,Zs none 0 0,Zs none 0 0,Zt ⟨#[]⟩,Zs none 0 0,Zs none 0 0,Zs none 0 0]] (some ⟨p,0,none⟩) 1 1 (λ _=>True)
  (W.alloc (.cells #[Zi Zq 0,Zt ⟨#[]⟩,Zi Zq 0,Zi Zq 0,Zi Zq 0,Zt ⟨#[]⟩,Zs none 0 0,Zs none 0 0,Zt ⟨#[]⟩,Zs none 0 0,Zi Zq 0,Zi Zq 0,Zi Zq 0,Zt ⟨#[]⟩,Zs none 0 0,Zs none 0 0,Zt ⟨#[]⟩,Zs none 0 0,Zs none 0 0,Zs none 0 0] 48)) (hG.keep (h.alloc h.size _)) (RR.nil.snoc SR.zero) rfl (Nat.le_refl _) (by subst hp;exact RdF.of_blkP (Blk.new W 48 #[Zi Zq 0,Zt ⟨#[]⟩,Zi Zq 0,Zi Zq 0,Zi Zq 0,Zt ⟨#[]⟩,Zs none 0 0,Zs none 0 0,Zt ⟨#[]⟩,Zs none 0 0,Zi Zq 0,Zi Zq 0,Zi Zq 0,Zt ⟨#[]⟩,Zs none 0 0,Zs none 0 0,Zt ⟨#[]⟩,Zs none 0 0,Zs none 0 0,Zs none 0 0]) trivial)
  (by unfold bY j3;exact ⟨⟨by decide,by simp,gj,gj,by simp,by simp,trivial,trivial⟩,trivial⟩) (by decide))
 rw [show o6 [.mk 0 [] aR aR [] []]=332 from rfl] at HCK;unfold v9 at HCK;have HW:=aW (Below.refl w.heap.size w);clear hl hc hsh hok hmy htx hln h1 HPR;go_enter Tryz.func14,Tryz.ntmps14;go_upto_region 2 with (go_at_call 22;refine (HP1.out _ HW.out).mono ?_;rintro e w1 ⟨A,n,ca,css,rfl,hn,hca,hA,hS,hR,hb1⟩;simp only [List.length_cons,List.length_nil,Nat.zero_add] at hn;subst hn);obtain ⟨W2,hW2⟩:∃ W',w1.alloc (.cells #[Zs A 1 ca] 24)=W':=⟨_,rfl⟩
 have hb2:Below w1.heap.size w1 W2:=by rw [← hW2];exact (Below.refl _ _).alloc (Nat.le_refl _) _
 obtain ⟨bl,o,ka,kva,nva,sva,Ava,nka,cka,Bva,nya,cya,sa,Ca,nxa,cxa,kb,kvb,nvb,svb,Avb,nkb,ckb,Bvb,nyb,cyb,sb,Cb,nxb,cxb,BA,LA,cb,cl,bss,lss,rfl,hbl,_,_,_,_,_,_,hz⟩:=eu hS hR (i:=0) rfl;have z0:=(hb2.cell (p:=⟨bl,o+(0*20+0),none⟩) hbl).trans (hz 0 _ rfl);have z18:=(hb2.cell (p:=⟨bl,o+(0*20+18),none⟩) hbl).trans (hz 18 _ rfl);simp only [Nat.zero_mul,Nat.add_zero,Nat.zero_add,List.length_cons,List.length_nil] at z0 z18;have hblk:=Blk.new w1 24 #[Zs (some ⟨bl,o,none⟩) 1 ca];rw [hW2] at hblk ⊢;obtain ⟨c0,f0,l0⟩:=hblk.rules;have HB2:=aW (hb1.trans (hb2.mono hb1.size));have HS2:=aW (And.intro (RR.imp hS λ c y (hc:SR _ _ c y)=>hc.bel hb2) (hR.keep (af.of_below hb2)));have hca1:1<=ca:=hca;clear hS hR hz hb1 hb2 hblk hW2 hA hca;go_upto_region 5 with (go_at_call 16;refine (HPT.out _ _ _ _ _ _ HB2.out HS2.out.1 rfl hca1 HS2.out.2).mono ?_;rintro e w3 ⟨rfl,hb3⟩);have HB3:=aW (HB2.out.trans (hb3.mono HB2.out.size));clear hb3 HB2 HS2 c0 f0 l0 z0 z18;go_upto_region 6 with (go_at_call 22;refine (HP2.out _ HB3.out).mono ?_;rintro e w4 ⟨A4,n4,ca4,css4,rfl,q1,q2,q3,q4,q5,hb4⟩;clear q1 q2 q3 q4 q5);have HB4:=aW ((HB3.out.trans (hb4.mono HB3.out.size)).alloc ((HB3.out.trans (hb4.mono HB3.out.size)).size) (.cells #[Zs A4 n4 ca4] 24));obtain ⟨W4,hW4⟩:∃ W',w4.alloc (.cells #[Zs A4 n4 ca4] 24)=W':=⟨_,rfl⟩
 rw [hW4] at HB4 ⊢;clear hb4 hW4 HB3;go_upto_region 7 with (go_at_call 22;refine (HP3.out _ HB4.out).mono ?_;rintro e w5 ⟨A5,n5,ca5,css5,rfl,q1,q2,q3,q4,q5,hb5⟩;clear q1 q2 q3 q4 q5);have HB5:=aW ((HB4.out.trans (hb5.mono HB4.out.size)).alloc ((HB4.out.trans (hb5.mono HB4.out.size)).size) (.cells #[Zs A5 n5 ca5] 24));obtain ⟨W5,hW5⟩:∃ W',w5.alloc (.cells #[Zs A5 n5 ca5] 24)=W':=⟨_,rfl⟩
 rw [hW5] at HB5 ⊢;clear hb5 hW5 HB4;go_wp2_with (go_at_call 18;refine (HCK.out _ HB5.out _ (by first | rfl | simp)).mono ?_;rintro e w6 ⟨rfl,hb6⟩);go_ret;exact ⟨rfl,(HB5.out.alloc HB5.out.size _).trans (hb6.mono (HB5.out.alloc HB5.out.size _).size)⟩
end
section
open Go.RowKit Go.Shelf
attribute [local go_sem] aa ac ae ab
theorem Blk.setL {g:Nat} {t:TypeId}:∀ (vs:List Value) (o:Nat) {w:World} {cs:Array Value},Blk w g t cs->o+vs.length<=cs.size->∃ cs',Blk (w.setCells g o vs) g t cs'/\cs'.size=cs.size/\(∀ i,i<o∨o+vs.length<=i->cs'[i]? = cs[i]?)/\∀ j v,vs[j]? = some v->cs'[o+j]? = some v
 | [],o,w,cs,h,_=>⟨cs,h,rfl,λ _ _=>rfl,λ j v hv=>by simp at hv⟩
 |u::r,o,w,cs,h,hl=>by
  rw [List.length_cons] at hl;obtain ⟨cs',h1,h2,h3,h4⟩:=Blk.setL r (o+1) (h.set_ o u) (by rw [Array.size_setIfInBounds];omega);rw [Array.size_setIfInBounds] at h2;refine ⟨cs',h1,h2,λ i hi=>?_,λ j v hv=>?_⟩
  ·rw [List.length_cons] at hi;rw [h3 i (by omega),Array.getElem?_setIfInBounds_ne (by omega)]
  ·cases j with
   |zero =>
    rw [Nat.add_zero,h3 o (by omega),Array.getElem?_setIfInBounds_self_of_lt (by omega)];simpa using hv
   |succ j =>
    have:=h4 j v (by simpa using hv);rw [show o+(j+1)=o+1+j by omega];exact this
theorem Blk.setAll {w:World} {g:Nat} {t:TypeId} {cs:Array Value} (h:Blk w g t cs) (vs:List Value) (hl:vs.length=cs.size):Blk (w.setCells g 0 vs) g t vs.toArray:=by
 obtain ⟨cs',h1,h2,_,h4⟩:=Blk.setL vs 0 h (by omega);have e:cs'=vs.toArray:=by
  apply Array.ext_getElem?;intro i;rw [show vs.toArray[i]? = vs[i]? by simp];rcases Nat.lt_or_ge i vs.length with hi | hi
  ·have:=h4 i _ (List.getElem?_eq_getElem hi);rw [Nat.zero_add] at this;rw [this,List.getElem?_eq_getElem hi]
  ·rw [List.getElem?_eq_none hi,Array.getElem?_eq_none (by omega)]
 rw [← e];exact h1
theorem sg {w W W':World} {b b':Nat} {t:TypeId} {X Y:Array Value} (h:Blk W b t X/\Blk W b' t Y/\Below w.heap.size w W) (hb:Below W.heap.size W W'):Blk W' b t X/\Blk W' b' t Y/\Below w.heap.size w W':=⟨h.1.keep hb,h.2.1.keep hb,h.2.2.trans (hb.mono h.2.2.size)⟩
theorem yL {P:Program} {md:Region.Mode} {ops:Array Oper} {Q:Exit->Act->World->Prop} {S:World->Prop} {fuel:Nat} {listed:Array Bool} {act:Nat->Nat->Act} {R:World->Nat->Nat->Prop} {goal:Prop}
  (hleaf:∀ Y b c,R Y b c->wpAnyH P md ops Q S fuel listed (act b c) Y) (h:(∀ Y b c,R Y b c->wpAnyH P md ops Q S fuel listed (act b c) Y)->goal):goal:=h hleaf
theorem mQ {P:Program} {md:Region.Mode} {ops:Array Oper} {Q:Exit->Act->World->Prop} {S:World->Prop} {fuel:Nat} {l l':Array Bool} {a:Act} {w:World} (e:l=l') (h:wpAnyH P md ops Q S fuel l' a w):wpAnyH P md ops Q S fuel l a w:=by rw [e];exact h
set_option maxHeartbeats 32000000 in
theorem sD:∀ (N:Nat) (kids kidsq:List SJ),oh kids<N->∀ (css css':List (List Value)) (A A':Option Addr) (nk nkq ca ca':Nat) (F F':Nat->Prop) (w:World),kids.length=nk->kidsq.length=nkq->nk<=4194304->nkq<=4194304->SRs w F css kids->RdF w F A css.flatten->SRs w F' css' kidsq->RdF w F' A' css'.flatten->nk<=ca->nkq<=ca'->bY kids->bY kidsq ->
  Calls Tryz.prog 20 #[Zs A nk ca,Zs A' nkq ca'] w (EqX (kids=kidsq) w)
 | 0,_,_,h,_,_,_,_,_,_,_,_,_,_,_,_,_,_,_,_,_,_,_,_,_,_,_=>absurd h (Nat.not_lt_zero _)
 |N+1,kids,kidsq,hN,css,css',A,A',nk,nkq,ca,ca',F,F',w,hnk,hnkq,hk9,hkq9,h1,h6,h1',h6',h2,h2',hC,hC'=>by
  have ih:=sD N;have HKD:=aW (And.intro (And.intro h1 h6) (And.intro h1' h6'));have HCM:=aW (And.intro (dQ.1 hC) (dQ.1 hC'));have HIH:=aW ih;have HSUM:=aW (show ∀ x ∈ kids,xf x<N+1 from λ x hx=>Nat.lt_of_le_of_lt (oj hx) hN);have HNK:=aW hnk;have HNKQ:=aW hnkq;clear h1 h6 h1' h6' hnk hnkq ih hN hC hC';by_cases el:nk=nkq
  case neg =>
   have HNO:=aW (show ¬ (kids=kidsq) from λ e=>el (by rw [← HNK.out,← HNKQ.out,e]));have hb2:((nk:Int) != nkq)=true:=by simp;omega
   go_enter Tryz.func20,Tryz.ntmps20;go_wp2;go_ret;exact EqX.no HNO.out (Below.refl _ _)
  subst el;go_enter Tryz.func20,Tryz.ntmps20;go_wp2;go_loopg [5] nk (λ gk s5 wr => ∃ i:Nat,i<=nk/\gk=nk-i/\s5=Zi Zq (i:Int)/\Hid (kids.take i=kidsq.take i)/\Hid (Below w.heap.size w wr))
  case atStart=>exact ⟨0,Nat.zero_le _,rfl,by go_num,aW rfl,aW (Below.refl _ _)⟩
  case round =>
   obtain ⟨i,hi,hgk,rfl,HSM,HB0⟩:=hrel;have HGK:=aW hgk;clear hgk;by_cases hlt:i<nk
   ·obtain ⟨x,hx⟩:∃ x,kids[i]? = some x:=⟨_,List.getElem?_eq_getElem (by rw [HNK.out];exact hlt)⟩
    obtain ⟨y,hy⟩:∃ y,kidsq[i]? = some y:=⟨_,List.getElem?_eq_getElem (by rw [HNKQ.out];exact hlt)⟩
    have hcx:=HCM.out.1 x (List.mem_of_getElem? hx);have hcy:=HCM.out.2 y (List.mem_of_getElem? hy);have hsx:=HSUM.out x (List.mem_of_getElem? hx);have HXY:=aW (show x=y->kids.take (i+1)=kidsq.take (i+1) from λ e=>by rw [List.take_add_one,List.take_add_one,HSM.out,hx,hy,e]);have HXN:=aW (show x≠y->¬ kids=kidsq from λ e h=>e (by rw [h,hy] at hx;exact (Option.some.inj hx).symm));have hS1:SRs wr F css kids:=RR.imp HKD.out.1.1 λ c y hc=>hc.bel HB0.out
    have hR1:RdF wr F A css.flatten:=HKD.out.1.2.keep (af.of_below HB0.out);have hS2:SRs wr F' css' kidsq:=RR.imp HKD.out.2.1 λ c y hc=>hc.bel HB0.out
    have hR2:RdF wr F' A' css'.flatten:=HKD.out.2.2.keep (af.of_below HB0.out);obtain ⟨k,s,a,b,body,els⟩:=x;obtain ⟨k',s',a',b',body',els'⟩:=y;unfold j3 at hcx hcy;unfold xf at hsx;obtain ⟨_,_,hca,hcb,hbl4,hel4,hcd,hce⟩:=hcx;obtain ⟨_,_,hca',hcb',hbl4',hel4',hcd',hce'⟩:=hcy;obtain ⟨bl,o,ka,kva,nva,sva,Ava,nka,cka,Bva,nya,cya,sa,Ca,nxa,cxa,kb,kvb,nvb,svb,Avb,nkb,ckb,Bvb,nyb,cyb,sb,Cb,nxb,cxb,BA,LA,cb,cl,bss,lss,rfl,hbl,_,hEA,hEB,⟨d1,d2,d3⟩,⟨e1,e2,e3⟩,hSR,hz⟩:=eu hS1 hR1 hx;obtain ⟨bl',o',ka',kva',nva',sva',Ava',nka',cka',Bva',nya',cya',sa',Ca',nxa',cxa',kb',kvb',nvb',svb',Avb',nkb',ckb',Bvb',nyb',cyb',sb',Cb',nxb',cxb',BA',LA',cb',cl',bss',lss',rfl,hbl',_,hEA',hEB',⟨d1',d2',d3'⟩,⟨e1',e2',e3'⟩,hSR',hz'⟩:=eu hS2 hR2 hy;have HXA:=aW (λ W (h:Below wr.heap.size wr W)=>rH _ a a' (Nat.le_refl _) _ _ F F' W (hEA.bel h) (hEA'.bel h) hca hca');have HXB:=aW (λ W (h:Below wr.heap.size wr W)=>rH _ b b' (Nat.le_refl _) _ _ F F' W (hEB.bel h) (hEB'.bel h) hcb hcb');have HBD:=aW (λ W (h:Below wr.heap.size wr W)=>HIH.out body body' (by omega) bss bss' BA BA' body.length body'.length cb cb' F F' W rfl rfl hbl4 hbl4' (RR.imp d1 λ c x hc=>hc.bel h) (d3.keep (af.of_below h)) (RR.imp d1' λ c x hc=>hc.bel h) (d3'.keep (af.of_below h)) d2 d2' hcd hcd');have HEL:=aW (λ W (h:Below wr.heap.size wr W)=>HIH.out els els' (by omega) lss lss' LA LA' els.length els'.length cl cl' F F' W rfl rfl hel4 hel4' (RR.imp e1 λ c x hc=>hc.bel h) (e3.keep (af.of_below h)) (RR.imp e1' λ c x hc=>hc.bel h) (e3'.keep (af.of_below h)) e2 e2' hce hce');obtain ⟨nb,hnb⟩:∃ q,body.length=q:=⟨_,rfl⟩
    obtain ⟨nl,hnl⟩:∃ q,els.length=q:=⟨_,rfl⟩
    obtain ⟨nb',hnb'⟩:∃ q,body'.length=q:=⟨_,rfl⟩
    obtain ⟨nl',hnl'⟩:∃ q,els'.length=q:=⟨_,rfl⟩
    rw [hnb,hnb'] at HBD;rw [hnl,hnl'] at HEL;rw [hnb,hnl] at hz;rw [hnb',hnl'] at hz';have HRG:=aW (λ (W:World) (h:Below wr.heap.size wr W)=>show W.rangeAt bl (o+i*20) [Zi Zq k,Zt ⟨s.toArray⟩,Zi Zq ka,Zi Zq kva,Zi Zq nva,Zt sva,Zs Ava nka cka,Zs Bva nya cya,Zt sa,Zs Ca nxa cxa,Zi Zq kb,Zi Zq kvb,Zi Zq nvb,Zt svb,Zs Avb nkb ckb,Zs Bvb nyb cyb,Zt sb,Zs Cb nxb cxb,Zs BA nb cb,Zs LA nl cl] from λ j v hv=>by rw [Nat.add_assoc];exact (h.cell (p:=⟨bl,o+(i*20+j),none⟩) hbl).trans (hz j v hv));have HRGp:=aW (λ (W:World) (h:Below wr.heap.size wr W)=>show W.rangeAt bl' (o'+i*20) [Zi Zq k',Zt ⟨s'.toArray⟩,Zi Zq ka',Zi Zq kva',Zi Zq nva',Zt sva',Zs Ava' nka' cka',Zs Bva' nya' cya',Zt sa',Zs Ca' nxa' cxa',Zi Zq kb',Zi Zq kvb',Zi Zq nvb',Zt svb',Zs Avb' nkb' ckb',Zs Bvb' nyb' cyb',Zt sb',Zs Cb' nxb' cxb',Zs BA' nb' cb',Zs LA' nl' cl'] from λ j v hv=>by rw [Nat.add_assoc];exact (h.cell (p:=⟨bl',o'+(i*20+j),none⟩) hbl').trans (hz' j v hv));obtain ⟨PP,hPP⟩:∃ PP:Prop,(SJ.mk k s a b body els=SJ.mk k' s' a' b' body' els')=PP:=⟨_,rfl⟩
    have HPN:=aW (show (k≠k'∨s≠s'∨a≠a'∨b≠b'∨body≠body'∨els≠els')->¬ PP by
     rw [← hPP];intro h e;injection e with e1 e2 e3 e4 e5 e6
     rcases h with h | h | h | h | h | h
     ·exact h e1
     ·exact h e2
     ·exact h e3
     ·exact h e4
     ·exact h e5
     ·exact h e6)
    have HPY:=aW (show k=k'->s=s'->a=a'->b=b'->body=body'->els=els'->PP by rw [← hPP];rintro rfl rfl rfl rfl rfl rfl;rfl);rw [show (SJ.mk k s a b body els≠SJ.mk k' s' a' b' body' els') = ¬ PP from congrArg Not hPP] at HXN;rw [hPP] at HXY;clear hPP hx hy hSR hSR' hEA hEB hEA' hEB' d1 d2 d3 e1 e2 e3 d1' d2' d3' e1' e2' e3' hz hz' hS1 hS2 hR1 hR2 hca hca' hcb hcb' hcd hcd' hce hce' hsx hbl4 hbl4' hel4 hel4' hnb hnl hnb' hnl';go_upto_region 6 with fail;go_cut [6,7] (λ s6 s7 wx => ∃ (b6 b7:Nat) (W:World),W=wx/\s6=Zp (some ⟨b6,0,none⟩)/\s7=Zp (some ⟨b7,0,none⟩)/\Hid (Blk W b6 48 #[Zi Zq k,Zt ⟨s.toArray⟩,Zi Zq ka,Zi Zq kva,Zi Zq nva,Zt sva,Zs Ava nka cka,Zs Bva nya cya,Zt sa,Zs Ca nxa cxa,Zi Zq kb,Zi Zq kvb,Zi Zq nvb,Zt svb,Zs Avb nkb ckb,Zs Bvb nyb cyb,Zt sb,Zs Cb nxb cxb,Zs BA nb cb,Zs LA nl cl]/\wr.heap.size<=b6)/\Hid (Blk W b7 48 #[Zi Zq k',Zt ⟨s'.toArray⟩,Zi Zq ka',Zi Zq kva',Zi Zq nva',Zt sva',Zs Ava' nka' cka',Zs Bva' nya' cya',Zt sa',Zs Ca' nxa' cxa',Zi Zq kb',Zi Zq kvb',Zi Zq nvb',Zt svb',Zs Avb' nkb' ckb',Zs Bvb' nyb' cyb',Zt sb',Zs Cb' nxb' cxb',Zs BA' nb' cb',Zs LA' nl' cl']/\wr.heap.size<=b7)/\Hid (Below wr.heap.size wr W))
    case first =>
     apply yL (R:=λ Y b6 b7=>Hid (Blk Y b6 48 #[Zi Zq 0,Zt ⟨#[]⟩,Zi Zq 0,Zi Zq 0,Zi Zq 0,Zt ⟨#[]⟩,Zs none 0 0,Zs none 0 0,Zt ⟨#[]⟩,Zs none 0 0,Zi Zq 0,Zi Zq 0,Zi Zq 0,Zt ⟨#[]⟩,Zs none 0 0,Zs none 0 0,Zt ⟨#[]⟩,Zs none 0 0,Zs none 0 0,Zs none 0 0]/\wr.heap.size<=b6)/\Hid (Blk Y b7 48 #[Zi Zq 0,Zt ⟨#[]⟩,Zi Zq 0,Zi Zq 0,Zi Zq 0,Zt ⟨#[]⟩,Zs none 0 0,Zs none 0 0,Zt ⟨#[]⟩,Zs none 0 0,Zi Zq 0,Zi Zq 0,Zi Zq 0,Zt ⟨#[]⟩,Zs none 0 0,Zs none 0 0,Zt ⟨#[]⟩,Zs none 0 0,Zs none 0 0,Zs none 0 0]/\wr.heap.size<=b7)/\Hid (Below wr.heap.size wr Y)/\b6≠b7)
     case h =>
      intro HL;refine wp_region_held_drew (S:=λ W'=>Below wr.heap.size wr W') (by kernel_rfl) (by exact (Below.refl _ _).drew) (λ hHeld=>?_);refine ai (λ w2 hw2=>?_);have HW2:=aW (show Below wr.heap.size wr w2 by rw [hw2];exact (Below.refl _ _).drew);clear hw2;refine tA 0 19 (Zs (some ⟨bl,o,none⟩) nk ca) rfl ?_;refine tA 1 20 (Zi Zq (i:Int)) rfl ?_;refine tA 2 21 (Zp (some ⟨bl,o+i*20,none⟩)) rfl ?_;refine wpAnyH_take (i:=3) (oi:=⟨some 22,_,_,_,_,_⟩) (v:=.agg #[Zi Zq k,Zt ⟨s.toArray⟩,Zi Zq ka,Zi Zq kva,Zi Zq nva,Zt sva,Zs Ava nka cka,Zs Bva nya cya,Zt sa,Zs Ca nxa cxa,Zi Zq kb,Zi Zq kvb,Zi Zq nvb,Zt svb,Zs Avb nkb ckb,Zs Bvb nyb cyb,Zt sb,Zs Cb nxb cxb,Zs BA nb cb,Zs LA nl cl]) rfl (by kernel_rfl) (by kernel_rfl) (by kernel_rfl) (λ _ _ _ h=>h) (yieldsIf_load_mid (by kernel_rfl) 48 (.tmp 21) rfl bl (o+i*20) rfl [Zi Zq k,Zt ⟨s.toArray⟩,Zi Zq ka,Zi Zq kva,Zi Zq nva,Zt sva,Zs Ava nka cka,Zs Bva nya cya,Zt sa,Zs Ca nxa cxa,Zi Zq kb,Zi Zq kvb,Zi Zq nvb,Zt svb,Zs Avb nkb ckb,Zs Bvb nyb cyb,Zt sb,Zs Cb nxb cxb,Zs BA nb cb,Zs LA nl cl] _ (λ W hSw=>HRG.out W hSw) Tryz.underlying48 rfl (by kernel_rfl)) (by assumption) ?_
      try simp only [pU]
      refine tA 4 23 (Zs (some ⟨bl',o',none⟩) nk ca') rfl ?_;refine tA 5 24 (Zi Zq (i:Int)) rfl ?_;refine tA 6 25 (Zp (some ⟨bl',o'+i*20,none⟩)) rfl ?_;refine wpAnyH_take (i:=7) (oi:=⟨some 26,_,_,_,_,_⟩) (v:=.agg #[Zi Zq k',Zt ⟨s'.toArray⟩,Zi Zq ka',Zi Zq kva',Zi Zq nva',Zt sva',Zs Ava' nka' cka',Zs Bva' nya' cya',Zt sa',Zs Ca' nxa' cxa',Zi Zq kb',Zi Zq kvb',Zi Zq nvb',Zt svb',Zs Avb' nkb' ckb',Zs Bvb' nyb' cyb',Zt sb',Zs Cb' nxb' cxb',Zs BA' nb' cb',Zs LA' nl' cl']) rfl (by kernel_rfl) (by kernel_rfl) (by kernel_rfl) (λ _ _ _ h=>h) (yieldsIf_load_mid (by kernel_rfl) 48 (.tmp 25) rfl bl' (o'+i*20) rfl [Zi Zq k',Zt ⟨s'.toArray⟩,Zi Zq ka',Zi Zq kva',Zi Zq nva',Zt sva',Zs Ava' nka' cka',Zs Bva' nya' cya',Zt sa',Zs Ca' nxa' cxa',Zi Zq kb',Zi Zq kvb',Zi Zq nvb',Zt svb',Zs Avb' nkb' ckb',Zs Bvb' nyb' cyb',Zt sb',Zs Cb' nxb' cxb',Zs BA' nb' cb',Zs LA' nl' cl'] _ (λ W hSw=>HRGp.out W hSw) Tryz.underlying48 rfl (by kernel_rfl)) (by assumption) ?_
      try simp only [pU]
      refine wpAnyH_ready (rs:=[8,9]) (by kernel_rfl) (by simp) ?_;refine AllReadyH.cons (o:=⟨some 6,_,_,_,_,_⟩) rfl (λ K hK=>?_) (AllReadyH.cons (o:=⟨some 7,_,_,_,_,_⟩) rfl (λ K hK=>?_) AllReadyH.nil)
      ·go_simp;have hbA:=(Below.refl _ w2).alloc (Nat.le_refl _) (.cells #[Zi Zq 0,Zt ⟨#[]⟩,Zi Zq 0,Zi Zq 0,Zi Zq 0,Zt ⟨#[]⟩,Zs none 0 0,Zs none 0 0,Zt ⟨#[]⟩,Zs none 0 0,Zi Zq 0,Zi Zq 0,Zi Zq 0,Zt ⟨#[]⟩,Zs none 0 0,Zs none 0 0,Zt ⟨#[]⟩,Zs none 0 0,Zs none 0 0,Zs none 0 0] 48);have HN6:=aW (show Blk (w2.alloc (.cells #[Zi Zq 0,Zt ⟨#[]⟩,Zi Zq 0,Zi Zq 0,Zi Zq 0,Zt ⟨#[]⟩,Zs none 0 0,Zs none 0 0,Zt ⟨#[]⟩,Zs none 0 0,Zi Zq 0,Zi Zq 0,Zi Zq 0,Zt ⟨#[]⟩,Zs none 0 0,Zs none 0 0,Zt ⟨#[]⟩,Zs none 0 0,Zs none 0 0,Zs none 0 0] 48)) w2.heap.size 48 #[Zi Zq 0,Zt ⟨#[]⟩,Zi Zq 0,Zi Zq 0,Zi Zq 0,Zt ⟨#[]⟩,Zs none 0 0,Zs none 0 0,Zt ⟨#[]⟩,Zs none 0 0,Zi Zq 0,Zi Zq 0,Zi Zq 0,Zt ⟨#[]⟩,Zs none 0 0,Zs none 0 0,Zt ⟨#[]⟩,Zs none 0 0,Zs none 0 0,Zs none 0 0]/\wr.heap.size<=w2.heap.size from ⟨Blk.new _ _ _,HW2.out.size⟩);have hz:=aW (HW2.out.trans (hbA.mono HW2.out.size));clear HW2 hbA;have HW2:=hz;clear hz;refine hK.out _ _ (by exact HW2.out) (λ hHeld=>?_);clear hK K
       try simp only [pU]
       refine ai (λ Y1 hY=>?_);obtain ⟨b6,hbb⟩:∃ b,w2.heap.size=b:=⟨_,rfl⟩
       rw [hbb] at HN6 ⊢;rw [← hY] at HN6 HW2;clear hY hbb;replace hHeld:=HW2.out;refine aV 9 7 rfl (λ K hK=>?_);go_simp;have hbA:=(Below.refl _ Y1).alloc (Nat.le_refl _) (.cells #[Zi Zq 0,Zt ⟨#[]⟩,Zi Zq 0,Zi Zq 0,Zi Zq 0,Zt ⟨#[]⟩,Zs none 0 0,Zs none 0 0,Zt ⟨#[]⟩,Zs none 0 0,Zi Zq 0,Zi Zq 0,Zi Zq 0,Zt ⟨#[]⟩,Zs none 0 0,Zs none 0 0,Zt ⟨#[]⟩,Zs none 0 0,Zs none 0 0,Zs none 0 0] 48);have HN7:=aW (show Blk (Y1.alloc (.cells #[Zi Zq 0,Zt ⟨#[]⟩,Zi Zq 0,Zi Zq 0,Zi Zq 0,Zt ⟨#[]⟩,Zs none 0 0,Zs none 0 0,Zt ⟨#[]⟩,Zs none 0 0,Zi Zq 0,Zi Zq 0,Zi Zq 0,Zt ⟨#[]⟩,Zs none 0 0,Zs none 0 0,Zt ⟨#[]⟩,Zs none 0 0,Zs none 0 0,Zs none 0 0] 48)) Y1.heap.size 48 #[Zi Zq 0,Zt ⟨#[]⟩,Zi Zq 0,Zi Zq 0,Zi Zq 0,Zt ⟨#[]⟩,Zs none 0 0,Zs none 0 0,Zt ⟨#[]⟩,Zs none 0 0,Zi Zq 0,Zi Zq 0,Zi Zq 0,Zt ⟨#[]⟩,Zs none 0 0,Zs none 0 0,Zt ⟨#[]⟩,Zs none 0 0,Zs none 0 0,Zs none 0 0]/\wr.heap.size<=Y1.heap.size from ⟨Blk.new _ _ _,HW2.out.size⟩);have hne:=Nat.ne_of_lt HN6.out.1.lt;have hn2:=aW (And.intro (HN6.out.1.keep hbA) HN6.out.2);clear HN6;have HN6:=hn2;clear hn2;have hz:=aW (HW2.out.trans (hbA.mono HW2.out.size));clear HW2 hbA;have HW2:=hz;clear hz;refine hK.out _ _ (by exact HW2.out) (λ hHeld=>?_);clear hK K
       try simp only [pU]
       refine ai (λ Y2 hY=>?_);obtain ⟨b7,hbb⟩:∃ b,Y1.heap.size=b:=⟨_,rfl⟩
       rw [hbb] at HN7 hne ⊢;rw [← hY] at HN7 HW2 HN6;clear hY hbb;replace hHeld:=HW2.out;refine mQ (l':=#[true,true,true,true,true,true,true,true,true,true,false,false]) (by kernel_rfl) ?_;exact HL _ _ _ ⟨HN6,HN7,HW2,by omega⟩
      ·go_simp;have hbA:=(Below.refl _ w2).alloc (Nat.le_refl _) (.cells #[Zi Zq 0,Zt ⟨#[]⟩,Zi Zq 0,Zi Zq 0,Zi Zq 0,Zt ⟨#[]⟩,Zs none 0 0,Zs none 0 0,Zt ⟨#[]⟩,Zs none 0 0,Zi Zq 0,Zi Zq 0,Zi Zq 0,Zt ⟨#[]⟩,Zs none 0 0,Zs none 0 0,Zt ⟨#[]⟩,Zs none 0 0,Zs none 0 0,Zs none 0 0] 48);have HN7:=aW (show Blk (w2.alloc (.cells #[Zi Zq 0,Zt ⟨#[]⟩,Zi Zq 0,Zi Zq 0,Zi Zq 0,Zt ⟨#[]⟩,Zs none 0 0,Zs none 0 0,Zt ⟨#[]⟩,Zs none 0 0,Zi Zq 0,Zi Zq 0,Zi Zq 0,Zt ⟨#[]⟩,Zs none 0 0,Zs none 0 0,Zt ⟨#[]⟩,Zs none 0 0,Zs none 0 0,Zs none 0 0] 48)) w2.heap.size 48 #[Zi Zq 0,Zt ⟨#[]⟩,Zi Zq 0,Zi Zq 0,Zi Zq 0,Zt ⟨#[]⟩,Zs none 0 0,Zs none 0 0,Zt ⟨#[]⟩,Zs none 0 0,Zi Zq 0,Zi Zq 0,Zi Zq 0,Zt ⟨#[]⟩,Zs none 0 0,Zs none 0 0,Zt ⟨#[]⟩,Zs none 0 0,Zs none 0 0,Zs none 0 0]/\wr.heap.size<=w2.heap.size from ⟨Blk.new _ _ _,HW2.out.size⟩);have hz:=aW (HW2.out.trans (hbA.mono HW2.out.size));clear HW2 hbA;have HW2:=hz;clear hz;refine hK.out _ _ (by exact HW2.out) (λ hHeld=>?_);clear hK K
       try simp only [pU]
       refine ai (λ Y3 hY=>?_);obtain ⟨b7,hbb⟩:∃ b,w2.heap.size=b:=⟨_,rfl⟩
       rw [hbb] at HN7 ⊢;rw [← hY] at HN7 HW2;clear hY hbb;replace hHeld:=HW2.out;refine aV 8 6 rfl (λ K hK=>?_);go_simp;have hbA:=(Below.refl _ Y3).alloc (Nat.le_refl _) (.cells #[Zi Zq 0,Zt ⟨#[]⟩,Zi Zq 0,Zi Zq 0,Zi Zq 0,Zt ⟨#[]⟩,Zs none 0 0,Zs none 0 0,Zt ⟨#[]⟩,Zs none 0 0,Zi Zq 0,Zi Zq 0,Zi Zq 0,Zt ⟨#[]⟩,Zs none 0 0,Zs none 0 0,Zt ⟨#[]⟩,Zs none 0 0,Zs none 0 0,Zs none 0 0] 48);have HN6:=aW (show Blk (Y3.alloc (.cells #[Zi Zq 0,Zt ⟨#[]⟩,Zi Zq 0,Zi Zq 0,Zi Zq 0,Zt ⟨#[]⟩,Zs none 0 0,Zs none 0 0,Zt ⟨#[]⟩,Zs none 0 0,Zi Zq 0,Zi Zq 0,Zi Zq 0,Zt ⟨#[]⟩,Zs none 0 0,Zs none 0 0,Zt ⟨#[]⟩,Zs none 0 0,Zs none 0 0,Zs none 0 0] 48)) Y3.heap.size 48 #[Zi Zq 0,Zt ⟨#[]⟩,Zi Zq 0,Zi Zq 0,Zi Zq 0,Zt ⟨#[]⟩,Zs none 0 0,Zs none 0 0,Zt ⟨#[]⟩,Zs none 0 0,Zi Zq 0,Zi Zq 0,Zi Zq 0,Zt ⟨#[]⟩,Zs none 0 0,Zs none 0 0,Zt ⟨#[]⟩,Zs none 0 0,Zs none 0 0,Zs none 0 0]/\wr.heap.size<=Y3.heap.size from ⟨Blk.new _ _ _,HW2.out.size⟩);have hne:=Nat.ne_of_lt HN7.out.1.lt;have hn2:=aW (And.intro (HN7.out.1.keep hbA) HN7.out.2);clear HN7;have HN7:=hn2;clear hn2;have hz:=aW (HW2.out.trans (hbA.mono HW2.out.size));clear HW2 hbA;have HW2:=hz;clear hz;refine hK.out _ _ (by exact HW2.out) (λ hHeld=>?_);clear hK K
       try simp only [pU]
       refine ai (λ Y4 hY=>?_);obtain ⟨b6,hbb⟩:∃ b,Y3.heap.size=b:=⟨_,rfl⟩
       rw [hbb] at HN6 hne ⊢;rw [← hY] at HN6 HW2 HN7;clear hY hbb;replace hHeld:=HW2.out;refine mQ (l':=#[true,true,true,true,true,true,true,true,true,true,false,false]) (by kernel_rfl) ?_;exact HL _ _ _ ⟨HN6,HN7,HW2,by omega⟩
     case hleaf =>
      rintro Y b6 b7 ⟨HN6,HN7,HW2,hne⟩;have hHeld:=HW2.out;refine aU 10 rfl (λ K hK=>?_);rw [if_pos (by kernel_rfl)];refine wp_store_mid 48 (.tmp 6) (.tmp 22) rfl b6 0 #[Zi Zq k,Zt ⟨s.toArray⟩,Zi Zq ka,Zi Zq kva,Zi Zq nva,Zt sva,Zs Ava nka cka,Zs Bva nya cya,Zt sa,Zs Ca nxa cxa,Zi Zq kb,Zi Zq kvb,Zi Zq nvb,Zt svb,Zs Avb nkb ckb,Zs Bvb nyb cyb,Zt sb,Zs Cb nxb cxb,Zs BA nb cb,Zs LA nl cl] rfl rfl (HN6.out.1.thereAt (o:=0) (n:=20) (by simp)) (by kernel_rfl) (by first | kernel_rfl | simp [Value.oneCell']) ?_;replace HW2:=aW (ly HN6.out.2 [Zi Zq k,Zt ⟨s.toArray⟩,Zi Zq ka,Zi Zq kva,Zi Zq nva,Zt sva,Zs Ava nka cka,Zs Bva nya cya,Zt sa,Zs Ca nxa cxa,Zi Zq kb,Zi Zq kvb,Zi Zq nvb,Zt svb,Zs Avb nkb ckb,Zs Bvb nyb cyb,Zt sb,Zs Cb nxb cxb,Zs BA nb cb,Zs LA nl cl] 0 HW2.out);replace HN7:=aW (And.intro (Blk.farC (b:=b6) (by omega) [Zi Zq k,Zt ⟨s.toArray⟩,Zi Zq ka,Zi Zq kva,Zi Zq nva,Zt sva,Zs Ava nka cka,Zs Bva nya cya,Zt sa,Zs Ca nxa cxa,Zi Zq kb,Zi Zq kvb,Zi Zq nvb,Zt svb,Zs Avb nkb ckb,Zs Bvb nyb cyb,Zt sb,Zs Cb nxb cxb,Zs BA nb cb,Zs LA nl cl] 0 HN7.out.1) HN7.out.2);replace HN6:=aW (And.intro (HN6.out.1.setAll [Zi Zq k,Zt ⟨s.toArray⟩,Zi Zq ka,Zi Zq kva,Zi Zq nva,Zt sva,Zs Ava nka cka,Zs Bva nya cya,Zt sa,Zs Ca nxa cxa,Zi Zq kb,Zi Zq kvb,Zi Zq nvb,Zt svb,Zs Avb nkb ckb,Zs Bvb nyb cyb,Zt sb,Zs Cb nxb cxb,Zs BA nb cb,Zs LA nl cl] rfl) HN6.out.2);refine hK.out _ _ HW2.out λ _=>?_
      clear hK K hHeld;have hHeld:=HW2.out
      try simp only [pU]
      refine ai (λ Yn hY=>?_);rw [← hY] at HN6 HN7 HW2 hHeld;clear hY;refine aU 11 rfl (λ K hK=>?_);rw [if_pos (by kernel_rfl)];refine wp_store_mid 48 (.tmp 7) (.tmp 26) rfl b7 0 #[Zi Zq k',Zt ⟨s'.toArray⟩,Zi Zq ka',Zi Zq kva',Zi Zq nva',Zt sva',Zs Ava' nka' cka',Zs Bva' nya' cya',Zt sa',Zs Ca' nxa' cxa',Zi Zq kb',Zi Zq kvb',Zi Zq nvb',Zt svb',Zs Avb' nkb' ckb',Zs Bvb' nyb' cyb',Zt sb',Zs Cb' nxb' cxb',Zs BA' nb' cb',Zs LA' nl' cl'] rfl rfl (HN7.out.1.thereAt (o:=0) (n:=20) (by simp)) (by kernel_rfl) (by first | kernel_rfl | simp [Value.oneCell']) ?_;replace HW2:=aW (ly HN7.out.2 [Zi Zq k',Zt ⟨s'.toArray⟩,Zi Zq ka',Zi Zq kva',Zi Zq nva',Zt sva',Zs Ava' nka' cka',Zs Bva' nya' cya',Zt sa',Zs Ca' nxa' cxa',Zi Zq kb',Zi Zq kvb',Zi Zq nvb',Zt svb',Zs Avb' nkb' ckb',Zs Bvb' nyb' cyb',Zt sb',Zs Cb' nxb' cxb',Zs BA' nb' cb',Zs LA' nl' cl'] 0 HW2.out);replace HN6:=aW (And.intro (Blk.farC (b:=b7) (by omega) [Zi Zq k',Zt ⟨s'.toArray⟩,Zi Zq ka',Zi Zq kva',Zi Zq nva',Zt sva',Zs Ava' nka' cka',Zs Bva' nya' cya',Zt sa',Zs Ca' nxa' cxa',Zi Zq kb',Zi Zq kvb',Zi Zq nvb',Zt svb',Zs Avb' nkb' ckb',Zs Bvb' nyb' cyb',Zt sb',Zs Cb' nxb' cxb',Zs BA' nb' cb',Zs LA' nl' cl'] 0 HN6.out.1) HN6.out.2);replace HN7:=aW (And.intro (HN7.out.1.setAll [Zi Zq k',Zt ⟨s'.toArray⟩,Zi Zq ka',Zi Zq kva',Zi Zq nva',Zt sva',Zs Ava' nka' cka',Zs Bva' nya' cya',Zt sa',Zs Ca' nxa' cxa',Zi Zq kb',Zi Zq kvb',Zi Zq nvb',Zt svb',Zs Avb' nkb' ckb',Zs Bvb' nyb' cyb',Zt sb',Zs Cb' nxb' cxb',Zs BA' nb' cb',Zs LA' nl' cl'] rfl) HN7.out.2);refine hK.out _ _ HW2.out λ _=>?_
      clear hK K hHeld;have hHeld:=HW2.out
      try simp only [pU]
      refine ai (λ Yn hY=>?_);rw [← hY] at HN7 HN6 HW2 hHeld;clear hY;refine aX ?_;go_wp2;go_meet
      case rel=>exact ⟨b6,b7,_,rfl,rfl,rfl,HN6,HN7,HW2⟩
    case rest =>
     obtain ⟨b6,b7,W0,rfl,rfl,rfl,HN6,HN7,HW0⟩:=hcut;clear HRG HRGp;by_cases ek:k=k'
     case neg =>
      have hb1:(k != k')=true:=by simp [ek]
      have HNO:=aW (HXN.out (HPN.out (.inl ek)));obtain ⟨c0,f0,l0⟩:=HN6.out.1.rules;obtain ⟨d0,g0,m0⟩:=HN7.out.1.rules;go_wp2;go_ret;exact EqX.no HNO.out (HB0.out.trans (HW0.out.mono HB0.out.size))
     by_cases es:s=s'
     case neg =>
      have hb1:(s != s')=true:=by simp [es]
      have HNO:=aW (HXN.out (HPN.out (.inr (.inl es))));subst ek;obtain ⟨c0,f0,l0⟩:=HN6.out.1.rules;obtain ⟨d0,g0,m0⟩:=HN7.out.1.rules;go_wp2;go_ret;exact EqX.no HNO.out (HB0.out.trans (HW0.out.mono HB0.out.size))
     subst ek es;have HT0:=aW (And.intro HN6.out.1 (And.intro HN7.out.1 HW0.out));obtain ⟨c0,f0,l0⟩:=HT0.out.1.rules;obtain ⟨d0,g0,m0⟩:=HT0.out.2.1.rules;clear HN6 HN7 HW0;go_wp2_with fail;refine (HXA.out _ HT0.out.2.2).mono ?_;rintro e w1 ⟨t1,rfl,ht1,hb1⟩;have HT1:=aW (sg HT0.out hb1);have HE1:=aW ht1;clear hb1 ht1 c0 f0 l0 d0 g0 m0;obtain ⟨c1,f1,l1⟩:=HT1.out.1.rules;obtain ⟨d1,g1,m1⟩:=HT1.out.2.1.rules;cases t1 with
     |false =>
      have HNO:=aW (HXN.out (HPN.out (.inr (.inr (.inl (λ e=>by have:=HE1.out.2 e;cases this))))));go_wp2;go_ret;exact EqX.no HNO.out (HB0.out.trans (HT1.out.2.2.mono HB0.out.size))
     |true =>
      go_wp2_with fail;refine (HXB.out _ HT1.out.2.2).mono ?_;rintro e w2 ⟨t2,rfl,ht2,hb2⟩;have HT2:=aW (sg HT1.out hb2);have HE2:=aW ht2;clear hb2 ht2 c1 f1 l1 d1 g1 m1;obtain ⟨c2,f2,l2⟩:=HT2.out.1.rules;obtain ⟨d2,g2,m2⟩:=HT2.out.2.1.rules;cases t2 with
      |false =>
       have HNO:=aW (HXN.out (HPN.out (.inr (.inr (.inr (.inl (λ e=>by have:=HE2.out.2 e;cases this)))))));go_wp2;go_ret;exact EqX.no HNO.out (HB0.out.trans (HT2.out.2.2.mono HB0.out.size))
      |true =>
       go_wp2_with fail;refine (HBD.out _ HT2.out.2.2).mono ?_;rintro e w3 ⟨t3,rfl,ht3,hb3⟩;have HT3:=aW (sg HT2.out hb3);have HE3:=aW ht3;clear hb3 ht3 c2 f2 l2 d2 g2 m2;obtain ⟨c3,f3,l3⟩:=HT3.out.1.rules;obtain ⟨d3,g3,m3⟩:=HT3.out.2.1.rules;cases t3 with
       |false =>
        have HNO:=aW (HXN.out (HPN.out (.inr (.inr (.inr (.inr (.inl (λ e=>by have:=HE3.out.2 e;cases this))))))));go_wp2;go_ret;exact EqX.no HNO.out (HB0.out.trans (HT3.out.2.2.mono HB0.out.size))
       |true =>
        go_wp2_with fail;refine (HEL.out _ HT3.out.2.2).mono ?_;rintro e w4 ⟨t4,rfl,ht4,hb4⟩;have HT4:=aW (sg HT3.out hb4);have HE4:=aW ht4;clear hb4 ht4 c3 f3 l3 d3 g3 m3;obtain ⟨c4,f4,l4⟩:=HT4.out.1.rules;obtain ⟨d4,g4,m4⟩:=HT4.out.2.1.rules;cases t4 with
        |false =>
         have HNO:=aW (HXN.out (HPN.out (.inr (.inr (.inr (.inr (.inr (λ e=>by have:=HE4.out.2 e;cases this))))))));go_wp2;go_ret;exact EqX.no HNO.out (HB0.out.trans (HT4.out.2.2.mono HB0.out.size))
        |true =>
         have HK:=aW (HXY.out (HPY.out (by trivial) (by trivial) (HE1.out.1 (by trivial)) (HE2.out.1 (by trivial)) (HE3.out.1 (by trivial)) (HE4.out.1 (by trivial))));go_wp2;go_roundg (nk-(i+1))
         case measure=>have:=HGK.out;omega
         case rel=>exact ⟨i+1,hlt,rfl,by go_num,HK,aW (HB0.out.trans (HT4.out.2.2.mono HB0.out.size))⟩
   ·obtain rfl:nk=i:=by omega
    have HF:=aW (show kids=kidsq by
     have e1:=HSM.out;rwa [List.take_of_length_le (Nat.le_of_eq HNK.out),List.take_of_length_le (Nat.le_of_eq HNKQ.out)] at e1)
    go_wp2;go_ret;exact EqX.yes HF.out HB0.out
end
end Go.Proofs.YtgmnmnnoahdjnaaGreatDoor
