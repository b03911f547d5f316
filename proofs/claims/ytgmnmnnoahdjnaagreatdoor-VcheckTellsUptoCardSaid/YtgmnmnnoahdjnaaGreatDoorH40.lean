import Derived.Test.YtgmnmnnoahdjnaaGreatDoorH38
import Derived.Test.YtgmnmnnoahdjnaaGreatDoorH37
open Go.Value renaming int → Zi, slice → Zs, string → Zt, pointer → Zp
open Go.IntKind renaming i64 → Zq
set_option maxRecDepth 100000
set_option maxHeartbeats 16000000
set_option linter.unusedVariables false
set_option linter.unusedSimpArgs false
namespace Go.Proofs.YtgmnmnnoahdjnaaGreatDoor
section
open Go.RowKit
attribute [local go_sem] ab ae af ac
theorem ov (p q s:Addr) (w:World) :
  CallsD Tryz.prog 85 #[Zp (some p),Zp (some q),Zp (some s)] .returning w λ e u' w'=>e=.returned (.tuple #[])/\u'=.returning/\w'=w:=by
 refine callsD_of_wpS Tryz.func85 rfl λ c₀ cs hu=>?_
 simp only [Tryz.ntmps85,List.size_toArray,List.length_cons,List.length_nil,Nat.reduceAdd,Nat.reduceSub,Array.replicate_succ,
   Array.replicate_zero,List.push_toArray,List.append_toArray,List.nil_append,List.cons_append]
 apply wpS_seq;apply wpS_region;simp [wpOpsS,go_sem,recoverD,hu,Exit.thenS];refine wpS_of_wp ?_;go_wp2;cases c₀
 simp_all [bodyPostS,results,Tryz.results85]
theorem iG (b d f:Nat) (x:Int) (c c' c'':Value) (w:World) (hbd:b≠d) (hbf:b≠f) (hdf:d≠f) (hp:w.cell? ⟨b,0,none⟩=some c) (hz:w.frozen? ⟨b,0,none⟩=false) (hq:w.cell? ⟨d,0,none⟩=some c') (hy:w.frozen? ⟨d,0,none⟩=false) (hr:w.cell? ⟨f,0,none⟩=some c'') (hx:w.frozen? ⟨f,0,none⟩=false) :
  CallsD Tryz.prog 85 #[Zp (some ⟨b,0,none⟩),Zp (some ⟨d,0,none⟩),Zp (some ⟨f,0,none⟩)] (.panicking [{ v:=.iface 117 (Zi Zq x),recovered:=false }]) w λ e u' w' =>
   e=.returned (.tuple #[])/\u'=.panicking [{ v:=.iface 117 (Zi Zq x),recovered:=true }]/\w'=((w.setCell ⟨b,0,none⟩ (Zs none 0 0)).setCell ⟨d,0,none⟩ (Zi Zq x)).setCell ⟨f,0,none⟩ (Zi Zq 330):=by
 have hta:∀ w:World,(Instr.typeAssert (.iface 117 (Zi Zq x)) 20 117 true).run Tryz.prog w=.ok (.tuple #[Zi Zq x,.bool true]) w:=λ _=>by kernel_rfl
 refine callsD_of_wpS Tryz.func85 rfl λ c₀ cs hu=>?_
 simp only [Tryz.ntmps85,List.size_toArray,List.length_cons,List.length_nil,Nat.reduceAdd,Nat.reduceSub,Array.replicate_succ,
   Array.replicate_zero,List.push_toArray,List.append_toArray,List.nil_append,List.cons_append]
 apply wpS_seq;apply wpS_region;simp [wpOpsS,go_sem,recoverD,hu,Exit.thenS];refine wpS_of_wp ?_;go_wp2;simp [bodyPostS,results,Tryz.results85]
def rX (r:PR (List SJ)) (T:List al) (w:World) (e:Ending) (w':World):Prop:=match r with
 | .ok l q => ∃ (A':Option Addr) (n ca:Nat) (css:List (List Value)),e=.returned (.tuple #[.agg #[Zs A' n ca],Zi Zq 0,Zi Zq 0])/\n=l.length/\n<=ca/\(A'=none->ca=0)/\SRs w' (NW w) css l/\RdF w' (NW w) A' css.flatten/\Below w.heap.size w w'
 | .bad q=>e=.returned (.tuple #[.agg #[Zs none 0 0],Zi Zq (tkA T q:Nat),Zi Zq 330])/\Below w.heap.size w w'
theorem vo (T:List al) (A:Option Addr) (nT cap:Nat) (w:World) (hT:WT T) (hG:GOE w) (hR:Rd w A (aS T)) (hn:nT<=1000) (hl:T.length=nT) (h0:0<nT) (hc:nT<=cap) :
  Calls Tryz.prog 51 #[Zs A nT cap] w (rX (fZ T) T w):=by
 have hmf:∀ (fn:Fn) (first cap:Array Value) (w:World),(Instr.makeFunc fn first cap).run Tryz.prog w=.ok (.func fn first cap) w:=λ _ _ _ _=>rfl
 have HG:=aW hG;have HR:=aW hR;have HL:=aW hl;clear hG hR hl;obtain ⟨B1,hB1⟩:∃ b,w.heap.size+1=b:=⟨_,rfl⟩
 obtain ⟨B2,hB2⟩:∃ b,B1+1=b:=⟨_,rfl⟩
 obtain ⟨g,hg⟩:∃ b,B2+1=b:=⟨_,rfl⟩
 obtain ⟨W0,hW0⟩:∃ W',((((w.alloc (.cells #[Zs none 0 0] 24)).alloc (.cells #[Zi Zq 0] 3)).alloc (.cells #[Zi Zq 0] 27)).alloc (.cells #[Zi Zq 0,Zs A nT cap] 123))=W':=⟨_,rfl⟩
 have hb0:Below w.heap.size w W0:=by rw [← hW0];exact ((((Below.refl _ w).alloc (Nat.le_refl _) _).alloc (by simp) _).alloc (by simp;omega) _).alloc (by simp;omega) _
 have HP0:=aW (show Blk W0 w.heap.size 24 #[Zs none 0 0]/\Blk W0 B1 3 #[Zi Zq 0]/\Blk W0 B2 27 #[Zi Zq 0] by
  have h1:=Blk.new w 24 #[Zs none 0 0];have h2:=Blk.new (w.alloc (.cells #[Zs none 0 0] 24)) 3 #[Zi Zq 0];have h3:=Blk.new ((w.alloc (.cells #[Zs none 0 0] 24)).alloc (.cells #[Zi Zq 0] 3)) 27 #[Zi Zq 0];simp only [World.size_alloc,hB1,hB2] at h2 h3;rw [← hW0];exact ⟨((h1.alloc _).alloc _).alloc _,(h2.alloc _).alloc _,h3.alloc _⟩)
 have HVP:=aW (show VP W0 g A nT cap T 0 from ⟨by
   have h4:=Blk.new (((w.alloc (.cells #[Zs none 0 0] 24)).alloc (.cells #[Zi Zq 0] 3)).alloc (.cells #[Zi Zq 0] 27)) 123 #[Zi Zq 0,Zs A nT cap];simp only [World.size_alloc,hB1,hB2,hg] at h4;rw [← hW0];exact h4,λ hne=>by
   obtain ⟨b,o,e,hb,hc⟩:=HR.out hne;refine ⟨b,o,e,Nat.lt_of_lt_of_le hb hb0.size,by omega,λ i hi=>?_⟩;exact (hb0.cell (p:=⟨b,o+i,none⟩) hb).trans (hc i hi),HL.out,w,HG.out,by omega,hb0⟩)
 have HBS:=aW (And.intro hB1 (And.intro hB2 hg));have HB0:=aW hb0;have hst:=pV g A nT cap T hT hn 0 W0 HVP.out h0;have HSP:=aW (kH T);obtain ⟨r,hr⟩:∃ r,fZ T=r:=⟨_,rfl⟩
 rw [hr] at HSP ⊢;have hgs:g≠w.heap.size/\g≠B1/\g≠B2:=by omega
 have hbs:w.heap.size≠B1/\w.heap.size≠B2/\B1≠B2:=by omega
 clear hr hb0;cases hrs:eS T [] 0 with
 |bad q =>
  have HRR:=aW (show r=.bad q by rw [HSP.out,hrs]);rw [hrs] at hst;unfold gR aG at hst;have HST:=aW hst;clear hst hrs
  go_enter_defers Tryz.func51,Tryz.ntmps51
  go_wp2_with fail;refine HST.out.mono ?_;rintro e w2 ⟨rfl,hg2⟩;have c0:=HP0.out.1.grown hg2 (by simp;omega);have c1:=HP0.out.2.1.grown hg2 (by simp;omega);have c2:=HP0.out.2.2.grown hg2 (by simp;omega);refine leaves_cons (f:=85) (args:=#[Zp (some ⟨w.heap.size,0,none⟩),Zp (some ⟨B1,0,none⟩),Zp (some ⟨B2,0,none⟩)]) (by simp) (by simp [go_sem]) ?_;refine (iG w.heap.size B1 B2 (tkA T q:Nat) _ _ _ w2 hbs.1 hbs.2.1 hbs.2.2 (c0.cell 0) (c0.frozen 0) (c1.cell 0) (c1.frozen 0) (c2.cell 0) (c2.frozen 0)).mono ?_;rintro e u' w3 ⟨rfl,rfl,rfl⟩;have d0:=(c0.set_ 0 (Zs none 0 0))
  refine ⟨.tuple #[.agg #[Zs none 0 0],Zi Zq (tkA T q:Nat),Zi Zq 330],?_,?_⟩
  ·obtain ⟨x0,x1,x2⟩:=c0.rules;obtain ⟨y0,y1,y2⟩:=c1.rules;obtain ⟨z0,z1,z2⟩:=c2.rules;simp only [results,Tryz.results51];go_simp
  ·rw [HRR.out];have hB:=HBS.out;have hbw:Below w.heap.size w w2:=HB0.out.grown hg2 HB0.out.size (λ k e=>by injection e with e;omega);exact ⟨rfl,((hbw.setCell (p:=⟨w.heap.size,0,none⟩) (Nat.le_refl _) _).setCell (p:=⟨B1,0,none⟩) (by show w.heap.size<=B1;omega) _).setCell (p:=⟨B2,0,none⟩) (by show w.heap.size<=B2;omega) _⟩
 |ok l q =>
  have hq:=(qf hT (acc:=[]) (p:=0) (by rw [HL.out];exact h0):(eS T [] 0).In0 T 0)
  rw [hrs] at hq;have hqn:q<nT:=by have h9:=hq.2;rw [HL.out] at h9;exact h9
  have HRQ:=aW (show r=if tkK T q=6 then .ok l q else .bad q by rw [HSP.out,hrs]);rw [hrs] at hst;unfold gR at hst;have HST:=aW hst;clear hst hrs hq;have hqi:(q:Int)<(nT:Int):=by omega
  go_enter_defers Tryz.func51,Tryz.ntmps51
  go_wp2_with fail;refine HST.out.mono ?_;rintro e w2 ⟨A3,n3,c3,css3,rfl,hl1,hl2,hl3,hl4,hl5,hv2,hg2⟩;have HLS:=aW (And.intro hl1 (And.intro hl2 (And.intro hl3 (And.intro hl4 hl5))));have hB:=HBS.out;have hbw:Below w.heap.size w w2:=HB0.out.grown hg2 HB0.out.size (λ k e=>by injection e with e;omega);have HC2:=aW (And.intro (HP0.out.1.grown hg2 (by simp;omega)) (And.intro (HP0.out.2.1.grown hg2 (by simp;omega)) (HP0.out.2.2.grown hg2 (by simp;omega))));have HV2:=aW hv2;have HBW:=aW hbw;have HGB:=aW hg2;obtain ⟨x0,x1,x2⟩:=HC2.out.1.rules;clear hl1 hl2 hl3 hl4 hl5 hv2 hg2 hbw hB;go_upto_region 4 with fail;obtain ⟨W3,hW3⟩:∃ W',w2.setCell ⟨w.heap.size,0,none⟩ (Zs A3 n3 c3)=W':=⟨_,rfl⟩
  rw [hW3];have hbw3:Below w.heap.size w W3:=by rw [← hW3];exact HBW.out.setCell (p:=⟨w.heap.size,0,none⟩) (Nat.le_refl _) _
  have HC3:=aW (show Blk W3 w.heap.size 24 #[Zs A3 n3 c3]/\Blk W3 B1 3 #[Zi Zq 0]/\Blk W3 B2 27 #[Zi Zq 0] by
   rw [← hW3];exact ⟨HC2.out.1.set_ 0 _,HC2.out.2.1.far (p:=⟨w.heap.size,0,none⟩) (Ne.symm hbs.1) _,HC2.out.2.2.far (p:=⟨w.heap.size,0,none⟩) (Ne.symm hbs.2.1) _⟩)
  have hv3:VP W3 g A nT cap T q:=⟨by rw [← hW3];exact HV2.out.blk.far (p:=⟨w.heap.size,0,none⟩) hgs.1 _,λ hne=>by
   obtain ⟨b,o,e,hb,hc⟩:=HR.out hne;refine ⟨b,o,e,Nat.lt_of_lt_of_le hb hbw3.size,by have:=HBS.out;omega,λ i hi=>?_⟩;exact (hbw3.cell (p:=⟨b,o+i,none⟩) hb).trans (hc i hi),HL.out,w,HG.out,by have:=HBS.out;omega,hbw3⟩
  have HL3:=aW (show SRs W3 (NW W0) css3 l/\RdF W3 (NW W0) A3 css3.flatten by
   have hk:aj (NW W0) w2 W3:=by rw [← hW3];exact aj.set aj.refl (λ k hk=>by have:=HP0.out.1.lt;unfold NW at hk;omega) 0 _
   exact ⟨RR.imp HLS.out.2.2.2.1 λ c y hc=>SR.keep hc hk,HLS.out.2.2.2.2.keep hk⟩)
  have HV3:=aW hv3;have HBW3:=aW hbw3;clear hW3 x0 x1 x2 HC2 HV2 HBW HGB;obtain ⟨b,o,rfl,hb,hbg,z0,z1,z2,z3⟩:=hv3.tok hqn;obtain ⟨c0,f0,l0⟩:=hv3.blk.rules;clear hv3 hbw3 z1 z2 z3;by_cases hk:tkK T q=6
  ·have HRR:=aW (show r=.ok l q by rw [HRQ.out,if_pos hk]);rw [hk] at z0;clear hk;refine wp_region_noPanic ?_;go_quiet (fail);refine NoPanic.normal ?_;have d0:=(HC3.out.1.drewN nq)
   have d1:=(HC3.out.2.1.drewN nq)
   have d2:=(HC3.out.2.2.drewN nq)
   obtain ⟨x0,x1,x2⟩:=d0.rules;obtain ⟨u0,u1,u2⟩:=d1.rules;obtain ⟨v0,v1,v2⟩:=d2.rules;go_wp2;refine leaves_cons (f:=85) (args:=#[Zp (some ⟨w.heap.size,0,none⟩),Zp (some ⟨B1,0,none⟩),Zp (some ⟨B2,0,none⟩)]) (by simp) (by simp [go_sem]) ?_;refine (ov ⟨w.heap.size,0,none⟩ ⟨B1,0,none⟩ ⟨B2,0,none⟩ _).mono ?_;rintro e u' w5 ⟨rfl,rfl,rfl⟩;refine ⟨.tuple #[.agg #[Zs A3 n3 c3],Zi Zq 0,Zi Zq 0],?_,?_⟩
   ·simp only [results,Tryz.results51];go_simp
   ·rw [HRR.out];have hb0s:=HP0.out.1.lt;have hb1s:=HP0.out.2.1.lt;have hb2s:=HP0.out.2.2.lt;have hk:aj (NW W0) W3 ((((W3.drewN nq).setCell ⟨w.heap.size,0,none⟩ (Zs A3 n3 c3)).setCell ⟨B1,0,none⟩ (Zi Zq 0)).setCell ⟨B2,0,none⟩ (Zi Zq 0)) :=
     (((aj.of_below (ah (Below.refl _ W3) nq)).set (λ k hk=>by unfold NW at hk;omega) 0 _).set (λ k hk=>by unfold NW at hk;omega) 0 _).set (λ k hk=>by unfold NW at hk;omega) 0 _
    have hm:∀ b,NW W0 b->NW w b:=λ b hb=>Nat.le_trans HB0.out.size hb
    have hB:=HBS.out;exact ⟨A3,n3,c3,css3,rfl,HLS.out.1,HLS.out.2.1,HLS.out.2.2.1,RR.imp HL3.out.1 λ c y hc=>(SR.keep hc hk).mono λ b _ hb=>hm b hb,(HL3.out.2.keep hk).mono λ b _ hb=>hm b hb,
     (((ah HBW3.out nq).setCell (p:=⟨w.heap.size,0,none⟩) (Nat.le_refl _) _).setCell (p:=⟨B1,0,none⟩) (by show w.heap.size<=B1;omega) _).setCell (p:=⟨B2,0,none⟩) (by show w.heap.size<=B2;omega) _⟩
  ·have HRR:=aW (show r=.bad q by rw [HRQ.out,if_neg hk]);obtain ⟨kk,hkk⟩:∃ k,tkK T q=k:=⟨_,rfl⟩
   rw [hkk] at z0 hk;have hkb:(kk != 6)=true:=by simpa using hk
   clear hk hkk;have hfa:=λ W (h:Below W3.heap.size W3 W)=>gL W g (some ⟨b,o,none⟩) nT cap T q (HV3.out.keep h) hqn hn
   unfold aG at hfa;have HFA:=aW hfa;clear hfa;refine wp_region_noPanic ?_;go_quiet (fail);refine NoPanic.normal ?_;go_wp2_with fail;refine (HFA.out _ (ah (Below.refl _ _) _)).mono ?_;rintro e w4 ⟨rfl,hb4⟩;have hb34:Below W3.heap.size W3 w4:=(ah (Below.refl _ W3) nq).trans hb4;have d0:=HC3.out.1.keep hb34;have d1:=HC3.out.2.1.keep hb34;have d2:=HC3.out.2.2.keep hb34;refine leaves_cons (f:=85) (args:=#[Zp (some ⟨w.heap.size,0,none⟩),Zp (some ⟨B1,0,none⟩),Zp (some ⟨B2,0,none⟩)]) (by simp) (by simp [go_sem]) ?_;refine (iG w.heap.size B1 B2 (tkA T q:Nat) _ _ _ w4 hbs.1 hbs.2.1 hbs.2.2 (d0.cell 0) (d0.frozen 0) (d1.cell 0) (d1.frozen 0) (d2.cell 0) (d2.frozen 0)).mono ?_;rintro e u' w5 ⟨rfl,rfl,rfl⟩;refine ⟨.tuple #[.agg #[Zs none 0 0],Zi Zq (tkA T q:Nat),Zi Zq 330],?_,?_⟩
   ·obtain ⟨x0,x1,x2⟩:=d0.rules;obtain ⟨y0,y1,y2⟩:=d1.rules;obtain ⟨z0,z1,z2⟩:=d2.rules;simp only [results,Tryz.results51];go_simp
   ·rw [HRR.out];have hB:=HBS.out;have hbw:Below w.heap.size w w4:=HBW3.out.trans (hb34.mono HBW3.out.size);exact ⟨rfl,((hbw.setCell (p:=⟨w.heap.size,0,none⟩) (Nat.le_refl _) _).setCell (p:=⟨B1,0,none⟩) (by show w.heap.size<=B1;omega) _).setCell (p:=⟨B2,0,none⟩) (by show w.heap.size<=B2;omega) _⟩
def mm (o:List SJ × Int × Int) (w:World) (e:Ending) (w':World):Prop:=∃ (A:Option Addr) (n ca:Nat) (css:List (List Value)),e=.returned (.tuple #[.agg #[Zs A n ca],Zi Zq o.2.1,Zi Zq o.2.2])/\n=o.1.length/\n<=ca/\(A=none->ca=0)/\SRs w' (NW w) css o.1/\RdF w' (NW w) A css.flatten/\Below w.heap.size w w'
theorem mm.err {at_ e:Int} {w w':World} (h:Below w.heap.size w w'):mm ([],at_,e) w (.returned (.tuple #[.agg #[Zs none 0 0],Zi Zq at_,Zi Zq e])) w' :=
 ⟨none,0,0,[],rfl,rfl,Nat.le_refl _,λ _=>rfl,RR.nil,RdF.nil,h⟩
def xM (T:List al):PR (List SJ)->List SJ × Int × Int
 | .bad p=>([],(tkA T p:Nat),330)
 | .ok b _=>if ff b=true then (b,0,0) else ([],0,331)
theorem lS {T:List al} (hT:WT T) (hG:TG T) (h0:0<T.length) {l:List SJ} {q:Nat} (h:fZ T=.ok l q):aZ l/\l.length<=1000:=by
 rw [kH] at h;cases hs:eS T [] 0 with
 | bad p=>rw [hs] at h;cases h
 |ok l' q' =>
  rw [hs] at h;simp only at h;split at h
  ·injection h with h1 h2
   subst h1 h2;have h3:=(vJ hT hG (pM T+1)).1 [] 0 l' q' h0 (Nat.le_refl _) trivial hs;have h4:=(qf hT (acc:=[]) h0:(eS T [] 0).In0 T 0)
   rw [hs] at h4;have:=h4.2;have:=hG.1;exact ⟨h3.1,by omega⟩
  ·cases h
theorem rB (s:ByteArray) (w:World) (hG:GOE w) (hs:s.size<=4194304):Calls Tryz.prog 22 #[Zt s] w (mm (cB (sl s)) w):=by
 obtain ⟨o,ho⟩:∃ o,cB (sl s)=o:=⟨_,rfl⟩
 rw [ho];obtain ⟨⟨T,pl,er⟩,hlx⟩:∃ r,fD (sl s)=r:=⟨_,rfl⟩
 have HO:=aW (show o=(if er≠0 then ([],pl,er) else xM T (fZ T)) by rw [← ho];unfold cB;rw [hlx];rfl);have HLX:=aW (λ W (h:Below w.heap.size w W)=>(show Calls Tryz.prog 50 #[Zt s] W (jQ (T,pl,er) W) from hlx ▸ uL s W ((hG.keep h).gok) hs));have HWT:=aW (λ (h:er=0)=>po (l:=sl s) (T:=T) (a:=pl) (by rw [hlx,h]));have HG:=aW hG;clear ho hlx hG;unfold jQ at HLX;have HH0:=aW ((aH.nil w).push 24 #[Zs none 0 0] (g:=w.heap.size) rfl);by_cases he:er=0
 ·obtain ⟨hT,hTG,hTn⟩:=HWT.out he;subst he;obtain ⟨nT,hnT⟩:∃ n,T.length=n:=⟨_,rfl⟩
  have hn:nT<=1000:=by rw [← hnT];exact hTG.1
  have h0:0<nT:=by rw [← hnT];exact List.length_pos_iff.2 hTn
  have HPA:=aW (λ A cap W (h:Below w.heap.size w W) (hR:Rd W A (aS T)) (hc:nT<=cap)=>vo T A nT cap W hT (HG.out.keep h) hR hn hnT h0 hc);have HPC:=aW (λ l q (h:fZ T=.ok l q)=>lS hT hTG (by rw [hnT];exact h0) h);have HNT:=aW hnT;obtain ⟨rP,hrP⟩:∃ r,fZ T=r:=⟨_,rfl⟩
  have HO1:=aW (show o=xM T rP by rw [HO.out,if_neg (λ h=>h rfl),hrP]);rw [hrP] at HPA HPC;clear hT hTG hTn hn h0 hnT hrP HWT HO;cases rP with
  |bad q =>
   have HR:=aW (show o=(([]:List SJ),((tkA T q:Nat):Int),(330:Int)) from HO1.out);rw [HR.out];unfold rX at HPA;go_enter Tryz.func22,Tryz.ntmps22;go_wp2_with (go_at_call 50;refine (HLX.out _ HH0.out.1).mono ?_;rintro e w1 ⟨v,rfl,⟨A1,cap1,rfl,hcap1,hrd1⟩,hb1⟩;have HH1:=aW (HH0.out.keep hb1);rw [HNT.out] at hcap1;rw [HNT.out]);go_wp2_with fail;refine (HPA.out A1 cap1 _ HH1.out.1 hrd1 hcap1).mono ?_;rintro e w2 ⟨rfl,hb2⟩;have HH2:=aW (HH1.out.keep hb2);obtain ⟨c0,f0,l0⟩:=HH2.out.b0.rules;clear hb2 hrd1 hb1;go_wp2;refine bodyPost_ret (v:=.tuple #[.agg #[Zs none 0 0],Zi Zq (tkA T q:Nat),Zi Zq 330]) (by simp only [results,Tryz.results22];go_simp) rfl ?_;exact mm.err ((HH2.out.1.setCell (p:=⟨w.heap.size,0,none⟩) (Nat.le_refl _) _).alloc (by have:=HH2.out.1.size;simpa [World.setCell] using this) _)
  |ok l q =>
   obtain ⟨hcam,hl9⟩:=HPC.out l q rfl;have HCM:=aW (And.intro hcam hl9);obtain ⟨mb,hmb⟩:∃ b,ff l=b:=⟨_,rfl⟩
   have HR:=aW (show o=if mb=true then (l,(0:Int),(0:Int)) else (([]:List SJ),(0:Int),(331:Int)) by rw [HO1.out,← hmb];rfl);have HPE:=aW (show dV l=if mb=true then 0 else 332 by unfold dV;rw [hmb]);unfold rX at HPA;clear hcam hl9 hmb HPC HO1;go_enter Tryz.func22,Tryz.ntmps22;go_wp2_with (go_at_call 50;refine (HLX.out _ HH0.out.1).mono ?_;rintro e w1 ⟨v,rfl,⟨A1,cap1,rfl,hcap1,hrd1⟩,hb1⟩;have HH1:=aW (HH0.out.keep hb1);rw [HNT.out] at hcap1;rw [HNT.out]);go_wp2_with fail;refine (HPA.out A1 cap1 _ HH1.out.1 hrd1 hcap1).mono ?_;rintro e w2 ⟨A',n,ca,css,rfl,hl1,hl2,hl3,hl4,hl5,hb2⟩;have HH3:=aW ((HH1.out.keep hb2).push 24 #[Zs A' n ca] (g:=w2.heap.size) rfl);have hx1:w.heap.size<w1.heap.size:=HH1.out.b0.lt;have hz:Below w2.heap.size w2 (w2.alloc (.cells #[Zs A' n ca] 24)):=(Below.refl _ w2).alloc (Nat.le_refl _) _;have HCK:=aW (mw l css A' n ca (NW w1) (w2.alloc (.cells #[Zs A' n ca] 24)) (HG.out.keep HH3.out.1) (RR.imp hl4 λ c y hc=>SR.bel hc hz) hl1.symm hl2 (hl5.keep (aj.of_below hz)) HCM.out.1 (by have:=HCM.out.2;omega));unfold rY at HCK;rw [HPE.out] at HCK;have HLS:=aW (And.intro hl1 (And.intro hl2 (And.intro hl3 (And.intro (RR.imp hl4 λ c y hc=>SR.bel hc hz) (hl5.keep (aj.of_below hz))))));have HW2:=aW hb2.size;clear hl1 hl2 hl3 hl4 hl5 hb2 hrd1 hb1 hz;go_wp2_with fail;refine HCK.out.mono ?_;rintro e w4 ⟨rfl,hb4⟩;have HH4:=aW (HH3.out.keep hb4);obtain ⟨c0,f0,l0⟩:=HH4.out.b0.rules;obtain ⟨d0,g0,m0⟩:=HH4.out.b1.rules;have HB4:=aW hb4;have hne:w.heap.size≠w2.heap.size:=Nat.ne_of_lt (Nat.lt_of_lt_of_le hx1 HW2.out);clear hb4;cases mb
   ·go_wp2;refine bodyPost_ret (v:=.tuple #[.agg #[Zs none 0 0],Zi Zq 0,Zi Zq 331]) (by simp only [results,Tryz.results22];go_simp) rfl ?_;rw [HR.out];exact mm.err (HH4.out.1.setCell (p:=⟨w.heap.size,0,none⟩) (Nat.le_refl _) _)
   ·go_wp2;refine bodyPost_ret (v:=.tuple #[.agg #[Zs A' n ca],Zi Zq 0,Zi Zq 0]) (by simp only [results,Tryz.results22];go_simp) rfl ?_;have hk:aj (NW w1) (w2.alloc (.cells #[Zs A' n ca] 24)) (w4.setCell ⟨w.heap.size,0,none⟩ (Zs A' n ca)):=aj.set (aj.of_below HB4.out) (λ k hk=>by unfold NW at hk;omega) 0 _;rw [HR.out];exact ⟨A',n,ca,css,rfl,HLS.out.1,HLS.out.2.1,HLS.out.2.2.1,RR.imp HLS.out.2.2.2.1 λ c y hc=>(SR.keep hc hk).mono λ b _ hb=>by unfold NW at hb ⊢;omega,(HLS.out.2.2.2.2.keep hk).mono λ b _ hb=>by unfold NW at hb ⊢;omega,HH4.out.1.setCell (p:=⟨w.heap.size,0,none⟩) (Nat.le_refl _) _⟩
 ·have heb:(er != 0)=true:=by simpa using he
  have HR:=aW (show o=([],pl,er) by rw [HO.out,if_pos he]);clear he;rw [HR.out];go_enter Tryz.func22,Tryz.ntmps22;go_wp2_with (go_at_call 50;refine (HLX.out _ HH0.out.1).mono ?_;rintro e w1 ⟨v,rfl,hts,hb1⟩;have HH1:=aW (HH0.out.keep hb1);obtain ⟨c0,f0,l0⟩:=HH1.out.b0.rules;clear hts hb1);refine bodyPost_ret (v:=.tuple #[.agg #[Zs none 0 0],Zi Zq pl,Zi Zq er]) (by simp only [results,Tryz.results22];go_simp) rfl ?_;exact mm.err (HH1.out.1.setCell (p:=⟨w.heap.size,0,none⟩) (Nat.le_refl _) _)
end
section
theorem mU (k:Int) (l:List EJ):bG (eOp k l)=2+cj l:=by unfold eOp bG;simp [cJ,bW,cI,cq]
theorem tP:bG a8=2:=by unfold a8 bG cj;simp [cJ,bW,cI,cq]
theorem iP (v:JV):bG (eb v)=1+bW v:=by unfold eb bG cj;simp
theorem lY:∀ a b:List EJ,cj (a++b)=cj a+cj b
 | [],b=>by simp [cj]
 | x::r,b=>by rw [List.cons_append,cj,cj,lY r b];omega
section
variable {T:List al} (hG:TG T)
include hG
theorem vH:∀ (n:Nat),(∀ lvl p x q,aB T n lvl p=.ok x q->bG x+p*4010<=q*4010)/\(∀ lvl x p y q,fC T n lvl x p=.ok y q->bG y+p*4010<=bG x+q*4010)/\(∀ x p y q,dB T n x p=.ok y q->bG y+p*4010<=bG x+q*4010) /\
  (∀ p x q,bU T n p=.ok x q->bG x+p*4010<=q*4010)/\(∀ acc p x q,dA T n acc p=.ok x q->bG x+p*4010<=cj acc+q*4010)
 | 0=>⟨λ lvl p x q h=>(by unfold aB at h;cases h),λ lvl x p y q h=>(by unfold fC at h;cases h),λ x p y q h=>(by unfold dB at h;cases h),λ p x q h=>(by unfold bU at h;cases h),λ acc p x q h=>by unfold dA at h;cases h⟩
 |n+1=>by
  obtain ⟨hE,hB,hP,hA,hL⟩:=vH n;refine ⟨λ lvl p x q h=>?_,λ lvl x p y q h=>?_,λ x p y q h=>?_,λ p x q h=>?_,λ acc p x q h=>?_⟩
  ·unfold aB at h;split at h
   ·cases ho:dU T lvl p with
    | none=>rw [ho] at h;exact hE _ _ _ _ h
    |some k =>
     rw [ho] at h;simp only at h;cases hx:aB T n lvl (p+1) with
     | bad q=>rw [hx] at h;cases h
     |ok y r =>
      rw [hx] at h;injection h with h1 h2
      subst h1 h2;have:=hE _ _ _ _ hx;rw [mU];simp only [cj];omega
   ·split at h
    ·cases hx:bU T n p with
     | bad q=>rw [hx] at h;cases h
     |ok y r =>
      rw [hx] at h;have h1:=hA _ _ _ hx;have h2:=hP _ _ _ _ h;omega
    ·cases hx:aB T n (lvl+1) p with
     | bad q=>rw [hx] at h;cases h
     |ok y r =>
      rw [hx] at h;have h1:=hE _ _ _ _ hx;have h2:=hB _ _ _ _ _ h;omega
  ·unfold fC at h;cases ho:dU T lvl p with
   | none=>rw [ho] at h;injection h with h1 h2;subst h1 h2;omega
   |some k =>
    rw [ho] at h;simp only at h;cases hy:aB T n (lvl+1) (p+1) with
    | bad q=>rw [hy] at h;cases h
    |ok z r =>
     rw [hy] at h;have h1:=hE _ _ _ _ hy;have hs:bG (eOp k [x,z])=2+(bG x+(bG z+0)):=by rw [mU];rfl
     simp only at h;split at h
     ·injection h with h3 h4;subst h3 h4;omega
     ·have:=hB _ _ _ _ _ h;omega
  ·unfold dB at h;split at h
   ·split at h
    ·have h1:=hP _ _ _ _ h;have h2:=(hG.2 (p+1)).1;have hs:bG (.mk 3 cJ (tkT T (p+1)) [x])=2+(tkT T (p+1)).length+(bG x+0):=by rw [bG,cj,cj];simp [cJ,bW,cI,cq]
     omega
    ·cases h
   ·injection h with h1 h2;subst h1 h2;omega
  ·unfold bU at h;have hg:=hG.2 p;split at h
   ·injection h with h1 h2;subst h1 h2
    have hs:bG (.mk 2 cJ (tkT T p) [])=2+(tkT T p).length:=by unfold bG cj;simp [cJ,bW,cI,cq]
    omega
   split at h
   ·injection h with h1 h2;subst h1 h2
    rw [iP];simp [nS,bW,cI,cq];omega
   split at h
   ·injection h with h1 h2;subst h1 h2
    rw [iP];simp [jz,bW,cI,cq];omega
   split at h
   ·injection h with h1 h2;subst h1 h2
    rw [iP];simp [bW,cI,cq];omega
   split at h
   ·injection h with h1 h2;subst h1 h2
    rw [iP];simp [fe,bW,cI,cq];omega
   split at h
   ·injection h with h1 h2;subst h1 h2
    rw [iP];simp [fe,bW,cI,cq];omega
   split at h
   ·cases hx:aB T n 1 (p+1) with
    | bad q=>rw [hx] at h;cases h
    |ok y r =>
     rw [hx] at h;simp only at h;split at h
     ·injection h with h1 h2;subst h1 h2
      have:=hE _ _ _ _ hx;omega
     ·cases h
   split at h
   ·split at h
    ·injection h with h1 h2;subst h1 h2
     rw [mU];simp only [cj];omega
    ·have:=hL _ _ _ _ h;simp only [cj] at this;omega
   ·cases h
  ·unfold dA at h;cases hy:aB T n 1 p with
   | bad q=>rw [hy] at h;cases h
   |ok z r =>
    rw [hy] at h;simp only at h;have h1:=hE _ _ _ _ hy;have hs:cj (acc++[z])=cj acc+(bG z+0):=lY _ _;split at h
    ·have:=hL _ _ _ _ h;omega
    ·split at h
     ·injection h with h3 h4;subst h3 h4
      rw [mU];omega
     ·cases h
theorem vK:∀ (n:Nat),(∀ acc p x q,bE T n acc p=.ok x q->ap x+p*4010<=ap acc+q*4010)/\(∀ p x q,bc T n p=.ok x q->ap x+p*4010<=q*4010)
 | 0=>⟨λ acc p x q h=>(by unfold bE at h;cases h),λ p x q h=>by unfold bc at h;cases h⟩
 |n+1=>by
  obtain ⟨hS,hK⟩:=vK n;have hE:=λ p x q=>(vH hG n).1 1 p x q
  have hz:=tP;have hsn:∀ (acc:List SJ) (x:SJ),ap (acc++[x])=ap acc+(dv x+0):=λ acc x=>jr _ _
  have hmk:∀ k s a b body els,dv (.mk k s a b body els)=1+s.length+bG a+bG b+ap body+ap els:=λ _ _ _ _ _ _=>by rw [dv]
  have h0:ap []=0:=rfl;have h00:([]:List UInt8).length=0:=rfl;refine ⟨λ acc p x q h=>?_,λ p x q h=>?_⟩
  ·unfold bE at h;split at h
   ·cases hy:aB T n 1 (p+1) with
    | bad q=>rw [hy] at h;cases h
    |ok a r =>
     rw [hy] at h;simp only at h;split at h
     ·cases hz:aB T n 1 (r+1) with
      | bad q=>rw [hz] at h;cases h
      |ok b u =>
       rw [hz] at h;simp only at h;split at h
       ·have h1:=hE _ _ _ hy;have h2:=hE _ _ _ hz;have h3:=hS _ _ _ _ h;rw [hsn,hmk,h0,h00] at h3;omega
       ·cases h
     ·cases h
   split at h
   ·cases hy:aB T n 1 (p+1) with
    | bad q=>rw [hy] at h;cases h
    |ok a r =>
     rw [hy] at h;simp only at h;cases hv:bc T n r with
     | bad q=>rw [hv] at h;cases h
     |ok body u =>
      rw [hv] at h;simp only at h;have h1:=hE _ _ _ hy;have h2:=hK _ _ _ hv;split at h
      ·cases hw:bc T n (u+1) with
       | bad q=>rw [hw] at h;cases h
       |ok els t =>
        rw [hw] at h;simp only at h;have h3:=hK _ _ _ hw;have h4:=hS _ _ _ _ h;rw [hsn,hmk,hz,h00] at h4;omega
      ·have h4:=hS _ _ _ _ h;rw [hsn,hmk,hz,h0,h00] at h4;omega
   split at h
   ·split at h
    ·split at h
     ·cases hy:aB T n 1 (p+3) with
      | bad q=>rw [hy] at h;cases h
      |ok a r =>
       rw [hy] at h;simp only at h;cases hv:bc T n r with
       | bad q=>rw [hv] at h;cases h
       |ok body u =>
        rw [hv] at h;simp only at h;have h1:=hE _ _ _ hy;have h2:=hK _ _ _ hv;have h4:=hS _ _ _ _ h;have h5:=(hG.2 (p+1)).1;rw [hsn,hmk,hz,h0] at h4;omega
     ·cases h
    ·cases h
   ·injection h with h1 h2;subst h1 h2;omega
  ·unfold bc at h;split at h
   ·cases hy:bE T n [] (p+1) with
    | bad q=>rw [hy] at h;cases h
    |ok l r =>
     rw [hy] at h;simp only at h;split at h
     ·injection h with h1 h2;subst h1 h2
      have h3:=hS _ _ _ _ hy;rw [h0] at h3;omega
     ·cases h
   ·cases h
end
theorem rl (l:List UInt8):ap (cB l).1<=4010000:=by
 unfold cB;split
 ·exact Nat.zero_le _
 ·rename_i h
  obtain ⟨T,a,e,hl⟩:∃ T a e,fD l=(T,a,e):=⟨_,_,_,rfl⟩
  rw [hl] at h ⊢;have h0:e=0:=Decidable.byContradiction λ hn=>h hn
  subst h0;obtain ⟨hT,hG,hne⟩:=po hl;simp only;cases hp:fZ T with
  | bad p=>exact Nat.zero_le _
  |ok b q =>
   simp only;split
   ·rw [kH] at hp;cases hs:eS T [] 0 with
    | bad p=>rw [hs] at hp;cases hp
    |ok l' q' =>
     rw [hs] at hp;simp only at hp;split at hp
     ·injection hp with h1 h2
      subst h1 h2;have h3:=(vK hG (pM T+1)).1 [] 0 l' q' hs;have h4:=(qf hT (acc:=[]) (List.length_pos_iff.2 hne):(eS T [] 0).In0 T 0)
      rw [hs] at h4;have h5:q'<T.length:=h4.2;have h6:=hG.1;have h7:ap []=0:=rfl;rw [h7] at h3;show ap l'<=4010000
      omega
     ·cases hp
   ·exact Nat.zero_le _
end
section
open Go.RowKit
attribute [local go_sem] ab ae af ac
theorem rk (l:List UInt8):aZ (cB l).1/\(cB l).1.length<=1000:=by
 unfold cB;split
 ·exact ⟨trivial,Nat.zero_le _⟩
 ·rename_i h
  obtain ⟨T,a,e,hl⟩:∃ T a e,fD l=(T,a,e):=⟨_,_,_,rfl⟩
  rw [hl] at h ⊢;have h0:e=0:=Decidable.byContradiction λ hn=>h hn
  subst h0;obtain ⟨hT,hG,hne⟩:=po hl;simp only;cases hp:fZ T with
  | bad p=>exact ⟨trivial,Nat.zero_le _⟩
  |ok b q =>
   have h1:=lS hT hG (List.length_pos_iff.2 hne) hp;simp only;split
   ·exact h1
   ·exact ⟨trivial,Nat.zero_le _⟩
theorem SR.zero {W:World} {F:Nat->Prop}:SR W F [Zi Zq 0,Zt ⟨#[]⟩,Zi Zq 0,Zi Zq 0,Zi Zq 0,Zt ⟨#[]⟩,Zs none 0 0,Zs none 0 0,Zt ⟨#[]⟩,Zs none 0 0,Zi Zq 0,Zi Zq 0,Zi Zq 0,Zt ⟨#[]⟩,Zs none 0 0,Zs none 0 0,Zt ⟨#[]⟩,Zs none 0 0,Zs none 0 0,Zs none 0 0] (.mk 0 [] a8 a8 [] []) :=
 SR.into (k:=0) (s:=[]) (acs:=[Zi Zq 0,Zi Zq 0,Zi Zq 0,Zt ⟨#[]⟩,Zs none 0 0,Zs none 0 0,Zt ⟨#[]⟩,Zs none 0 0]) (bcs:=[Zi Zq 0,Zi Zq 0,Zi Zq 0,Zt ⟨#[]⟩,Zs none 0 0,Zs none 0 0,Zt ⟨#[]⟩,Zs none 0 0]) (css:=[]) (dss:=[]) ER.zero ER.zero RR.nil rfl (Nat.le_refl _) (λ _=>rfl) RdF.nil RR.nil rfl (Nat.le_refl _) (λ _=>rfl) RdF.nil
mutual
theorem j3:∀ (x:EJ),jg 4194304 x->cG x
 | .mk k v s kids,h=>by
  unfold jg at h;obtain ⟨_,h1,h2,h3,h4,h5,h6⟩:=h;unfold cG;exact ⟨h1,cN.of h2 h3,h4,h5,lB kids h6⟩
theorem lB:∀ (l:List EJ),gO 4194304 l->fH l
 | [],_=>trivial
 | x::r,h=>by unfold gO at h;unfold fH;exact ⟨j3 x h.1,lB r h.2⟩
end
mutual
theorem r9:∀ (x:SJ),gW 4194304 x->fI x
 | .mk k s a b body els,h=>by
  unfold gW at h;obtain ⟨_,h1,h2,h3,h4,h5,h6,h7,h8⟩:=h;unfold fI;exact ⟨h1,h2,j3 a h3,j3 b h4,h5,h6,gp body h7,gp els h8⟩
theorem gp:∀ (l:List SJ),fX 4194304 l->aZ l
 | [],_=>trivial
 | x::r,h=>by unfold fX at h;unfold aZ;exact ⟨r9 x h.1,gp r h.2⟩
end
theorem qR {l:List SJ} (h:∀ v ∈ l,gW 4194304 v):aZ l:=gp l (gB.2 h)
def di (W:World) (A:Option Addr) (n ca:Nat) (p:List SJ):Prop:=∃ css,SRs W TT css p/\RdF W TT A css.flatten/\p.length=n/\n<=ca
section
variable {w W W':World} {A A':Option Addr} {n n' ca ca':Nat} {p q:List SJ} {F:Nat->Prop} {e:Ending}
theorem di.bel (h:di W A n ca p) (hb:Below W.heap.size W W'):di W' A n ca p:=by
 obtain ⟨css,h1,h2,h3⟩:=h;exact ⟨css,RR.imp h1 λ c x hc=>hc.bel hb,h2.keep (aj.of_below hb),h3⟩
theorem mm.has {o:List SJ × Int × Int} (h:mm o w e W):∃ A n ca,e=.returned (.tuple #[.agg #[Zs A n ca],Zi Zq o.2.1,Zi Zq o.2.2])/\di W A n ca o.1/\Below w.heap.size w W:=by
 obtain ⟨A,n,ca,css,rfl,h1,h2,_,h3,h4,h5⟩:=h;exact ⟨A,n,ca,rfl,⟨css,RR.imp h3 λ c x hc=>hc.mono λ _ _ _=>trivial,h4.mono λ _ _ _=>trivial,h1.symm,h2⟩,h5⟩
theorem qr:∀ l:List SJ,l.length<=ap l
 | []=>Nat.le_refl _
 |x::r=>by
  have h1:=qr r;have h2:=tO x;unfold ap;rw [List.length_cons];omega
end
end
section
open Go.RowKit
section
variable {w Z Z':World} {P Q:Array Value} {A:Option Addr} {n ca:Nat} {css:List (List Value)} {l:List SJ} {L:List Nat} {F:Nat->Prop}
end
end
section
open Go.RowKit
attribute [local go_sem] ab ae af ac
theorem sL {W:World} {A:Option Addr} {n ca:Nat} {p:List SJ} (h:di W A n ca p) (hC:aZ p) (hs:ap p<=4194304):Calls Tryz.prog 17 #[.agg #[Zs A n ca]] W λ e W'=>e=.returned (.bool (ff p))/\Below W.heap.size W W':=by
 obtain ⟨css,h1,h2,h3,h4⟩:=h;have hl:=qr p;exact uW p css A n ca W h1 h3 h4 h2 hC (by omega)
end
end Go.Proofs.YtgmnmnnoahdjnaaGreatDoor
