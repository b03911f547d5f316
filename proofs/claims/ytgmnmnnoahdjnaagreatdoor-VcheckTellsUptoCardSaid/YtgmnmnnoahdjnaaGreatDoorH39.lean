import Derived.Test.YtgmnmnnoahdjnaaGreatDoorH37
open Go.Value renaming int → Zi, slice → Zs, string → Zt, pointer → Zp
open Go.IntKind renaming i64 → Zq
set_option maxRecDepth 100000
set_option maxHeartbeats 16000000
set_option linter.unusedVariables false
set_option linter.unusedSimpArgs false
namespace Go.Proofs.YtgmnmnnoahdjnaaGreatDoor
section
open Go.RowKit Go.Shelf
attribute [local go_sem] ab ae af ac Oper.semAt_some
attribute [local go_sem] dF dE
theorem gT {n:Nat} {f:FuncId} {args:Array Value} {w:World} {R:Ending->World->Prop} (h:CallsIn d4 n Tryz.prog f args w R):Calls Tryz.prog f args w R:=h.calls λ k d hd=>by cases hd
/-- a loop's name that stands for something already,or a loop too many -/
theorem vS (m:Nat) (l:List (List UInt8)) (t:List UInt8) (A:Option Addr) (n ca:Nat) (w:World) (hl:l.length=n) (hn:n<=4194304) (hR:Rd w A (ar l)) :
  CallsIn d4 m Tryz.prog 60 #[Zt ⟨t.toArray⟩,Zs A n ca] w (CkP (if giv t=true∨t ∈ l then some 341 else if 2<=n then some 342 else none) w):=by
 obtain ⟨a,ha⟩:∃ a,(t == [100,111,99])=a:=⟨_,rfl⟩
 obtain ⟨b,hb⟩:∃ b,(t == [105,100])=b:=⟨_,rfl⟩
 obtain ⟨c,hc⟩:∃ c:Bool,c=true ↔ t ∈ l:=by
  by_cases h:t ∈ l
  ·exact ⟨true,by simp [h]⟩
  ·exact ⟨false,by simp [h]⟩
 have HGV:=aW (dm (m:=m-1) (p9 ⟨t.toArray⟩ w a b (by rw [jX t [100,111,99]];exact ha) (by rw [jX t [105,100]];exact hb)));have HH:=aW (dm (m:=m-1) (sd l t A n ca w hl hn hR c hc));have hgv:giv t=(a || b):=by unfold giv;rw [ha,hb]
 have hif:(if giv t=true∨t ∈ l then some (341:Int) else if 2<=n then some 342 else none)=(if (a || b)=true∨c=true then some 341 else if 2<=n then some 342 else none):=by simp only [hgv,hc]
 rw [hif];clear hif hgv hc ha hb hR hl;obtain ⟨gv,hgv⟩:∃ z,(a || b)=z:=⟨_,rfl⟩
 rw [hgv] at HGV ⊢;clear hgv;refine callsIn_of_wp Tryz.func60 rfl (aC (by kernel_rfl)) ?_ rfl;simp only [Tryz.ntmps60,List.size_toArray,List.length_cons,List.length_nil,Nat.reduceAdd,Nat.reduceSub,Array.replicate_succ,Array.replicate_zero,List.push_toArray,List.append_toArray,List.nil_append,List.cons_append];cases gv
 ·cases c
  ·rw [if_neg (by simp)];by_cases h2:2<=n
   ·rw [if_pos h2];have h2':(2:Int)<=(n:Int):=by omega
    clear h2;gi_wp2;refine ⟨aC (by kernel_rfl),HGV.out.mono ?_⟩;rintro e w2 ⟨rfl,rfl⟩;gi_wp2;refine ⟨aC (by kernel_rfl),HH.out.mono ?_⟩;rintro e w3 ⟨rfl,rfl⟩;gi_wp2;exact ⟨rfl,rfl,rfl⟩
   ·rw [if_neg h2];have h2':¬ (2:Int)<=(n:Int):=by omega
    clear h2;gi_wp2;refine ⟨aC (by kernel_rfl),HGV.out.mono ?_⟩;rintro e w2 ⟨rfl,rfl⟩;gi_wp2;refine ⟨aC (by kernel_rfl),HH.out.mono ?_⟩;rintro e w3 ⟨rfl,rfl⟩;gi_wp2;go_end0;exact ⟨rfl,rfl⟩
  ·rw [if_pos (by simp)];gi_wp2;refine ⟨aC (by kernel_rfl),HGV.out.mono ?_⟩;rintro e w2 ⟨rfl,rfl⟩;gi_wp2;refine ⟨aC (by kernel_rfl),HH.out.mono ?_⟩;rintro e w3 ⟨rfl,rfl⟩;gi_wp2;exact ⟨rfl,rfl,rfl⟩
 ·rw [if_pos (by simp)];gi_wp2;refine ⟨aC (by kernel_rfl),HGV.out.mono ?_⟩;rintro e w2 ⟨rfl,rfl⟩;gi_wp2;refine ⟨aC (by kernel_rfl),?_⟩;gi_wp2;exact ⟨rfl,rfl,rfl⟩
def ckX:GoX Unit:={ g:=ckG,ob:=none,Sx:=λ _ _=>True,ms:=λ _=>0,f1:=58,f2:=60,b1:=#[],b2:=#[] }
theorem vU:ckX.Ok:=by
 refine ⟨⟨λ _ _ _ _ _=>trivial,λ _ _ _ _ h=>absurd h fh⟩,λ _ _ _ _ _=>Nat.zero_le _,λ _ _ _ _ _=>Nat.zero_le _,?_,?_,enters_of Tryz.func58 (by kernel_rfl) rfl,enters_of Tryz.func60 (by kernel_rfl) rfl⟩
 ·intro m st t bd A n ca W _ _ hl hn hr;refine CallsIn.mono (vT m bd t A n ca W hl hn hr.rd) ?_;rintro e w' ⟨rfl,he⟩;refine ⟨.refl _ _,?_⟩;by_cases h:giv t=true∨t ∈ bd
  ·rw [show ckX.g.nm st t bd=.ok () from if_pos h];rw [if_pos h] at he;exact ⟨he,trivial⟩
  ·rw [show ckX.g.nm st t bd=.error 340 from if_neg h];rw [if_neg h] at he;exact ⟨he,(),trivial⟩
 ·intro m st t bd A n ca W _ _ hl hn hr;refine CallsIn.mono (vS m bd t A n ca W hl hn hr.rd) ?_;rintro e w' ⟨rfl,he⟩;refine ⟨.refl _ _,?_⟩;by_cases h:giv t=true∨t ∈ bd
  ·rw [show ckX.g.lp st t bd=.error 341 from if_pos h];rw [if_pos h] at he;exact ⟨he,(),trivial⟩
  ·rw [if_neg h] at he;by_cases h2:2<=n
   ·rw [show ckX.g.lp st t bd=.error 342 from (if_neg h).trans (if_pos (by rw [hl];exact h2))];rw [if_pos h2] at he;exact ⟨he,(),trivial⟩
   ·rw [show ckX.g.lp st t bd=.ok () from (if_neg h).trans (if_neg (by rw [hl];exact h2))];rw [if_neg h2] at he;exact ⟨he,trivial⟩
theorem ns (p:Addr) (w:World) :
  CallsD Tryz.prog 57 #[Zp (some p)] .returning w λ e u' w'=>e=.returned (.tuple #[])/\u'=.returning/\w'=w:=by
 refine callsD_of_wpS Tryz.func57 rfl λ c₀ cs hu=>?_
 simp only [Tryz.ntmps57,List.size_toArray,List.length_cons,List.length_nil,Nat.reduceAdd,Nat.reduceSub,Array.replicate_succ,Array.replicate_zero,List.push_toArray,List.append_toArray,List.nil_append,List.cons_append];apply wpS_seq;apply wpS_region;simp [wpOpsS,go_sem,recoverD,hu,Exit.thenS];refine wpS_of_wp ?_;go_wp2;cases c₀
 simp_all [bodyPostS,results,Tryz.results57]
theorem oW (b:Nat) (x:Int) (c:Value) (w:World) (hp:w.cell? ⟨b,0,none⟩=some c) (hz:w.frozen? ⟨b,0,none⟩=false) :
  CallsD Tryz.prog 57 #[Zp (some ⟨b,0,none⟩)] (.panicking [{ v:=.iface 90 (Zi Zq x),recovered:=false }]) w λ e u' w' =>
   e=.returned (.tuple #[])/\u'=.panicking [{ v:=.iface 90 (Zi Zq x),recovered:=true }]/\w'=w.setCell ⟨b,0,none⟩ (Zi Zq x):=by
 have hta:∀ w:World,(Instr.typeAssert (.iface 90 (Zi Zq x)) 20 90 true).run Tryz.prog w=.ok (.tuple #[Zi Zq x,.bool true]) w:=λ _=>by kernel_rfl
 refine callsD_of_wpS Tryz.func57 rfl λ c₀ cs hu=>?_
 simp only [Tryz.ntmps57,List.size_toArray,List.length_cons,List.length_nil,Nat.reduceAdd,Nat.reduceSub,Array.replicate_succ,Array.replicate_zero,List.push_toArray,List.append_toArray,List.nil_append,List.cons_append];apply wpS_seq;apply wpS_region;simp [wpOpsS,go_sem,recoverD,hu,Exit.thenS];refine wpS_of_wp ?_;go_wp2;simp [bodyPostS,results,Tryz.results57]
theorem ul (l:List SJ) (css:List (List Value)) (A:Option Addr) (n ca:Nat) (F:Nat->Prop) (w:World) (hG:GOE w) (hS:SRs w F css l) (hln:l.length=n) (hnc:n<=ca) (hR:RdF w F A css.flatten) (hC:aZ l) (hs:ap l<4194304) :
  Calls Tryz.prog 27 #[.agg #[Zs A n ca]] w (rY (cX l) w):=by
 have hmf:∀ (fn:Fn) (first cap:Array Value) (w:World),(Instr.makeFunc fn first cap).run Tryz.prog w=.ok (.func fn first cap) w:=λ _ _ _ _=>rfl
 have hn4:n<=4194304:=by have:=bD l;omega
 have HM:=aW (λ (W:World) (h:Below w.heap.size w W)=>mw l css A n ca F W (hG.keep h) (RR.imp hS λ c x hc=>hc.bel h) hln hnc (hR.keep (aj.of_below h)) hC hn4);have HST:=aW (λ (W:World) (gb:Nat) (h:Below w.heap.size w W) (hgb:Blk W gb 95 #[.func (.func 58) #[] #[],.func (.func 60) #[] #[]]) =>
  gT (jR vU (ap l+1) l [] css A n ca none 0 0 () W gb (Nat.lt_succ_self _) (RR.imp hS λ c x hc=>(hc.bel h).mono λ _ _ _=>fh) hln hnc ((hR.keep (aj.of_below h)).mono λ _ _ _=>fh) rfl (by omega) (Nat.le_refl _) (.inl ⟨rfl,rfl⟩) RdF.nil hgb fh trivial (by show 0+ap l<=_;omega)))
 obtain ⟨B1,hB1⟩:∃ b,w.heap.size+1=b:=⟨_,rfl⟩
 have HH0:=aW ((((aH.nil w).push 24 #[Zs A n ca] (g:=w.heap.size) rfl).push 27 #[Zi Zq 0] (g:=B1) (by simp [hB1])));have HB1:=aW hB1;have HCK:=aW (show cX l=if ff l=true then fN (gvL ckG [] l ()) else 332 from rfl);have hne1:B1≠w.heap.size:=by omega
 have hne2:w.heap.size≠B1:=by omega
 clear hG hS hln hnc hR hC hs;cases hm:ff l
 ·have hq:dV l=332:=by unfold dV;rw [hm];rfl
  rw [hq] at HM;have hc9:cX l=332:=by rw [HCK.out,hm];rfl
  rw [hc9];clear hq hc9 hm HCK
  go_enter_defers Tryz.func27,Tryz.ntmps27
  go_wp2_with fail;refine (HM.out _ HH0.out.1).mono ?_;rintro e w1 ⟨rfl,hb1⟩;have HH1:=aW (HH0.out.keep hb1);have h9:=HH1.out.b0.set_ 0 (Zi Zq 332);have hbe:Below w.heap.size w (w1.setCell ⟨B1,0,none⟩ (Zi Zq 332)):=HH1.out.1.setCell (p:=⟨B1,0,none⟩) (by show w.heap.size<=B1;omega) _;have HE:=aW (And.intro h9 hbe);obtain ⟨c0,f0,l0⟩:=HH1.out.b0.rules;clear hb1 h9 hbe;go_wp2;obtain ⟨d0,d1,d2⟩:=HE.out.1.rules;refine ⟨Zi Zq 332,?_,rfl,HE.out.2⟩;simp only [results,Tryz.results27];go_simp
 ·have hq:dV l=0:=by unfold dV;rw [hm];rfl
  rw [hq] at HM;have hc9:cX l=fN (gvL ckG [] l ()):=by rw [HCK.out,hm];rfl
  rw [hc9];clear hq hc9 hm HCK
  go_enter_defers Tryz.func27,Tryz.ntmps27
  go_wp2_with fail;refine (HM.out _ HH0.out.1).mono ?_;rintro e w1 ⟨rfl,hb1⟩;have HH1:=aW (HH0.out.keep hb1);obtain ⟨c0,f0,l0⟩:=HH1.out.b1.rules;obtain ⟨W2,hW2⟩:∃ W2,w1.alloc (.cells #[.func (.func 58) #[] #[],.func (.func 60) #[] #[]] 95)=W2:=⟨_,rfl⟩
  have hbk:Blk W2 w1.heap.size 95 #[.func (.func 58) #[] #[],.func (.func 60) #[] #[]]:=by rw [← hW2];exact Blk.new _ _ _
  have hb2:Below w1.heap.size w1 W2:=by rw [← hW2];exact (Below.refl _ _).alloc (Nat.le_refl _) _
  have HH2:=aW (HH1.out.keep hb2);have HC:=aW (HST.out W2 w1.heap.size HH2.out.1 hbk);have HW2:=aW hW2;clear hW2 hbk hb2 hb1;go_wp2_with fail;rw [HW2.out];refine HC.out.mono ?_;rintro e w3 ⟨hf,hc⟩;have hb3:Below W2.heap.size W2 w3:=FrO.below hf;have HH3:=aW (HH2.out.keep hb3);obtain ⟨d0,d1,d2⟩:=HH3.out.b0.rules;clear c0 f0 l0 hb3 hf;cases hr:gvL ckG [] l () with
  |error x =>
   have hc:e=.panicked [{ v:=.iface 90 (Zi Zq x),recovered:=false }]/\∃ st,ckX.Sx st w3:=by
    have h9:=hc;rw [show gvL ckX.g [] l ()=.error x from hr] at h9;exact h9
   obtain ⟨rfl,_⟩:=hc;refine leaves_cons (f:=57) (args:=#[Zp (some ⟨B1,0,none⟩)]) (by simp) (by simp [go_sem]) ?_;refine (oW B1 x _ w3 (d0 0) (d1 0)).mono ?_;rintro e u' w4 ⟨rfl,rfl,rfl⟩;have h9:=HH3.out.b0.set_ 0 (Zi Zq x);obtain ⟨e0,e1,e2⟩:=h9.rules;refine ⟨Zi Zq x,?_,rfl,HH3.out.1.setCell (p:=⟨B1,0,none⟩) (by show w.heap.size<=B1;have:=HB1.out;omega) _⟩;simp only [results,Tryz.results27];go_simp
  |ok st =>
   have hc:e=.returned (.tuple #[])/\ckX.Sx st w3:=by
    have h9:=hc;rw [show gvL ckX.g [] l ()=.ok st from hr] at h9;exact h9
   obtain ⟨rfl,_⟩:=hc;have h9:=HH3.out.b0.set_ 0 (Zi Zq 0);have hbe:Below w.heap.size w (w3.setCell ⟨B1,0,none⟩ (Zi Zq 0)):=HH3.out.1.setCell (p:=⟨B1,0,none⟩) (by show w.heap.size<=B1;have:=HB1.out;omega) _;have HE:=aW (And.intro h9 hbe);clear h9 hbe;go_wp2;refine leaves_cons (f:=57) (args:=#[Zp (some ⟨B1,0,none⟩)]) (by simp) (by simp [go_sem]) ?_;refine (ns ⟨B1,0,none⟩ _).mono ?_;rintro e u' w4 ⟨rfl,rfl,rfl⟩;obtain ⟨e0,e1,e2⟩:=HE.out.1.rules;refine ⟨Zi Zq 0,?_,by rw [hr];rfl,HE.out.2⟩;simp only [results,Tryz.results27];go_simp
def loX (B:Nat):GoX Nat:={ g:=loG,ob:=some B,Sx:=λ st W=>Blk W B 3 #[Zi Zq (st:Int)]/\st<=8388608,ms:=λ _=>0,f1:=66,f2:=67,b1:=#[],b2:=#[Zp (some ⟨B,0,none⟩)] }
theorem gG {B:Nat} {W:World} {t:TypeId} {x:Int} (h:Blk W B t #[Zi Zq x]) {k:Nat} (ho:aM (some B) W k):k=B:=by
 obtain ⟨b,e,h1 | ⟨v,h1,h2⟩⟩:=ho
 ·injection e with e;rw [h1,e]
 ·injection e with e
  subst e;rw [h.cell 0] at h1;simp at h1;subst h1;simp [Value.ownBlock] at h2
theorem sH {B:Nat} {W:World} {t:TypeId} {x y:Int} (h:Blk W B t #[Zi Zq x]):FrO (some B) W (W.setCell ⟨B,0,none⟩ (Zi Zq y)):=by
 have h2:=h.set_ 0 (Zi Zq y);refine ⟨rfl,rfl,rfl,by simp,λ k hk hn=>Below.heap_setCell W ⟨B,0,none⟩ _ k (λ e=>hn ⟨B,rfl,.inl e⟩),λ k hk=>.inl ⟨B,rfl,.inl (gG (t:=t) (x:=y) ?_ hk)⟩⟩;simpa using h2
theorem wH (B:Nat):(loX B).Ok:=by
 refine ⟨⟨λ st A C hk h=>⟨hk.blk h.1,h.2⟩,λ st A k h ho=>?_⟩,λ _ _ _ _ _=>Nat.zero_le _,λ _ _ _ _ _=>Nat.zero_le _,?_,?_,enters_of Tryz.func66 (by kernel_rfl) rfl,enters_of Tryz.func67 (by kernel_rfl) rfl⟩
 ·have hb:Blk A B 3 _:=h.1;rw [gG hb ho];exact ⟨_,hb,rfl⟩
 ·intro m st t bd A n ca W hS _ _ _ _;have HS:=aW hS;clear hS;show CallsIn d4 m Tryz.prog 66 #[Zt ⟨t.toArray⟩,Zs A n ca] W _
  refine callsIn_of_wp Tryz.func66 rfl (aC (by kernel_rfl)) ?_ rfl;simp only [Tryz.ntmps66,List.size_toArray,List.length_cons,List.length_nil,Nat.reduceAdd,Nat.reduceSub,Array.replicate_succ,Array.replicate_zero,List.push_toArray,List.append_toArray,List.nil_append,List.cons_append];gi_wp2;go_end0;exact ⟨.refl _ _,rfl,HS.out⟩
 ·intro m st t bd A n ca W hS _ hl hn _;have HS:=aW hS;have hmx:∀ (a b:Int),max a b=if a<=b then b else a:=λ a b=>Int.max_def a b
  obtain ⟨c0,f0,l0⟩:=(show Blk W B 3 #[Zi Zq (st:Int)] from hS.1).rules;have hst:st<=8388608:=hS.2;have HF:=aW (λ y=>sH (y:=y) (show Blk W B 3 #[Zi Zq (st:Int)] from hS.1));have HB:=aW (λ y:Int=>(show Blk W B 3 #[Zi Zq (st:Int)] from hS.1).set_ 0 (Zi Zq y));clear hS;show CallsIn d4 m Tryz.prog 67 #[Zt ⟨t.toArray⟩,Zs A n ca,Zp (some ⟨B,0,none⟩)] W _
  have HL:=aW (show (loX B).g.lp st t bd=.ok (max st (n+1)) by rw [← hl];rfl);clear hl;refine callsIn_of_wp Tryz.func67 rfl (aC (by kernel_rfl)) ?_ rfl;simp only [Tryz.ntmps67,List.size_toArray,List.length_cons,List.length_nil,Nat.reduceAdd,Nat.reduceSub,Array.replicate_succ,Array.replicate_zero,List.push_toArray,List.append_toArray,List.nil_append,List.cons_append];by_cases hc:(st:Int)<=(n:Int)+1
  ·have hc2:¬ (n:Int)+1<(st:Int):=by omega
   have hc3:((max st (n+1):Nat):Int)=(n:Int)+1:=by omega
   have HC3:=aW hc3;clear hc3;gi_wp2;go_end0;refine ⟨HF.out _,?_⟩;rw [HL.out];refine ⟨rfl,?_,by omega⟩;have:=HB.out ((n:Int)+1);show Blk _ B 3 #[Zi Zq ((max st (n+1):Nat):Int)]
   rw [HC3.out];simpa using this
  ·have hc2:(n:Int)+1<(st:Int):=by omega
   have hc3:((max st (n+1):Nat):Int)=(st:Int):=by omega
   have HC3:=aW hc3;clear hc3;gi_wp2;go_end0;refine ⟨HF.out _,?_⟩;rw [HL.out];refine ⟨rfl,?_,by omega⟩;have:=HB.out (st:Int);show Blk _ B 3 #[Zi Zq ((max st (n+1):Nat):Int)]
   rw [HC3.out];simpa using this
theorem FrO.belowN {ob:Option Nat} {A C:World} {N:Nat} (h:FrO ob A C) (hN:N<=A.heap.size) (ho:∀ k,aM ob A k->N<=k):Below N A C :=
 ⟨h.os,h.tape,h.output,h.size,λ k hk=>h.block k (Nat.lt_of_lt_of_le hk hN) λ h'=>by have:=ho k h';omega⟩
theorem qC {w W:World} {F:Nat->Prop} {ob:Option Nat} {css:List (List Value)} {l:List SJ} (h:SRs w F css l) (hb:Below w.heap.size w W) (ho:∀ k,aM ob W k->w.heap.size<=k):SRs W (λ b=>¬ aM ob W b) css l :=
 RR.imp h λ c x hc=>((hc.mono (F':=λ b=>b<w.heap.size) λ b hb _=>hb).bel hb).mono λ b _ hb h'=>by have:=ho b h';omega
theorem qu {w W:World} {F:Nat->Prop} {ob:Option Nat} {A:Option Addr} {xs:List Value} (h:RdF w F A xs) (hb:Below w.heap.size w W) (ho:∀ k,aM ob W k->w.heap.size<=k):RdF W (λ b=>¬ aM ob W b) A xs :=
 ((h.mono (F':=λ b=>b<w.heap.size) λ b hb _=>hb).keep (aj.of_below hb)).mono λ b _ hb h'=>by have:=ho b h';omega
theorem sY (l:List SJ):gvL loG [] l 0=.ok (dJ l):=by
 unfold dJ;rw [fv];rfl
def pZ (l:List SJ) (w:World) (e:Ending) (w':World):Prop:=e=.returned (.tuple #[Zi Zq ((if ff l=true then dJ l else 0:Nat):Int),Zi Zq (dV l)])/\Below w.heap.size w w'
theorem un (l:List SJ) (css:List (List Value)) (A:Option Addr) (n ca:Nat) (F:Nat->Prop) (w:World) (hG:GOE w) (hS:SRs w F css l) (hln:l.length=n) (hnc:n<=ca) (hR:RdF w F A css.flatten) (hC:aZ l) (hs:ap l<4194304) :
  Calls Tryz.prog 30 #[.agg #[Zs A n ca]] w (pZ l w):=by
 have hmf:∀ (fn:Fn) (first cap:Array Value) (w:World),(Instr.makeFunc fn first cap).run Tryz.prog w=.ok (.func fn first cap) w:=λ _ _ _ _=>rfl
 have hn4:n<=4194304:=by have:=bD l;omega
 have HM:=aW (λ (W:World) (h:Below w.heap.size w W)=>mw l css A n ca F W (hG.keep h) (RR.imp hS λ c x hc=>hc.bel h) hln hnc (hR.keep (aj.of_below h)) hC hn4);have HST:=aW (λ (W:World) (B gb:Nat) (h:Below w.heap.size w W) (hB:w.heap.size<=B) (hgB:gb≠B) (hbk:Blk W B 3 #[Zi Zq 0]) (hgb:Blk W gb 95 #[.func (.func 66) #[] #[],.func (.func 67) #[] #[Zp (some ⟨B,0,none⟩)]]) =>
  gT (jR (wH B) (ap l+1) l [] css A n ca none 0 0 (0:Nat) W gb (Nat.lt_succ_self _) (qC hS h λ k hk=>by rw [gG hbk hk];exact hB) hln hnc (qu hR h λ k hk=>by rw [gG hbk hk];exact hB) rfl (by omega) (Nat.le_refl _) (.inl ⟨rfl,rfl⟩) RdF.nil hgb (λ hk=>hgB (gG hbk hk)) ⟨hbk,Nat.zero_le _⟩ (by show 0+ap l<=_;omega)))
 have HH0:=aW ((aH.nil w).push 24 #[Zs A n ca] (g:=w.heap.size) rfl);clear hG hS hln hnc hR hC hs;cases hm:ff l
 ·have hq:dV l=332:=by unfold dV;rw [hm];rfl
  rw [hq] at HM;have HL:=aW (show ∀ W,Below w.heap.size w W->pZ l w (.returned (.tuple #[Zi Zq 0,Zi Zq 332])) W from λ W h=>⟨by rw [hm,hq];rfl,h⟩);clear hq hm;go_enter Tryz.func30,Tryz.ntmps30;go_wp2_with fail;refine (HM.out _ HH0.out.1).mono ?_;rintro e w1 ⟨rfl,hb1⟩;have HH1:=aW (HH0.out.keep hb1);clear hb1;go_wp2;refine bodyPost_ret (v:=.tuple #[Zi Zq 0,Zi Zq 332]) (by simp only [results,Tryz.results30];go_simp) rfl ?_;exact HL.out _ HH1.out.1
 ·have hq:dV l=0:=by unfold dV;rw [hm];rfl
  rw [hq] at HM;have HL:=aW (show ∀ W,Below w.heap.size w W->pZ l w (.returned (.tuple #[Zi Zq (dJ l:Nat),Zi Zq 0])) W from λ W h=>⟨by rw [hm,hq];rfl,h⟩);clear hq hm;go_enter Tryz.func30,Tryz.ntmps30;go_wp2_with fail;refine (HM.out _ HH0.out.1).mono ?_;rintro e w1 ⟨rfl,hb1⟩;have HH1:=aW (HH0.out.keep hb1);clear hb1;obtain ⟨B,hB⟩:∃ B,w1.heap.size=B:=⟨_,rfl⟩
  obtain ⟨W2,hW2⟩:∃ W2,(w1.alloc (.cells #[Zi Zq 0] 3)).alloc (.cells #[.func (.func 66) #[] #[],.func (.func 67) #[] #[Zp (some ⟨B,0,none⟩)]] 95)=W2:=⟨_,rfl⟩
  have hb2:Below w1.heap.size w1 W2:=by rw [← hW2];exact ((Below.refl _ _).alloc (Nat.le_refl _) _).alloc (by simp) _
  have hbk:Blk W2 B 3 #[Zi Zq 0]:=by rw [← hW2,← hB];exact (Blk.new _ _ _).alloc _
  have hgb:Blk W2 (B+1) 95 #[.func (.func 66) #[] #[],.func (.func 67) #[] #[Zp (some ⟨B,0,none⟩)]]:=by
   have h9:=Blk.new (w1.alloc (.cells #[Zi Zq 0] 3)) 95 #[.func (.func 66) #[] #[],.func (.func 67) #[] #[Zp (some ⟨B,0,none⟩)]];rw [World.size_alloc,hB] at h9;rw [← hW2];exact h9
  have HH2:=aW (HH1.out.keep hb2);have hBw:w.heap.size<=B:=by rw [← hB];exact HH1.out.1.size
  have HC:=aW (HST.out W2 B (B+1) HH2.out.1 hBw (by omega) hbk hgb);have HOB:=aW (λ k (hk:aM (some B) W2 k)=>show w.heap.size<=k by rw [gG hbk hk];exact hBw);have HW2:=aW hW2;have HBB:=aW hB;obtain ⟨c0,f0,l0⟩:=HH1.out.b0.rules;clear hW2 hb2 hbk hgb hB;go_upto_region 6 with fail;rw [HBB.out,HW2.out];clear c0 f0 l0;obtain ⟨c0,f0,l0⟩:=HH2.out.b0.rules;go_wp2_with fail;refine HC.out.mono ?_;rintro e w3 ⟨hf,hc⟩;rw [show gvL (loX B).g [] l 0=.ok (dJ l) from sY l] at hc;obtain ⟨rfl,hk,_⟩:=hc;have hbe:Below w.heap.size w w3:=HH2.out.1.trans (FrO.belowN hf HH2.out.1.size HOB.out);have HE:=aW hbe;obtain ⟨d0,d1,d2⟩:=(show Blk w3 B 3 #[Zi Zq (dJ l:Nat)] from hk).rules;clear c0 f0 l0 hf hk hbe;go_wp2;refine bodyPost_ret (v:=.tuple #[Zi Zq (dJ l:Nat),Zi Zq 0]) (by simp only [results,Tryz.results30];go_simp) rfl ?_;exact HL.out _ HE.out
def FrS (B:Nat) (st:List (List UInt8)) (W:World):Prop:=∃ row,Blk W B 40 #[row]/\W.ownsRow (B+1) 9 1 row st.length (ar st)
theorem rj {W W':World} {base:Nat} {e:TypeId} {size n:Nat} {v:Value} {xs:List Value} (h:W.ownsRow base e size v n xs) (hk:fE W W'):W'.ownsRow base e size v n xs :=
 ⟨h.1,h.2.imp id λ ⟨g,cap,cur,e1,e2,hh,r⟩=>⟨g,cap,cur,e1,e2,hk.2 g _ hh rfl,r⟩⟩
theorem FrS.keep {B:Nat} {st:List (List UInt8)} {W W':World} (h:FrS B st W) (hk:fE W W'):FrS B st W':=by
 obtain ⟨row,h1,h2⟩:=h;exact ⟨row,hk.blk h1,rj h2 hk⟩
theorem mM {B:Nat} {W:World} {t:TypeId} {row:Value} (h:Blk W B t #[row]) {k:Nat} (ho:aM (some B) W k):k=B∨row.ownBlock=some k:=by
 obtain ⟨b,e,h1 | ⟨v,h1,h2⟩⟩:=ho
 ·injection e with e;exact .inl (by rw [h1,e])
 ·injection e with e
  subst e;rw [h.cell 0] at h1;simp at h1;subst h1;exact .inr h2
theorem mR {W:World} {base:Nat} {e:TypeId} {size n:Nat} {v:Value} {xs:List Value} (h:W.ownsRow base e size v n xs) {k:Nat} (hk:v.ownBlock=some k):base<=k/\∃ o,W.heap[k]? = some o/\o.isCells=true:=by
 rcases h.2 with ⟨rfl,_⟩ | ⟨g,cap,cur,rfl,hb,hh,_⟩
 ·simp [Value.ownBlock] at hk
 ·have:g=k:=by simpa [Value.ownBlock] using hk
  subst this;exact ⟨hb,_,hh,rfl⟩
def frX (B:Nat):GoX (List (List UInt8)):={ g:=frG,ob:=some B,Sx:=FrS B,ms:=List.length,f1:=63,f2:=64,b1:=#[Zp (some ⟨B,0,none⟩)],b2:=#[] }
theorem rL {F:Fence} {m:Nat} {w:World} {o:Oper} {a:Act} {K:Act->World->Prop} {Q:Exit->Act->World->Prop} (s x:Operand) (ho:o.op=.call { callee:=.builtin .append,args:=#[s,x],argTypes:=#[40,40] })
  (l:List (List UInt8)) (base:Nat) (row:Value) (t:List UInt8) (b9:Nat) (hO:w.ownsRow base 9 1 row l.length (ar l)) (hb:base<=w.heap.size)
  (hc:w.cell? ⟨b9,0,none⟩=some (Zt ⟨t.toArray⟩)) (hb9:b9<w.heap.size) (hn:l.length<=100000000) (hs:a.eval s=row) (hx:a.eval x=Zs (some ⟨b9,0,none⟩) 1 1)
  (h:∀ v' w',w'.ownsRow base 9 1 v' (l.length+1) (ar (l++[t]))->w.grownBy w' row.ownBlock->(v'.ownBlock=row.ownBlock∨v'.ownBlock=some w.heap.size)->K (a.put o.dst v') w'):o.wpIn F m Tryz.prog a w K Q:=by
 obtain ⟨i0,hi,hz,h1,h2⟩:=fd;have e:ar (l++[t])=ar l++[Zt ⟨t.toArray⟩]:=by simp [ar]
 obtain ⟨v',w',hrun,g1,g2,g3⟩:=eM (P:=Tryz.prog) w base 40 o.type 9 i0 _ 1 16 Tryz.underlying40 hi hz h1 h2 rfl (by decide) row l.length (ar l) hO
   (some ⟨b9,0,none⟩) 1 1 (λ e=>by cases e) [Zt ⟨t.toArray⟩] rfl (λ _=>⟨b9,0,rfl,hb9,λ i hi=>(by
    have h0:i=0:=by simpa using hi
    subst h0;exact hc)⟩) (by simp [Value.oneCell']) (by unfold maxLen;omega) (by omega) hb
 unfold Oper.wpIn;refine ⟨λ f hf=>by simp [Oper.about,ho,resolve,Sem.run_pure,Target.leads] at hf,?_⟩;rw [Oper.semAt_eq _ _ _ (by rw [ho];simp)];unfold execOp;simp only [ho,resolve,invoke,builtin,Sem.run_bind,Sem.run_pure,Result.andThen_ok,List.map_toArray,List.map_cons,List.map_nil,hs,hx,hrun];exact h v' w' (by rw [e];exact g1) g2 g3
theorem sG (B:Nat):(frX B).Ok:=by
 refine ⟨⟨λ st A C hk h=>FrS.keep h hk,λ st A k h ho=>?_⟩,λ st t bd st' h=>?_,λ st t bd st' h=>?_,?_,?_,enters_of Tryz.func63 (by kernel_rfl) rfl,enters_of Tryz.func64 (by kernel_rfl) rfl⟩
 ·obtain ⟨row,h1,h2⟩:=h;rcases mM h1 ho with rfl | hk
  ·exact ⟨_,h1,rfl⟩
  ·exact (mR h2 hk).2
 ·injection (show (Except.ok (if t ∈ bd then st else st++[t]):Except Int _)=.ok st' from h) with h
  subst h;show (if t ∈ bd then st else st++[t]).length<=st.length+1
  split<;>simp
 ·injection (show (Except.ok st:Except Int _)=.ok st' from h) with h
  subst h;exact Nat.le_refl _
 ·intro m st t bd A n ca W hS hms hl hn hr;obtain ⟨row,hbk,hrow⟩:=hS;obtain ⟨c,hc⟩:∃ c:Bool,c=true ↔ t ∈ bd:=by
   by_cases h:t ∈ bd
   ·exact ⟨true,by simp [h]⟩
   ·exact ⟨false,by simp [h]⟩
  have hms:st.length<=16777216:=hms;have HH:=aW (dm (m:=m-1) (sd bd t A n ca W hl hn hr.rd c hc));show CallsIn d4 m Tryz.prog 63 #[Zt ⟨t.toArray⟩,Zs A n ca,Zp (some ⟨B,0,none⟩)] W _
  have HL:=aW (show (frX B).g.nm st t bd=.ok (if c=true then st else st++[t]) by show Except.ok (if t ∈ bd then st else st++[t])=_;simp only [hc]);have HBK:=aW (And.intro hbk hrow);have hBl:=hbk.lt;have HAP:=aW (show ∀ (v':Value) (w1:World),w1.ownsRow (B+1) 9 1 v' (st.length+1) (ar (st++[t]))->(W.alloc (.cells #[Zt ⟨t.toArray⟩] 9)).grownBy w1 row.ownBlock->(v'.ownBlock=row.ownBlock∨v'.ownBlock=some (W.alloc (.cells #[Zt ⟨t.toArray⟩] 9)).heap.size) ->
    Blk w1 B 40 #[row]/\FrO (some B) W (w1.setCell ⟨B,0,none⟩ v')/\FrS B (st++[t]) (w1.setCell ⟨B,0,none⟩ v') from λ v' w1 ho hg hv=>by
   have hB1:some B≠row.ownBlock:=λ e=>by have:=(mR hrow e.symm).1;omega
   have hb1:Blk w1 B 40 #[row]:=(hbk.alloc _).grown hg hB1;have hb2:=hb1.set_ 0 v';have hb2:Blk (w1.setCell ⟨B,0,none⟩ v') B 40 #[v']:=by simpa using hb2
   have hsz:W.heap.size+1<=w1.heap.size:=by have:=hg.size;simpa using this
   have hne:some B≠v'.ownBlock:=λ e=>by have:=(mR ho e.symm).1;omega
   refine ⟨hb1,⟨hg.os,hg.tape,hg.output,by simp;omega,λ k hk hn=>?_,λ k hk=>?_⟩,v',hb2,?_⟩
   ·have h1:k≠B:=λ e=>hn ⟨B,rfl,.inl e⟩
    have h2:some k≠row.ownBlock:=λ e=>hn ⟨B,rfl,.inr ⟨row,by simpa using hbk.cell 0,e.symm⟩⟩
    exact (Below.heap_setCell w1 ⟨B,0,none⟩ v' k h1).trans ((hg.block k (by simp;omega) h2).trans (Below.heap_alloc W _ k hk))
   ·rcases mM hb2 hk with rfl | hk
    ·exact .inl ⟨_,rfl,.inl rfl⟩
    ·rcases hv with hv | hv
     ·exact .inl ⟨B,rfl,.inr ⟨row,by simpa using hbk.cell 0,by rw [← hv];exact hk⟩⟩
     ·refine .inr ?_;obtain ⟨_,o,h9,_⟩:=mR ho hk;rw [hv] at hk;injection hk with hk
      have h8:=(Array.getElem?_eq_some_iff.1 h9).1;simp at hk ⊢;omega
   ·rw [List.length_append];exact ho.kept (w':=w1.setCell ⟨B,0,none⟩ v') (row:=some B) ⟨rfl,rfl,rfl,by simp,λ k _ hne=>Below.heap_setCell w1 ⟨B,0,none⟩ v' k (λ e=>hne (by rw [e]))⟩ (.inr λ e=>hne e.symm))
  obtain ⟨RA,rc,rfl,_,_,_⟩:=bJ hrow;obtain ⟨c0,f0,l0⟩:=hbk.rules;have hb9:B+1<=W.heap.size:=hBl;have HRW:=aW (hrow.alloc (.cells #[Zt ⟨t.toArray⟩] 9));have HFS:=aW (show FrS B st W from ⟨_,HBK.out.1,HBK.out.2⟩);clear hbk hrow hr hl hc;refine callsIn_of_wp Tryz.func63 rfl (aC (by kernel_rfl)) ?_ rfl;simp only [Tryz.ntmps63,List.size_toArray,List.length_cons,List.length_nil,Nat.reduceAdd,Nat.reduceSub,Array.replicate_succ,Array.replicate_zero,List.push_toArray,List.append_toArray,List.nil_append,List.cons_append];cases c
  ·gi_wp2;refine ⟨aC (by kernel_rfl),HH.out.mono ?_⟩;rintro e w2 ⟨rfl,rfl⟩;gi_wp2_with (gi_at_builtin;refine wpListIn_plain rfl λ K hK=>rL (.tmp 9) (.tmp 11) rfl st (B+1) _ t w2.heap.size HRW.out (by rw [World.size_alloc];omega) ((Blk.new w2 9 #[Zt ⟨t.toArray⟩]).cell 0) (by simp) (by omega) rfl rfl (λ v' w' g1 g2 g3=>?_);obtain ⟨RA2,rc2,rfl,_,_,_⟩:=bJ g1;have hap:=HAP.out _ _ g1 g2 g3;obtain ⟨d0,d1,d2⟩:=hap.1.rules;have HE:=aW hap.2;clear g1 g2 g3 hap c0 f0 l0;refine hK _ _ ?_);go_end0;refine ⟨HE.out.1,?_⟩;rw [HL.out];exact ⟨rfl,HE.out.2⟩
  ·gi_wp2;refine ⟨aC (by kernel_rfl),HH.out.mono ?_⟩;rintro e w2 ⟨rfl,rfl⟩;gi_wp2;go_end0;refine ⟨.refl _ _,?_⟩;rw [HL.out];exact ⟨rfl,HFS.out⟩
 ·intro m st t bd A n ca W hS _ _ _ _;have HS:=aW hS;clear hS;show CallsIn d4 m Tryz.prog 64 #[Zt ⟨t.toArray⟩,Zs A n ca] W _
  refine callsIn_of_wp Tryz.func64 rfl (aC (by kernel_rfl)) ?_ rfl;simp only [Tryz.ntmps64,List.size_toArray,List.length_cons,List.length_nil,Nat.reduceAdd,Nat.reduceSub,Array.replicate_succ,Array.replicate_zero,List.push_toArray,List.append_toArray,List.nil_append,List.cons_append];gi_wp2;go_end0;exact ⟨.refl _ _,rfl,HS.out⟩
theorem qh (l:List SJ):gvL frG [] l []=.ok (bB [] l):=by rw [fq,List.nil_append]
theorem nJ (l:List SJ):(bB [] l).length<=ap l:=by
 have:=lm (sG 0) l [] [] _ (qh l);exact Nat.le_trans this (by show 0+ap l<=ap l;omega)
def xt (r:List (List UInt8)) (w:World) (A:Option Addr) (n ca:Nat) (w':World):Prop:=r.length=n/\n<=ca/\(A=none->ca=0)/\RdF w' (λ b=>w.heap.size<=b) A (ar r)
def ub (l:List SJ) (w:World) (e:Ending) (w':World):Prop:=∃ A n ca,e=.returned (.tuple #[Zs A n ca,Zi Zq (dV l)])/\xt (if ff l=true then gM l else []) w A n ca w'/\Below w.heap.size w w'
theorem vR (l:List SJ) (css:List (List Value)) (A:Option Addr) (n ca:Nat) (F:Nat->Prop) (w:World) (hG:GOE w) (hS:SRs w F css l) (hln:l.length=n) (hnc:n<=ca) (hR:RdF w F A css.flatten) (hC:aZ l) (hs:ap l<4194304) :
  Calls Tryz.prog 29 #[.agg #[Zs A n ca]] w (ub l w):=by
 have hmf:∀ (fn:Fn) (first cap:Array Value) (w:World),(Instr.makeFunc fn first cap).run Tryz.prog w=.ok (.func fn first cap) w:=λ _ _ _ _=>rfl
 have hn4:n<=4194304:=by have:=bD l;omega
 have HM:=aW (λ (W:World) (h:Below w.heap.size w W)=>mw l css A n ca F W (hG.keep h) (RR.imp hS λ c x hc=>hc.bel h) hln hnc (hR.keep (aj.of_below h)) hC hn4);have hown:∀ (W:World) (B:Nat),Blk W B 40 #[Zs none 0 0]->∀ k,aM (some B) W k->k=B:=λ W B h k hk=>(mM h hk).resolve_right λ e=>by simp [Value.ownBlock] at e
 have HST:=aW (λ (W:World) (B gb:Nat) (h:Below w.heap.size w W) (hB:w.heap.size<=B) (hgB:gb≠B) (hbk:Blk W B 40 #[Zs none 0 0]) (hgb:Blk W gb 95 #[.func (.func 63) #[] #[Zp (some ⟨B,0,none⟩)],.func (.func 64) #[] #[]]) =>
  gT (jR (sG B) (ap l+1) l [] css A n ca none 0 0 [] W gb (Nat.lt_succ_self _) (qC hS h λ k hk=>by rw [hown W B hbk k hk];exact hB) hln hnc (qu hR h λ k hk=>by rw [hown W B hbk k hk];exact hB) rfl (by omega) (Nat.le_refl _) (.inl ⟨rfl,rfl⟩) RdF.nil hgb (λ hk=>hgB (hown W B hbk gb hk)) ⟨_,hbk,World.ownsRow_nil _ _ _ _⟩ (by show 0+ap l<=_;omega)))
 have hfl:=nJ l;have HSO:=aW (λ (W:World) (base:Nat) (row:Value) (h:W.ownsRow base 9 1 row (bB [] l).length (ar (bB [] l))) (hb:base<=W.heap.size)=>sg (bB [] l) base row _ W rfl (by omega) h hb);have HH0:=aW ((aH.nil w).push 24 #[Zs A n ca] (g:=w.heap.size) rfl);clear hG hS hln hnc hR hC hs hfl;cases hm:ff l
 ·have hq:dV l=332:=by unfold dV;rw [hm];rfl
  rw [hq] at HM;have HL:=aW (show ∀ W,Below w.heap.size w W->ub l w (.returned (.tuple #[Zs none 0 0,Zi Zq 332])) W from λ W h=>⟨none,0,0,by rw [hq],by rw [hm];exact ⟨rfl,Nat.le_refl _,λ _=>rfl,RdF.nil⟩,h⟩);clear hq hm;go_enter Tryz.func29,Tryz.ntmps29;go_wp2_with fail;refine (HM.out _ HH0.out.1).mono ?_;rintro e w1 ⟨rfl,hb1⟩;have HH1:=aW (HH0.out.keep hb1);clear hb1;go_wp2;refine bodyPost_ret (v:=.tuple #[Zs none 0 0,Zi Zq 332]) (by simp only [results,Tryz.results29];go_simp) rfl ?_;exact HL.out _ HH1.out.1
 ·have hq:dV l=0:=by unfold dV;rw [hm];rfl
  rw [hq] at HM;have HL:=aW (show ∀ A n ca W,xt (gM l) w A n ca W->Below w.heap.size w W->ub l w (.returned (.tuple #[Zs A n ca,Zi Zq 0])) W from λ A n ca W h1 h=>⟨A,n,ca,by rw [hq],by rw [hm];exact h1,h⟩);clear hq hm;go_enter Tryz.func29,Tryz.ntmps29;go_wp2_with fail;refine (HM.out _ HH0.out.1).mono ?_;rintro e w1 ⟨rfl,hb1⟩;have HH1:=aW (HH0.out.keep hb1);clear hb1;obtain ⟨B,hB⟩:∃ B,w1.heap.size=B:=⟨_,rfl⟩
  obtain ⟨W2,hW2⟩:∃ W2,(w1.alloc (.cells #[Zs none 0 0] 40)).alloc (.cells #[.func (.func 63) #[] #[Zp (some ⟨B,0,none⟩)],.func (.func 64) #[] #[]] 95)=W2:=⟨_,rfl⟩
  have hb2:Below w1.heap.size w1 W2:=by rw [← hW2];exact ((Below.refl _ _).alloc (Nat.le_refl _) _).alloc (by simp) _
  have hbk:Blk W2 B 40 #[Zs none 0 0]:=by rw [← hW2,← hB];exact (Blk.new _ _ _).alloc _
  have hgb:Blk W2 (B+1) 95 #[.func (.func 63) #[] #[Zp (some ⟨B,0,none⟩)],.func (.func 64) #[] #[]]:=by
   have h9:=Blk.new (w1.alloc (.cells #[Zs none 0 0] 40)) 95 #[.func (.func 63) #[] #[Zp (some ⟨B,0,none⟩)],.func (.func 64) #[] #[]];rw [World.size_alloc,hB] at h9;rw [← hW2];exact h9
  have HH2:=aW (HH1.out.keep hb2);have hBw:w.heap.size<=B:=by rw [← hB];exact HH1.out.1.size
  have HC:=aW (HST.out W2 B (B+1) HH2.out.1 hBw (by omega) hbk hgb);have HOB:=aW (λ k (hk:aM (some B) W2 k)=>show w.heap.size<=k by rw [hown W2 B hbk k hk];exact hBw);have HW2:=aW hW2;have HBB:=aW hB;obtain ⟨c0,f0,l0⟩:=HH1.out.b0.rules;clear hW2 hb2 hbk hgb hB hown;go_upto_region 6 with fail;rw [HBB.out,HW2.out];clear c0 f0 l0;obtain ⟨c0,f0,l0⟩:=HH2.out.b0.rules;go_wp2_with fail;refine HC.out.mono ?_;rintro e w3 ⟨hf,hc⟩;rw [show gvL (frX B).g [] l []=.ok (bB [] l) from qh l] at hc;obtain ⟨rfl,row,hk,ho⟩:=hc;have hbe:Below w.heap.size w w3:=HH2.out.1.trans (FrO.belowN hf HH2.out.1.size HOB.out);have HE:=aW hbe;have HSR:=aW (HSO.out w3 (B+1) row ho hk.lt);obtain ⟨RA,rc,rfl,_,_,_⟩:=bJ ho;obtain ⟨d0,d1,d2⟩:=hk.rules;clear c0 f0 l0 hf hk hbe ho;go_wp2_with fail;refine HSR.out.mono ?_;rintro e w4 ⟨v,rfl,ho4,hb4⟩;obtain ⟨A4,c4,rfl,h1,h2,h3⟩:=bJ ho4;have HF:=aW (HL.out A4 _ c4 w4 ⟨by rw [iv],h1,h2,by rw [iv];exact h3.mono λ b _ hb=>by omega⟩ (HE.out.trans (hb4.mono (by omega))));clear d0 d1 d2 ho4 hb4 h1 h2 h3;go_wp2;refine bodyPost_ret (v:=.tuple #[.slice A4 (kN (bB [] l)).length c4,Zi Zq 0]) (by simp only [results,Tryz.results29];go_simp) rfl ?_;exact HF.out
end
end Go.Proofs.YtgmnmnnoahdjnaaGreatDoor
