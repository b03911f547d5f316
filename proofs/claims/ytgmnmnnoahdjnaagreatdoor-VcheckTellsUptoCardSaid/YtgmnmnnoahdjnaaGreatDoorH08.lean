import Derived.Test.YtgmnmnnoahdjnaaGreatDoorH07
import Derived.Test.YtgmnmnnoahdjnaaGreatDoorH04
import Derived.Sort.LoopGhostIn
import Derived.Lib.BufferRead
open Go.Value renaming int → Zi, slice → Zs, string → Zt, pointer → Zp
open Go.IntKind renaming i64 → Zq
set_option maxRecDepth 100000
set_option maxHeartbeats 16000000
set_option linter.unusedVariables false
set_option linter.unusedSimpArgs false
namespace Go.Proofs.YtgmnmnnoahdjnaaGreatDoor
section
open Go.RowKit Go.Shelf
attribute [local go_sem] ab ae af ac Oper.semAt_some
theorem GOK.keepOn {S:Nat->Prop} {w W:World} (h:GOK w) (k:aI S w W) (hS:∀ i,i<w.heap.size->S i):GOK W :=
 ⟨Nat.lt_of_lt_of_le h.lt k.1,by rw [← h.c0];exact World.cell?_of_block (w:=w) (k.2 _ (hS _ h.lt)),by rw [← h.c1];exact World.cell?_of_block (w:=w) (k.2 _ (hS _ h.lt))⟩
theorem Rd.keepOn {S:Nat->Prop} {w W:World} {A:Option Addr} {xs:List Value} (h:Rd w A xs) (k:aI S w W) (hS:∀ i,i<w.heap.size->S i):Rd W A xs:=λ hn=>by
 obtain ⟨b,o,e,hb,hx⟩:=h hn;exact ⟨b,o,e,Nat.lt_of_lt_of_le hb k.1,λ i hi=>by rw [← hx i hi];exact World.cell?_of_block (w:=w) (k.2 _ (hS _ hb))⟩
theorem rq (fn:Fn) (first cap:Array Value) (at_ end_:Int) (w:World) :
  Calls Tryz.prog 193 #[.func fn first cap,Zi Zq at_,Zi Zq end_] w λ e w'=>e=.returned (.func (.func 207) #[] #[Zp (some ⟨w.heap.size+1,0,none⟩),Zp (some ⟨w.heap.size+2,0,none⟩),Zp (some ⟨w.heap.size,0,none⟩)]) /\
   ((w.alloc (.cells #[.func fn first cap] 238)).alloc (.cells #[Zi Zq at_] 3)).alloc (.cells #[Zi Zq end_] 3)=w':=by
 have hmf:∀ (fn:Fn) (first cap:Array Value) (w:World),(Instr.makeFunc fn first cap).run Tryz.prog w=.ok (.func fn first cap) w:=λ _ _ _ _=>rfl
 go_enter Tryz.func193,Tryz.ntmps193;go_wp2;go_ret;exact ⟨rfl,rfl⟩
def uR (A:Option Addr) (n cap:Nat):Value:=.func (.func 194) #[.agg #[Zs A n cap]] #[]
def StS (Ba:Nat) (A B:World):Prop:=World.grownBy A B (some Ba)/\∀ q:Int,Blk A Ba 3 #[Zi Zq q]->∃ q':Int,Blk B Ba 3 #[Zi Zq q']
theorem StS.of_below {Ba:Nat} {A B:World} (h:Below A.heap.size A B):StS Ba A B:=⟨⟨h.os,h.tape,h.output,h.size,λ i hi _=>h.block i hi⟩,λ q hb=>⟨q,hb.keep h⟩⟩
def KpS (B0 Ba Be Bo:Nat):World->World->Prop:=aI λ k=>k<B0∨k=Ba∨k=Be∨k=Bo
theorem pH (w0:World) (Ba Be Bo:Nat) (A:Option Addr) (cap:Nat) (l:List UInt8) (a:Nat) (k:Nat) (J Jx:List (Int × Int)->World->Prop) (W:World) (hG:GOK w0) (hr:Rd w0 A (aq l)) (hcap:l.length<=cap) (hlen:l.length<=4194304)
  (ha0:a<=l.length) (hae:Ba≠Be) (hao:Ba≠Bo) (hB:w0.heap.size<=Ba) (hW:aI (· < w0.heap.size) w0 W)
  (hJ:∀ s A B,StS Ba A B->J s A->J s B)
  (hY:∀ pre x W1,J pre W1->pre++[x] <+: aR l a->YieldAt Fence.wide 1 Tryz.prog k #[Zi Zq x.1,Zi Zq x.2] W1 λ e W' =>
   (e=.returned (.bool true)/\J (pre++[x]) W'/\KpS w0.heap.size Ba Be Bo W1 W')∨(e=.returned (.bool false)/\Jx (pre++[x]) W'/\KpS w0.heap.size Ba Be Bo W1 W'))
  (hba:Blk W Ba 3 #[Zi Zq a]) (hbe:Blk W Be 3 #[Zi Zq l.length]) (hbo:Blk W Bo 238 #[uR A l.length cap]) (h0:J [] W) :
  CallsIn Fence.wide 2 Tryz.prog 207 #[.func (.yield k) #[] #[],Zp (some ⟨Ba,0,none⟩),Zp (some ⟨Be,0,none⟩),Zp (some ⟨Bo,0,none⟩)] W λ e W'=>(∃ v,e=.returned v) /\
   ((∃ xs,xs=aR l a/\J xs W')∨(∃ pre,pre <+: aR l a/\Jx pre W')):=by
 have HY:=aW hY;have HJ:=aW hJ;clear hY hJ;refine callsIn_of_wp Tryz.func207 rfl trivial ?_ rfl;simp only [Tryz.ntmps207,List.size_toArray,List.length_cons,List.length_nil,Nat.reduceAdd,Nat.reduceSub,Array.replicate_succ,Array.replicate_zero,List.push_toArray,List.append_toArray,List.nil_append,List.cons_append];gi_wp2
 gi_loopg [5] (l.length-a) (λ gk _ wr => ∃ (p:Nat) (pre:List (Int × Int)),p<=l.length/\gk=l.length-p/\aR l a=pre++aR l p/\J pre wr/\Blk wr Ba 3 #[Zi Zq p]/\Blk wr Be 3 #[Zi Zq l.length]/\Blk wr Bo 238 #[uR A l.length cap] /\
  aI (· < w0.heap.size) w0 wr)
 case atStart=>exact ⟨a,[],ha0,rfl,rfl,h0,hba,hbe,hbo,hW⟩
 case round =>
  obtain ⟨p,pre,hp,hgk,hpre,hJs,ba,be,bo,hK⟩:=hrel;clear hba hbe hbo h0 hW;obtain ⟨c1,f1,l1⟩:=ba.rules;obtain ⟨c2,f2,l2⟩:=be.rules;obtain ⟨c3,f3,l3⟩:=bo.rules;by_cases hlt:p<l.length
  ·have hs:=lT A cap l p wr (hG.keepOn hK (λ i h=>h)) (hr.keepOn hK (λ i h=>h)) hcap hlen hlt;obtain ⟨⟨c,n,er⟩,hr⟩:∃ r,qsS l p=r:=⟨_,rfl⟩
   rw [hr] at hs;have HS:=aW hs;have HR:=aW hr;have HP:=aW hpre;have HGK:=aW hgk;unfold uR at c3;clear hs hr hpre hgk;by_cases he:er=0
   ·subst he;obtain ⟨c',m,rfl,rfl,hpm,hml,hcl⟩:=ox HR.out hlt;have HC:=aW (ge HR.out hlt);gi_wp2;refine ⟨trivial,CallsIn.mono (callsIn_wide.2 HS.out) ?_⟩;rintro e w1 ⟨rfl,hb1⟩;have hgb:StS Ba wr w1:=StS.of_below hb1;have ba1:=ba.keep hb1;have be1:=be.keep hb1;have bo1:=bo.keep hb1;have hK1:=hK.trans (aI.of_below (S:=(· < w0.heap.size)) hb1 (λ k hk=>Nat.lt_of_lt_of_le hk hK.1));obtain ⟨fn,tmps,assign,body,hy,hR⟩:=HY.out pre ((c':Int),(m:Int)) w1 (HJ.out _ _ _ hgb hJs) (by rw [HP.out,HC.out];exact ⟨aR l m,by simp⟩);clear hgb hb1 c1 f1 l1 c2 f2 l2 c3 f3 l3;gi_wp2;refine hR.mono ?_;rintro e W3 (⟨rfl,hJ3,hk3⟩ | ⟨rfl,hJx3,hk3⟩)
    ·have ba3:=hk3.blk ba1 (.inr (.inl rfl));have be3:=hk3.blk be1 (.inr (.inr (.inl rfl)));have bo3:=hk3.blk bo1 (.inr (.inr (.inr rfl)));have hK3:aI (· < w0.heap.size) w0 W3:=hK1.trans ⟨hk3.1,λ i hi=>hk3.2 i (.inl hi)⟩;obtain ⟨c4,f4,l4⟩:=ba3.rules;gi_wp2
     gi_roundg (l.length-m)
     case measure=>rw [HGK.out];omega
     case rel=>exact ⟨m,pre++[((c':Int),(m:Int))],hml,rfl,by rw [HP.out,HC.out];simp,HJ.out _ _ _ ⟨bt (ec _ _) _ _,λ q h=>⟨m,h.set_ 0 _⟩⟩ hJ3,ba3.set_ 0 _,be3.far (by simpa using hae.symm) _,bo3.far (by simpa using hao.symm) _,
      hK3.trans (aI.of_below (B:=w0.heap.size) (((Below.refl w0.heap.size W3).setCell (p:=⟨Ba,0,none⟩) (by simpa using hB) _)) (λ k h=>h))⟩
    ·gi_wp2;refine bodyPost_ret (results_none rfl _ _ _) rfl ?_;exact ⟨⟨_,rfl⟩,.inr ⟨_,by rw [HP.out,HC.out];exact ⟨aR l m,by simp⟩,hJx3⟩⟩
   ·have HN:=aW (ic (l:=l) (a:=p) (λ _=>by rw [HR.out];exact he));gi_wp2;refine ⟨trivial,CallsIn.mono (callsIn_wide.2 HS.out) ?_⟩;rintro e w1 ⟨rfl,hb1⟩;have he':(er != 0)=true:=by simp;omega
    gi_wp2
    all_goals
     refine ⟨λ _ _=>trivial,?_⟩;gi_wp2;refine bodyPost_ret (results_none rfl _ _ _) rfl ?_;exact ⟨⟨_,rfl⟩,.inl ⟨_,rfl,by rw [HP.out,HN.out,List.append_nil];exact HJ.out _ _ _ (StS.of_below hb1) hJs⟩⟩
  ·have HN:=aW (ic (l:=l) (a:=p) (λ h=>absurd h hlt));have HP:=aW hpre;clear hpre hgk;obtain rfl:p=l.length:=by omega
   clear hlt;gi_wp2;go_end0;exact ⟨⟨_,rfl⟩,.inl ⟨_,rfl,by rw [HP.out,HN.out,List.append_nil];exact hJs⟩⟩
theorem rt (w0:World) (Ba Be Bo:Nat) (A:Option Addr) (cap:Nat) (l:List UInt8) (a:Nat) (w:World) (hG:GOK w0) (hr:Rd w0 A (aq l)) (hcap:l.length<=cap) (hlen:l.length<=4194304)
  (ha0:a<=l.length) (hae:Ba≠Be) (hao:Ba≠Bo) (hB:w0.heap.size<=Ba) (hW:aI (· < w0.heap.size) w0 w)
  (hba:Blk w Ba 3 #[Zi Zq a]) (hbe:Blk w Be 3 #[Zi Zq l.length]) (hbo:Blk w Bo 238 #[uR A l.length cap]) :
  ly Fence.wide 2 Tryz.prog 207 #[Zp (some ⟨Ba,0,none⟩),Zp (some ⟨Be,0,none⟩),Zp (some ⟨Bo,0,none⟩)] (λ x:Int × Int=>#[Value.int .i64 x.1,Zi Zq x.2])
   (StS Ba) (KpS w0.heap.size Ba Be Bo) (λ pre x=>pre++[x] <+: aR l a) (λ xs _=>xs=aR l a) (λ pre _=>pre <+: aR l a) w:=by
 intro k J Jx W hW2 hJ _ hY h0;exact pH w0 Ba Be Bo A cap l a k J Jx W hG hr hcap hlen ha0 hae hao hB (hW.trans (aI.of_below hW2 (λ i hi=>Nat.lt_of_lt_of_le hi hW.1))) hJ hY (hba.keep hW2) (hbe.keep hW2) (hbo.keep hW2) h0
theorem BS.conv {w:World} {v:Value} {l:List UInt8} (h:BS w v l):(convert 67 9 v).run Tryz.prog w=.ok (Zt ⟨l.toArray⟩) w:=by
 obtain ⟨A,cap,rfl,hc,hr⟩:=h;cases A with
 |none =>
  have hl:l=[]:=by
   cases l with
   | nil=>rfl
   | cons c r=>obtain ⟨b,o,e,_⟩:=hr (by simp [aq]);cases e
  subst hl;exact Lib.run_convert_nil_bytes w _ _ 5 cap (by simp [go_sem]) (by simp [go_sem]) (by simp [go_sem])
 |some a =>
  refine Go.run_convert_bytes_back w _ _ 5 a cap l (by simp [go_sem]) (by simp [go_sem]) (by simp [go_sem]) ?_;intro j hj;obtain ⟨b,o,e,_,hx⟩:=hr (by intro e;have:=aA l;rw [e] at this;simp at this;omega);cases e
  have:=hx j (by rw [aA];exact hj);have e2:(⟨b,o,none⟩:Addr).add j=⟨b,o+j,none⟩:=by simp [Addr.add]
  rw [e2];simpa [aq] using this
def bv (xs:List (Int × Int)):List UInt8:=xs.flatMap λ x=>ai x.1.toNat
def fj (a:Nat) (xs:List (Int × Int)):Nat:=match xs.getLast? with | some x=>x.2.toNat | none=>a
theorem kJ (a:Nat) (xs:List (Int × Int)) (x:Int × Int):fj a (xs++[x])=x.2.toNat:=by simp [fj]
theorem kI (xs:List (Int × Int)) (x:Int × Int):bv (xs++[x])=bv xs++ai x.1.toNat:=by simp [bv]
theorem wT {l:List UInt8} {a:Nat} {c n:Int} (h:qsS l a=(c,n,0)) (ha:a<l.length):a+(ai c.toNat).length<=n.toNat:=by
 unfold qsS at h;rw [List.getElem?_eq_getElem ha] at h;simp only at h;split at h
 ·unfold ll at h;cases hu:dY l a with
  |some u =>
   rw [hu] at h;simp only at h;split at h
   ·simp only [Prod.mk.injEq] at h;have:=fL c.toNat;omega
   ·split at h
    ·cases hv:dY l (a+6) with
     | none=>rw [hv] at h;simp at h
     |some v =>
      rw [hv] at h;simp only at h;split at h
      ·simp only [Prod.mk.injEq] at h;have:=fL c.toNat;omega
      ·simp at h
    ·simp at h
  |none =>
   rw [hu] at h;simp only at h;cases hc:l[a+1]? with
   | none=>rw [hc] at h;simp at h
   |some d =>
    rw [hc] at h;simp only at h;cases hx:aQ d.toNat with
    | none=>rw [hx] at h;simp at h
    |some x =>
     rw [hx] at h;simp only [Prod.mk.injEq] at h;have h1:=kw hx;have h2:c.toNat=x:=by omega
     rw [h2];unfold ai;rw [if_pos h1];simp;omega
 ·split at h
  ·simp at h
  ·unfold d5 at h;rw [if_neg (by omega),if_neg (by omega),Int.toNat_natCast] at h;split at h
   ·simp at h
   ·rename_i hne
    simp only [Prod.mk.injEq] at h;have h2:c.toNat=(au (l.drop a)).1:=by omega
    rw [h2];have key:∀ n,bQ (l.drop a) n=true->(ai (bw (l.drop a) n)).length<=n:=λ n hn=>by
     rw [((em _ n).1 hn).2.2];simp;omega
    have:(ai (au (l.drop a)).1).length<=(au (l.drop a)).2:=by
     unfold au at hne ⊢;split
     ·exact key _ ‹_›
     ·split
      ·exact key _ ‹_›
      ·split
       ·exact key _ ‹_›
       ·split
        ·exact key _ ‹_›
        ·simp_all
    omega
theorem jn {l:List UInt8}:∀ (k a:Nat) (pre:List (Int × Int)),l.length-a<=k->pre <+: aR l a->a<=l.length ->
  (∀ x ∈ pre,∃ p m:Nat,x=((p:Int),(m:Int))/\br p≠0)/\a+(bv pre).length<=fj a pre/\fj a pre<=l.length/\aR l a=pre++aR l (fj a pre)
 | k,a,[],_,_,ha=>⟨by simp,by simp [bv,fj],by simpa [fj] using ha,by simp [fj]⟩
 |k,a,x::pre,hk,hp,ha=>by
  by_cases hc:a<l.length/\(qsS l a).2.2=0
  ·obtain ⟨p,m,h1,h2,h3,h4,h5⟩:=ox (c:=(qsS l a).1) (n:=(qsS l a).2.1) (by rw [← hc.2]) hc.1;have hq:qsS l a=((p:Int),(m:Int),0):=by rw [← h1,← h2,← hc.2]
   have hlen:=wT hq hc.1;rw [ge hq hc.1] at hp ⊢;obtain ⟨rfl,hp'⟩:=List.cons_prefix_cons.1 hp
   match k,hk with
   | 0,hk=>omega
   |k+1,hk =>
    obtain ⟨g1,g2,g3,g4⟩:=jn k m pre (by omega) hp' h4;have he:fj a (((p:Int),(m:Int))::pre)=fj m pre:=by
     unfold fj;cases pre with
     | nil=>simp
     |cons y r =>
      rw [List.getLast?_cons_cons];cases h:(y::r).getLast? with
      | none=>simp at h
      | some z=>rfl
    rw [he];refine ⟨?_,?_,g3,congrArg (_ :: ·) g4⟩
    ·intro y hy;rcases List.mem_cons.1 hy with rfl | hy
     ·exact ⟨p,m,rfl,h5⟩
     ·exact g1 y hy
    ·simp only [bv,List.flatMap_cons,List.length_append,Int.toNat_natCast] at g2 hlen ⊢;omega
  ·rw [ic (λ h e=>hc ⟨h,e⟩)] at hp;simp at hp
def dt (l:List UInt8) (a:Int):List UInt8 × Int × Int :=
 if a<0∨(l.length:Int)<a then ([],0,2) else if a=l.length then ([],a,6) else if l[a.toNat]? ≠ some 34 then ([],a,7)
 else if l[fj (a.toNat+1) (aR l (a.toNat+1))]? = some 34 then (bv (aR l (a.toNat+1)),fj (a.toNat+1) (aR l (a.toNat+1))+1,0)
 else ([],fj (a.toNat+1) (aR l (a.toNat+1)),(jD l (fj (a.toNat+1) (aR l (a.toNat+1)):Nat)).2.2)
def vy (r:List UInt8 × Int × Int) (w:World) (e:Ending) (w':World):Prop :=
 e=.returned (.tuple #[Zt ⟨r.1.toArray⟩,Zi Zq r.2.1,Zi Zq r.2.2])/\Below w.heap.size w w'
theorem pd (w Wr:World) (t1 t2 t3 t4 t5:TypeId) (v1 v2 v3 v4 v5:Value)
  (h:((((w.alloc (.cells #[v1] t1)).alloc (.cells #[v2] t2)).alloc (.cells #[v3] t3)).alloc (.cells #[v4] t4)).alloc (.cells #[v5] t5)=Wr) :
  Wr.heap.size=w.heap.size+5/\Below w.heap.size w Wr/\Blk Wr w.heap.size t1 #[v1]/\Blk Wr (w.heap.size+1) t2 #[v2]/\Blk Wr (w.heap.size+2) t3 #[v3]/\Blk Wr (w.heap.size+3) t4 #[v4]/\Blk Wr (w.heap.size+4) t5 #[v5]:=by
 subst h;have b2:=Blk.new (w.alloc (.cells #[v1] t1)) t2 #[v2];have b3:=Blk.new ((w.alloc (.cells #[v1] t1)).alloc (.cells #[v2] t2)) t3 #[v3];have b4:=Blk.new (((w.alloc (.cells #[v1] t1)).alloc (.cells #[v2] t2)).alloc (.cells #[v3] t3)) t4 #[v4];have b5:=Blk.new ((((w.alloc (.cells #[v1] t1)).alloc (.cells #[v2] t2)).alloc (.cells #[v3] t3)).alloc (.cells #[v4] t4)) t5 #[v5];simp only [World.size_alloc] at b2 b3 b4 b5;refine ⟨by simp [World.size_alloc],?_,((((Blk.new w t1 #[v1]).alloc _).alloc _).alloc _).alloc _,((b2.alloc _).alloc _).alloc _,(b3.alloc _).alloc _,b4.alloc _,b5⟩;exact (((((Below.refl _ w).alloc (Nat.le_refl _) _).alloc (by simp) _).alloc (by simp;omega) _).alloc (by simp;omega) _).alloc (by simp;omega) _
theorem r4 {x:Int}:∀ (i:Nat) (c:Int),(#[Value.int .i64 x]:Array Value)[i]? = some (Value.int .u8 c)->False:=by
 intro i c h
 match i with
 | 0=>simp at h
 | i+1=>simp at h
theorem BS.grown1 {W W':World} {v:Value} {l:List UInt8} {g:Nat} {t:TypeId} {cs:Array Value} (h:BS W v l) (hb:Blk W g t cs) (hcs:∀ (i:Nat) (c:Int),cs[i]? = some (Value.int .u8 c)->False) (hg:World.grownBy W W' (some g)):BS W' v l:=by
 obtain ⟨A,cap,rfl,hc,hr⟩:=h;refine ⟨A,cap,rfl,hc,λ hn=>?_⟩;have hne:=hr.ne_blk hb hcs;obtain ⟨b,o,rfl,hlt,hx⟩:=hr hn;refine ⟨b,o,rfl,Nat.lt_of_lt_of_le hlt hg.size,λ i hi=>?_⟩;rw [← hx i hi];exact World.cell?_of_block (w:=W) (hg.block b hlt (by simpa using hne b o rfl hn))
theorem BS.putObj {W:World} {v:Value} {l:List UInt8} {k:Nat} {o:Obj} (o':Obj) (h:BS W v l) (ho:W.heap[k]? = some o) (hc:o.isCells=false):BS (W.putObj k o') v l:=by
 obtain ⟨A,cap,rfl,hcap,hr⟩:=h;exact ⟨A,cap,rfl,hcap,hr.putObj o' ho hc⟩
theorem xU {A:Option Addr} {n k:Nat}:∀ (i:Nat) (c:Int),(#[Value.slice A n k]:Array Value)[i]? = some (Value.int .u8 c)->False:=by
 intro i c h
 match i with
 | 0=>simp at h
 | i+1=>simp at h
theorem BS.setBlk {W:World} {v:Value} {l:List UInt8} {g:Nat} {t:TypeId} {cs:Array Value} (h:BS W v l) (hb:Blk W g t cs) (hcs:∀ (i:Nat) (c:Int),cs[i]? = some (Value.int .u8 c)->False) (i:Nat) (u:Value):BS (W.setCell ⟨g,i,none⟩ u) v l:=by
 obtain ⟨A,cap,rfl,hc,hr⟩:=h;exact ⟨A,cap,rfl,hc,hr.setCell (hr.ne_blk hb hcs) i u⟩
theorem KeepsFrom.below_ {B:Nat} {W W':World} (h:Below W.heap.size W W'):KeepsFrom B W W':=⟨h.size,λ k o _ ho _=>(h.block k (Array.getElem?_eq_some_iff.1 ho).1).trans ho⟩
theorem bu {B:Nat} {W W':World} {g:Nat} {t:TypeId} {cs:Array Value} (h:KeepsFrom B W W') (hb:Blk W' g t cs) (i:Nat) (u:Value):KeepsFrom B W (W'.setCell ⟨g,i,none⟩ u) :=
 ⟨by simpa [World.setCell] using h.1,λ k o hk ho hc=>by
  have h1:=h.2 k o hk ho hc;rw [← h1];refine Below.heap_setCell W' ⟨g,i,none⟩ u k ?_;rintro rfl;unfold Blk at hb;rw [hb] at h1;cases h1
  cases hc⟩
theorem vO (A:Option Addr) (cap:Nat) (l:List UInt8) (p:Nat) (w:World) (hr:Rd w A (aq l)) (hlen:l.length<=4194304) (hp:br p≠0) :
  Calls Tryz.prog 195 #[Zs A l.length cap,Zi Zq p] w λ e w' => ∃ v,e=.returned (.tuple #[v,Zi Zq 0])/\BS w' v (l++ai p)/\Below w.heap.size w w' :=
 (ue A cap l p w hr hlen).mono λ e w' h=>by
  unfold mn at h;rwa [if_neg (show ¬ aL (p:Int)=0 from λ e=>hp ((a9 p 0).1 e)),Int.toNat_natCast] at h
theorem tq (b o cap:Nat) (l:List UInt8) (n:Nat) (w:World) (hG:GOK w) (hr:Rd w (some ⟨b,o,none⟩) (aq l)) (hcap:l.length<=cap) (hlen:l.length<=4194304) (hn:l[n]? = some 34)
  (hb:b<w.heap.size) (hx:∀ i c,l[i]? = some c->w.cell? ⟨b,o+i,none⟩=some (Zi .u8 c.toNat)) :
  Calls Tryz.prog 169 #[Zs (some ⟨b,o,none⟩) l.length cap,Zi Zq n] w (vy (dt l n) w):=by
 have hcell:w.cell? ⟨b,o+n,none⟩=some (Zi .u8 34):=hx n 34 hn;have hlt:n<l.length:=(List.getElem?_eq_some_iff.1 hn).1;have hmf:∀ (fn:Fn) (first cap:Array Value) (w:World),(Instr.makeFunc fn first cap).run Tryz.prog w=.ok (.func fn first cap) w:=λ _ _ _ _=>rfl
 have HX:=aW hx;have HN:=aW hn;have HG:=aW hG;clear hx hn hG;refine (callsIn_wide (n:=3)).1 ?_;refine callsIn_of_wp_marks Tryz.func169 rfl trivial ?_ rfl;simp only [Tryz.ntmps169,List.size_toArray,List.length_cons,List.length_nil,Nat.reduceAdd,Nat.reduceSub,Array.replicate_succ,Array.replicate_zero,List.push_toArray,List.append_toArray,List.nil_append,List.cons_append];refine wpIn_wide.2 ?_;go_wp2;go_step3;go_wp2;go_step3;go_wp2_with (go_at_call 193;refine (rq _ _ _ _ _ _).mono ?_;rintro e w' ⟨rfl,rfl⟩);rw [show w.heap.size+1+1+1=w.heap.size+3 from rfl,show w.heap.size+1+1+2=w.heap.size+4 from rfl,show w.heap.size+1+1=w.heap.size+2 from rfl];obtain ⟨Wr,hWr⟩:∃ Wr,((((w.alloc (.cells #[Zs none 0 0] 67)).alloc (.cells #[Zi Zq ((n:Int)+1)] 3)).alloc (.cells #[.func (.func 194) #[.agg #[Zs (some ⟨b,o,none⟩) l.length cap]] #[]] 238)).alloc (.cells #[Zi Zq ((n:Int)+1)] 3)).alloc (.cells #[Zi Zq l.length] 3)=Wr:=⟨_,rfl⟩
 have hwr:=pd w Wr _ _ _ _ _ _ _ _ _ _ hWr;rw [hWr];clear hWr;obtain ⟨hsr,hbelr,h37,hat,hbo,hba,hbe⟩:=hwr;have hspre:=λ pre hp=>jn (l:=l) (l.length-(n+1)) (n+1) pre (Nat.le_refl _) hp hlt
 refine (wpIn_wide (n:=3)).1 ?_;refine qI rfl (by omega) (gf:=207) (lb:=#[Zp (some ⟨w.heap.size+3,0,none⟩),Zp (some ⟨w.heap.size+4,0,none⟩),Zp (some ⟨w.heap.size+2,0,none⟩)]) rfl trivial (enters_of Tryz.func207 (by kernel_rfl) rfl)
  (rt w (w.heap.size+3) (w.heap.size+4) (w.heap.size+2) (some ⟨b,o,none⟩) cap l (n+1) Wr HG.out hr hcap hlen hlt (by omega) (by omega) (by omega) (aI.of_below hbelr (λ _ h=>h)) hba hbe hbo) (Below.refl _ _) (λ _=>rfl)
  (λ A B k o hs hk ho _=>(hs.1.block k (Array.getElem?_eq_some_iff.1 ho).1 (by simp;omega)).trans ho)
  (λ h k=>h.trans k) (λ W k o o' hk _ _=>aI.putObj (N:=Wr.heap.size) (by intro j hj;omega) W k o' hk)
  (λ _ _ _ _ _ _ _ _ h=>h) (λ _ _ _ _ _ _ _ _ h=>h)
  (λ pre W => ∃ (v:Value) (q:Int),Blk W w.heap.size 67 #[v]/\BS W v (bv pre)/\Blk W (w.heap.size+1) 3 #[Zi Zq (fj (n+1) pre)]/\Blk W (w.heap.size+3) 3 #[Zi Zq q]/\Below w.heap.size w W/\w.heap.size+5<=W.heap.size)
  (λ _ _ _=>False) ?hIS (λ _ _ _ _ _ h=>h) ?hIp (λ _ _ _ _ _ _ _ _ _ h=>h) ?h0
  (λ x=>{ tmps:=#[Zs (some ⟨b,o,none⟩) l.length cap,Zi Zq n,undef,undef,Zt ⟨#[]⟩,Zi Zq 0,Zi Zq 0,Zp (some ⟨w.heap.size,0,none⟩),Zp (some ⟨w.heap.size+1,0,none⟩),Zi Zq x.1,Zi Zq x.2,undef,undef,undef,undef,undef,.bool (decide ((n:Int)<0)),Zi Zq n,.bool (decide ((n:Int)<0)),.bool (decide ((n:Int)<0)),Zi Zq n,Zs (some ⟨b,o,none⟩) l.length cap,Zi Zq l.length,.bool false,.bool (decide ((n:Int)<0)),.bool false,Zi Zq n,Zs (some ⟨b,o,none⟩) l.length cap,Zi Zq l.length,.bool false,undef,.bool false,Zs (some ⟨b,o,none⟩) l.length cap,Zi Zq n,Zp (some ⟨b,o+n,none⟩),Zi .u8 34,.bool false,undef,Zi Zq n,Zi Zq ((n:Int)+1),Zs (some ⟨b,o,none⟩) l.length cap,.agg #[Zs (some ⟨b,o,none⟩) l.length cap],.func (.func 194) #[.agg #[Zs (some ⟨b,o,none⟩) l.length cap]] #[],Zi Zq ((n:Int)+1),Zs (some ⟨b,o,none⟩) l.length cap,Zi Zq l.length,.func (.func 207) #[] #[Zp (some ⟨w.heap.size+3,0,none⟩),Zp (some ⟨w.heap.size+4,0,none⟩),Zp (some ⟨w.heap.size+2,0,none⟩)],Zi Zq x.1,Zi Zq x.2,undef,undef,undef,undef,undef,undef,undef,undef,undef,undef,undef,undef,undef,undef,undef,undef,undef,undef,undef,undef,undef,undef,undef,undef,undef,undef,undef,undef,undef,undef,undef,undef,undef,undef],defers:=[] }) ?assign ?body ?done ?stop
 case hIS =>
  rintro s A B hs ⟨v,q,h1,h2,h3,h4,h5,h6⟩;obtain ⟨q',h4'⟩:=hs.2 q h4;refine ⟨v,q',h1.grown hs.1 (by simp),?_,h3.grown hs.1 (by simp),h4',h5.trans ⟨hs.1.os,hs.1.tape,hs.1.output,hs.1.size,λ k hk=>hs.1.block k (by have:=h5.size;omega) (by simp;omega)⟩,Nat.le_trans h6 hs.1.size⟩;exact BS.grown1 h2 h4 r4 hs.1
 case hIp =>
  rintro s W k o o' hk ho hc ⟨v,q,h1,h2,h3,h4,h5,h6⟩;exact ⟨v,q,h1.putObj o' ho hc,h2.putObj o' ho hc,h3.putObj o' ho hc,h4.putObj o' ho hc,aT h5 k o' (by omega),by simpa [World.putObj] using h6⟩
 case h0 =>
  intro o o';exact ⟨_,_,(h37.alloc o).alloc o',by simpa [bv] using BS.nil,by simpa [fj] using (hat.alloc o).alloc o',(hba.alloc o).alloc o',(hbelr.alloc hbelr.size o).alloc (by have:=hbelr.size;simp;omega) o',by simp;omega⟩
 case assign =>
  intro k x W K hK;gi_wp2;exact hK
 case body =>
  rintro k pre x W ⟨v,q,h1,h2,h3,h4,h5,h6⟩ hadm;obtain ⟨g1,g2,g3,_⟩:=hspre _ hadm;obtain ⟨p,m,rfl,hp⟩:=g1 _ (List.mem_append_right _ (List.mem_singleton.2 rfl));rw [kJ,kI] at g2;rw [kJ] at g3;simp only [Int.toNat_natCast,List.length_append] at g2 g3;obtain ⟨A',cap',rfl,hc',hr'⟩:=h2;have HP:=aW (vO A' cap' (bv pre) p W hr' (by omega) hp);have c1:=h1.cell 0;gi_wp2;refine ⟨trivial,CallsIn.mono (CallsIn.inRound k (callsIn_wide.2 HP.out)) ?_⟩;rintro e w1 ⟨v',rfl,hbs,hb1⟩;have k1:=h1.keep hb1;have k3:=h3.keep hb1;have k4:=h4.keep hb1;have f1:=k1.frozen 0;have f3:=k3.frozen 0;have e1:=k1.cell 0;have e3:=k3.cell 0;obtain ⟨A2,cap2,rfl,hc2,hr2⟩:=hbs;have hbs:BS w1 (.slice A2 (bv pre++ai p).length cap2) (bv pre++ai p):=⟨A2,cap2,rfl,hc2,hr2⟩
  have hbs2:=(hbs.setBlk k1 xU 0 (.slice A2 (bv pre++ai p).length cap2))
  have k1':=k1.set_ 0 (.slice A2 (bv pre++ai p).length cap2);have k3':=k3.far (p:=⟨w.heap.size,0,none⟩) (by simp) (.slice A2 (bv pre++ai p).length cap2);have k4':=k4.far (p:=⟨w.heap.size,0,none⟩) (by simp) (.slice A2 (bv pre++ai p).length cap2);have hbs3:=hbs2.setBlk k3' r4 0 (Zi Zq m);have k1'':=k1'.far (p:=⟨w.heap.size+1,0,none⟩) (by simp) (Zi Zq m);have k3'':=k3'.set_ 0 (Zi Zq m);have k4'':=k4'.far (p:=⟨w.heap.size+1,0,none⟩) (by simp) (Zi Zq m);have hkf:=bu (bu (KeepsFrom.below_ (B:=Wr.heap.size) hb1) k1 0 (.slice A2 (bv pre++ai p).length cap2)) k3' 0 (Zi Zq m);have hsz:=hb1.size;have hB3:Below w.heap.size w ((w1.setCell ⟨w.heap.size,0,none⟩ (.slice A2 (bv pre++ai p).length cap2)).setCell ⟨w.heap.size+1,0,none⟩ (Zi Zq m)) :=
   ((h5.trans (hb1.mono h5.size)).setCell (p:=⟨w.heap.size,0,none⟩) (by simp) _).setCell (p:=⟨w.heap.size+1,0,none⟩) (by simp) _
  have hkp:KpS w.heap.size (w.heap.size+3) (w.heap.size+4) (w.heap.size+2) W ((w1.setCell ⟨w.heap.size,0,none⟩ (.slice A2 (bv pre++ai p).length cap2)).setCell ⟨w.heap.size+1,0,none⟩ (Zi Zq m)) :=
   ⟨by simpa [World.setCell] using hsz,λ j hj=>by
    have hj2:j<W.heap.size:=by have:=h5.size;omega
    rw [Below.heap_setCell _ ⟨w.heap.size+1,0,none⟩ _ j (by simp;omega),Below.heap_setCell _ ⟨w.heap.size,0,none⟩ _ j (by simp;omega)];exact hb1.block j hj2⟩
  have hlen2:(bv pre++ai p).length=(bv pre).length+(ai p).length:=List.length_append;rw [hlen2] at hkf hkp hbs3 k1'' k3'' k4'' hB3;have HF:=aW (And.intro hkf (And.intro hkp (And.intro hbs3 (And.intro k1'' (And.intro k3'' (And.intro k4'' hB3))))));clear hkf hkp hbs3 k1'' k3'' k4'' hB3 hbs2 k1' k3' k4' hbs hr2 hr';gi_wp2;obtain ⟨hkf,hkp,hbs3,k1'',k3'',k4'',hB3⟩:=HF.out;exact ⟨hkf,hkp,_,q,k1'',by rw [kI,Int.toNat_natCast];exact hbs3,by rw [kJ,Int.toNat_natCast];exact k3'',k4'',hB3,by simpa [World.setCell] using Nat.le_trans h6 hsz⟩
 case done =>
  rintro D xs W hD rfl ⟨v,q,h1,h2,h3,h4,h5,h6⟩ hK;obtain ⟨_,g2,g3,_⟩:=hspre _ (List.prefix_refl _);obtain ⟨m,hm⟩:∃ m,fj (n+1) (aR l (n+1))=m:=⟨_,rfl⟩
  obtain ⟨xs,hxs⟩:∃ xs,aR l (n+1)=xs:=⟨_,rfl⟩
  have hspec:dt l n=if l[m]? = some 34 then (bv xs,(m:Int)+1,0) else ([],(m:Int),(jD l (m:Nat)).2.2):=by
   unfold dt;rw [if_neg (by omega),if_neg (by omega),Int.toNat_natCast,if_neg (by rw [HN.out];simp),hm,hxs]
  rw [hm] at g2 g3 h3;rw [hxs] at h2;have HS:=aW hspec;clear hspec;have hconv:=λ j=>(h2.drewN j).conv
  obtain ⟨A2,cap2,rfl,hc2,hr2⟩:=h2;have c1:=h1.cell 0;have c3:=h3.cell 0;have hWb:∀ i c,l[i]? = some c->W.cell? ⟨b,o+i,none⟩=some (Zi .u8 c.toNat):=λ i c hi=>(h5.cell (p:=⟨b,o+i,none⟩) hb).trans (HX.out i c hi)
  by_cases h34:l[m]? = some 34
  ·have HS2:=aW (HS.out.trans (if_pos h34));have hcm:W.cell? ⟨b,o+m,none⟩=some (Zi .u8 34):=hWb m 34 h34;have hml:m<l.length:=(List.getElem?_eq_some_iff.1 h34).1;clear hWb hm hxs h34;go_wp2;go_quiet (fail);go_wp2;rw [Exit.noGoto_ret];refine ⟨by simp,.inl ⟨_,_,rfl,run_takeDeferred hK,?_⟩⟩;refine ⟨.tuple #[Zt ⟨(bv xs).toArray⟩,Zi Zq ((m:Int)+1),Zi Zq 0],by simp only [results,Tryz.results169];go_simp,?_⟩;rw [HS2.out];exact ⟨rfl,aT (ah h5 _) D _ (by have:=hbelr.size;omega)⟩
  ·have HS2:=aW (HS.out.trans (if_neg h34));have hsig:=rZ (some ⟨b,o,none⟩) cap l (m:Nat) W (HG.out.below h5 HG.out.lt) (hr.below h5) hcap hlen;obtain ⟨⟨z1,z2,z3⟩,hz⟩:∃ z,jD l (m:Nat)=z:=⟨_,rfl⟩
   rw [hz] at hsig;have HZ:=aW hz;have HSG:=aW hsig;clear hsig hz;by_cases hml:m<l.length
   ·obtain ⟨c,hc⟩:∃ c,l[m]? = some c:=⟨_,List.getElem?_eq_getElem hml⟩
    have hcm:=hWb m c hc;have hne:((c.toNat:Int) == 34)=false:=by
     have:c.toNat≠34:=λ e=>h34 (by rw [hc];exact congrArg some (UInt8.toNat_inj.1 (by simpa using e)))
     simp;omega
    clear hWb hm hxs h34 hc;go_wp2_with (go_at_call 196;refine HSG.out.mono ?_;rintro e w1 ⟨rfl,hb1⟩;have c1':=(h1.keep hb1).cell 0;have c3':=(h3.keep hb1).cell 0);go_quiet (fail);go_wp2;rw [Exit.noGoto_ret];have hK1:w1.heap[D]? = some (.deferred (some [])):=(hb1.block D (Array.getElem?_eq_some_iff.1 hK).1).trans hK;refine ⟨by simp,.inl ⟨_,_,rfl,run_takeDeferred hK1,?_⟩⟩;refine ⟨.tuple #[Zt ⟨#[]⟩,Zi Zq (m:Int),Zi Zq z3],by simp only [results,Tryz.results169];go_simp,?_⟩;rw [HS2.out,HZ.out];exact ⟨rfl,aT (ah (h5.trans (hb1.mono h5.size)) _) D _ (by have:=hbelr.size;omega)⟩
   ·obtain rfl:m=l.length:=by omega
    clear hWb hm hxs h34 hml;go_wp2_with (go_at_call 196;refine HSG.out.mono ?_;rintro e w1 ⟨rfl,hb1⟩;have c1':=(h1.keep hb1).cell 0;have c3':=(h3.keep hb1).cell 0);go_quiet (fail);go_wp2;rw [Exit.noGoto_ret];have hK1:w1.heap[D]? = some (.deferred (some [])):=(hb1.block D (Array.getElem?_eq_some_iff.1 hK).1).trans hK;refine ⟨by simp,.inl ⟨_,_,rfl,run_takeDeferred hK1,?_⟩⟩;refine ⟨.tuple #[Zt ⟨#[]⟩,Zi Zq (l.length:Int),Zi Zq z3],by simp only [results,Tryz.results169];go_simp,?_⟩;rw [HS2.out,HZ.out];exact ⟨rfl,aT (ah (h5.trans (hb1.mono h5.size)) _) D _ (by have:=hbelr.size;omega)⟩
 case stop =>
  rintro D c pre W _ _ h _;exact h.elim
/-- THE CONTRACT OF quote.Read -/
theorem rm (v:Value) (l:List UInt8) (a:Int) (w:World) (hG:GOK w) (hv:BS w v l) (hlen:l.length<=4194304) :
  Calls Tryz.prog 169 #[v,Zi Zq a] w (vy (dt l a) w):=by
 obtain ⟨A,cap,rfl,hcap,hr⟩:=hv;by_cases h0:a<0
 ·have HS:=aW (show dt l a=([],0,2) by rw [dt,if_pos (.inl h0)]);go_enter Tryz.func169,Tryz.ntmps169;go_wp2;go_step3;go_wp2;rw [Exit.noGoto_ret];go_returns;rw [HS.out];exact ⟨rfl,by go_grown⟩
 ·obtain ⟨n,rfl⟩:∃ n:Nat,a=n:=⟨a.toNat,by omega⟩
  clear h0;by_cases h1:(l.length:Int)<(n:Int)
  ·have HS:=aW (show dt l n=([],0,2) by rw [dt,if_pos (.inr h1)]);go_enter Tryz.func169,Tryz.ntmps169;go_wp2;go_step3;go_wp2;rw [Exit.noGoto_ret];go_returns;rw [HS.out];exact ⟨rfl,by go_grown⟩
  ·by_cases h2:n=l.length
   ·have HS:=aW (show dt l n=([],(n:Int),6) by rw [dt,if_neg (by omega),if_pos (by omega)]);subst h2;go_enter Tryz.func169,Tryz.ntmps169;go_wp2;go_step3;go_wp2;rw [Exit.noGoto_ret];go_returns;rw [HS.out];exact ⟨rfl,by go_grown⟩
   ·have hlt:n<l.length:=by omega
    obtain ⟨b,o,rfl,hb,hx⟩:=hr (by intro e;have h3:=aA l;rw [e,List.length_nil] at h3;omega);have hby:∀ i c,l[i]? = some c->w.cell? ⟨b,o+i,none⟩=some (Zi .u8 c.toNat):=λ i c hi=>by
     obtain ⟨hlt,e⟩:=List.getElem?_eq_some_iff.1 hi;rw [hx i (by rw [aA];exact hlt)];simp [aq,e]
    obtain ⟨c,hc⟩:∃ c,l[n]? = some c:=⟨_,List.getElem?_eq_getElem hlt⟩
    by_cases h34:c=34
    ·subst h34;exact tq b o cap l n w hG hr hcap hlen hc hb hby
    ·have hne:((c.toNat:Int) != 34)=true:=by
      have:c.toNat≠34:=λ e=>h34 (UInt8.toNat_inj.1 (by simpa using e))
      simp;omega
     have HS:=aW (show dt l n=([],(n:Int),7) by rw [dt,if_neg (by omega),if_neg (by omega),Int.toNat_natCast,if_pos (by rw [hc];simpa using h34)]);have hcm:=hby n c hc;clear hby hx hc h34;go_enter Tryz.func169,Tryz.ntmps169;go_wp2;go_step3;go_wp2;rw [Exit.noGoto_ret];go_returns;rw [HS.out];exact ⟨rfl,by go_grown⟩
end
end Go.Proofs.YtgmnmnnoahdjnaaGreatDoor
