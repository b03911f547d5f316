import Derived.Test.YtgmnmnnoahdjnaaGreatDoorC06
import Derived.Test.YtgmnmnnoahdjnaaGreatDoorC04
import Derived.Sort.LoopGhostIn
import Derived.Lib.BufferRead
import Derived.Deep.DeepCutAuto
open Go.Value renaming int → Zi, slice → Zs, string → Zt, pointer → Zp
open Go.IntKind renaming i64 → Zq
set_option maxRecDepth 100000
set_option maxHeartbeats 16000000
set_option linter.unusedVariables false
set_option linter.unusedSimpArgs false
namespace Go.Proofs.YtgmnmnnoahdjnaaGreatDoor
section
open Go.RowKit Go.Shelf
attribute [local go_sem] aa ac ae ab Oper.semAt_some
theorem GOK.keepOn {S:Nat->Prop} {w W:World} (h:GOK w) (k:aO S w W) (hS:∀ i,i<w.heap.size->S i):GOK W :=
 ⟨Nat.lt_of_lt_of_le h.lt k.1,by rw [← h.c0];exact World.cell?_of_block (w:=w) (k.2 _ (hS _ h.lt)),by rw [← h.c1];exact World.cell?_of_block (w:=w) (k.2 _ (hS _ h.lt))⟩
theorem Rd.keepOn {S:Nat->Prop} {w W:World} {A:Option Addr} {xs:List Value} (h:Rd w A xs) (k:aO S w W) (hS:∀ i,i<w.heap.size->S i):Rd W A xs:=λ hn=>by
 obtain ⟨b,o,e,hb,hx⟩:=h hn;exact ⟨b,o,e,Nat.lt_of_lt_of_le hb k.1,λ i hi=>by rw [← hx i hi];exact World.cell?_of_block (w:=w) (k.2 _ (hS _ hb))⟩
theorem uA (fn:Fn) (first cap:Array Value) (at_ end_:Int) (w:World) :
  Calls Tryz.prog 193 #[.func fn first cap,Zi Zq at_,Zi Zq end_] w λ e w'=>e=.returned (.func (.func 207) #[] #[Zp (some ⟨w.heap.size+1,0,none⟩),Zp (some ⟨w.heap.size+2,0,none⟩),Zp (some ⟨w.heap.size,0,none⟩)]) /\
   ((w.alloc (.cells #[.func fn first cap] 238)).alloc (.cells #[Zi Zq at_] 3)).alloc (.cells #[Zi Zq end_] 3)=w':=by
 have hmf:∀ (fn:Fn) (first cap:Array Value) (w:World),(Instr.makeFunc fn first cap).run Tryz.prog w=.ok (.func fn first cap) w:=λ _ _ _ _=>rfl
 go_enter Tryz.func193,Tryz.ntmps193;go_wp2;go_ret;exact ⟨rfl,rfl⟩
def yo (A:Option Addr) (n cap:Nat):Value:=.func (.func 194) #[.agg #[Zs A n cap]] #[]
def StS (Ba:Nat) (A B:World):Prop:=World.grownBy A B (some Ba)/\∀ q:Int,Blk A Ba 3 #[Zi Zq q]->∃ q':Int,Blk B Ba 3 #[Zi Zq q']
theorem StS.of_below {Ba:Nat} {A B:World} (h:Below A.heap.size A B):StS Ba A B:=⟨⟨h.os,h.tape,h.output,h.size,λ i hi _=>h.block i hi⟩,λ q hb=>⟨q,hb.keep h⟩⟩
def KpS (B0 Ba Be Bo:Nat):World->World->Prop:=aO λ k=>k<B0∨k=Ba∨k=Be∨k=Bo
theorem sA (w0:World) (Ba Be Bo:Nat) (A:Option Addr) (cap:Nat) (l:List UInt8) (a:Nat) (k:Nat) (J Jx:List (Int × Int)->World->Prop) (W:World) (hG:GOK w0) (hr:Rd w0 A (am l)) (hcap:l.length<=cap) (hlen:l.length<=4194304)
  (ha0:a<=l.length) (hae:Ba≠Be) (hao:Ba≠Bo) (hB:w0.heap.size<=Ba) (hW:aO (· < w0.heap.size) w0 W)
  (hJ:∀ s A B,StS Ba A B->J s A->J s B)
  (hY:∀ pre x W1,J pre W1->pre++[x] <+: aR l a->YieldAt Fence.wide 1 Tryz.prog k #[Zi Zq x.1,Zi Zq x.2] W1 λ e W' =>
   (e=.returned (.bool true)/\J (pre++[x]) W'/\KpS w0.heap.size Ba Be Bo W1 W')∨(e=.returned (.bool false)/\Jx (pre++[x]) W'/\KpS w0.heap.size Ba Be Bo W1 W'))
  (hba:Blk W Ba 3 #[Zi Zq a]) (hbe:Blk W Be 3 #[Zi Zq l.length]) (hbo:Blk W Bo 238 #[yo A l.length cap]) (h0:J [] W) :
  CallsIn Fence.wide 2 Tryz.prog 207 #[.func (.yield k) #[] #[],Zp (some ⟨Ba,0,none⟩),Zp (some ⟨Be,0,none⟩),Zp (some ⟨Bo,0,none⟩)] W λ e W'=>(∃ v,e=.returned v) /\
   ((∃ xs,xs=aR l a/\J xs W')∨(∃ pre,pre <+: aR l a/\Jx pre W')):=by
 have HY:=aW hY;have HJ:=aW hJ;clear hY hJ;refine callsIn_of_wp Tryz.func207 rfl trivial ?_ rfl;simp only [Tryz.ntmps207,List.size_toArray,List.length_cons,List.length_nil,Nat.reduceAdd,Nat.reduceSub,Array.replicate_succ,Array.replicate_zero,List.push_toArray,List.append_toArray,List.nil_append,List.cons_append];gi_wp2
 gi_loopg [5] (l.length-a) (λ gk _ wr => ∃ (p:Nat) (pre:List (Int × Int)),p<=l.length/\gk=l.length-p/\aR l a=pre++aR l p/\J pre wr/\Blk wr Ba 3 #[Zi Zq p]/\Blk wr Be 3 #[Zi Zq l.length]/\Blk wr Bo 238 #[yo A l.length cap] /\
  aO (· < w0.heap.size) w0 wr)
 case atStart=>exact ⟨a,[],ha0,rfl,rfl,h0,hba,hbe,hbo,hW⟩
 case round =>
  obtain ⟨p,pre,hp,hgk,hpre,hJs,ba,be,bo,hK⟩:=hrel;clear hba hbe hbo h0 hW;obtain ⟨c1,f1,l1⟩:=ba.rules;obtain ⟨c2,f2,l2⟩:=be.rules;obtain ⟨c3,f3,l3⟩:=bo.rules;by_cases hlt:p<l.length
  ·have hs:=od A cap l p wr (hG.keepOn hK (λ i h=>h)) (hr.keepOn hK (λ i h=>h)) hcap hlen hlt;obtain ⟨⟨c,n,er⟩,hr⟩:∃ r,qsS l p=r:=⟨_,rfl⟩
   rw [hr] at hs;have HS:=aW hs;have HR:=aW hr;have HP:=aW hpre;have HGK:=aW hgk;unfold yo at c3;clear hs hr hpre hgk;by_cases he:er=0
   ·subst he;obtain ⟨c',m,rfl,rfl,hpm,hml,hcl⟩:=qV HR.out hlt;have HC:=aW (fT HR.out hlt);gi_wp2;refine ⟨trivial,CallsIn.mono (callsIn_wide.2 HS.out) ?_⟩;rintro e w1 ⟨rfl,hb1⟩;have hgb:StS Ba wr w1:=StS.of_below hb1;have ba1:=ba.keep hb1;have be1:=be.keep hb1;have bo1:=bo.keep hb1;have hK1:=hK.trans (aO.of_below (S:=(· < w0.heap.size)) hb1 (λ k hk=>Nat.lt_of_lt_of_le hk hK.1));obtain ⟨fn,tmps,assign,body,hy,hR⟩:=HY.out pre ((c':Int),(m:Int)) w1 (HJ.out _ _ _ hgb hJs) (by rw [HP.out,HC.out];exact ⟨aR l m,by simp⟩);clear hgb hb1 c1 f1 l1 c2 f2 l2 c3 f3 l3;gi_wp2;refine hR.mono ?_;rintro e W3 (⟨rfl,hJ3,hk3⟩ | ⟨rfl,hJx3,hk3⟩)
    ·have ba3:=hk3.blk ba1 (.inr (.inl rfl));have be3:=hk3.blk be1 (.inr (.inr (.inl rfl)));have bo3:=hk3.blk bo1 (.inr (.inr (.inr rfl)));have hK3:aO (· < w0.heap.size) w0 W3:=hK1.trans ⟨hk3.1,λ i hi=>hk3.2 i (.inl hi)⟩;obtain ⟨c4,f4,l4⟩:=ba3.rules;gi_wp2
     gi_roundg (l.length-m)
     case measure=>rw [HGK.out];omega
     case rel=>exact ⟨m,pre++[((c':Int),(m:Int))],hml,rfl,by rw [HP.out,HC.out];simp,HJ.out _ _ _ ⟨bC (ec _ _) _ _,λ q h=>⟨m,h.set_ 0 _⟩⟩ hJ3,ba3.set_ 0 _,be3.far (by simpa using hae.symm) _,bo3.far (by simpa using hao.symm) _,
      hK3.trans (aO.of_below (B:=w0.heap.size) (((Below.refl w0.heap.size W3).setCell (p:=⟨Ba,0,none⟩) (by simpa using hB) _)) (λ k h=>h))⟩
    ·gi_wp2;refine bodyPost_ret (results_none rfl _ _ _) rfl ?_;exact ⟨⟨_,rfl⟩,.inr ⟨_,by rw [HP.out,HC.out];exact ⟨aR l m,by simp⟩,hJx3⟩⟩
   ·have HN:=aW (gW (l:=l) (a:=p) (λ _=>by rw [HR.out];exact he));gi_wp2;refine ⟨trivial,CallsIn.mono (callsIn_wide.2 HS.out) ?_⟩;rintro e w1 ⟨rfl,hb1⟩;have he':(er != 0)=true:=by simp;omega
    gi_wp2
    all_goals
     refine ⟨λ _ _=>trivial,?_⟩;gi_wp2;refine bodyPost_ret (results_none rfl _ _ _) rfl ?_;exact ⟨⟨_,rfl⟩,.inl ⟨_,rfl,by rw [HP.out,HN.out,List.append_nil];exact HJ.out _ _ _ (StS.of_below hb1) hJs⟩⟩
  ·have HN:=aW (gW (l:=l) (a:=p) (λ h=>absurd h hlt));have HP:=aW hpre;clear hpre hgk;obtain rfl:p=l.length:=by omega
   clear hlt;gi_wp2;go_end0;exact ⟨⟨_,rfl⟩,.inl ⟨_,rfl,by rw [HP.out,HN.out,List.append_nil];exact hJs⟩⟩
theorem uB (w0:World) (Ba Be Bo:Nat) (A:Option Addr) (cap:Nat) (l:List UInt8) (a:Nat) (w:World) (hG:GOK w0) (hr:Rd w0 A (am l)) (hcap:l.length<=cap) (hlen:l.length<=4194304)
  (ha0:a<=l.length) (hae:Ba≠Be) (hao:Ba≠Bo) (hB:w0.heap.size<=Ba) (hW:aO (· < w0.heap.size) w0 w)
  (hba:Blk w Ba 3 #[Zi Zq a]) (hbe:Blk w Be 3 #[Zi Zq l.length]) (hbo:Blk w Bo 238 #[yo A l.length cap]) :
  nx Fence.wide 2 Tryz.prog 207 #[Zp (some ⟨Ba,0,none⟩),Zp (some ⟨Be,0,none⟩),Zp (some ⟨Bo,0,none⟩)] (λ x:Int × Int=>#[Value.int .i64 x.1,Zi Zq x.2])
   (StS Ba) (KpS w0.heap.size Ba Be Bo) (λ pre x=>pre++[x] <+: aR l a) (λ xs _=>xs=aR l a) (λ pre _=>pre <+: aR l a) w:=by
 intro k J Jx W hW2 hJ _ hY h0;exact sA w0 Ba Be Bo A cap l a k J Jx W hG hr hcap hlen ha0 hae hao hB (hW.trans (aO.of_below hW2 (λ i hi=>Nat.lt_of_lt_of_le hi hW.1))) hJ hY (hba.keep hW2) (hbe.keep hW2) (hbo.keep hW2) h0
theorem BS.conv {w:World} {v:Value} {l:List UInt8} (h:BS w v l):(convert 67 9 v).run Tryz.prog w=.ok (Zt ⟨l.toArray⟩) w:=by
 obtain ⟨A,cap,rfl,hc,hr⟩:=h;cases A with
 |none =>
  have hl:l=[]:=by
   cases l with
   | nil=>rfl
   | cons c r=>obtain ⟨b,o,e,_⟩:=hr (by simp [am]);cases e
  subst hl;exact Lib.run_convert_nil_bytes w _ _ 5 cap (by simp [go_sem]) (by simp [go_sem]) (by simp [go_sem])
 |some a =>
  refine Go.run_convert_bytes_back w _ _ 5 a cap l (by simp [go_sem]) (by simp [go_sem]) (by simp [go_sem]) ?_;intro j hj;obtain ⟨b,o,e,_,hx⟩:=hr (by intro e;have:=aB l;rw [e] at this;simp at this;omega);cases e
  have:=hx j (by rw [aB];exact hj);have e2:(⟨b,o,none⟩:Addr).add j=⟨b,o+j,none⟩:=by simp [Addr.add]
  rw [e2];simpa [am] using this
def bG (xs:List (Int × Int)):List UInt8:=xs.flatMap λ x=>ag x.1.toNat
def et (a:Nat) (xs:List (Int × Int)):Nat:=match xs.getLast? with | some x=>x.2.toNat | none=>a
theorem mL (a:Nat) (xs:List (Int × Int)) (x:Int × Int):et a (xs++[x])=x.2.toNat:=by simp [et]
theorem mK (xs:List (Int × Int)) (x:Int × Int):bG (xs++[x])=bG xs++ag x.1.toNat:=by simp [bG]
theorem Af {l:List UInt8} {a:Nat} {c n:Int} (h:qsS l a=(c,n,0)) (ha:a<l.length):a+(ag c.toNat).length<=n.toNat:=by
 unfold qsS at h;rw [List.getElem?_eq_getElem ha] at h;simp only at h;split at h
 ·unfold lu at h;cases hu:dM l a with
  |some u =>
   rw [hu] at h;simp only at h;split at h
   ·simp only [Prod.mk.injEq] at h;have:=eO c.toNat;omega
   ·split at h
    ·cases hv:dM l (a+6) with
     | none=>rw [hv] at h;simp at h
     |some v =>
      rw [hv] at h;simp only at h;split at h
      ·simp only [Prod.mk.injEq] at h;have:=eO c.toNat;omega
      ·simp at h
    ·simp at h
  |none =>
   rw [hu] at h;simp only at h;cases hc:l[a+1]? with
   | none=>rw [hc] at h;simp at h
   |some d =>
    rw [hc] at h;simp only at h;cases hx:bj d.toNat with
    | none=>rw [hx] at h;simp at h
    |some x =>
     rw [hx] at h;simp only [Prod.mk.injEq] at h;have h1:=mv hx;have h2:c.toNat=x:=by omega
     rw [h2];unfold ag;rw [if_pos h1];simp;omega
 ·split at h
  ·simp at h
  ·unfold eT at h;rw [if_neg (by omega),if_neg (by omega),Int.toNat_natCast] at h;split at h
   ·simp at h
   ·rename_i hne
    simp only [Prod.mk.injEq] at h;have h2:c.toNat=(ar (l.drop a)).1:=by omega
    rw [h2];have key:∀ n,cj (l.drop a) n=true->(ag (bv (l.drop a) n)).length<=n:=λ n hn=>by
     rw [((eQ _ n).1 hn).2.2];simp;omega
    have:(ag (ar (l.drop a)).1).length<=(ar (l.drop a)).2:=by
     unfold ar at hne ⊢;split
     ·exact key _ ‹_›
     ·split
      ·exact key _ ‹_›
      ·split
       ·exact key _ ‹_›
       ·split
        ·exact key _ ‹_›
        ·simp_all
    omega
theorem kK {l:List UInt8}:∀ (k a:Nat) (pre:List (Int × Int)),l.length-a<=k->pre <+: aR l a->a<=l.length ->
  (∀ x ∈ pre,∃ p m:Nat,x=((p:Int),(m:Int))/\bK p≠0)/\a+(bG pre).length<=et a pre/\et a pre<=l.length/\aR l a=pre++aR l (et a pre)
 | k,a,[],_,_,ha=>⟨by simp,by simp [bG,et],by simpa [et] using ha,by simp [et]⟩
 |k,a,x::pre,hk,hp,ha=>by
  by_cases hc:a<l.length/\(qsS l a).2.2=0
  ·obtain ⟨p,m,h1,h2,h3,h4,h5⟩:=qV (c:=(qsS l a).1) (n:=(qsS l a).2.1) (by rw [← hc.2]) hc.1;have hq:qsS l a=((p:Int),(m:Int),0):=by rw [← h1,← h2,← hc.2]
   have hlen:=Af hq hc.1;rw [fT hq hc.1] at hp ⊢;obtain ⟨rfl,hp'⟩:=List.cons_prefix_cons.1 hp
   match k,hk with
   | 0,hk=>omega
   |k+1,hk =>
    obtain ⟨g1,g2,g3,g4⟩:=kK k m pre (by omega) hp' h4;have he:et a (((p:Int),(m:Int))::pre)=et m pre:=by
     unfold et;cases pre with
     | nil=>simp
     |cons y r =>
      rw [List.getLast?_cons_cons];cases h:(y::r).getLast? with
      | none=>simp at h
      | some z=>rfl
    rw [he];refine ⟨?_,?_,g3,congrArg (_ :: ·) g4⟩
    ·intro y hy;rcases List.mem_cons.1 hy with rfl | hy
     ·exact ⟨p,m,rfl,h5⟩
     ·exact g1 y hy
    ·simp only [bG,List.flatMap_cons,List.length_append,Int.toNat_natCast] at g2 hlen ⊢;omega
  ·rw [gW (λ h e=>hc ⟨h,e⟩)] at hp;simp at hp
def dE (l:List UInt8) (a:Int):List UInt8 × Int × Int :=
 if a<0∨(l.length:Int)<a then ([],0,2) else if a=l.length then ([],a,6) else if l[a.toNat]? ≠ some 34 then ([],a,7)
 else if l[et (a.toNat+1) (aR l (a.toNat+1))]? = some 34 then (bG (aR l (a.toNat+1)),et (a.toNat+1) (aR l (a.toNat+1))+1,0)
 else ([],et (a.toNat+1) (aR l (a.toNat+1)),(j0 l (et (a.toNat+1) (aR l (a.toNat+1)):Nat)).2.2)
def yS (r:List UInt8 × Int × Int) (w:World) (e:Ending) (w':World):Prop :=
 e=.returned (.tuple #[Zt ⟨r.1.toArray⟩,Zi Zq r.2.1,Zi Zq r.2.2])/\Below w.heap.size w w'
theorem rQ (w Wr:World) (t1 t2 t3 t4 t5:TypeId) (v1 v2 v3 v4 v5:Value)
  (h:((((w.alloc (.cells #[v1] t1)).alloc (.cells #[v2] t2)).alloc (.cells #[v3] t3)).alloc (.cells #[v4] t4)).alloc (.cells #[v5] t5)=Wr) :
  Wr.heap.size=w.heap.size+5/\Below w.heap.size w Wr/\Blk Wr w.heap.size t1 #[v1]/\Blk Wr (w.heap.size+1) t2 #[v2]/\Blk Wr (w.heap.size+2) t3 #[v3]/\Blk Wr (w.heap.size+3) t4 #[v4]/\Blk Wr (w.heap.size+4) t5 #[v5]:=by
 subst h;have b2:=Blk.new (w.alloc (.cells #[v1] t1)) t2 #[v2];have b3:=Blk.new ((w.alloc (.cells #[v1] t1)).alloc (.cells #[v2] t2)) t3 #[v3];have b4:=Blk.new (((w.alloc (.cells #[v1] t1)).alloc (.cells #[v2] t2)).alloc (.cells #[v3] t3)) t4 #[v4];have b5:=Blk.new ((((w.alloc (.cells #[v1] t1)).alloc (.cells #[v2] t2)).alloc (.cells #[v3] t3)).alloc (.cells #[v4] t4)) t5 #[v5];simp only [World.size_alloc] at b2 b3 b4 b5;refine ⟨by simp [World.size_alloc],?_,((((Blk.new w t1 #[v1]).alloc _).alloc _).alloc _).alloc _,((b2.alloc _).alloc _).alloc _,(b3.alloc _).alloc _,b4.alloc _,b5⟩;exact (((((Below.refl _ w).alloc (Nat.le_refl _) _).alloc (by simp) _).alloc (by simp;omega) _).alloc (by simp;omega) _).alloc (by simp;omega) _
theorem vg {x:Int}:∀ (i:Nat) (c:Int),(#[Value.int .i64 x]:Array Value)[i]? = some (Value.int .u8 c)->False:=by
 intro i c h
 match i with
 | 0=>simp at h
 | i+1=>simp at h
theorem BS.grown1 {W W':World} {v:Value} {l:List UInt8} {g:Nat} {t:TypeId} {cs:Array Value} (h:BS W v l) (hb:Blk W g t cs) (hcs:∀ (i:Nat) (c:Int),cs[i]? = some (Value.int .u8 c)->False) (hg:World.grownBy W W' (some g)):BS W' v l:=by
 obtain ⟨A,cap,rfl,hc,hr⟩:=h;refine ⟨A,cap,rfl,hc,λ hn=>?_⟩;have hne:=hr.ne_blk hb hcs;obtain ⟨b,o,rfl,hlt,hx⟩:=hr hn;refine ⟨b,o,rfl,Nat.lt_of_lt_of_le hlt hg.size,λ i hi=>?_⟩;rw [← hx i hi];exact World.cell?_of_block (w:=W) (hg.block b hlt (by simpa using hne b o rfl hn))
theorem BS.putObj {W:World} {v:Value} {l:List UInt8} {k:Nat} {o:Obj} (o':Obj) (h:BS W v l) (ho:W.heap[k]? = some o) (hc:o.isCells=false):BS (W.putObj k o') v l:=by
 obtain ⟨A,cap,rfl,hcap,hr⟩:=h;exact ⟨A,cap,rfl,hcap,hr.putObj o' ho hc⟩
theorem Bh {A:Option Addr} {n k:Nat}:∀ (i:Nat) (c:Int),(#[Value.slice A n k]:Array Value)[i]? = some (Value.int .u8 c)->False:=by
 intro i c h
 match i with
 | 0=>simp at h
 | i+1=>simp at h
theorem BS.setBlk {W:World} {v:Value} {l:List UInt8} {g:Nat} {t:TypeId} {cs:Array Value} (h:BS W v l) (hb:Blk W g t cs) (hcs:∀ (i:Nat) (c:Int),cs[i]? = some (Value.int .u8 c)->False) (i:Nat) (u:Value):BS (W.setCell ⟨g,i,none⟩ u) v l:=by
 obtain ⟨A,cap,rfl,hc,hr⟩:=h;exact ⟨A,cap,rfl,hc,hr.setCell (hr.ne_blk hb hcs) i u⟩
theorem KeepsFrom.below_ {B:Nat} {W W':World} (h:Below W.heap.size W W'):KeepsFrom B W W':=⟨h.size,λ k o _ ho _=>(h.block k (Array.getElem?_eq_some_iff.1 ho).1).trans ho⟩
theorem bR {B:Nat} {W W':World} {g:Nat} {t:TypeId} {cs:Array Value} (h:KeepsFrom B W W') (hb:Blk W' g t cs) (i:Nat) (u:Value):KeepsFrom B W (W'.setCell ⟨g,i,none⟩ u) :=
 ⟨by simpa [World.setCell] using h.1,λ k o hk ho hc=>by
  have h1:=h.2 k o hk ho hc;rw [← h1];refine Below.heap_setCell W' ⟨g,i,none⟩ u k ?_;rintro rfl;unfold Blk at hb;rw [hb] at h1;cases h1
  cases hc⟩
theorem zm (A:Option Addr) (cap:Nat) (l:List UInt8) (p:Nat) (w:World) (hr:Rd w A (am l)) (hlen:l.length<=4194304) (hp:bK p≠0) :
  Calls Tryz.prog 195 #[Zs A l.length cap,Zi Zq p] w λ e w' => ∃ v,e=.returned (.tuple #[v,Zi Zq 0])/\BS w' v (l++ag p)/\Below w.heap.size w w' :=
 (xG A cap l p w hr hlen).mono λ e w' h=>by
  unfold oN at h;rwa [if_neg (show ¬ aZ (p:Int)=0 from λ e=>hp ((bq p 0).1 e)),Int.toNat_natCast] at h
theorem wO (b o cap:Nat) (l:List UInt8) (n:Nat) (w:World) (hG:GOK w) (hr:Rd w (some ⟨b,o,none⟩) (am l)) (hcap:l.length<=cap) (hlen:l.length<=4194304) (hn:l[n]? = some 34)
  (hb:b<w.heap.size) (hx:∀ i c,l[i]? = some c->w.cell? ⟨b,o+i,none⟩=some (Zi .u8 c.toNat)) :
  Calls Tryz.prog 169 #[Zs (some ⟨b,o,none⟩) l.length cap,Zi Zq n] w (yS (dE l n) w):=by
 have hcell:w.cell? ⟨b,o+n,none⟩=some (Zi .u8 34):=hx n 34 hn;have hlt:n<l.length:=(List.getElem?_eq_some_iff.1 hn).1;have hmf:∀ (fn:Fn) (first cap:Array Value) (w:World),(Instr.makeFunc fn first cap).run Tryz.prog w=.ok (.func fn first cap) w:=λ _ _ _ _=>rfl
 have HX:=aW hx;have HN:=aW hn;have HG:=aW hG;clear hx hn hG;refine (callsIn_wide (n:=3)).1 ?_;refine callsIn_of_wp_marks Tryz.func169 rfl trivial ?_ rfl;simp only [Tryz.ntmps169,List.size_toArray,List.length_cons,List.length_nil,Nat.reduceAdd,Nat.reduceSub,Array.replicate_succ,Array.replicate_zero,List.push_toArray,List.append_toArray,List.nil_append,List.cons_append];refine wpIn_wide.2 ?_;go_wp2;go_step3;go_wp2;go_step3;go_wp2_with (go_at_call 193;refine (uA _ _ _ _ _ _).mono ?_;rintro e w' ⟨rfl,rfl⟩);rw [show w.heap.size+1+1+1=w.heap.size+3 from rfl,show w.heap.size+1+1+2=w.heap.size+4 from rfl,show w.heap.size+1+1=w.heap.size+2 from rfl];obtain ⟨Wr,hWr⟩:∃ Wr,((((w.alloc (.cells #[Zs none 0 0] 67)).alloc (.cells #[Zi Zq ((n:Int)+1)] 3)).alloc (.cells #[.func (.func 194) #[.agg #[Zs (some ⟨b,o,none⟩) l.length cap]] #[]] 238)).alloc (.cells #[Zi Zq ((n:Int)+1)] 3)).alloc (.cells #[Zi Zq l.length] 3)=Wr:=⟨_,rfl⟩
 have hwr:=rQ w Wr _ _ _ _ _ _ _ _ _ _ hWr;rw [hWr];clear hWr;obtain ⟨hsr,hbelr,h37,hat,hbo,hba,hbe⟩:=hwr;have hspre:=λ pre hp=>kK (l:=l) (l.length-(n+1)) (n+1) pre (Nat.le_refl _) hp hlt
 refine (wpIn_wide (n:=3)).1 ?_;refine tP rfl (by omega) (gf:=207) (lb:=#[Zp (some ⟨w.heap.size+3,0,none⟩),Zp (some ⟨w.heap.size+4,0,none⟩),Zp (some ⟨w.heap.size+2,0,none⟩)]) rfl trivial (enters_of Tryz.func207 (by kernel_rfl) rfl)
  (uB w (w.heap.size+3) (w.heap.size+4) (w.heap.size+2) (some ⟨b,o,none⟩) cap l (n+1) Wr HG.out hr hcap hlen hlt (by omega) (by omega) (by omega) (aO.of_below hbelr (λ _ h=>h)) hba hbe hbo) (Below.refl _ _) (λ _=>rfl)
  (λ A B k o hs hk ho _=>(hs.1.block k (Array.getElem?_eq_some_iff.1 ho).1 (by simp;omega)).trans ho)
  (λ h k=>h.trans k) (λ W k o o' hk _ _=>aO.putObj (N:=Wr.heap.size) (by intro j hj;omega) W k o' hk)
  (λ _ _ _ _ _ _ _ _ h=>h) (λ _ _ _ _ _ _ _ _ h=>h)
  (λ pre W => ∃ (v:Value) (q:Int),Blk W w.heap.size 67 #[v]/\BS W v (bG pre)/\Blk W (w.heap.size+1) 3 #[Zi Zq (et (n+1) pre)]/\Blk W (w.heap.size+3) 3 #[Zi Zq q]/\Below w.heap.size w W/\w.heap.size+5<=W.heap.size)
  (λ _ _ _=>False) ?hIS (λ _ _ _ _ _ h=>h) ?hIp (λ _ _ _ _ _ _ _ _ _ h=>h) ?h0
  (λ x=>{ tmps:=#[Zs (some ⟨b,o,none⟩) l.length cap,Zi Zq n,undef,undef,Zt ⟨#[]⟩,Zi Zq 0,Zi Zq 0,Zp (some ⟨w.heap.size,0,none⟩),Zp (some ⟨w.heap.size+1,0,none⟩),Zi Zq x.1,Zi Zq x.2,undef,undef,undef,undef,undef,.bool (decide ((n:Int)<0)),Zi Zq n,.bool (decide ((n:Int)<0)),.bool (decide ((n:Int)<0)),Zi Zq n,Zs (some ⟨b,o,none⟩) l.length cap,Zi Zq l.length,.bool false,.bool (decide ((n:Int)<0)),.bool false,Zi Zq n,Zs (some ⟨b,o,none⟩) l.length cap,Zi Zq l.length,.bool false,undef,.bool false,Zs (some ⟨b,o,none⟩) l.length cap,Zi Zq n,Zp (some ⟨b,o+n,none⟩),Zi .u8 34,.bool false,undef,Zi Zq n,Zi Zq ((n:Int)+1),Zs (some ⟨b,o,none⟩) l.length cap,.agg #[Zs (some ⟨b,o,none⟩) l.length cap],.func (.func 194) #[.agg #[Zs (some ⟨b,o,none⟩) l.length cap]] #[],Zi Zq ((n:Int)+1),Zs (some ⟨b,o,none⟩) l.length cap,Zi Zq l.length,.func (.func 207) #[] #[Zp (some ⟨w.heap.size+3,0,none⟩),Zp (some ⟨w.heap.size+4,0,none⟩),Zp (some ⟨w.heap.size+2,0,none⟩)],Zi Zq x.1,Zi Zq x.2,undef,undef,undef,undef,undef,undef,undef,undef,undef,undef,undef,undef,undef,undef,undef,undef,undef,undef,undef,undef,undef,undef,undef,undef,undef,undef,undef,undef,undef,undef,undef,undef,undef,undef],defers:=[] }) ?assign ?body ?done ?stop
 case hIS =>
  rintro s A B hs ⟨v,q,h1,h2,h3,h4,h5,h6⟩;obtain ⟨q',h4'⟩:=hs.2 q h4;refine ⟨v,q',h1.grown hs.1 (by simp),?_,h3.grown hs.1 (by simp),h4',h5.trans ⟨hs.1.os,hs.1.tape,hs.1.output,hs.1.size,λ k hk=>hs.1.block k (by have:=h5.size;omega) (by simp;omega)⟩,Nat.le_trans h6 hs.1.size⟩;exact BS.grown1 h2 h4 vg hs.1
 case hIp =>
  rintro s W k o o' hk ho hc ⟨v,q,h1,h2,h3,h4,h5,h6⟩;exact ⟨v,q,h1.putObj o' ho hc,h2.putObj o' ho hc,h3.putObj o' ho hc,h4.putObj o' ho hc,bB h5 k o' (by omega),by simpa [World.putObj] using h6⟩
 case h0 =>
  intro o o';exact ⟨_,_,(h37.alloc o).alloc o',by simpa [bG] using BS.nil,by simpa [et] using (hat.alloc o).alloc o',(hba.alloc o).alloc o',(hbelr.alloc hbelr.size o).alloc (by have:=hbelr.size;simp;omega) o',by simp;omega⟩
 case assign =>
  intro k x W K hK;gi_wp2;exact hK
 case body =>
  rintro k pre x W ⟨v,q,h1,h2,h3,h4,h5,h6⟩ hadm;obtain ⟨g1,g2,g3,_⟩:=hspre _ hadm;obtain ⟨p,m,rfl,hp⟩:=g1 _ (List.mem_append_right _ (List.mem_singleton.2 rfl));rw [mL,mK] at g2;rw [mL] at g3;simp only [Int.toNat_natCast,List.length_append] at g2 g3;obtain ⟨A',cap',rfl,hc',hr'⟩:=h2;have HP:=aW (zm A' cap' (bG pre) p W hr' (by omega) hp);have c1:=h1.cell 0;gi_wp2;refine ⟨trivial,CallsIn.mono (CallsIn.inRound k (callsIn_wide.2 HP.out)) ?_⟩;rintro e w1 ⟨v',rfl,hbs,hb1⟩;have k1:=h1.keep hb1;have k3:=h3.keep hb1;have k4:=h4.keep hb1;have f1:=k1.frozen 0;have f3:=k3.frozen 0;have e1:=k1.cell 0;have e3:=k3.cell 0;obtain ⟨A2,cap2,rfl,hc2,hr2⟩:=hbs;have hbs:BS w1 (.slice A2 (bG pre++ag p).length cap2) (bG pre++ag p):=⟨A2,cap2,rfl,hc2,hr2⟩
  have hbs2:=(hbs.setBlk k1 Bh 0 (.slice A2 (bG pre++ag p).length cap2))
  have k1':=k1.set_ 0 (.slice A2 (bG pre++ag p).length cap2);have k3':=k3.far (p:=⟨w.heap.size,0,none⟩) (by simp) (.slice A2 (bG pre++ag p).length cap2);have k4':=k4.far (p:=⟨w.heap.size,0,none⟩) (by simp) (.slice A2 (bG pre++ag p).length cap2);have hbs3:=hbs2.setBlk k3' vg 0 (Zi Zq m);have k1'':=k1'.far (p:=⟨w.heap.size+1,0,none⟩) (by simp) (Zi Zq m);have k3'':=k3'.set_ 0 (Zi Zq m);have k4'':=k4'.far (p:=⟨w.heap.size+1,0,none⟩) (by simp) (Zi Zq m);have hkf:=bR (bR (KeepsFrom.below_ (B:=Wr.heap.size) hb1) k1 0 (.slice A2 (bG pre++ag p).length cap2)) k3' 0 (Zi Zq m);have hsz:=hb1.size;have hB3:Below w.heap.size w ((w1.setCell ⟨w.heap.size,0,none⟩ (.slice A2 (bG pre++ag p).length cap2)).setCell ⟨w.heap.size+1,0,none⟩ (Zi Zq m)) :=
   ((h5.trans (hb1.mono h5.size)).setCell (p:=⟨w.heap.size,0,none⟩) (by simp) _).setCell (p:=⟨w.heap.size+1,0,none⟩) (by simp) _
  have hkp:KpS w.heap.size (w.heap.size+3) (w.heap.size+4) (w.heap.size+2) W ((w1.setCell ⟨w.heap.size,0,none⟩ (.slice A2 (bG pre++ag p).length cap2)).setCell ⟨w.heap.size+1,0,none⟩ (Zi Zq m)) :=
   ⟨by simpa [World.setCell] using hsz,λ j hj=>by
    have hj2:j<W.heap.size:=by have:=h5.size;omega
    rw [Below.heap_setCell _ ⟨w.heap.size+1,0,none⟩ _ j (by simp;omega),Below.heap_setCell _ ⟨w.heap.size,0,none⟩ _ j (by simp;omega)];exact hb1.block j hj2⟩
  have hlen2:(bG pre++ag p).length=(bG pre).length+(ag p).length:=List.length_append;rw [hlen2] at hkf hkp hbs3 k1'' k3'' k4'' hB3;have HF:=aW (And.intro hkf (And.intro hkp (And.intro hbs3 (And.intro k1'' (And.intro k3'' (And.intro k4'' hB3))))));clear hkf hkp hbs3 k1'' k3'' k4'' hB3 hbs2 k1' k3' k4' hbs hr2 hr';gi_wp2;obtain ⟨hkf,hkp,hbs3,k1'',k3'',k4'',hB3⟩:=HF.out;exact ⟨hkf,hkp,_,q,k1'',by rw [mK,Int.toNat_natCast];exact hbs3,by rw [mL,Int.toNat_natCast];exact k3'',k4'',hB3,by simpa [World.setCell] using Nat.le_trans h6 hsz⟩
 case done =>
  rintro D xs W hD rfl ⟨v,q,h1,h2,h3,h4,h5,h6⟩ hK;obtain ⟨_,g2,g3,_⟩:=hspre _ (List.prefix_refl _);obtain ⟨m,hm⟩:∃ m,et (n+1) (aR l (n+1))=m:=⟨_,rfl⟩
  obtain ⟨xs,hxs⟩:∃ xs,aR l (n+1)=xs:=⟨_,rfl⟩
  have hspec:dE l n=if l[m]? = some 34 then (bG xs,(m:Int)+1,0) else ([],(m:Int),(j0 l (m:Nat)).2.2):=by
   unfold dE;rw [if_neg (by omega),if_neg (by omega),Int.toNat_natCast,if_neg (by rw [HN.out];simp),hm,hxs]
  rw [hm] at g2 g3 h3;rw [hxs] at h2;have HS:=aW hspec;clear hspec;have hconv:=λ j=>(h2.drewN j).conv
  obtain ⟨A2,cap2,rfl,hc2,hr2⟩:=h2;have c1:=h1.cell 0;have c3:=h3.cell 0;have hWb:∀ i c,l[i]? = some c->W.cell? ⟨b,o+i,none⟩=some (Zi .u8 c.toNat):=λ i c hi=>(h5.cell (p:=⟨b,o+i,none⟩) hb).trans (HX.out i c hi)
  by_cases h34:l[m]? = some 34
  ·have HS2:=aW (HS.out.trans (if_pos h34));have hcm:W.cell? ⟨b,o+m,none⟩=some (Zi .u8 34):=hWb m 34 h34;have hml:m<l.length:=(List.getElem?_eq_some_iff.1 h34).1;clear hWb hm hxs h34;go_wp2;go_quiet (fail);go_wp2;rw [Exit.noGoto_ret];refine ⟨by simp,.inl ⟨_,_,rfl,run_takeDeferred hK,?_⟩⟩;refine ⟨.tuple #[Zt ⟨(bG xs).toArray⟩,Zi Zq ((m:Int)+1),Zi Zq 0],by simp only [results,Tryz.results169];go_simp,?_⟩;rw [HS2.out];exact ⟨rfl,bB (ai h5 _) D _ (by have:=hbelr.size;omega)⟩
  ·have HS2:=aW (HS.out.trans (if_neg h34));have hsig:=ve (some ⟨b,o,none⟩) cap l (m:Nat) W (HG.out.below h5 HG.out.lt) (hr.below h5) hcap hlen;obtain ⟨⟨z1,z2,z3⟩,hz⟩:∃ z,j0 l (m:Nat)=z:=⟨_,rfl⟩
   rw [hz] at hsig;have HZ:=aW hz;have HSG:=aW hsig;clear hsig hz;by_cases hml:m<l.length
   ·obtain ⟨c,hc⟩:∃ c,l[m]? = some c:=⟨_,List.getElem?_eq_getElem hml⟩
    have hcm:=hWb m c hc;have hne:((c.toNat:Int) == 34)=false:=by
     have:c.toNat≠34:=λ e=>h34 (by rw [hc];exact congrArg some (UInt8.toNat_inj.1 (by simpa using e)))
     simp;omega
    clear hWb hm hxs h34 hc;go_wp2_with (go_at_call 196;refine HSG.out.mono ?_;rintro e w1 ⟨rfl,hb1⟩;have c1':=(h1.keep hb1).cell 0;have c3':=(h3.keep hb1).cell 0);go_quiet (fail);go_wp2;rw [Exit.noGoto_ret];have hK1:w1.heap[D]? = some (.deferred (some [])):=(hb1.block D (Array.getElem?_eq_some_iff.1 hK).1).trans hK;refine ⟨by simp,.inl ⟨_,_,rfl,run_takeDeferred hK1,?_⟩⟩;refine ⟨.tuple #[Zt ⟨#[]⟩,Zi Zq (m:Int),Zi Zq z3],by simp only [results,Tryz.results169];go_simp,?_⟩;rw [HS2.out,HZ.out];exact ⟨rfl,bB (ai (h5.trans (hb1.mono h5.size)) _) D _ (by have:=hbelr.size;omega)⟩
   ·obtain rfl:m=l.length:=by omega
    clear hWb hm hxs h34 hml;go_wp2_with (go_at_call 196;refine HSG.out.mono ?_;rintro e w1 ⟨rfl,hb1⟩;have c1':=(h1.keep hb1).cell 0;have c3':=(h3.keep hb1).cell 0);go_quiet (fail);go_wp2;rw [Exit.noGoto_ret];have hK1:w1.heap[D]? = some (.deferred (some [])):=(hb1.block D (Array.getElem?_eq_some_iff.1 hK).1).trans hK;refine ⟨by simp,.inl ⟨_,_,rfl,run_takeDeferred hK1,?_⟩⟩;refine ⟨.tuple #[Zt ⟨#[]⟩,Zi Zq (l.length:Int),Zi Zq z3],by simp only [results,Tryz.results169];go_simp,?_⟩;rw [HS2.out,HZ.out];exact ⟨rfl,bB (ai (h5.trans (hb1.mono h5.size)) _) D _ (by have:=hbelr.size;omega)⟩
 case stop =>
  rintro D c pre W _ _ h _;exact h.elim
/-- THE CONTRACT OF quote.Read -/
theorem ux (v:Value) (l:List UInt8) (a:Int) (w:World) (hG:GOK w) (hv:BS w v l) (hlen:l.length<=4194304) :
  Calls Tryz.prog 169 #[v,Zi Zq a] w (yS (dE l a) w):=by
 obtain ⟨A,cap,rfl,hcap,hr⟩:=hv;by_cases h0:a<0
 ·have HS:=aW (show dE l a=([],0,2) by rw [dE,if_pos (.inl h0)]);go_enter Tryz.func169,Tryz.ntmps169;go_wp2;go_step3;go_wp2;rw [Exit.noGoto_ret];go_returns;rw [HS.out];exact ⟨rfl,by go_grown⟩
 ·obtain ⟨n,rfl⟩:∃ n:Nat,a=n:=⟨a.toNat,by omega⟩
  clear h0;by_cases h1:(l.length:Int)<(n:Int)
  ·have HS:=aW (show dE l n=([],0,2) by rw [dE,if_pos (.inr h1)]);go_enter Tryz.func169,Tryz.ntmps169;go_wp2;go_step3;go_wp2;rw [Exit.noGoto_ret];go_returns;rw [HS.out];exact ⟨rfl,by go_grown⟩
  ·by_cases h2:n=l.length
   ·have HS:=aW (show dE l n=([],(n:Int),6) by rw [dE,if_neg (by omega),if_pos (by omega)]);subst h2;go_enter Tryz.func169,Tryz.ntmps169;go_wp2;go_step3;go_wp2;rw [Exit.noGoto_ret];go_returns;rw [HS.out];exact ⟨rfl,by go_grown⟩
   ·have hlt:n<l.length:=by omega
    obtain ⟨b,o,rfl,hb,hx⟩:=hr (by intro e;have h3:=aB l;rw [e,List.length_nil] at h3;omega);have hby:∀ i c,l[i]? = some c->w.cell? ⟨b,o+i,none⟩=some (Zi .u8 c.toNat):=λ i c hi=>by
     obtain ⟨hlt,e⟩:=List.getElem?_eq_some_iff.1 hi;rw [hx i (by rw [aB];exact hlt)];simp [am,e]
    obtain ⟨c,hc⟩:∃ c,l[n]? = some c:=⟨_,List.getElem?_eq_getElem hlt⟩
    by_cases h34:c=34
    ·subst h34;exact wO b o cap l n w hG hr hcap hlen hc hb hby
    ·have hne:((c.toNat:Int) != 34)=true:=by
      have:c.toNat≠34:=λ e=>h34 (UInt8.toNat_inj.1 (by simpa using e))
      simp;omega
     have HS:=aW (show dE l n=([],(n:Int),7) by rw [dE,if_neg (by omega),if_neg (by omega),Int.toNat_natCast,if_pos (by rw [hc];simpa using h34)]);have hcm:=hby n c hc;clear hby hx hc h34;go_enter Tryz.func169,Tryz.ntmps169;go_wp2;go_step3;go_wp2;rw [Exit.noGoto_ret];go_returns;rw [HS.out];exact ⟨rfl,by go_grown⟩
end
section
inductive JV where
 | mk:Int->Int->List UInt8->List JV->List (List UInt8)->JV
def JV.kind:JV->Int | .mk k _ _ _ _=>k
def JV.num:JV->Int | .mk _ n _ _ _=>n
def JV.txt:JV->List UInt8 | .mk _ _ s _ _=>s
def JV.kids:JV->List JV | .mk _ _ _ l _=>l
def JV.keys:JV->List (List UInt8) | .mk _ _ _ _ k=>k
def cn:JV:=.mk 0 0 [] [] []
def ltB (a b:List UInt8):Bool:=Op.bytesLess a b
abbrev Bw:=List (JV × List UInt8)
inductive va where
 | fail:Int->Int->va
 | done:Nat->JV->va
 | go:Nat->Nat->Nat->Bw->va
end
section
open Go.RowKit
attribute [local go_sem] aa ac ae ab
theorem BS.lit (w:World) (l:List UInt8) (cs:Array Value) (h:cs=(am l).toArray) (n:Nat) (hn:n=l.length):BS (w.alloc (.cells cs 5)) (.slice (some ⟨w.heap.size,0,none⟩) n n) l:=by
 subst h hn;refine ⟨_,_,rfl,Nat.le_refl _,?_⟩;have:=Rd.of_blk (Blk.new w 5 (am l).toArray);simpa using this
theorem BS.at_ {w:World} {b o n cap:Nat} {l:List UInt8} (h:Rd w (some ⟨b,o,none⟩) (am l)) {k:Nat} {c:UInt8} (hc:l[k]? = some c):w.cell? ⟨b,o+k,none⟩=some (.int .u8 c.toNat):=by
 obtain ⟨hlt,e⟩:=List.getElem?_eq_some_iff.1 hc;obtain ⟨b',o',e2,_,hx⟩:=h (by intro e;have h3:=aB l;rw [e,List.length_nil] at h3;omega);obtain ⟨rfl,rfl⟩:b=b'/\o=o':=by simpa using e2
 rw [hx k (by rw [aB];exact hlt)];simp [am,e]
theorem Rd.some_ {w:World} {A:Option Addr} {l:List UInt8} (h:Rd w A (am l)) (hl:0<l.length):∃ b o,A=some ⟨b,o,none⟩/\b<w.heap.size:=by
 obtain ⟨b,o,e,hb,_⟩:=h (by intro e;have h3:=aB l;rw [e,List.length_nil] at h3;omega);exact ⟨b,o,e,hb⟩
theorem jy (q:Nat) (w:World):Calls Tryz.prog 122 #[Zi .u8 q] w λ e w'=>e=.returned (.bool (decide (97<=q/\q<=122)))/\w=w':=by
 go_enter Tryz.func122,Tryz.ntmps122;go_wp2
 all_goals
  go_ret;exact ⟨av (by rw [Bool.eq_iff_iff];simp;try omega),rfl⟩
theorem ko (q:Nat) (w:World):Calls Tryz.prog 123 #[Zi .u8 q] w λ e w'=>e=.returned (.bool (decide (48<=q/\q<=57)))/\w=w':=by
 go_enter Tryz.func123,Tryz.ntmps123;go_wp2
 all_goals
  go_ret;exact ⟨av (by rw [Bool.eq_iff_iff];simp;try omega),rfl⟩
theorem wh (q:Nat) (w:World):Calls Tryz.prog 130 #[Zi .u8 q] w λ e w'=>e=.returned (.bool (decide (q=34)))/\w=w':=by
 go_enter Tryz.func130,Tryz.ntmps130;go_wp2;go_ret;exact ⟨av (by rw [Bool.eq_iff_iff];simp;omega),rfl⟩
theorem t6 (q:Nat) (w:World):Calls Tryz.prog 132 #[Zi .u8 q] w λ e w'=>e=.returned (.bool true)/\w=w':=by
 go_enter Tryz.func132,Tryz.ntmps132;go_wp2;go_ret;exact ⟨rfl,rfl⟩
theorem uF {a b:ByteArray} (h:(a.toList == b.toList)=true):a=b:=by
 have:a.toList=b.toList:=by simpa using h
 rw [ByteArray.toList_eq,ByteArray.toList_eq] at this;exact yC this
theorem uG {a b:ByteArray} (h:(a.toList == b.toList)=false):a≠b:=by rintro rfl;simp at h
def cR:List (List UInt8):=[[101,109,105,116],[105,102],[101,108,115,101],[102,111,114],[105,110],[111,114],[97,110,100],[110,111,116],[115,105,122,101],[107,105,110,100],[116,114,117,101],[102,97,108,115,101],[110,117,108,108]]
def xx:Value:=.agg (cR.map λ l=>Value.string ⟨l.toArray⟩).toArray
theorem uR (w:World):Calls Tryz.prog 163 #[] w λ e w'=>e=.returned xx/\Below w.heap.size w w':=by
 go_enter Tryz.func163,Tryz.ntmps163;go_wp2;go_returns;exact ⟨rfl,by go_grown⟩
theorem xy (k:Nat) (h:k<13) (w:World):(Instr.index 195 xx (Zi Zq (k:Int))).run Tryz.prog w=.ok (Zt ⟨(cR.getD k []).toArray⟩) w:=by
 rcases (by omega:k=0∨k=1∨k=2∨k=3∨k=4∨k=5∨k=6∨k=7∨k=8∨k=9∨k=10∨k=11∨k=12) with rfl | rfl | rfl | rfl | rfl | rfl | rfl | rfl | rfl | rfl | rfl | rfl | rfl<;>kernel_rfl
def ey (l:List UInt8):Bool:=decide (l ∈ cR)
theorem lK (s:ByteArray) (w:World):Calls Tryz.prog 124 #[Zt s] w λ e w'=>e=.returned (.bool (ey (sl s)))/\Below w.heap.size w w':=by
 go_enter Tryz.func124,Tryz.ntmps124;go_wp2_with (go_at_call 163;refine (uR _).mono ?_;rintro e w1 ⟨rfl,hb⟩);go_loopw [4,6] (λ _ i wr => ∃ k:Nat,k<=13/\i=Zi Zq k/\wr=w1/\∀ j,j<k->cR.getD j []≠sl s) (λ _ i _=>13-(intOf i).toNat)
 case atStart=>exact ⟨0,by omega,rfl,rfl,by intro j hj;omega⟩
 case round =>
  obtain ⟨k,hk,rfl,rfl,hno⟩:=hrel;have HN:=aW hno;clear hno;by_cases h13:k<13
  ·have hix:=xy k h13 wr;obtain ⟨x,hx⟩:∃ x:ByteArray,⟨(cR.getD k []).toArray⟩=x:=⟨_,rfl⟩
   rw [hx] at hix;have HX:=aW hx;clear hx;go_wp2
   ·have hq:x=s:=uF ‹(x.toList == s.toList)=true›;go_ret;refine ⟨av ?_,hb⟩;have:sl s ∈ cR:=by
     rw [← hq,← HX.out,oq,List.getD_eq_getElem?_getD,List.getElem?_eq_getElem (show k<cR.length from h13)];exact List.getElem_mem _
    simp [ey,this]
   ·have hq:x≠s:=uG ‹(x.toList == s.toList)=false›;go_roundw
    case rel =>
     refine ⟨k+1,by omega,by go_num,trivial,?_⟩;intro j hj;by_cases hjk:j=k
     ·rw [hjk];intro e;exact hq (by rw [← HX.out,e])
     ·exact HN.out j (by omega)
    case measure=>simp [intOf];omega
  ·obtain rfl:k=13:=by omega
   go_wp2;go_ret;refine ⟨av ?_,hb⟩;have:sl s ∉ cR:=λ hm=>by
    obtain ⟨j,hj,e⟩:=List.getElem_of_mem hm;exact HN.out j hj (by rw [List.getD_eq_getElem?_getD,List.getElem?_eq_getElem hj];exact e)
   simp [ey,this]
end
section
open Go.RowKit
end
section
open Go.RowKit
attribute [local go_sem] aa ac ae ab
end
end Go.Proofs.YtgmnmnnoahdjnaaGreatDoor
