import Derived.Test.YtgmnmnnoahdjnaaGreatDoorC27
import Derived.Test.YtgmnmnnoahdjnaaGreatDoorC25
import Derived.Test.YtgmnmnnoahdjnaaGreatDoorC26
open Go.Value renaming int → Zi, slice → Zs, string → Zt, pointer → Zp
open Go.IntKind renaming i64 → Zq
set_option maxRecDepth 100000
set_option maxHeartbeats 16000000
set_option linter.unusedVariables false
set_option linter.unusedSimpArgs false
namespace Go.Proofs.YtgmnmnnoahdjnaaGreatDoor
section
open Go.RowKit Go.Shelf
attribute [local go_sem] aa ac ae ab Oper.semAt_some
def fb:Fence:={ fn:=λ f=>f<Tryz.prog.funcs.size,depth:=none,alive:=false }
theorem aI {f:FuncId} (h:decide (f<Tryz.prog.funcs.size)=true):fb.fn f:=show f<Tryz.prog.funcs.size from of_decide_eq_true h
theorem ew:fb.round=none:=rfl
theorem ev:fb.depth=none:=rfl
attribute [local go_sem] ew ev
theorem vD:∀ f,fb.fn f->∃ fn,Tryz.prog.funcs[f]? = some fn:=λ f h=>⟨_,Array.getElem?_eq_getElem h⟩
theorem d9 {n m:Nat} {f:FuncId} {args:Array Value} {w:World} {R:Ending->World->Prop} (h:CallsIn fb n Tryz.prog f args w R):CallsIn fb m Tryz.prog f args w R:=⟨h.1,λ cs _=>h.2 cs (λ d hd=>by cases hd)⟩
theorem sU (s:ByteArray) (w:World) (a b:Bool) (ha:(s.toList == [100,111,99])=a) (hb:(s.toList == [105,100])=b):CallsIn fb 1 Tryz.prog 59 #[Zt s] w λ e w'=>e=.returned (.bool (a || b))/\w'=w:=by
 refine callsIn_of_wp Tryz.func59 rfl (aI (by kernel_rfl)) ?_ rfl;simp only [Tryz.ntmps59,List.size_toArray,List.length_cons,List.length_nil,Nat.reduceAdd,Nat.reduceSub,Array.replicate_succ,Array.replicate_zero,List.push_toArray,List.append_toArray,List.nil_append,List.cons_append];cases a
 all_goals
  gi_wp2;go_ret;exact ⟨by simp,rfl⟩
theorem xO (l:List (List UInt8)) (t:List UInt8) (A:Option Addr) (n ca:Nat) (w:World) (hl:l.length=n) (hn:n<=4194304) (hR:Rd w A (bY l)) :
  CallsIn fb 1 Tryz.prog 72 #[Zs A n ca,Zt ⟨t.toArray⟩] w λ e w' => ∃ i:Int,e=.returned (Zi Zq i)/\w'=w/\(0<=i ↔ t ∈ l):=by
 have HR:=aW hR;have HL:=aW hl;clear hR hl;refine callsIn_of_wp Tryz.func72 rfl (aI (by kernel_rfl)) ?_ rfl;simp only [Tryz.ntmps72,List.size_toArray,List.length_cons,List.length_nil,Nat.reduceAdd,Nat.reduceSub,Array.replicate_succ,Array.replicate_zero,List.push_toArray,List.append_toArray,List.nil_append,List.cons_append];gi_wp2
 gi_loopg [8] n (λ gk s8 wr => ∃ i:Nat,i<=n/\gk=n-i/\s8=Zi Zq (i:Int)/\wr=w/\Hid (∀ j s,j<i->l[j]? = some s->s≠t))
 case atStart=>exact ⟨0,Nat.zero_le _,rfl,by go_num,rfl,aW (λ j s h=>by omega)⟩
 case round =>
  obtain ⟨i,hi,hgk,rfl,rfl,HNO⟩:=hrel;have HG:=aW hgk;clear hgk;by_cases hlt:i<n
  ·obtain ⟨s,hs⟩:∃ s,l[i]? = some s:=⟨_,List.getElem?_eq_getElem (by rw [HL.out];exact hlt)⟩
   obtain ⟨b,o,rfl,hb,hz⟩:=HR.out (by intro e;have:=congrArg List.length e;rw [di,HL.out] at this;simp at this;omega);have hz9:=hz i (by rw [di,HL.out];exact hlt);have x0:wr.cell? ⟨b,o+i,none⟩=some (Zt ⟨s.toArray⟩):=by
    rw [hz9];have hs9:=(List.getElem?_eq_some_iff.1 hs).2;simp [bY,hs9]
   have HS:=aW hs;obtain ⟨c,hc⟩:∃ c,(t == s)=c:=⟨_,rfl⟩
   have HC:=aW (show c=true ↔ t=s by rw [← hc];simp);clear hz hz9 hs;cases c
   ·have hne:s≠t:=λ e=>by have:=HC.out.2 e.symm;cases this
    gi_wp2
    gi_roundg (n-(i+1))
    case measure=>rw [HG.out];omega
    case rel =>
     refine ⟨i+1,hlt,rfl,by go_num,rfl,aW λ j s' hj hs'=>?_⟩;rcases Nat.lt_or_ge j i with h | h
     ·exact HNO.out j s' h hs'
     ·obtain rfl:j=i:=by omega
      rw [HS.out] at hs';injection hs' with hs'
      rw [← hs'];exact hne
   ·gi_wp2;go_ret;exact ⟨(i:Int),rfl,rfl,λ _=>(HC.out.1 trivial) ▸ List.mem_of_getElem? HS.out,λ _=>by omega⟩
  ·obtain rfl:i=n:=by omega
   gi_wp2;go_ret;refine ⟨-1,rfl,rfl,λ h=>by omega,λ h=>?_⟩;obtain ⟨j,hj⟩:=List.getElem?_of_mem h;have hj9:=(List.getElem?_eq_some_iff.1 hj).1;exact absurd rfl (HNO.out j t (by rw [← HL.out];exact hj9) hj)
theorem vr (l:List (List UInt8)) (t:List UInt8) (A:Option Addr) (n ca:Nat) (w:World) (hl:l.length=n) (hn:n<=4194304) (hR:Rd w A (bY l)) (c:Bool) (hc:c=true ↔ t ∈ l) :
  CallsIn fb 2 Tryz.prog 41 #[Zs A n ca,Zt ⟨t.toArray⟩] w λ e w'=>e=.returned (.bool c)/\w'=w:=by
 have HI:=aW (xO l t A n ca w hl hn hR);clear hR hl;refine callsIn_of_wp Tryz.func41 rfl (aI (by kernel_rfl)) ?_ rfl;simp only [Tryz.ntmps41,List.size_toArray,List.length_cons,List.length_nil,Nat.reduceAdd,Nat.reduceSub,Array.replicate_succ,Array.replicate_zero,List.push_toArray,List.append_toArray,List.nil_append,List.cons_append];gi_wp2;refine ⟨aI (by kernel_rfl),HI.out.mono ?_⟩;rintro e w' ⟨i,rfl,rfl,hi⟩;have hd:decide (0<=i)=c:=by
  rw [Bool.eq_iff_iff,decide_eq_true_eq];exact hi.trans hc.symm
 clear hi hc;gi_wp2;go_ret;exact ⟨rfl,rfl⟩
theorem Aj (u:List UInt8):(⟨u.toArray⟩:ByteArray).toList=u:=by
 rw [ByteArray.toList_eq]
theorem je (t u:List UInt8):((⟨t.toArray⟩:ByteArray).toList == u)=(t == u):=by
 have h:=eH (a:=t) (b:=u);rw [show (⟨u.toArray⟩:ByteArray).toList=u from Aj u] at h;rw [h,Bool.eq_iff_iff];simp
def CkP (o:Option Int) (w:World) (e:Ending) (w':World):Prop:=w'=w/\e=(match o with | none=>.returned (.tuple #[]) | some x=>.panicked [{ v:=.iface 90 (Zi Zq x),recovered:=false }])
/-- a name that stands for nothing -/
theorem zt (m:Nat) (l:List (List UInt8)) (t:List UInt8) (A:Option Addr) (n ca:Nat) (w:World) (hl:l.length=n) (hn:n<=4194304) (hR:Rd w A (bY l)) :
  CallsIn fb m Tryz.prog 58 #[Zt ⟨t.toArray⟩,Zs A n ca] w (CkP (if giv t=true∨t ∈ l then none else some 340) w):=by
 obtain ⟨a,ha⟩:∃ a,(t == [100,111,99])=a:=⟨_,rfl⟩
 obtain ⟨b,hb⟩:∃ b,(t == [105,100])=b:=⟨_,rfl⟩
 obtain ⟨c,hc⟩:∃ c:Bool,c=true ↔ t ∈ l:=by
  by_cases h:t ∈ l
  ·exact ⟨true,by simp [h]⟩
  ·exact ⟨false,by simp [h]⟩
 have HGV:=aW (d9 (m:=m-1) (sU ⟨t.toArray⟩ w a b (by rw [je t [100,111,99]];exact ha) (by rw [je t [105,100]];exact hb)));have HH:=aW (d9 (m:=m-1) (vr l t A n ca w hl hn hR c hc));have hgv:giv t=(a || b):=by unfold giv;rw [ha,hb]
 have hif:(if giv t=true∨t ∈ l then none else some (340:Int))=(if (a || b)=true∨c=true then none else some 340):=by simp only [hgv,hc]
 rw [hif];clear hif hgv hc ha hb hR hl;obtain ⟨gv,hgv⟩:∃ z,(a || b)=z:=⟨_,rfl⟩
 rw [hgv] at HGV ⊢;clear hgv;refine callsIn_of_wp Tryz.func58 rfl (aI (by kernel_rfl)) ?_ rfl;simp only [Tryz.ntmps58,List.size_toArray,List.length_cons,List.length_nil,Nat.reduceAdd,Nat.reduceSub,Array.replicate_succ,Array.replicate_zero,List.push_toArray,List.append_toArray,List.nil_append,List.cons_append];cases gv
 ·cases c
  ·rw [if_neg (by simp)];gi_wp2;refine ⟨aI (by kernel_rfl),HGV.out.mono ?_⟩;rintro e w2 ⟨rfl,rfl⟩;gi_wp2;refine ⟨aI (by kernel_rfl),HH.out.mono ?_⟩;rintro e w3 ⟨rfl,rfl⟩;gi_wp2;exact ⟨rfl,rfl,rfl⟩
  ·rw [if_pos (by simp)];gi_wp2;refine ⟨aI (by kernel_rfl),HGV.out.mono ?_⟩;rintro e w2 ⟨rfl,rfl⟩;gi_wp2;refine ⟨aI (by kernel_rfl),HH.out.mono ?_⟩;rintro e w3 ⟨rfl,rfl⟩;gi_wp2;go_end0;exact ⟨rfl,rfl⟩
 ·rw [if_pos (by simp)];gi_wp2;refine ⟨aI (by kernel_rfl),HGV.out.mono ?_⟩;rintro e w2 ⟨rfl,rfl⟩;gi_wp2;refine ⟨aI (by kernel_rfl),?_⟩;gi_wp2;go_end0;exact ⟨rfl,rfl⟩
end
section
open Go.RowKit Go.Shelf
attribute [local go_sem] aa ac ae ab Oper.semAt_some
attribute [local go_sem] ew ev
section
variable {F:Fence} {n:Nat} {P:Program} {b:Frame} {a:Act} {k:List Item} {cs:List Frame} {w:World} {Q:Exit->Act->World->Prop}
theorem dW {c:Code}:step P (lone (b.atR a (.code (.scope c)::k)) cs w)=.next (lone (b.atR a (.code c::.inScope c::k)) cs w) :=
 step_lone_go (by simp [stepG,stepG.exec,Frame.atR])
theorem nv {c:Code}:step P (lone (b.atR a (.inScope c::k)) cs w)=.next (lone (b.atR a k) cs w) :=
 step_lone_go (by simp [stepG,stepG.exec,Frame.atR])
theorem sP {c:Code} (h:c.wpIn F n P (Exit.noGoto Q) a w):(Code.scope c).wpIn F n P Q a w:=by
 intro b k cs hro hb hr;have h0:(lone (b.atR a (.code (.scope c)::k)) cs w).fenced P F:=fenced_calm hb hr rfl;obtain ⟨e,a₁,w₁,hq,harr⟩:=h b (.inScope c::k) cs hro hb hr;cases e with
 | normal=>exact ⟨.normal,a₁,w₁,hq,.head h0 dW (StepsIn.trans harr (.one (fenced_calm hb hr rfl) nv))⟩
 |exit id =>
  have hx:exitTo id (.inScope c::k)=exitTo id k:=by simp [exitTo]
  exact ⟨_,a₁,w₁,hq,λ k' hk=>.head h0 dW (harr.1 k' (by rw [hx];exact hk)),
   λ hr' hk=>let ⟨k₁,h1,h2⟩:=harr.2 hr' (by rw [hx];exact hk);⟨k₁,h1,.head h0 dW h2⟩⟩
 | goto l=>exact hq.elim
 | ret=>exact ⟨_,a₁,w₁,hq,.of_steps (.one h0 dW) harr⟩
 | panic ch=>exact ⟨_,a₁,w₁,hq,.of_steps (.one h0 dW) harr⟩
 | outgrown=>exact ⟨_,a₁,w₁,hq,.of_steps (.one h0 dW) harr⟩
end
theorem vW {a:Nat}:∀ {l:List Nat},a ∈ l->a<=l.sum
 |x::r,h=>by
  rw [List.sum_cons];rcases List.mem_cons.1 h with rfl | h
  ·omega
  ·have:=vW h;omega
theorem xh {k:Int} {v:JV} {s:List UInt8} {kids:List EJ} {i:Nat} {x:EJ} (h:kids[i]? = some x):bZ x<bZ (.mk k v s kids):=by
 have h1:bZ x<=bM kids:=by
  rw [kM];exact vW (List.mem_map_of_mem (List.mem_of_getElem? h))
 rw [bZ];omega
theorem re:∀ x:EJ,1<=bZ x | .mk _ _ _ _=>by rw [bZ];omega
theorem ox:∀ l:List EJ,l.length<=bM l
 | []=>Nat.le_refl _
 |x::r=>by
  have h1:=re x;have h2:=ox r;rw [List.length_cons,bM];omega
def xZ (t:List UInt8):Array Value:=#[Zt ⟨t.toArray⟩]
def Ay (x0:EJ) (pre:List (List UInt8)) (t:List UInt8):Prop:=(pre++[t]) <+: cY x0
def YS (l:Nat) (ob:Option Nat) (N:Nat) (x0:EJ) (J Jx:List (List UInt8)->World->Prop) (Jp:List PanicEntry->World->Prop):Prop:=∀ pre t W1,J pre W1->Ay x0 pre t->YieldAt fb 1 Tryz.prog l (xZ t) W1 λ e W' =>
 (e=.returned (.bool true)/\J (pre++[t]) W'/\KpR ob N W1 W')∨(e=.returned (.bool false)/\Jx (pre++[t]) W'/\KpR ob N W1 W')∨(∃ ch,e=.panicked ch/\Jp ch W')
def AA (ob:Option Nat) (N:Nat) (J Jx:List (List UInt8)->World->Prop) (Jp:List PanicEntry->World->Prop) (x:EJ) (pre:List (List UInt8)) (W:World) (e:Ending) (W':World):Prop :=
 (e=.returned (.bool true)/\J (pre++cY x) W'/\KpR ob N W W')∨(e=.returned (.bool false)/\∃ ys,Jx ys W')∨(∃ ch,e=.panicked ch/\Jp ch W')
abbrev tc (ib yb:Nat):Value:=.func (.func 150) #[] #[Zp (some ⟨ib,0,none⟩),Zp (some ⟨yb,0,none⟩)]
theorem mr {W:World} {F:Nat->Prop} {css:List (List Value)} {xs:List EJ} {A:Option Addr} (h:ERs W F css xs) (hr:RdF W F A css.flatten) {i:Nat} {x:EJ} (hx:xs[i]? = some x) :
  ∃ (b o:Nat) (k k1 n1:Int) (s1:ByteArray) (A1:Option Addr) (na1 ca1:Nat) (B1:Option Addr) (nb1 cb1:Nat) (s:ByteArray) (A':Option Addr) (n' ca':Nat),A=some ⟨b,o,none⟩/\b<W.heap.size /\
   ER W F [Zi Zq k,Zi Zq k1,Zi Zq n1,Zt s1,Zs A1 na1 ca1,Zs B1 nb1 cb1,Zt s,Zs A' n' ca'] x /\
   ∀ W',ah F W W'->W'.cell? ⟨b,o+i*8,none⟩=some (Zi Zq k)/\W'.cell? ⟨b,o+i*8+1,none⟩=some (Zi Zq k1)/\W'.cell? ⟨b,o+i*8+2,none⟩=some (Zi Zq n1)/\W'.cell? ⟨b,o+i*8+3,none⟩=some (Zt s1) /\
    W'.cell? ⟨b,o+i*8+4,none⟩=some (Zs A1 na1 ca1)/\W'.cell? ⟨b,o+i*8+5,none⟩=some (Zs B1 nb1 cb1)/\W'.cell? ⟨b,o+i*8+6,none⟩=some (Zt s)/\W'.cell? ⟨b,o+i*8+7,none⟩=some (Zs A' n' ca'):=by
 obtain ⟨b,o,c,rfl,hb,hf,_,hv,hc⟩:=h.cell (λ c x h=>h.len) (by decide) hr hx;obtain ⟨k,k1,n1,s1,A1,na1,ca1,B1,nb1,cb1,s,A',n',ca',rfl⟩:=hv.form;refine ⟨b,o,k,k1,n1,s1,A1,na1,ca1,B1,nb1,cb1,s,A',n',ca',rfl,hb,hv,λ W' hW=>?_⟩;have z:=λ (j:Nat) u (hj:j<8) hu=>(World.cell?_of_block (w:=W) (a:=⟨b,o+(i*8+j),none⟩) (hW.2 b hf hb)).trans (hc j u hj hu)
 exact ⟨z 0 _ (by decide) rfl,z 1 _ (by decide) rfl,z 2 _ (by decide) rfl,z 3 _ (by decide) rfl,z 4 _ (by decide) rfl,z 5 _ (by decide) rfl,z 6 _ (by decide) rfl,z 7 _ (by decide) rfl⟩
theorem KpR.keepN {ob:Option Nat} {w0 W:World} (h:KpR ob w0.heap.size w0 W):ah (λ b=>¬ bh ob w0 b) w0 W:=h.keepF
theorem KpR.bel {ob:Option Nat} {N:Nat} {A B:World} (hob:∀ b,ob=some b->b<A.heap.size) (h:Below A.heap.size A B):KpR ob N A B:=.of_fro (.of_below hob h)
theorem vs (l:Nat) (ob:Option Nat) (w0:World) (x0:EJ) (J Jx:List (List UInt8)->World->Prop) (Jp:List PanicEntry->World->Prop) (yb ib:Nat) (hob:∀ b,ob=some b->b<w0.heap.size) (hO0:∀ k,bh ob w0 k->k<w0.heap.size) (hyb0:w0.heap.size<=yb) (hib0:w0.heap.size<=ib)
  (hJ:∀ s A B,Below A.heap.size A B->J s A->J s B) (hY:YS l ob w0.heap.size x0 J Jx Jp):∀ (M:Nat) (x:EJ),bZ x<=M->M<=4194304->∀ (pre rest:List (List UInt8)) (cs:List Value) (W:World),
  ER w0 (λ b=>¬ bh ob w0 b) cs x->KpR ob w0.heap.size w0 W->J pre W->Blk W yb 37 #[.func (.yield l) #[] #[]]->Blk W ib 105 #[tc ib yb]->¬ bh ob W yb->¬ bh ob W ib->cY x0=pre++(cY x++rest) ->
  CallsIn fb 2 Tryz.prog 150 #[.agg cs.toArray,Zp (some ⟨ib,0,none⟩),Zp (some ⟨yb,0,none⟩)] W (AA ob w0.heap.size J Jx Jp x pre W)
 | 0,x,h,_,_,_,_,_,_,_,_,_,_,_,_,_=>by have:=re x;omega
 |M+1,.mk k v s kids,hM,hM4,pre,rest,cs,W,hv,hK,hJ0,hyb,hib,hyo,hio,hfl=>by
  have ih:=vs l ob w0 x0 J Jx Jp yb ib hob hO0 hyb0 hib0 hJ hY M;obtain ⟨k1,n1,s1,A1,na1,ca1,B1,nb1,cb1,A,ca,css,rfl,hv1,h1,h2,h3,h4⟩:=hv.out;have HIH:=aW (λ (i:Nat) (x:EJ) (hx:kids[i]? = some x)=>mr h1 h4 hx);have hkl:=ox kids;have hkd:=λ (i:Nat) (x:EJ) (hx:kids[i]? = some x)=>xh (k:=k) (v:=v) (s:=s) hx
  have hfl2:cY x0=pre++(bI kids++((if k=2 then [s] else [])++rest)):=by rw [hfl,cY,List.append_assoc]
  have hnx:cY (.mk k v s kids)=bI kids++(if k=2 then [s] else []):=rfl;have hsz:kids.length<=4194304:=by rw [bZ] at hM;omega
  obtain ⟨nk,hnk⟩:∃ nk,kids.length=nk:=⟨_,rfl⟩
  rw [hnk] at h2 hkl hsz;rw [hnk];have hb1:=(Below.refl W.heap.size W).alloc (Nat.le_refl _) (.cells #[Zi Zq k,Zi Zq k1,Zi Zq n1,Zt s1,Zs A1 na1 ca1,Zs B1 nb1 cb1,Zt ⟨s.toArray⟩,Zs A nk ca] 45);have hobW:∀ b,ob=some b->b<W.heap.size:=λ b e=>Nat.lt_of_lt_of_le (hob b e) hK.size
  have hbk:=Blk.new W 45 #[Zi Zq k,Zi Zq k1,Zi Zq n1,Zt s1,Zs A1 na1 ca1,Zs B1 nb1 cb1,Zt ⟨s.toArray⟩,Zs A nk ca];obtain ⟨W1,hW1⟩:∃ W1,W.alloc (.cells #[Zi Zq k,Zi Zq k1,Zi Zq n1,Zt s1,Zs A1 na1 ca1,Zs B1 nb1 cb1,Zt ⟨s.toArray⟩,Zs A nk ca] 45)=W1:=⟨_,rfl⟩
  rw [hW1] at hb1 hbk;have hk1:KpR ob w0.heap.size W W1:=KpR.bel hobW hb1;have hgo:¬ bh ob W1 W.heap.size:=λ h=>by
   rcases hk1.own _ h with h | h
   ·have:=hK.ownlt hO0 _ h;omega
   ·have h9:=dl (A:=W) (λ b e=>hb1.block b (hobW b e)) (by assumption);have:=hK.ownlt hO0 _ h9;omega
  have hyo1:=hk1.not_own hyb.lt hyo;have hio1:=hk1.not_own hib.lt hio;have hyb1:Blk W1 yb _ _:=hyb.keep hb1;have hib1:Blk W1 ib _ _:=hib.keep hb1;have HW1:=aW hW1;have HI:=aW ih;have HJ:=aW hJ;have HY:=aW hY;have HBK:=aW hbk;have HK:=aW (hK.trans hk1);have HK1:=aW hk1;have HO:=aW (And.intro hgo (And.intro hyo1 hio1));have HYB:=aW hyb1;have HIB:=aW hib1;have HFL:=aW hfl2;have HNX:=aW hnx;have HNK:=aW hnk;have HJ1:=aW (hJ _ _ _ hb1 hJ0);have HKD:=aW hkd;have HM:=aW (And.intro hM hM4);have HOB:=aW hobW;have HO0:=aW hO0;have hSS:∃ S:ByteArray,(⟨s.toArray⟩:ByteArray)=S:=⟨_,rfl⟩
  obtain ⟨c1,f1,l1⟩:=hbk.rules;clear hK hk1 hgo hyo1 hio1 hyb1 hib1 hyb hib hyo hio hfl hfl2 hnx hnk hJ0 hJ hY ih hbk hb1 hobW hkd hM hM4 hW1 hv hv1 h1 h3 h4 hkl hO0;have z0:=c1 0;have z3:=c1 7;have z2:=c1 6;simp at z0 z3 z2;refine callsIn_of_wp Tryz.func150 rfl (aI (by kernel_rfl)) ?_ rfl;simp only [Tryz.ntmps150,List.size_toArray,List.length_cons,List.length_nil,Nat.reduceAdd,Nat.reduceSub,Array.replicate_succ,Array.replicate_zero,List.push_toArray,List.append_toArray,List.nil_append,List.cons_append];gi_wp2;rw [HW1.out];refine sP ?_;gi_wp2;refine wpIn_label ?_;gi_wp2;clear c1 f1 l1 z0 z2 z3
  gi_loopg [10] nk (λ gk s10 wr => ∃ i:Nat,i<=nk/\gk=nk-i/\s10=Zi Zq i/\Hid (J (pre++bI (kids.take i)) wr)/\Hid (KpR ob w0.heap.size W1 wr))
  case atStart=>exact ⟨0,Nat.zero_le _,rfl,by go_num,aW (by simpa [bI] using HJ1.out),aW (.refl _ _ _)⟩
  case round =>
   obtain ⟨i,hi,hgk,rfl,HJw,HKw⟩:=hrel;have HG:=aW hgk;clear hgk;have hszW:=HKw.out.size;by_cases hlt:i<nk
   ·obtain ⟨x,hx⟩:∃ x,kids[i]? = some x:=⟨_,List.getElem?_eq_getElem (by rw [HNK.out];exact hlt)⟩
    obtain ⟨b,o,k',k1',n1',s1',A1',na1',ca1',B1',nb1',cb1',s',A',n',ca',rfl,hb,hvx,hz⟩:=HIH.out i x hx;have hKt:=HK.out.trans HKw.out;obtain ⟨q0,q1,q2,q3,q4,q5,q6,q7⟩:=hz _ hKt.keepN;have hyw:=HKw.out.blk HYB.out HO.out.2.1;have hiw:=HKw.out.blk HIB.out HO.out.2.2;have hyow:=HKw.out.not_own HYB.out.lt HO.out.2.1;have hiow:=HKw.out.not_own HIB.out.lt HO.out.2.2;obtain ⟨hf1,hf2⟩:=mA hx;have hbA:=(Below.refl wr.heap.size wr).alloc (Nat.le_refl _) (.cells #[Zi Zq k',Zi Zq k1',Zi Zq n1',Zt s1',Zs A1' na1' ca1',Zs B1' nb1' cb1',Zt s',Zs A' n' ca'] 45);have hKa:KpR ob w0.heap.size wr _:=KpR.bel (λ b e=>Nat.lt_of_lt_of_le (HOB.out b e) (by have:=HK1.out.size;omega)) hbA;have hcl:=HI.out x (by have:=HKD.out i x hx;have:=HM.out.1;omega) (by have:=HM.out.2;omega) (pre++bI (kids.take i)) (bI (kids.drop (i+1))++((if k=2 then [s] else [])++rest)) _ _ hvx (hKt.trans hKa) (HJ.out _ _ _ hbA HJw.out) (hyw.alloc _) (hiw.alloc _)
     (hKa.not_own hyw.lt hyow) (hKa.not_own hiw.lt hiow) (by rw [HFL.out,hf2];simp only [List.append_assoc])
    have HCL:=aW (d9 (m:=1) hcl);have HF1:=aW hf1;have HKA:=aW (HKw.out.trans hKa);obtain ⟨e1,e2,e3⟩:=(hiw.alloc (.cells #[Zi Zq k',Zi Zq k1',Zi Zq n1',Zt s1',Zs A1' na1' ca1',Zs B1' nb1' cb1',Zt s',Zs A' n' ca'] 45)).rules;clear hcl hf1 hf2 hbA hz hvx hx hKt hyw hiw hyow hiow hKa hszW;gi_wp2;refine ⟨aI (by kernel_rfl),HCL.out.mono ?_⟩;rintro e W5 (⟨rfl,hJ5,hk5⟩ | ⟨rfl,zs,hJx5⟩ | ⟨ch,rfl,hJp5⟩)
    ·have HJ5:=aW hJ5;have HK5:=aW (HKA.out.trans hk5);clear hJ5 hk5;gi_wp2
     gi_roundg (nk-(i+1))
     case measure=>rw [HG.out];omega
     case rel=>exact ⟨i+1,hlt,rfl,by go_num,aW (by rw [HF1.out,← List.append_assoc];exact HJ5.out),HK5⟩
    ·gi_wp2;rw [Exit.noGoto_ret];go_ret;exact .inr (.inl ⟨rfl,zs,hJx5⟩)
    ·gi_wp2;exact ⟨rfl,.inr (.inr ⟨ch,rfl,hJp5⟩)⟩
   ·obtain rfl:i=nk:=by omega
    obtain ⟨c1,f1,l1⟩:=(HKw.out.blk HBK.out HO.out.1).rules;obtain ⟨d1,d2,d3⟩:=(HKw.out.blk HYB.out HO.out.2.1).rules;have z0:=c1 0;have z2:=c1 6;simp at z0 z2;have hJ9:J (pre++bI kids) wr:=by
     have h:=HJw.out;rwa [List.take_of_length_le (by rw [HNK.out];exact Nat.le_refl _)] at h
    have HK9:=aW (HK1.out.trans HKw.out);by_cases hk2:k=2
    ·subst hk2;obtain ⟨fn,tmps,assign,body,hy,hR⟩:=HY.out (pre++bI kids) s wr hJ9 ⟨rest,by rw [HFL.out];simp⟩;unfold xZ at hy;clear hJ9 hszW;gi_wp2;refine hR.mono ?_;rintro e W3 (⟨rfl,hJ3,hk3⟩ | ⟨rfl,hJx3,hk3⟩ | ⟨ch,rfl,hJp3⟩)
     ·have HE:=aW (And.intro hJ3 (HK9.out.trans hk3));clear hJ3 hk3;gi_wp2;rw [Exit.noGoto_ret];go_ret;exact .inl ⟨rfl,by rw [HNX.out,if_pos trivial,← List.append_assoc];exact HE.out.1,HE.out.2⟩
     ·clear hk3;have HE:=aW hJx3;clear hJx3;gi_wp2;rw [Exit.noGoto_ret];go_ret;exact .inr (.inl ⟨rfl,_,HE.out⟩)
     ·have HE:=aW hJp3;clear hJp3;gi_wp2;exact ⟨rfl,.inr (.inr ⟨ch,rfl,HE.out⟩)⟩
    ·have HE:=aW hJ9;clear hJ9 hszW;gi_wp2;refine ⟨λ f h=>(by cases h),?_⟩;gi_wp2;rw [Exit.noGoto_ret];go_ret;exact .inl ⟨rfl,by rw [HNX.out,if_neg hk2,List.append_nil];exact HE.out,HK9.out⟩
theorem xQ (m:Nat) (c0 c1 c2 c3 c4 c5 c6 c7:Value) (w:World) :
  CallsIn fb m Tryz.prog 96 #[.agg #[c0,c1,c2,c3,c4,c5,c6,c7]] w λ e w'=>e=.returned (.func (.func 149) #[] #[Zp (some ⟨w.heap.size,0,none⟩)])/\w.alloc (.cells #[c0,c1,c2,c3,c4,c5,c6,c7] 45)=w':=by
 have hmf:∀ (fn:Fn) (first cap:Array Value) (w:World),(Instr.makeFunc fn first cap).run Tryz.prog w=.ok (.func fn first cap) w:=λ _ _ _ _=>rfl
 refine callsIn_of_wp Tryz.func96 rfl (aI (by kernel_rfl)) ?_ rfl;simp only [Tryz.ntmps96,List.size_toArray,List.length_cons,List.length_nil,Nat.reduceAdd,Nat.reduceSub,Array.replicate_succ,Array.replicate_zero,List.push_toArray,List.append_toArray,List.nil_append,List.cons_append];gi_wp2;go_ret;exact ⟨rfl,rfl⟩
theorem vt (l:Nat) (ob:Option Nat) (w0:World) (x0:EJ) (J Jx:List (List UInt8)->World->Prop) (Jp:List PanicEntry->World->Prop) (hob:∀ b,ob=some b->b<w0.heap.size) (hO0:∀ k,bh ob w0 k->k<w0.heap.size)
  (hJ:∀ s A B,Below A.heap.size A B->J s A->J s B) (hY:YS l ob w0.heap.size x0 J Jx Jp) (hs:bZ x0<=4194304) (vb:Nat) (cs:List Value) (W:World) (hv:ER w0 (λ b=>¬ bh ob w0 b) cs x0) (hK:KpR ob w0.heap.size w0 W) (hvb:Blk W vb 45 cs.toArray) (hJ0:J [] W) :
  CallsIn fb 2 Tryz.prog 149 #[.func (.yield l) #[] #[],Zp (some ⟨vb,0,none⟩)] W λ e W'=>((∃ v,e=.returned v)/\((∃ xs,xs=cY x0/\J xs W')∨(∃ pre,True/\Jx pre W')))∨(∃ ch,e=.panicked ch/\Jp ch W'):=by
 have hmf:∀ (fn:Fn) (first cap:Array Value) (w:World),(Instr.makeFunc fn first cap).run Tryz.prog w=.ok (.func fn first cap) w:=λ _ _ _ _=>rfl
 have hb2:Below W.heap.size W ((W.alloc (.cells #[.func (.yield l) #[] #[]] 37)).alloc (.cells #[tc (W.heap.size+1) W.heap.size] 105)):=((Below.refl _ W).alloc (Nat.le_refl _) _).alloc (by simp) _;have hib:=Blk.new (W.alloc (.cells #[.func (.yield l) #[] #[]] 37)) 105 #[tc (W.heap.size+1) W.heap.size];rw [World.size_alloc] at hib;have hobW:∀ b,ob=some b->b<W.heap.size:=λ b e=>Nat.lt_of_lt_of_le (hob b e) hK.size
 have hno:∀ k,W.heap.size<=k->¬ bh ob ((W.alloc (.cells #[.func (.yield l) #[] #[]] 37)).alloc (.cells #[tc (W.heap.size+1) W.heap.size] 105)) k:=λ k hk h=>by
  have h9:=dl (A:=W) (λ b e=>hb2.block b (hobW b e)) h;have:=hK.ownlt hO0 _ h9;omega
 have hcl:=vs l ob w0 x0 J Jx Jp W.heap.size (W.heap.size+1) hob hO0 hK.size (by have:=hK.size;omega) hJ hY _ x0 (Nat.le_refl _) hs [] [] cs _ hv (hK.trans (KpR.bel hobW hb2)) (hJ _ _ _ hb2 hJ0)
  ((Blk.new W 37 #[.func (.yield l) #[] #[]]).alloc _) hib (hno _ (Nat.le_refl _)) (hno _ (by omega)) (by simp)
 obtain ⟨k,k1,n1,s1,A1,na1,ca1,B1,nb1,cb1,s,A,n,ca,rfl⟩:=hv.form;have HCL:=aW (d9 (m:=1) hcl);obtain ⟨c1,f1,l1⟩:=(hvb.keep hb2).rules;obtain ⟨d1,d2,d3⟩:=hvb.rules;clear hcl hib hb2 hvb hY hJ hK hv hJ0 hno hobW hob hO0 hs;refine callsIn_of_wp Tryz.func149 rfl (aI (by kernel_rfl)) ?_ rfl;simp only [Tryz.ntmps149,List.size_toArray,List.length_cons,List.length_nil,Nat.reduceAdd,Nat.reduceSub,Array.replicate_succ,Array.replicate_zero,List.push_toArray,List.append_toArray,List.nil_append,List.cons_append];gi_wp2;refine ⟨aI (by kernel_rfl),HCL.out.mono ?_⟩;rintro e W5 (⟨rfl,hJ5,_⟩ | ⟨rfl,ys,hJx⟩ | ⟨ch,rfl,hJp⟩)
 ·gi_wp2;go_end0;exact .inl ⟨⟨_,rfl⟩,.inl ⟨_,rfl,hJ5⟩⟩
 ·gi_wp2;go_end0;exact .inl ⟨⟨_,rfl⟩,.inr ⟨ys,trivial,hJx⟩⟩
 ·gi_wp2;exact ⟨rfl,.inr ⟨ch,rfl,hJp⟩⟩
theorem AH (ob:Option Nat) (w0:World) (x0:EJ) (hob:∀ b,ob=some b->b<w0.heap.size) (hO0:∀ k,bh ob w0 k->k<w0.heap.size) (hs:bZ x0<=4194304) (vb:Nat) (cs:List Value) (hv:ER w0 (λ b=>¬ bh ob w0 b) cs x0) (hvb:Blk w0 vb 45 cs.toArray) :
  yT fb 2 Tryz.prog 149 #[Zp (some ⟨vb,0,none⟩)] xZ (λ A B=>Below A.heap.size A B) (KpR ob w0.heap.size) (Ay x0) (λ xs _=>xs=cY x0) (λ _ _=>True) w0:=by
 intro l J Jx Jp W hW hJ _ hY h0;exact vt l ob w0 x0 J Jx Jp hob hO0 hJ hY hs vb cs W hv (KpR.bel hob hW) (hvb.keep hW) h0
end
section
open Go.RowKit
attribute [local go_sem] aa ac ae ab
theorem AS:∀ r,r<=12->zj r
 | 0,h=>yY 0 h (λ h0=>absurd rfl h0)
 | r+1,h=>yY (r+1) h (λ _=>AS r (by omega))
def eq (l:List SJ):Int:=if fG l=true then 0 else 332
def rx (q:Int) (w:World) (e:Ending) (w':World):Prop:=e=.returned (Zi Zq q)/\Below w.heap.size w w'
theorem lX (l:List SJ) (css:List (List Value)) (A:Option Addr) (n ca:Nat) (F:Nat->Prop) (w:World) (hG:GOE w) (hS:SRs w F css l) (hln:l.length=n) (hnc:n<=ca) (hR:RdF w F A css.flatten) (hC:aK l) (hn:n<=4194304) :
  Calls Tryz.prog 18 #[.agg #[Zs A n ca]] w (rx (eq l) w):=by
 have HM:=aW (λ (W:World) (h:Below w.heap.size w W)=>AS 12 (by omega) l css A n ca F W (hG.keep h) (RR.imp hS λ c x hc=>hc.bel h) hln hnc (hR.keep (ah.of_below h)) hC hn);obtain ⟨b,hb⟩:∃ b,cF 12 l=b:=⟨_,rfl⟩
 have HQ:=aW (show eq l=(if b=true then 0 else 332) by unfold eq fG;rw [hb]);unfold zk at HM;rw [hb] at HM;obtain ⟨q,hq⟩:∃ q,eq l=q:=⟨_,rfl⟩
 rw [hq] at HQ ⊢;clear hq;have HH0:=aW ((aT.nil w).push 24 #[Zs A n ca] (g:=w.heap.size) rfl);clear hG hS hln hnc hR hC hn hb;go_enter Tryz.func18,Tryz.ntmps18;go_wp2_with fail;refine (HM.out _ HH0.out.1).mono ?_;rintro e w1 ⟨rfl,hb1⟩;have HH1:=aW (HH0.out.keep hb1);clear hb1;cases b
 ·go_wp2;go_ret;exact ⟨by rw [HQ.out];rfl,HH1.out.1⟩
 ·go_wp2;go_ret;exact ⟨by rw [HQ.out];rfl,HH1.out.1⟩
end
section
def TG (T:List ak):Prop:=T.length<=1000/\∀ p,(tkT T p).length<=4000/\iw (tkN T p)
instance decIw (n:Int):Decidable (iw n):=by unfold iw;exact inferInstance
theorem xK {n:Int} (h:iw n):dq (nr n):=dq.of (by unfold nr inJ inL;exact ⟨by decide,h,trivial⟩) (by unfold nr b8 dr dh;simp)
theorem xM {s:List UInt8} (h:s.length<=4000):dq (jX s):=dq.of (by unfold jX inJ inL;exact ⟨by decide,by decide,trivial⟩) (by unfold jX b8 dr dh;omega)
theorem xL:dq (.mk 1 0 [] [] []):=dq.of (by unfold inJ inL;exact ⟨by decide,by decide,trivial⟩) (by unfold b8 dr dh;simp)
theorem pV (b:Bool):dq (fP b):=dq.of (by unfold fP inJ inL;cases b<;>exact ⟨by decide,by decide,trivial⟩) (by unfold fP b8 dr dh;simp)
theorem im:dq cn:=dq.of (by unfold cn inJ inL;exact ⟨by decide,by decide,trivial⟩) (by unfold cn b8 dr dh;simp)
theorem jO {v:JV} (h:dq v):cd (fa v):=by unfold fa cd ic;exact ⟨by decide,h,by simp,by simp,trivial⟩
theorem dS:cd aM:=by unfold aM cd ic;exact ⟨by decide,im,by simp,by simp,trivial⟩
theorem oS {k:Int} {l:List EJ} (hk:iw k) (hl:l.length<=1000) (h:∀ x ∈ l,cd x):cd (eOp k l):=by
 unfold eOp cd;exact ⟨hk,im,by simp,by omega,cc.2 h⟩
theorem nZ {T:List ak} {p:Nat}:∀ {l:List (List UInt8 × Int)} {k:Int},ga T p l=some k->∃ x ∈ l,x.2=k/\al T p x.1=true
 | [],k,h=>by cases h
 |x::r,k,h=>by
  unfold ga at h;split at h
  ·rename_i hs;injection h with h;exact ⟨x,List.mem_cons_self,h,hs⟩
  ·obtain ⟨y,hy,h1⟩:=nZ h;exact ⟨y,List.mem_cons_of_mem _ hy,h1⟩
theorem gG {T:List ak} {lvl p:Nat} {k:Int} (h:dx T lvl p=some k):5<=k/\k<=15:=by
 obtain ⟨x,hx,rfl,_⟩:=nZ h;have:∀ lvl,∀ x ∈ eU lvl,5<=x.2/\x.2<=15:=by
  intro lvl
  match lvl with
  | 0=>simp [eU]
  | 1=>decide
  | 2=>decide
  | 3=>decide
  | 4=>decide
  | 5=>decide
  | 6=>decide
  | 7=>decide
  | n+8=>simp [eU]
 exact this lvl x hx
theorem tf {k:Int} (h:5<=k/\k<=15):iw k:=by unfold iw;omega
section
variable {T:List ak} (hT:WT T) (hG:TG T)
include hT hG
theorem zc:∀ (n:Nat),(∀ lvl p x q,p<T.length->aC T n lvl p=.ok x q->cd x)/\(∀ lvl x p y q,p<T.length->cd x->fI T n lvl x p=.ok y q->cd y)/\(∀ x p y q,p<T.length->cd x->dK T n x p=.ok y q->cd y) /\
  (∀ p x q,p<T.length->bz T n p=.ok x q->cd x)/\(∀ acc p x q,p<T.length->acc.length<=p->(∀ y ∈ acc,cd y)->dJ T n acc p=.ok x q->cd x)
 | 0=>⟨λ lvl p x q _ h=>(by unfold aC at h;cases h),λ lvl x p y q _ _ h=>(by unfold fI at h;cases h),λ x p y q _ _ h=>(by unfold dK at h;cases h),λ p x q _ h=>(by unfold bz at h;cases h),λ acc p x q _ _ _ h=>by unfold dJ at h;cases h⟩
 |n+1=>by
  obtain ⟨hE,hB,hP,hA,hL⟩:=zc n;have hI:=λ lvl p (hp:p<T.length)=>(nu hT n).1 lvl p hp
  have hIA:=λ p (hp:p<T.length)=>(nu hT n).2.2.2.1 p hp
  refine ⟨λ lvl p x q hp h=>?_,λ lvl x p y q hp hx h=>?_,λ x p y q hp hx h=>?_,λ p x q hp h=>?_,λ acc p x q hp hl hx h=>?_⟩
  ·unfold aC at h;split at h
   ·cases ho:dx T lvl p with
    | none=>rw [ho] at h;exact hE _ _ _ _ hp h
    |some k =>
     rw [ho] at h;simp only at h;have h0:=hT.next hp (fD ho);cases hx:aC T n lvl (p+1) with
     | bad q=>rw [hx] at h;cases h
     |ok y r =>
      rw [hx] at h;injection h with h1 h2
      subst h1;exact oS (tf (gG ho)) (by simp) (by simpa using hE _ _ _ _ h0 hx)
   ·split at h
    ·cases hx:bz T n p with
     | bad q=>rw [hx] at h;cases h
     |ok y r =>
      rw [hx] at h;have h1:=hIA p hp;rw [hx] at h1;exact hP _ _ _ _ h1.2 (hA _ _ _ hp hx) h
    ·cases hx:aC T n (lvl+1) p with
     | bad q=>rw [hx] at h;cases h
     |ok y r =>
      rw [hx] at h;have h1:=hI (lvl+1) p hp;rw [hx] at h1;exact hB _ _ _ _ _ h1.2 (hE _ _ _ _ hp hx) h
  ·unfold fI at h;cases ho:dx T lvl p with
   | none=>rw [ho] at h;injection h with h1;subst h1;exact hx
   |some k =>
    rw [ho] at h;simp only at h;have h0:=hT.next hp (fD ho);cases hy:aC T n (lvl+1) (p+1) with
    | bad q=>rw [hy] at h;cases h
    |ok z r =>
     rw [hy] at h;have h1:=hI (lvl+1) (p+1) h0;rw [hy] at h1;have hc:cd (eOp k [x,z]):=oS (tf (gG ho)) (by simp) (by intro u hu;rcases List.mem_cons.1 hu with rfl | hu;exact hx;obtain rfl:=List.mem_singleton.1 hu;exact hE _ _ _ _ h0 hy);simp only at h;split at h
     ·injection h with h1;subst h1;exact hc
     ·exact hB _ _ _ _ _ h1.2 hc h
  ·unfold dK at h;split at h
   ·rename_i hs
    split at h
    ·rename_i hk
     have h1:=hT.next hp (au hs);have h2:=hT.next h1 (by omega);refine hP _ _ _ _ h2 ?_ h;unfold cd;have:=(hG.2 (p+1)).1;exact ⟨by decide,im,by omega,by simp,cc.2 (by simpa using hx)⟩
    ·cases h
   ·injection h with h1;subst h1;exact hx
  ·unfold bz at h;have hg:=hG.2 p;split at h
   ·injection h with h1;subst h1
    unfold cd ic;exact ⟨by decide,im,by omega,by simp,trivial⟩
   split at h
   ·injection h with h1;subst h1;exact jO (xK hg.2)
   split at h
   ·injection h with h1;subst h1;exact jO (xM hg.1)
   split at h
   ·injection h with h1;subst h1;exact jO xL
   split at h
   ·injection h with h1;subst h1;exact jO (pV true)
   split at h
   ·injection h with h1;subst h1;exact jO (pV false)
   split at h
   ·rename_i hs
    have h0:=hT.next hp (au hs);cases hx:aC T n 1 (p+1) with
    | bad q=>rw [hx] at h;cases h
    |ok y r =>
     rw [hx] at h;simp only at h;split at h
     ·injection h with h1;subst h1;exact hE _ _ _ _ h0 hx
     ·cases h
   split at h
   ·rename_i hs
    have h0:=hT.next hp (au hs);split at h
    ·injection h with h1;subst h1;exact oS (by decide) (by simp) (by simp)
    ·exact hL _ _ _ _ h0 (by simp) (by simp) h
   ·cases h
  ·unfold dJ at h;cases hy:aC T n 1 p with
   | bad q=>rw [hy] at h;cases h
   |ok z r =>
    rw [hy] at h;simp only at h;have h1:=hI 1 p hp;rw [hy] at h1;have hc:∀ u ∈ acc++[z],cd u:=by
     intro u hu;rcases List.mem_append.1 hu with hu | hu
     ·exact hx u hu
     ·obtain rfl:=List.mem_singleton.1 hu;exact hE _ _ _ _ hp hy
    have hlen:(acc++[z]).length<=r:=by have:=h1.1;simp;omega
    split at h
    ·rename_i hs
     exact hL _ _ _ _ (hT.next h1.2 (au hs)) (by omega) hc h
    ·split at h
     ·injection h with h3;subst h3
      exact oS (by decide) (by have:=h1.2;have:=hG.1;omega) hc
     ·cases h
theorem gI {n lvl p:Nat} {x:EJ} {q:Nat} (hp:p<T.length) (h:aC T n lvl p=.ok x q):cd x:=(zc hT hG n).1 _ _ _ _ hp h
theorem zf:∀ (n:Nat),(∀ acc p x q,p<T.length->acc.length<=p->aK acc->bt T n acc p=.ok x q->aK x/\x.length<=q)/\(∀ p x q,p<T.length->br T n p=.ok x q->aK x/\x.length<=q)
 | 0=>⟨λ acc p x q _ _ _ h=>(by unfold bt at h;cases h),λ p x q _ h=>by unfold br at h;cases h⟩
 |n+1=>by
  obtain ⟨hS,hK⟩:=zf n;have hIK:=(sw hT n).2;have hIS:=(sw hT n).1;have hsnoc:∀ (acc:List SJ) (x:SJ),aK acc->fy x->aK (acc++[x]):=λ acc x h1 h2=>cV.2 λ y hy=>by
   rcases List.mem_append.1 hy with hy | hy
   ·exact cV.1 h1 y hy
   ·obtain rfl:=List.mem_singleton.1 hy;exact h2
  have hTl:=hG.1;refine ⟨λ acc p x q hp hl hx h=>?_,λ p x q hp h=>?_⟩
  ·unfold bt at h;split at h
   ·rename_i hs
    have h0:=hT.next hp (au hs);have g1:=eh hT n 1 (p+1) h0;cases hy:aC T n 1 (p+1) with
    | bad q=>rw [hy] at h;cases h
    |ok a r =>
     rw [hy] at h g1;simp only at h;split at h
     ·rename_i hs2
      have h9:=hT.next g1.2 (au hs2);have g2:=eh hT n 1 (r+1) h9;cases hz:aC T n 1 (r+1) with
      | bad q=>rw [hz] at h;cases h
      |ok b u =>
       rw [hz] at h g2;simp only at h;split at h
       ·rename_i hs3
        have g11:=g1.1;have g21:=g2.1;refine hS _ _ _ _ (hT.next g2.2 (au hs3)) (by simp;omega) (hsnoc _ _ hx ?_) h;unfold fy aK;exact ⟨by decide,by simp,gI hT hG h0 hy,gI hT hG h9 hz,by simp,by simp,trivial,trivial⟩
       ·cases h
     ·cases h
   split at h
   ·rename_i hs
    have h0:=hT.next hp (au hs);have g1:=eh hT n 1 (p+1) h0;cases hy:aC T n 1 (p+1) with
    | bad q=>rw [hy] at h;cases h
    |ok a r =>
     rw [hy] at h g1;simp only at h;have g11:=g1.1;have g2:=hIK r g1.2;cases hz:br T n r with
     | bad q=>rw [hz] at h;cases h
     |ok body u =>
      rw [hz] at h g2;simp only at h;have g21:=g2.1;have k1:=hK _ _ _ g1.2 hz;split at h
      ·rename_i hs3
       have h9:=hT.next g2.2 (au hs3);have g3:=hIK (u+1) h9;cases hv:br T n (u+1) with
       | bad q=>rw [hv] at h;cases h
       |ok els t =>
        rw [hv] at h g3;simp only at h;have g31:=g3.1;have k2:=hK _ _ _ h9 hv;refine hS _ _ _ _ g3.2 (by simp;omega) (hsnoc _ _ hx ?_) h;unfold fy;exact ⟨by decide,by simp,gI hT hG h0 hy,dS,by have:=g2.2;have:=k1.2;omega,by have:=g3.2;have:=k2.2;omega,k1.1,k2.1⟩
      ·refine hS _ _ _ _ g2.2 (by simp;omega) (hsnoc _ _ hx ?_) h;unfold fy;exact ⟨by decide,by simp,gI hT hG h0 hy,dS,by have:=g2.2;have:=k1.2;omega,by simp,k1.1,trivial⟩
   split at h
   ·rename_i hs
    have h0:=hT.next hp (au hs);split at h
    ·rename_i hk
     have h8:=hT.next h0 (by omega);split at h
     ·rename_i hs2
      have h9:=hT.next h8 (au hs2);have g1:=eh hT n 1 (p+3) h9;cases hy:aC T n 1 (p+3) with
      | bad q=>rw [hy] at h;cases h
      |ok a r =>
       rw [hy] at h g1;simp only at h;have g11:=g1.1;have g2:=hIK r g1.2;cases hz:br T n r with
       | bad q=>rw [hz] at h;cases h
       |ok body u =>
        rw [hz] at h g2;simp only at h;have g21:=g2.1;have k1:=hK _ _ _ g1.2 hz;refine hS _ _ _ _ g2.2 (by simp;omega) (hsnoc _ _ hx ?_) h;unfold fy;have:=(hG.2 (p+1)).1;exact ⟨by decide,by omega,gI hT hG h9 hy,dS,by have:=g2.2;have:=k1.2;omega,by simp,k1.1,trivial⟩
     ·cases h
    ·cases h
   ·injection h with h1 h2;subst h1 h2;exact ⟨hx,hl⟩
  ·unfold br at h;split at h
   ·rename_i hs
    have h0:=hT.next hp (au hs);cases hy:bt T n [] (p+1) with
    | bad q=>rw [hy] at h;cases h
    |ok l r =>
     rw [hy] at h;simp only at h;split at h
     ·injection h with h1 h2;subst h1 h2
      have:=hS [] (p+1) _ _ h0 (by simp) trivial hy;exact ⟨this.1,by omega⟩
     ·cases h
   ·cases h
end
end
section
open Go.RowKit
theorem lf:∀ {i:Nat} {l:List UInt8},cg i l=true->∀ c ∈ l,df c=true
 | _,[],_,c,hc=>by cases hc
 |i,x::r,h,c,hc=>by
  unfold cg at h;simp only [Bool.and_eq_true,Bool.or_eq_true] at h;rcases List.mem_cons.1 hc with rfl | hc
  ·unfold df;rcases h.1 with h1 | h1
   ·rw [h1];rfl
   ·rw [h1.2];simp
  ·exact lf h.2 c hc
theorem mB {c:UInt8} {r:List UInt8} (h:cg 0 (c::r)=true):aN c=true:=by
 unfold cg at h;simp only [Bool.and_eq_true,Bool.or_eq_true] at h;rcases h.1 with h1 | h1
 ·exact h1
 ·simp at h1
theorem pc {l:List UInt8} (h:dg ⟨l.toArray⟩=true):cg 0 l=true/\1<=l.length/\l.length<=12/\ey l=false:=by
 unfold dg at h;rw [oq] at h;simp only [Bool.and_eq_true,decide_eq_true_eq,Bool.not_eq_true',ByteArray.size,List.size_toArray] at h;exact ⟨h.1,h.2.1.1,h.2.1.2,h.2.2⟩
end
section
open Go.RowKit
attribute [local go_sem] aa ac ae ab
end
section
open Go.RowKit
end
end Go.Proofs.YtgmnmnnoahdjnaaGreatDoor
