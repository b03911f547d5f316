import Derived.Test.YtgmnmnnoahdjnaaGreatDoorH16
import Derived.Test.YtgmnmnnoahdjnaaGreatDoorH15
open Go.Value renaming int → Zi, slice → Zs, string → Zt, pointer → Zp
open Go.IntKind renaming i64 → Zq
set_option maxRecDepth 100000
set_option maxHeartbeats 16000000
set_option linter.unusedVariables false
set_option linter.unusedSimpArgs false
namespace Go.Proofs.YtgmnmnnoahdjnaaGreatDoor
section
section
variable {F:Fence} {n:Nat} {P:Program} {ops:Array Oper} {Q:Exit->Act->World->Prop} {md:Region.Mode} {S:World->Prop} {i j fuel:Nat} {o oi oj:Oper} {v:Value} {a:Act} {w:World} {listed:Array Bool} {K:Act->World->Prop}
def og (ops:Array Oper):Bool:=ops.toList.all λ o=>match o.op with | .defer _=>false | _=>true
theorem kC (h:og ops=true) (ho:ops[j]? = some o):∀ c,o.op≠.defer c:=λ c e=>by
 have hm:o ∈ ops.toList:=by rw [Array.mem_toList_iff];exact Array.mem_of_getElem? ho
 have:=List.all_eq_true.1 h o hm;rw [e] at this;cases this
def YdH (P:Program) (ops:Array Oper) (S:World->Prop) (o:Oper) (v:Value) (a:Act):Prop:=YieldsIf P ops S o v a/\∀ w,o.about P w a.eval=none
theorem YdH.at_ (hnd:og ops=true) (hi:ops[i]? = some o) (hy:YdH P ops S o v a) (hS:S w) (h:K (a.put o.dst v) w):wpOpIn F n P ops Q i K a w:=by
 unfold wpOpIn;simp only [hi];have hab:∀ f,o.about P w a.eval=some f->F.fn f:=λ f hf=>by rw [hy.2 w] at hf;cases hf
 rcases hy.1 with ⟨hw,hv⟩ | ⟨hw,rfl⟩
 ·simp only [hw,if_true,Oper.wpIn,Oper.semAt_eq _ _ _ (kC hnd hi),hv w hS,Oper.uponIn];exact ⟨hab,h⟩
 ·simp only [hw,Bool.false_eq_true,if_false];exact ⟨hab,h⟩
theorem YdH.past (hnd:og ops=true) (hj:ops[j]? = some oj) (hap:oi.apart ops oj=true) (hsi:∀ cs b,oi.op≠.select cs b) (hsj:∀ cs b,oj.op≠.select cs b)
  (hQ:∀ c a w,Q (.panic c) (a.put oi.dst v) w->Q (.panic c) a w) (hy:YdH P ops S oi v a) (h:wpOpIn F n P ops Q j K (a.put oi.dst v) w):wpOpIn F n P ops Q j (λ a' w'=>YdH P ops S oi v a'/\K (a'.put oi.dst v) w') a w:=by
 obtain ⟨p1,p2,p3⟩:=Oper.apart_spec hap;have hput:∀ b:Act,YdH P ops S oi v b->∀ u,YdH P ops S oi v (b.put oj.dst u):=λ b hb u =>
  ⟨hb.1.of_same (execOp_put oi hsi b oj.dst u p3) (wanted_put oi b oj.dst u p3),λ W=>by rw [about_put oi W b oj.dst u p3];exact hb.2 W⟩
 unfold wpOpIn at h ⊢;simp only [hj] at h ⊢;rw [wanted_put oj a oi.dst v p1,about_put oj w a oi.dst v p1] at h;by_cases hw:Region.wanted oj (yielded ops a.tmps)=true
 ·rw [if_pos hw] at h ⊢;unfold Oper.wpIn at h ⊢;rw [about_put oj w a oi.dst v p1,Oper.semAt_eq _ _ _ (kC hnd hj),execOp_put oj hsj a oi.dst v p1] at h;rw [Oper.semAt_eq _ _ _ (kC hnd hj)];refine ⟨h.1,?_⟩;replace h:=h.2;cases hr:(execOp a.eval oj).run P w with
  |ok x w' =>
   rw [hr] at h;cases x with
   | value u=>exact ⟨hput a hy u,by rw [← Act.put_comm a v u p2];exact h⟩
   | skip=>exact ⟨hput a hy undef,by rw [← Act.put_comm a v undef p2];exact h⟩
   |defer d =>
    refine ⟨hput { a with defers:=d::a.defers } ⟨hy.1.of_same rfl rfl,hy.2⟩ undef,?_⟩;rw [← Act.put_comm _ v undef p2,← Act.put_defers];exact h
   | enter f args=>exact ⟨h.1,CallsIn.mono h.2 λ e W he=>by cases e<;>first | exact ⟨hput a hy _,by rw [← Act.put_comm a v _ p2];exact he⟩ | exact hQ _ _ _ he | exact he⟩
   | row r args=>exact ⟨h.1,RowsIn.mono h.2 λ u W he=>⟨hput a hy u,by rw [← Act.put_comm a v u p2];exact he⟩⟩
   | round l f tmps assign body=>exact ⟨h.1,RoundIn.mono h.2 λ e W he=>by cases e<;>first | exact ⟨hput a hy _,by rw [← Act.put_comm a v _ p2];exact he⟩ | exact hQ _ _ _ he | exact he⟩
   | _=>exact h
  |halt x w' =>
   rw [hr] at h;cases x<;>first | exact hQ _ _ _ h | exact h
 ·rw [if_neg hw] at h ⊢;exact ⟨h.1,hput a hy undef,by rw [← Act.put_comm a v undef p2];exact h.2⟩
def dx (F:Fence) (n:Nat) (P:Program) (md:Region.Mode) (ops:Array Oper) (Q:Exit->Act->World->Prop) (S:World->Prop):Nat->Array Bool->Act->World->Prop
 | 0,listed,a,w=>Region.ready md ops listed=[]/\Q .normal a w
 | fuel+1,listed,a,w=>(Region.ready md ops listed=[]->Q .normal a w)/\∀ i ∈ Region.ready md ops listed,wpOpIn F n P ops Q i (λ a' w'=>S w'/\dx F n P md ops Q S fuel (listed.setIfInBounds i true) a' w') a w
theorem dx.any:∀ {fuel:Nat} {listed:Array Bool} {a:Act} {w:World},dx F n P md ops Q S fuel listed a w->wpAnyIn F n P md ops Q fuel listed a w
 | 0,_,_,_,h=>h
 | _+1,_,_,_,h=>⟨h.1,λ i hi=>wpOpIn_mono (λ _ _ h'=>dx.any h'.2) (h.2 i hi)⟩
theorem iU (hnd:og ops=true) (hi:ops[i]? = some oi) (hsel:∀ (j:Nat) (o:Oper) cs b,ops[j]? = some o->o.op≠.select cs b) (hQ:∀ c a w,Q (.panic c) (a.put oi.dst v) w->Q (.panic c) a w) :
  ∀ (fuel:Nat) (listed:Array Bool) (a:Act) (w:World),(∀ j oj,ops[j]? = some oj->j≠i->listed.getD j true=false->(∀ e ∈ oj.after,Region.binds md e=true->e.on≠i)->oi.apart ops oj=true) ->
   i ∈ Region.ready md ops listed->YdH P ops S oi v a->S w->dx F n P md ops Q S fuel (listed.setIfInBounds i true) (a.put oi.dst v) w->dx F n P md ops Q S (fuel+1) listed a w
 |0,listed,a,w,_,hr,hy,hS,H=>by
  refine ⟨λ h=>(by rw [h] at hr;cases hr),λ j hj=>?_⟩;by_cases hji:j=i
  ·subst hji;exact hy.at_ hnd hi hS ⟨hS,H⟩
  ·have h1:=ready_mono hj hji;rw [H.1] at h1;cases h1
 |fuel+1,listed,a,w,hfree,hr,hy,hS,H=>by
  refine ⟨λ h=>(by rw [h] at hr;cases hr),λ j hj=>?_⟩;by_cases hji:j=i
  ·subst hji;exact hy.at_ hnd hi hS ⟨hS,H⟩
  obtain ⟨hjun,oj,hoj,hall⟩:=mem_ready.1 hj;have hnot:∀ e ∈ oj.after,Region.binds md e=true->e.on≠i:=λ e he hb heq=>by
   have h1:=hall e he hb;have h0:=(mem_ready.1 hr).1;rw [heq] at h1;rcases Nat.lt_or_ge i listed.size with h' | h'
   ·simp [h'] at h0 h1;rw [h0] at h1;cases h1
   ·simp [Array.getElem?_eq_none h'] at h1
  have h2:=hy.past hnd hoj (hfree j oj hoj hji hjun hnot) (λ cs b=>hsel i oi cs b hi) (λ cs b=>hsel j oj cs b hoj) hQ (H.2 j (ready_mono hj hji));refine wpOpIn_mono (λ a' w' h3=>⟨h3.2.1,iU hnd hi hsel hQ fuel _ a' w' (λ k ok hk hki hun hno=>hfree k ok hk hki ?_ hno) (ready_mono hr (Ne.symm hji)) h3.1 h3.2.1 ?_⟩) h2
  ·by_cases hjk:j=k
   ·subst hjk;exact hjun
   ·rw [getD_set_ne true hjk] at hun;exact hun
  ·rw [Array.setIfInBounds_comm _ _ hji];exact h3.2.2
theorem az (i:Nat) (v:Value) (hi:ops[i]? = some oi) (hnd:og ops=true) (hs:Region.noSelect ops=true) (hf:Region.free md ops listed i=true) (hr:(Region.ready md ops listed).contains i=true)
  (hQ:∀ c a w,Q (.panic c) (a.put oi.dst v) w->Q (.panic c) a w) (hy:YdH P ops S oi v a) (hS:S w) (h:dx F n P md ops Q S fuel (listed.setIfInBounds i true) (a.put oi.dst v) w):dx F n P md ops Q S (fuel+1) listed a w :=
 iU hnd hi (Region.noSelect_spec hs) hQ fuel listed a w (Region.free_spec hi hf) (by simpa using hr) hy hS h
def dj (F:Fence) (n:Nat) (P:Program) (md:Region.Mode) (ops:Array Oper) (Q:Exit->Act->World->Prop) (S:World->Prop) (fuel:Nat) (listed:Array Bool) (a:Act) (w:World) (rs:List Nat):Prop :=
 ∀ i ∈ rs,wpOpIn F n P ops Q i (λ a' w'=>S w'/\dx F n P md ops Q S fuel (listed.setIfInBounds i true) a' w') a w
theorem dj.nil:dj F n P md ops Q S fuel listed a w []:=λ _ h=>by cases h
theorem dj.cons {rs:List Nat} (ho:ops[i]? = some o)
  (h:∀ K':Act->World->Prop,Shut (∀ a w,S w->(S w->dx F n P md ops Q S fuel (listed.setIfInBounds i true) a w)->K' a w)->if Region.wanted o (yielded ops a.tmps)=true then Oper.wpIn F n P o a w K' Q else (∀ f,o.about P w a.eval=some f->F.fn f)/\K' (a.put o.dst undef) w)
  (hs:dj F n P md ops Q S fuel listed a w rs):dj F n P md ops Q S fuel listed a w (i::rs):=λ j hj=>by
 rcases List.mem_cons.1 hj with rfl | hj
 ·exact wpOpIn_step ho λ K' hK=>h K' (λ a w hS hW=>hK a w ⟨hS,hW hS⟩)
 ·exact hs j hj
theorem ei {rs:List Nat} (hr:Region.ready md ops listed=rs) (hne:rs≠[]) (h:dj F n P md ops Q S fuel listed a w rs):dx F n P md ops Q S (fuel+1) listed a w:=⟨λ h0=>absurd (hr ▸ h0) hne,hr ▸ h⟩
theorem gm (hr:Region.ready md ops listed=[]) (h:Q .normal a w):∀ fuel,dx F n P md ops Q S fuel listed a w
 | 0=>⟨hr,h⟩
 | _+1=>⟨λ _=>h,by rw [hr];simp⟩
theorem eO {id:Nat} (S:World->Prop) (hm:P.follows .mixedOrders=true) (hS:S w.drew) (h:S w.drew->dx F n P .any ops Q S ops.size (Array.replicate ops.size false) a w.drew):(Code.region id ops true).wpIn F n P Q a w :=
 wpIn_region_any hm (dx.any (h hS))
end
end
section
open Go.RowKit
attribute [local go_sem] ab ae af ac
def dw (l:List UInt8) (p:Nat):mo :=
 let r:=co l p
 if r.2.2=0 then .inl (3,(l.drop p).take (r.2.1.toNat-p),r.1,r.2.1.toNat) else .inr (r.2.1,r.2.2)
def gi (l:List UInt8) (p:Nat):mo :=
 let r:=dt l p
 if r.2.2=0 then .inl (4,r.1,0,r.2.1.toNat) else .inr (r.2.1,r.2.2)
theorem tQ (w:World) (g:Nat) (A:Option Addr) (cap:Nat) (l:List UInt8) (p:Nat) (hG:GOK w) (hV:VB w g A cap l p 0) (hp:p<l.length) (hcap:l.length<=cap) (hlen:l.length<=4194304) :
  Calls Tryz.prog 131 #[Zp (some ⟨g,0,none⟩)] w (ex (gi l p) p w g A cap l):=by
 obtain ⟨hc,hf,hlt⟩:=hV.1.rules;have hgw:g<w.heap.size:=hV.1.lt;have HV:=aW hV;have HG:=aW hG;have hbs:=λ W (hr:Rd W A (aq l)) hg=>rm (Zs A l.length cap) l p W hg ⟨A,cap,rfl,hcap,hr⟩ hlen
 obtain ⟨⟨t,m,er⟩,hr⟩:∃ r,dt l p=r:=⟨_,rfl⟩
 rw [hr] at hbs;have HO:=aW (show er=0->∃ n:Nat,m=n/\p<n/\n<=l.length from λ h=>by have:=ow (l:=l) (a:=p);rw [hr] at this;exact this h);have HS:=aW (show gi l p=if er=0 then .inl (4,t,0,m.toNat) else .inr (m,er) by unfold gi;rw [hr]);have HQ:=aW hbs;clear hV hG hbs hr;unfold bN at hc;have HQ1:=aW (HQ.out ((w.alloc (.cells #[Zi Zq 0,Zi Zq 0,Zt ⟨#[]⟩,Zi Zq 0] 86)).drew) (HV.out.2.alloc _) ((HG.out.alloc _).drewN 1));have hst0:aJ w g A cap l p 0 ((w.alloc (.cells #[Zi Zq 0,Zi Zq 0,Zt ⟨#[]⟩,Zi Zq 0] 86)).drew):=((aJ.refl HV.out).alloc _).drewN 1;have hr0:Blk (w.alloc (.cells #[Zi Zq 0,Zi Zq 0,Zt ⟨#[]⟩,Zi Zq 0] 86)) w.heap.size 86 #[Zi Zq 0,Zi Zq 0,Zt ⟨#[]⟩,Zi Zq 0]:=Blk.new _ _ _;go_enter Tryz.func131,Tryz.ntmps131;go_wp2;go_region_held3 (λ w'=>w'.cell? ⟨g,0,none⟩=some (Zi Zq (p:Int))/\w'.cell? ⟨g,2,none⟩=some (Zs A l.length cap)) (go_keep) ((go_at_call 169;refine HQ1.out.mono ?_;rintro e w1 ⟨rfl,hb1⟩;have hst1:=hst0.keep hb1;have hR1:=(hr0.drew).keep hb1;have h10:=hst1.1.1.cell 0;have h12:=hst1.1.1.cell 2;unfold bN at h10 h12;simp at h10 h12));have hn:=hR1.lt;have hg1:=hst1.1.1.lt;have hf1:=hst1.1.1.frozen;have hfr:=hR1.frozen;have hcr:=hR1.cell;by_cases her:er=0
 ·obtain ⟨n,hn1,hn2,hn3⟩:=HO.out her;subst her;subst hn1;have hz:((0:Int) != 0)=false:=rfl;go_wp2;have hR2:=hR1.far (p:=⟨g,0,none⟩) (show w.heap.size≠g by omega) (Zi Zq n);obtain ⟨cf,_,_⟩:=((Blk.put4 hR2 (Zi Zq 4) (Zi Zq p) (Zt ⟨t.toArray⟩) (Zi Zq 0)).alloc (.cells #[Zi Zq 4,Zi Zq p,Zt ⟨t.toArray⟩,Zi Zq 0] 86)).rules;refine bodyPost_ret (v:=.agg #[Zi Zq 4,Zi Zq p,Zt ⟨t.toArray⟩,Zi Zq 0]) (by simp only [results,Tryz.results131];go_simp) rfl ?_;rw [HS.out,if_pos trivial,Int.toNat_natCast];exact ⟨rfl,((hst1.set0 n).put4 hR2 (Nat.le_refl _) hgw _ _ _ _).alloc _⟩
 ·have hz:(er != 0)=true:=by simp;omega
  go_wp2_with (go_at_call 167;refine (eY _ g _ cap l _ _ _ _ hst1.1).mono ?_;rintro e w3 ⟨rfl,hst5⟩;have hR3:=hR1.grown hst5.2 (by simp;omega);obtain ⟨cr3,fr3,lr3⟩:=hR3.rules;unfold fA);obtain ⟨cf,_,_⟩:=(Blk.put4 hR3 (Zi Zq 0) (Zi Zq 0) (Zt ⟨#[]⟩) (Zi Zq 0)).rules;refine bodyPost_ret (v:=.agg #[Zi Zq 0,Zi Zq 0,Zt ⟨#[]⟩,Zi Zq 0]) (by simp only [results,Tryz.results131];go_simp) rfl ?_;rw [HS.out,if_neg her];exact ⟨rfl,(hst1.trans hst5).put4 hR3 (Nat.le_refl _) hgw _ _ _ _⟩
theorem pu (w:World) (g:Nat) (A:Option Addr) (cap:Nat) (l:List UInt8) (p:Nat) (hV:VB w g A cap l p 0) (hp:p<l.length) (hcap:l.length<=cap) (hlen:l.length<=4194304) :
  Calls Tryz.prog 129 #[Zp (some ⟨g,0,none⟩)] w (ex (dw l p) p w g A cap l):=by
 obtain ⟨hc,hf,hlt⟩:=hV.1.rules;have hgw:g<w.heap.size:=hV.1.lt;obtain ⟨b,o,rfl,hb,_⟩:=hV.byte (List.getElem?_eq_getElem hp);have HV:=aW hV;have hbs:=λ W (hr:Rd W (some ⟨b,o,none⟩) (aq l))=>oq W (Zs (some ⟨b,o,none⟩) l.length cap) l p ⟨_,cap,rfl,hcap,hr⟩ hlen
 obtain ⟨⟨v,m,er⟩,hr⟩:∃ r,co l p=r:=⟨_,rfl⟩
 rw [hr] at hbs;have HO:=aW (show er=0->∃ n:Nat,m=n/\p<=n/\n<=l.length from λ h=>by have:=kF (l:=l) (a:=p);rw [hr] at this;exact this h);have HS:=aW (show dw l p=if er=0 then .inl (3,(l.drop p).take (m.toNat-p),v,m.toNat) else .inr (m,er) by unfold dw;rw [hr]);have HQ:=aW hbs;clear hV hbs hr;unfold bN at hc;have HQ1:=aW (HQ.out ((w.alloc (.cells #[Zi Zq 0,Zi Zq 0,Zt ⟨#[]⟩,Zi Zq 0] 86)).drew) (HV.out.2.alloc _));have hst0:aJ w g (some ⟨b,o,none⟩) cap l p 0 ((w.alloc (.cells #[Zi Zq 0,Zi Zq 0,Zt ⟨#[]⟩,Zi Zq 0] 86)).drew):=((aJ.refl HV.out).alloc _).drewN 1;have hr0:Blk (w.alloc (.cells #[Zi Zq 0,Zi Zq 0,Zt ⟨#[]⟩,Zi Zq 0] 86)) w.heap.size 86 #[Zi Zq 0,Zi Zq 0,Zt ⟨#[]⟩,Zi Zq 0]:=Blk.new _ _ _;go_enter Tryz.func129,Tryz.ntmps129;go_wp2;go_region_held3 (λ w'=>w'.cell? ⟨g,0,none⟩=some (Zi Zq (p:Int))/\w'.cell? ⟨g,2,none⟩=some (Zs (some ⟨b,o,none⟩) l.length cap)) (go_keep) ((go_at_call 168;refine HQ1.out.mono ?_;rintro e w1 ⟨rfl,hb1⟩;have hst1:=hst0.keep hb1;have hR1:=(hr0.drew).keep hb1;have h10:=hst1.1.1.cell 0;have h12:=hst1.1.1.cell 2;unfold bN at h10 h12;simp at h10 h12));have hn:=hR1.lt;have hg1:=hst1.1.1.lt;by_cases her:er=0
 ·obtain ⟨n,hn1,hn2,hn3⟩:=HO.out her;have HS2:=aW (HS.out.trans (if_pos her));have HE:=aW her;subst hn1;have hz:(er != 0)=false:=by simp [her]
  have hw1r:Rd w1 (some ⟨b,o,none⟩) (aq l):=hst1.1.2;obtain ⟨RQ,hRQ⟩:∃ RQ:World->Prop,RQ=λ w'=>Rd w' (some ⟨b,o+p,none⟩) (aq ((l.drop p).take (n-p))):=⟨_,rfl⟩
  have hq':∀ w',RQ w'->(convert 67 9 (Zs (some ⟨b,o+p,none⟩) (n-p) (cap-p))).run Tryz.prog w'=.ok (Zt ⟨((l.drop p).take (n-p)).toArray⟩) w':=by rw [hRQ];exact λ w' h=>iN hn2 hn3 hcap h
  have hka':∀ (w':World) (o':Obj),RQ w'->RQ (w'.alloc o'):=by rw [hRQ];exact λ w' o' h=>h.alloc o'
  have hkd':∀ (w':World),RQ w'->RQ w'.drew:=by rw [hRQ];exact λ w' h=>h
  have hs2:RQ w1:=by rw [hRQ];exact mT hw1r
  have hkc:n<=cap:=by omega
  have hpc':¬ cap=p:=by omega
  clear hRQ her hst0 hr0 hw1r;go_wp2;go_region_held3 (λ w'=>w'.cell? ⟨g,0,none⟩=some (Zi Zq (p:Int))/\w'.cell? ⟨g,2,none⟩=some (Zs (some ⟨b,o,none⟩) l.length cap)/\RQ w') (go_keep) ((fail));obtain ⟨t,ht⟩:∃ t,(l.drop p).take (n-p)=t:=⟨_,rfl⟩
  rw [ht];obtain ⟨Wx,hWx⟩:∃ Wx,(w1.alloc (.cells #[Zi Zq 3,Zi Zq p,Zt ⟨t.toArray⟩,Zi Zq v] 86)).drew=Wx:=⟨_,rfl⟩
  have hT:Blk Wx w1.heap.size 86 #[Zi Zq 3,Zi Zq p,Zt ⟨t.toArray⟩,Zi Zq v]:=by rw [← hWx];exact Blk.new w1 _ _
  have hR2:Blk Wx w.heap.size 86 #[Zi Zq 0,Zi Zq 0,Zt ⟨#[]⟩,Zi Zq 0]:=by rw [← hWx];exact hR1.alloc _
  have hst2:aJ w g (some ⟨b,o,none⟩) cap l p 0 Wx:=by rw [← hWx];exact (hst1.alloc _).drewN 1
  rw [hWx];obtain ⟨N,hN⟩:∃ N,w1.heap.size=N:=⟨_,rfl⟩
  rw [hN] at hT hn hg1 ⊢;have HT:=aW ht;clear hWx hN hs2 hq' hka' hkd' hR1 hst1 ht hb h10 h12;obtain ⟨ct,ft,lt⟩:=hT.rules;obtain ⟨cr,fr,lr⟩:=hR2.rules;have hgf:=hst2.1.1.frozen;have hgc:=hst2.1.1.cell;unfold bN at hgc;go_wp2;have hR3:=hR2.far (p:=⟨g,0,none⟩) (show w.heap.size≠g by omega) (Zi Zq n);obtain ⟨cf,_,_⟩:=(Blk.put4 hR3 (Zi Zq 3) (Zi Zq p) (Zt ⟨t.toArray⟩) (Zi Zq v)).rules;refine bodyPost_ret (v:=.agg #[Zi Zq 3,Zi Zq p,Zt ⟨t.toArray⟩,Zi Zq v]) (by simp only [results,Tryz.results129];go_simp) rfl ?_;rw [HS2.out,Int.toNat_natCast,HT.out];exact ⟨rfl,(hst2.set0 n).put4 hR3 (Nat.le_refl _) hgw _ _ _ _⟩
 ·have hz:(er != 0)=true:=by simp;omega
  have HS2:=aW (HS.out.trans (if_neg her));clear her hst0 hr0;go_wp2_with (go_at_call 167;refine (eY _ g _ cap l _ _ _ _ hst1.1).mono ?_;rintro e w3 ⟨rfl,hst5⟩;have hR3:=hR1.grown hst5.2 (by simp;omega);obtain ⟨cr3,fr3,lr3⟩:=hR3.rules;unfold fA);obtain ⟨cf,_,_⟩:=(Blk.put4 hR3 (Zi Zq 0) (Zi Zq 0) (Zt ⟨#[]⟩) (Zi Zq 0)).rules;refine bodyPost_ret (v:=.agg #[Zi Zq 0,Zi Zq 0,Zt ⟨#[]⟩,Zi Zq 0]) (by simp only [results,Tryz.results129];go_simp) rfl ?_;rw [HS2.out];exact ⟨rfl,(hst1.trans hst5).put4 hR3 (Nat.le_refl _) hgw _ _ _ _⟩
def cc:List (List UInt8):=[[61,61],[60,61],[60],[59],[46],[44],[91],[93],[40],[41],[123],[125],[43],[45],[42]]
def tJ:Value:=.agg (cc.map λ l=>Value.string ⟨l.toArray⟩).toArray
theorem pW (w:World):Calls Tryz.prog 170 #[] w λ e w'=>e=.returned tJ/\Below w.heap.size w w':=by
 go_enter Tryz.func170,Tryz.ntmps170;go_wp2;go_returns;exact ⟨rfl,by go_grown⟩
theorem tK (k:Nat) (h:k<15) (w:World):(Instr.index 205 tJ (Zi Zq (k:Int))).run Tryz.prog w=.ok (Zt ⟨(cc.getD k []).toArray⟩) w:=by
 rcases (by omega:k=0∨k=1∨k=2∨k=3∨k=4∨k=5∨k=6∨k=7∨k=8∨k=9∨k=10∨k=11∨k=12∨k=13∨k=14) with rfl | rfl | rfl | rfl | rfl | rfl | rfl | rfl | rfl | rfl | rfl | rfl | rfl | rfl | rfl<;>kernel_rfl
def du (l:List UInt8) (p:Nat) (s:List UInt8):Bool:=decide ((l.drop p).take s.length=s)
def dn (l:List UInt8) (p:Nat):List (List UInt8)->Option (List UInt8)
 | []=>none
 | s::r=>if du l p s then some s else dn l p r
def fo (l:List UInt8) (p:Nat):mo:=match dn l p cc with | some s=>.inl (5,s,0,p+s.length) | none=>.inr (p,320)
theorem pI {k:Nat} (h:k<15):1<=(cc.getD k []).length/\(cc.getD k []).length<=2:=by
 have:∀ k:Fin 15,1<=(cc.getD k []).length/\(cc.getD k []).length<=2:=by decide
 exact this ⟨k,h⟩
theorem rH (w:World) (g:Nat) (A:Option Addr) (cap:Nat) (l:List UInt8) (p:Nat) (hV:VB w g A cap l p 0) (hp:p<l.length) (hcap:l.length<=cap) (hlen:l.length<=4194304) :
  Calls Tryz.prog 133 #[Zp (some ⟨g,0,none⟩)] w (ex (fo l p) p w g A cap l):=by
 obtain ⟨hc,hf,hlt⟩:=hV.1.rules;have hgw:g<w.heap.size:=hV.1.lt;obtain ⟨b,o,rfl,hb,_⟩:=hV.byte (List.getElem?_eq_getElem hp);have HV:=aW hV;clear hV;unfold bN at hc;obtain ⟨W0,hW0⟩:∃ W0,w.alloc (.cells #[Zi Zq 0,Zi Zq 0,Zt ⟨#[]⟩,Zi Zq 0] 86)=W0:=⟨_,rfl⟩
 have hst0:aJ w g (some ⟨b,o,none⟩) cap l p 0 W0:=by rw [← hW0];exact (aJ.refl HV.out).alloc _
 have hr0:Blk W0 w.heap.size 86 #[Zi Zq 0,Zi Zq 0,Zt ⟨#[]⟩,Zi Zq 0]:=by rw [← hW0];exact Blk.new _ _ _
 go_enter Tryz.func133,Tryz.ntmps133;go_wp2_with (go_at_call 170;refine (pW _).mono ?_;rintro e w1 ⟨rfl,hb1⟩);have hst1:=hst0.keep hb1;have hr1:=hr0.keep hb1;clear hW0 hc hf hlt hst0 hr0 hb;go_loopw [4,5,8] (λ _ _ i wr => ∃ k:Nat,k<=15/\i=Zi Zq k/\dn l p cc=dn l p (cc.drop k)/\∃ j,wr=w1.drewN j) (λ _ _ i _=>15-(intOf i).toNat)
 case atStart=>exact ⟨0,by omega,rfl,rfl,0,rfl⟩
 case round =>
  obtain ⟨k,hk,rfl,hfa,j,rfl⟩:=hrel;obtain ⟨hc,hf,hlt⟩:=hst1.1.1.rules;unfold bN at hc;by_cases h15:k<15
  ·have hix:=tK k h15 (w1.drewN j);have hsl:=pI h15;have hd:cc.drop k=cc.getD k []::cc.drop (k+1):=by
    rw [List.drop_eq_getElem_cons (show k<cc.length from h15),List.getD_eq_getElem?_getD,List.getElem?_eq_getElem (show k<cc.length from h15)];rfl
   rw [hd] at hfa;obtain ⟨s,hs⟩:∃ s,cc.getD k []=s:=⟨_,rfl⟩
   rw [hs] at hix hfa hsl;have hsz:(⟨s.toArray⟩:ByteArray).size=s.length:=by simp [ByteArray.size]
   have HF:=aW hfa;clear hs hd hfa;by_cases hend:p+s.length<=l.length
   ·have hcv:∀ j,(convert 67 9 (Zs (some ⟨b,o+p,none⟩) s.length (cap-p))).run Tryz.prog (w1.drewN j)=.ok (Zt ⟨((l.drop p).take s.length).toArray⟩) (w1.drewN j):=λ j=>by
     have h:=iN (w:=w1.drewN j) (p:=p) (k:=p+s.length) (by omega) hend hcap (by rw [show p+s.length-p=s.length from by omega];exact (mT hst1.1.2).drewN j);rw [show p+s.length-p=s.length from by omega] at h;exact h
    have hgt:decide ((p:Int)+(s.length:Int)<=(l.length:Int))=true:=by rw [decide_eq_true_eq];omega
    have h1:p+s.length-p=s.length:=by omega
    have h2:p+s.length<=cap:=by omega
    have h3:¬ cap=p:=by omega
    obtain ⟨x,hx⟩:∃ x,(l.drop p).take s.length=x:=⟨_,rfl⟩
    rw [hx] at hcv;have HX:=aW hx;clear hx;by_cases hxs:x=s
    ·subst hxs;have HY:=aW (show du l p x=true by unfold du;rw [HX.out];simp);go_wp2;go_quiet (fail);obtain ⟨W2,hW2⟩:∃ W2,(w1.drewN j).drewN nq=W2:=⟨_,rfl⟩
     have hst2:aJ w g (some ⟨b,o,none⟩) cap l p 0 W2:=by rw [← hW2];exact (hst1.drewN _).drewN _
     have hr2:Blk W2 w.heap.size 86 #[Zi Zq 0,Zi Zq 0,Zt ⟨#[]⟩,Zi Zq 0]:=by rw [← hW2];exact (hr1.drewN _).drewN _
     rw [hW2];clear hW2 hcv hix hc hf hlt hgt h1 h2 h3 hst1 hr1;obtain ⟨hc,hf,hlt⟩:=hst2.1.1.rules;unfold bN at hc;obtain ⟨cr,fr,lr⟩:=hr2.rules;go_wp2;have hR3:=hr2.far (p:=⟨g,0,none⟩) (show w.heap.size≠g by omega) (Zi Zq ((p:Int)+(x.length:Int)));obtain ⟨cf,_,_⟩:=((Blk.put4 hR3 (Zi Zq 5) (Zi Zq p) (Zt ⟨x.toArray⟩) (Zi Zq 0)).alloc (.cells #[Zi Zq 5,Zi Zq p,Zt ⟨x.toArray⟩,Zi Zq 0] 86)).rules;refine bodyPost_ret (v:=.agg #[Zi Zq 5,Zi Zq p,Zt ⟨x.toArray⟩,Zi Zq 0]) (by simp only [results,Tryz.results133];go_simp) rfl ?_;have hv:fo l p=.inl (5,x,0,p+x.length):=by unfold fo;rw [HF.out,dn,HY.out];rfl
     rw [hv];exact ⟨rfl,((hst2.set0 _).put4 hR3 (Nat.le_refl _) hgw _ _ _ _).alloc _⟩
    ·have HY:=aW (show du l p s=false by unfold du;rw [HX.out];simpa using hxs);have hbe:(x == s)=false:=by simpa using hxs
     go_wp2;go_quiet (fail);go_wp2;go_roundw
     case rel=>exact ⟨k+1,by omega,by go_num,by rw [HF.out,dn,HY.out];rfl,_,rfl⟩
     case measure=>simp [intOf];omega
   ·have HN:=aW (show du l p s=false by
     unfold du;rw [decide_eq_false_iff_not];intro e;have:=congrArg List.length e;simp at this;omega)
    have hgt:decide ((p:Int)+(s.length:Int)<=(l.length:Int))=false:=by rw [decide_eq_false_iff_not];omega
    go_wp2;go_quiet (fail);go_wp2;go_roundw
    case rel=>exact ⟨k+1,by omega,by go_num,by rw [HF.out,dn,HN.out];rfl,_,rfl⟩
    case measure=>simp [intOf];omega
  ·obtain rfl:k=15:=by omega
   have hv:fo l p=.inr (p,320):=by unfold fo;rw [hfa,List.drop_eq_nil_of_le (by decide)];rfl
   have HVV:=aW hv;clear hfa hv;go_wp2_with (go_at_call 167;refine (eY _ g _ cap l _ _ _ _ (hst1.drewN _).1).mono ?_;rintro e w3 ⟨rfl,hst5⟩;have hR3:=(hr1.drewN j).grown hst5.2 (by simp;omega);obtain ⟨cr3,fr3,lr3⟩:=hR3.rules;unfold fA);obtain ⟨cf,_,_⟩:=(Blk.put4 hR3 (Zi Zq 0) (Zi Zq 0) (Zt ⟨#[]⟩) (Zi Zq 0)).rules;refine bodyPost_ret (v:=.agg #[Zi Zq 0,Zi Zq 0,Zt ⟨#[]⟩,Zi Zq 0]) (by simp only [results,Tryz.results133];go_simp) rfl ?_;rw [HVV.out];exact ⟨rfl,((hst1.drewN j).trans hst5).put4 hR3 (Nat.le_refl _) hgw _ _ _ _⟩
end
end Go.Proofs.YtgmnmnnoahdjnaaGreatDoor
