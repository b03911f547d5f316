import Derived.Test.YtgmnmnnoahdjnaaGreatDoorC22
open Go.Value renaming int → Zi, slice → Zs, string → Zt, pointer → Zp
open Go.IntKind renaming i64 → Zq
set_option maxRecDepth 100000
set_option maxHeartbeats 16000000
set_option linter.unusedVariables false
set_option linter.unusedSimpArgs false
namespace Go.Proofs.YtgmnmnnoahdjnaaGreatDoor
section
section
variable {F:Fence} {n:Nat} {P:Program} {ops:Array Oper} {Q:Exit->Act->World->Prop} {md:Region.Mode} {S:World->Prop} {i j fuel:Nat} {o oi oj:Oper} {v:Value} {a:Act} {w:World} {listed:Array Bool} {K:Act->World->Prop}
def qK (ops:Array Oper):Bool:=ops.toList.all λ o=>match o.op with | .defer _=>false | _=>true
theorem mE (h:qK ops=true) (ho:ops[j]? = some o):∀ c,o.op≠.defer c:=λ c e=>by
 have hm:o ∈ ops.toList:=by rw [Array.mem_toList_iff];exact Array.mem_of_getElem? ho
 have:=List.all_eq_true.1 h o hm;rw [e] at this;cases this
def YdH (P:Program) (ops:Array Oper) (S:World->Prop) (o:Oper) (v:Value) (a:Act):Prop:=YieldsIf P ops S o v a/\∀ w,o.about P w a.eval=none
theorem YdH.at_ (hnd:qK ops=true) (hi:ops[i]? = some o) (hy:YdH P ops S o v a) (hS:S w) (h:K (a.put o.dst v) w):wpOpIn F n P ops Q i K a w:=by
 unfold wpOpIn;simp only [hi];have hab:∀ f,o.about P w a.eval=some f->F.fn f:=λ f hf=>by rw [hy.2 w] at hf;cases hf
 rcases hy.1 with ⟨hw,hv⟩ | ⟨hw,rfl⟩
 ·simp only [hw,if_true,Oper.wpIn,Oper.semAt_eq _ _ _ (mE hnd hi),hv w hS,Oper.uponIn];exact ⟨hab,h⟩
 ·simp only [hw,Bool.false_eq_true,if_false];exact ⟨hab,h⟩
theorem YdH.past (hnd:qK ops=true) (hj:ops[j]? = some oj) (hap:oi.apart ops oj=true) (hsi:∀ cs b,oi.op≠.select cs b) (hsj:∀ cs b,oj.op≠.select cs b)
  (hQ:∀ c a w,Q (.panic c) (a.put oi.dst v) w->Q (.panic c) a w) (hy:YdH P ops S oi v a) (h:wpOpIn F n P ops Q j K (a.put oi.dst v) w):wpOpIn F n P ops Q j (λ a' w'=>YdH P ops S oi v a'/\K (a'.put oi.dst v) w') a w:=by
 obtain ⟨p1,p2,p3⟩:=Oper.apart_spec hap;have hput:∀ b:Act,YdH P ops S oi v b->∀ u,YdH P ops S oi v (b.put oj.dst u):=λ b hb u =>
  ⟨hb.1.of_same (execOp_put oi hsi b oj.dst u p3) (wanted_put oi b oj.dst u p3),λ W=>by rw [about_put oi W b oj.dst u p3];exact hb.2 W⟩
 unfold wpOpIn at h ⊢;simp only [hj] at h ⊢;rw [wanted_put oj a oi.dst v p1,about_put oj w a oi.dst v p1] at h;by_cases hw:Region.wanted oj (yielded ops a.tmps)=true
 ·rw [if_pos hw] at h ⊢;unfold Oper.wpIn at h ⊢;rw [about_put oj w a oi.dst v p1,Oper.semAt_eq _ _ _ (mE hnd hj),execOp_put oj hsj a oi.dst v p1] at h;rw [Oper.semAt_eq _ _ _ (mE hnd hj)];refine ⟨h.1,?_⟩;replace h:=h.2;cases hr:(execOp a.eval oj).run P w with
  |ok x w' =>
   rw [hr] at h;cases x with
   | value u=>exact ⟨hput a hy u,by rw [← Act.put_comm a v u p2];exact h⟩
   | skip=>exact ⟨hput a hy undef,by rw [← Act.put_comm a v undef p2];exact h⟩
   |defer d =>
    refine ⟨hput { a with defers:=d::a.defers } ⟨hy.1.of_same rfl rfl,hy.2⟩ undef,?_⟩;rw [← Act.put_comm _ v undef p2,← Act.put_defers];exact h
   | enter f args=>exact ⟨h.1,CallsIn.mono h.2 λ e W he=>by cases e<;>first | exact ⟨hput a hy _,by rw [← Act.put_comm a v _ p2];exact he⟩ | exact hQ _ _ _ he | exact he⟩
   | row r args=>exact ⟨h.1,RowsIn.mono h.2 λ u W he=>⟨hput a hy u,by rw [← Act.put_comm a v u p2];exact he⟩⟩
   | round l f tmps assign body=>exact ⟨h.1,RoundIn.mono h.2 λ e W he=>by cases e<;>first | exact ⟨hput a hy _,by rw [← Act.put_comm a v _ p2];exact he⟩ | exact hQ _ _ _ he | exact he⟩
   | _=>exact h
  |halt x w' =>
   rw [hr] at h;cases x<;>first | exact hQ _ _ _ h | exact h
 ·rw [if_neg hw] at h ⊢;exact ⟨h.1,hput a hy undef,by rw [← Act.put_comm a v undef p2];exact h.2⟩
def ej (F:Fence) (n:Nat) (P:Program) (md:Region.Mode) (ops:Array Oper) (Q:Exit->Act->World->Prop) (S:World->Prop):Nat->Array Bool->Act->World->Prop
 | 0,listed,a,w=>Region.ready md ops listed=[]/\Q .normal a w
 | fuel+1,listed,a,w=>(Region.ready md ops listed=[]->Q .normal a w)/\∀ i ∈ Region.ready md ops listed,wpOpIn F n P ops Q i (λ a' w'=>S w'/\ej F n P md ops Q S fuel (listed.setIfInBounds i true) a' w') a w
theorem ej.any:∀ {fuel:Nat} {listed:Array Bool} {a:Act} {w:World},ej F n P md ops Q S fuel listed a w->wpAnyIn F n P md ops Q fuel listed a w
 | 0,_,_,_,h=>h
 | _+1,_,_,_,h=>⟨h.1,λ i hi=>wpOpIn_mono (λ _ _ h'=>ej.any h'.2) (h.2 i hi)⟩
theorem ke (hnd:qK ops=true) (hi:ops[i]? = some oi) (hsel:∀ (j:Nat) (o:Oper) cs b,ops[j]? = some o->o.op≠.select cs b) (hQ:∀ c a w,Q (.panic c) (a.put oi.dst v) w->Q (.panic c) a w) :
  ∀ (fuel:Nat) (listed:Array Bool) (a:Act) (w:World),(∀ j oj,ops[j]? = some oj->j≠i->listed.getD j true=false->(∀ e ∈ oj.after,Region.binds md e=true->e.on≠i)->oi.apart ops oj=true) ->
   i ∈ Region.ready md ops listed->YdH P ops S oi v a->S w->ej F n P md ops Q S fuel (listed.setIfInBounds i true) (a.put oi.dst v) w->ej F n P md ops Q S (fuel+1) listed a w
 |0,listed,a,w,_,hr,hy,hS,H=>by
  refine ⟨λ h=>(by rw [h] at hr;cases hr),λ j hj=>?_⟩;by_cases hji:j=i
  ·subst hji;exact hy.at_ hnd hi hS ⟨hS,H⟩
  ·have h1:=ready_mono hj hji;rw [H.1] at h1;cases h1
 |fuel+1,listed,a,w,hfree,hr,hy,hS,H=>by
  refine ⟨λ h=>(by rw [h] at hr;cases hr),λ j hj=>?_⟩;by_cases hji:j=i
  ·subst hji;exact hy.at_ hnd hi hS ⟨hS,H⟩
  obtain ⟨hjun,oj,hoj,hall⟩:=mem_ready.1 hj;have hnot:∀ e ∈ oj.after,Region.binds md e=true->e.on≠i:=λ e he hb heq=>by
   have h1:=hall e he hb;have h0:=(mem_ready.1 hr).1;rw [heq] at h1;rcases Nat.lt_or_ge i listed.size with h' | h'
   ·simp [h'] at h0 h1;rw [h0] at h1;cases h1
   ·simp [Array.getElem?_eq_none h'] at h1
  have h2:=hy.past hnd hoj (hfree j oj hoj hji hjun hnot) (λ cs b=>hsel i oi cs b hi) (λ cs b=>hsel j oj cs b hoj) hQ (H.2 j (ready_mono hj hji));refine wpOpIn_mono (λ a' w' h3=>⟨h3.2.1,ke hnd hi hsel hQ fuel _ a' w' (λ k ok hk hki hun hno=>hfree k ok hk hki ?_ hno) (ready_mono hr (Ne.symm hji)) h3.1 h3.2.1 ?_⟩) h2
  ·by_cases hjk:j=k
   ·subst hjk;exact hjun
   ·rw [getD_set_ne true hjk] at hun;exact hun
  ·rw [Array.setIfInBounds_comm _ _ hji];exact h3.2.2
theorem aF (i:Nat) (v:Value) (hi:ops[i]? = some oi) (hnd:qK ops=true) (hs:Region.noSelect ops=true) (hf:Region.free md ops listed i=true) (hr:(Region.ready md ops listed).contains i=true)
  (hQ:∀ c a w,Q (.panic c) (a.put oi.dst v) w->Q (.panic c) a w) (hy:YdH P ops S oi v a) (hS:S w) (h:ej F n P md ops Q S fuel (listed.setIfInBounds i true) (a.put oi.dst v) w):ej F n P md ops Q S (fuel+1) listed a w :=
 ke hnd hi (Region.noSelect_spec hs) hQ fuel listed a w (Region.free_spec hi hf) (by simpa using hr) hy hS h
def dZ (F:Fence) (n:Nat) (P:Program) (md:Region.Mode) (ops:Array Oper) (Q:Exit->Act->World->Prop) (S:World->Prop) (fuel:Nat) (listed:Array Bool) (a:Act) (w:World) (rs:List Nat):Prop :=
 ∀ i ∈ rs,wpOpIn F n P ops Q i (λ a' w'=>S w'/\ej F n P md ops Q S fuel (listed.setIfInBounds i true) a' w') a w
theorem dZ.nil:dZ F n P md ops Q S fuel listed a w []:=λ _ h=>by cases h
theorem dZ.cons {rs:List Nat} (ho:ops[i]? = some o)
  (h:∀ K':Act->World->Prop,Shut (∀ a w,S w->(S w->ej F n P md ops Q S fuel (listed.setIfInBounds i true) a w)->K' a w)->if Region.wanted o (yielded ops a.tmps)=true then Oper.wpIn F n P o a w K' Q else (∀ f,o.about P w a.eval=some f->F.fn f)/\K' (a.put o.dst undef) w)
  (hs:dZ F n P md ops Q S fuel listed a w rs):dZ F n P md ops Q S fuel listed a w (i::rs):=λ j hj=>by
 rcases List.mem_cons.1 hj with rfl | hj
 ·exact wpOpIn_step ho λ K' hK=>h K' (λ a w hS hW=>hK a w ⟨hS,hW hS⟩)
 ·exact hs j hj
theorem fs {rs:List Nat} (hr:Region.ready md ops listed=rs) (hne:rs≠[]) (h:dZ F n P md ops Q S fuel listed a w rs):ej F n P md ops Q S (fuel+1) listed a w:=⟨λ h0=>absurd (hr ▸ h0) hne,hr ▸ h⟩
theorem iL (hr:Region.ready md ops listed=[]) (h:Q .normal a w):∀ fuel,ej F n P md ops Q S fuel listed a w
 | 0=>⟨hr,h⟩
 | _+1=>⟨λ _=>h,by rw [hr];simp⟩
theorem gn {id:Nat} (S:World->Prop) (hm:P.follows .mixedOrders=true) (hS:S w.drew) (h:S w.drew->ej F n P .any ops Q S ops.size (Array.replicate ops.size false) a w.drew):(Code.region id ops true).wpIn F n P Q a w :=
 wpIn_region_any hm (ej.any (h hS))
end
end
section
open Go.RowKit Go.Shelf
attribute [local go_sem] aa ac ae ab
theorem Bk (kids kidsq:List EJ) (css css':List (List Value)) (A A':Option Addr) (nk nkq ca ca':Nat) (F F':Nat->Prop) (w:World) (hnk:kids.length=nk) (hnkq:kidsq.length=nkq) (hk9:nk<=4194304) (hkq9:nkq<=4194304) (h1:ERs w F css kids) (h6:RdF w F A css.flatten) (h1':ERs w F' css' kidsq) (h6':RdF w F' A' css'.flatten) (h2:nk<=ca) (h2':nkq<=ca')
  (heq:∀ (x y  : EJ) (c c':List Value) (W:World),x ∈ kids->y ∈ kidsq->Below w.heap.size w W->ER W F c x->ER W F' c' y->Calls Tryz.prog 95 #[.agg c.toArray,.agg c'.toArray] W (EqX (x=y) W)) :
  Calls Tryz.prog 148 #[Zs A nk ca,Zs A' nkq ca',.func (.func 95) #[] #[]] w (EqX (kids=kidsq) w):=by
 have HIH:=aW (λ (i:Nat) (x  : EJ) (hx:kids[i]? = some x)=>gT h1 h6 hx);have HIH':=aW (λ (i:Nat) (x  : EJ) (hx:kidsq[i]? = some x)=>gT h1' h6' hx);have HEQ:=aW heq;have HNK:=aW hnk;have HNKQ:=aW hnkq;clear h1 h6 h1' h6' heq hnk hnkq;by_cases el:nk=nkq
 case neg =>
  have HNO:=aW (show ¬ (kids=kidsq) from λ e=>el (by rw [← HNK.out,← HNKQ.out,e]));have hb1:((nk:Int) == nkq)=false:=by simp;omega
  have hb2:((nk:Int) != nkq)=true:=by simp;omega
  go_enter Tryz.func148,Tryz.ntmps148;go_wp2;go_ret;exact EqX.no HNO.out (Below.refl _ _)
 subst el;go_enter Tryz.func148,Tryz.ntmps148;go_wp2;go_loopg [17] nk (λ gk s17 wr => ∃ i:Nat,i<=nk/\gk=nk-i/\s17=Zi Zq i/\Hid (kids.take i=kidsq.take i)/\Hid (Below w.heap.size w wr))
 case atStart=>exact ⟨0,Nat.zero_le _,rfl,by go_num,aW rfl,aW (Below.refl _ _)⟩
 case round =>
  obtain ⟨i,hi,hgk,rfl,HSM,HB⟩:=hrel;have HG:=aW hgk;clear hgk;by_cases hlt:i<nk
  ·obtain ⟨x,hx⟩:∃ x,kids[i]? = some x:=⟨_,List.getElem?_eq_getElem (by rw [HNK.out];exact hlt)⟩
   obtain ⟨y,hy⟩:∃ y,kidsq[i]? = some y:=⟨_,List.getElem?_eq_getElem (by rw [HNKQ.out];exact hlt)⟩
   obtain ⟨b,o,kx,k1x,n1x,s1x,A1x,na1x,ca1x,B1x,nb1x,cb1x,sx,A2x,n2x,ca2x,rfl,hb,hvx,hz⟩:=HIH.out i x hx;obtain ⟨b',o',ky,k1y,n1y,s1y,A1y,na1y,ca1y,B1y,nb1y,cb1y,sy,A2y,n2y,ca2y,rfl,hb',hvx',hz'⟩:=HIH'.out i y hy;have hbA:=(Below.refl wr.heap.size wr).alloc (Nat.le_refl _) (.cells #[Zi Zq kx,Zi Zq k1x,Zi Zq n1x,Zt s1x,Zs A1x na1x ca1x,Zs B1x nb1x cb1x,Zt sx,Zs A2x n2x ca2x] 45);obtain ⟨q0,q1,q2,q3,q4,q5,q6,q7⟩:=hz _ HB.out;obtain ⟨p0,p1,p2,p3,p4,p5,p6,p7⟩:=hz' _ (HB.out.trans (hbA.mono HB.out.size));have hTS:=gN.new wr 45 #[Zi Zq kx,Zi Zq k1x,Zi Zq n1x,Zt s1x,Zs A1x na1x ca1x,Zs B1x nb1x cb1x,Zt sx,Zs A2x n2x ca2x] #[Zi Zq ky,Zi Zq k1y,Zi Zq n1y,Zt s1y,Zs A1y na1y ca1y,Zs B1y nb1y cb1y,Zt sy,Zs A2y n2y ca2y];have HB2:=aW (HB.out.trans (hTS.2.2.mono HB.out.size));have HCL:=aW (HEQ.out x y _ _ _ (List.mem_of_getElem? hx) (List.mem_of_getElem? hy) HB2.out (hvx.bel HB2.out) (hvx'.bel HB2.out));have HXY:=aW (show x=y->kids.take (i+1)=kidsq.take (i+1) from λ e=>by rw [List.take_add_one,List.take_add_one,HSM.out,hx,hy,e]);have HXN:=aW (show x≠y->¬ kids=kidsq from λ e h=>e (by rw [h,hy] at hx;exact (Option.some.inj hx).symm));obtain ⟨c1,f1,l1⟩:=hTS.1.rules;obtain ⟨c2,f2,l2⟩:=hTS.2.1.rules;have hb1:b<wr.heap.size:=Nat.lt_of_lt_of_le hb HB.out.size;have hb1':b'<wr.heap.size:=Nat.lt_of_lt_of_le hb' HB.out.size;clear hz hz' hvx hvx' hx hy hbA hTS;go_wp2_with fail;refine HCL.out.mono ?_;rintro e w2 ⟨tt,rfl,htt,hb2⟩;have HB3:=aW (HB2.out.trans (hb2.mono HB2.out.size));have HTT:=aW htt;clear hb2 htt;cases tt with
   |true =>
    have HK:=aW (HXY.out (HTT.out.1 (by trivial)));go_wp2;go_roundg (nk-(i+1))
    case measure=>rw [HG.out];omega
    case rel=>exact ⟨i+1,hlt,rfl,by go_num,HK,HB3⟩
   |false =>
    have HF:=aW (HXN.out (λ e=>by have:=HTT.out.2 e;cases this));go_wp2;go_ret;exact EqX.no HF.out HB3.out
  ·obtain rfl:i=nk:=by omega
   have HF:=aW (show kids=kidsq by
    have e1:=HSM.out;rwa [List.take_of_length_le (Nat.le_of_eq HNK.out),List.take_of_length_le (Nat.le_of_eq HNKQ.out)] at e1)
   go_wp2;go_ret;exact EqX.yes HF.out HB.out
theorem oy:∀ {l:List EJ} {x:EJ},x ∈ l->bZ x<=bM l
 |y::r,x,h=>by
  unfold bM;rcases List.mem_cons.1 h with rfl | h
  ·omega
  ·have:=oy h;omega
theorem xi (x:EJ):1<=bZ x:=by cases x;unfold bZ;omega
theorem sN:∀ (N:Nat) (x y:EJ),bZ x<=N->∀ (cs cs':List Value) (F F':Nat->Prop) (w:World),ER w F cs x->ER w F' cs' y->cd x->cd y->Calls Tryz.prog 95 #[.agg cs.toArray,.agg cs'.toArray] w (EqX (x=y) w)
 | 0,x,_,h,_,_,_,_,_,_,_,_,_=>by have:=xi x;omega
 |N+1,.mk k v s kids,.mk kq vq sq kidsq,hN,cs,cs',F,F',w,hx,hy,hC,hC'=>by
  have ih:=sN N;unfold bZ at hN;unfold cd at hC hC';obtain ⟨_,hcv,hsl,hkl,hck⟩:=hC;obtain ⟨_,hcv',hsl',hkl',hck'⟩:=hC';have hck:=cc.1 hck;have hck':=cc.1 hck';obtain ⟨k1,n1,s1,A1,na1,ca1,B1,nb1,cb1,A,ca,css,rfl,hv,h1,h2,h3,h4⟩:=hx.out;obtain ⟨k2,n2,s2,A2,na2,ca2,B2,nb2,cb2,A',ca',css',rfl,hv',h1',h2',h3',h4'⟩:=hy.out;have HEF:=aW (λ W (h:Below w.heap.size w W)=>Bk kids kidsq css css' A A' kids.length kidsq.length ca ca' F F' W rfl rfl hkl hkl' (RR.imp h1 λ c x hc=>hc.bel h) (h4.keep (ah.of_below h)) (RR.imp h1' λ c x hc=>hc.bel h) (h4'.keep (ah.of_below h)) h2 h2'
   (λ x y c c' W2 hx hy hW2 hc hc'=>ih x y (by have:=oy hx;omega) c c' F F' W2 hc hc' (hck x hx) (hck' y hy)))
  have HSV:=aW (λ W (h:Below w.heap.size w W)=>tL _ v vq (Nat.le_refl _) _ _ F F' W (hv.bel h) (hv'.bel h) hcv hcv');obtain ⟨nk,hnk⟩:∃ nk,kids.length=nk:=⟨_,rfl⟩
  obtain ⟨nkq,hnkq⟩:∃ nkq,kidsq.length=nkq:=⟨_,rfl⟩
  rw [hnk,hnkq] at HEF ⊢;have HTB:=aW (gN.new w 45 #[Zi Zq k,Zi Zq k1,Zi Zq n1,Zt s1,Zs A1 na1 ca1,Zs B1 nb1 cb1,Zt ⟨s.toArray⟩,Zs A nk ca] #[Zi Zq kq,Zi Zq k2,Zi Zq n2,Zt s2,Zs A2 na2 ca2,Zs B2 nb2 cb2,Zt ⟨sq.toArray⟩,Zs A' nkq ca']);have y1:w.heap.size≠w.heap.size+1:=by omega
  have y2:w.heap.size+1≠w.heap.size:=by omega
  clear hx hy hv hv' hck hck' hcv hcv' h1 h1' h2 h2' h3 h3' h4 h4' hnk hnkq ih hN;obtain ⟨PP,hPP⟩:∃ PP:Prop,(EJ.mk k v s kids=EJ.mk kq vq sq kidsq)=PP:=⟨_,rfl⟩
  rw [hPP];have HPN:=aW (show (k≠kq∨s≠sq∨v≠vq∨kids≠kidsq)->¬ PP by
   rw [← hPP];intro h e;injection e with e1 e2 e3 e4
   rcases h with h | h | h | h
   ·exact h e1
   ·exact h e3
   ·exact h e2
   ·exact h e4)
  have HPY:=aW (show k=kq->s=sq->v=vq->kids=kidsq->PP by rw [← hPP];rintro rfl rfl rfl rfl;rfl);clear hPP;by_cases ek:k=kq
  case neg =>
   have HNO:=aW (HPN.out (.inl ek));have hb1:(k == kq)=false:=by simp [ek]
   go_enter Tryz.func95,Tryz.ntmps95;go_wp2;go_ret;exact EqX.no HNO.out HTB.out.2.2
  by_cases es:s=sq
  case neg =>
   have HNO:=aW (HPN.out (.inr (.inl es)));have hb1:(s == sq)=false:=by simp [es]
   subst ek;go_enter Tryz.func95,Tryz.ntmps95;go_wp2;go_ret;exact EqX.no HNO.out HTB.out.2.2
  subst ek es;go_enter Tryz.func95,Tryz.ntmps95;go_wp2_with fail;refine (HSV.out _ HTB.out.2.2).mono ?_;rintro e w1 ⟨t1,rfl,ht1,hb1⟩;have HTQ:=aW (HTB.out.keep hb1);have HT1:=aW ht1;clear hb1 ht1;obtain ⟨c1,f1,l1⟩:=HTQ.out.1.rules;obtain ⟨c2,f2,l2⟩:=HTQ.out.2.1.rules;cases t1 with
  |false =>
   have HNO:=aW (HPN.out (.inr (.inr (.inl λ e=>by have:=HT1.out.2 e;cases this))));go_wp2;go_ret;exact EqX.no HNO.out HTQ.out.2.2
  |true =>
   go_wp2_with fail;refine (HEF.out _ HTQ.out.2.2).mono ?_;rintro e w2 ⟨tt,rfl,htt,hb2⟩;have HB2:=aW (HTQ.out.2.2.trans (hb2.mono HTQ.out.2.2.size));have HTT:=aW htt;clear hb2 htt;go_wp2;go_ret;refine ⟨tt,rfl,⟨λ h=>HPY.out (by trivial) (by trivial) (HT1.out.1 (by trivial)) (HTT.out.1 h),λ h=>?_⟩,HB2.out⟩;cases tt with
   | true=>rfl
   | false=>exact absurd h (HPN.out (.inr (.inr (.inr λ e=>by have:=HTT.out.2 e;cases this))))
end
end Go.Proofs.YtgmnmnnoahdjnaaGreatDoor
