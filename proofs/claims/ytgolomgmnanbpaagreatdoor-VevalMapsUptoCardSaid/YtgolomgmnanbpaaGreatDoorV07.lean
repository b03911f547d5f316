import Derived.Test.YtgolomgmnanbpaaGreatDoorV05
import Derived.Test.YtgolomgmnanbpaaGreatDoorRows
import Derived.Deep.Strs
open Go.Value renaming int → Zi, slice → Zs, string → Zt, pointer → Zp
open Go.IntKind renaming i64 → Zq
set_option maxRecDepth 100000
set_option maxHeartbeats 16000000
set_option linter.unusedVariables false
set_option linter.unusedSimpArgs false
namespace Go.Proofs.YtgolomgmnanbpaaGreatDoor
section
open Go.RowKit Go.Deep Go.ChangeShapes Go.WideShapes
section
variable {H:Type} {enc:TypeId × Value->H} {W:World}
theorem pP (a:Addr):∀ (elems:List (DataW H × List MemPlace)) (a0:Nat),(∀ i,i<elems.length->∃ c v y,elems[i]? = some y/\W.cells? 0 (a.add ((a0+i)*5)) 5=some c/\VR W TT c v/\inJ v/\cr v<=Rows.uptoBulk y.1) ->
  ∃ css kids,VRs W TT css kids/\kids.length=elems.length/\(∀ i c,css[i]? = some c->W.cells? 0 (a.add ((a0+i)*5)) 5=some c)/\inL kids/\cJ kids<=Rows.uptoBulkAll (elems.map (·.1))
 | [],_,_=>⟨[],[],VRs.nil,rfl,λ i c h=>by simp at h,trivial,Nat.zero_le _⟩
 |y::r,a0,h=>by
  obtain ⟨c,v,y',e,h1,h2,h3,h4⟩:=h 0 (by simp);obtain rfl:y=y':=by simpa using e
  obtain ⟨css,kids,k1,k2,k3,k4,k5⟩:=pP a r (a0+1) (λ i hi=>by
   obtain ⟨c,v,y',e,h1,h2,h3,h4⟩:=h (i+1) (by simp;omega);exact ⟨c,v,y',by simpa using e,by rw [show a0+1+i=a0+(i+1) by omega];exact h1,h2,h3,h4⟩)
  refine ⟨c::css,v::kids,⟨by simp [k1.1],λ i c' x' e1 e2=>?_⟩,by simp [k2],λ i c' e1=>?_,?_,?_⟩
  ·cases i with
   |zero =>
    obtain rfl:c=c':=by simpa using e1
    obtain rfl:v=x':=by simpa using e2
    exact h2
   | succ i=>exact k1.2 i c' x' (by simpa using e1) (by simpa using e2)
  ·cases i with
   |zero =>
    obtain rfl:c=c':=by simpa using e1
    exact h1
   | succ i=>have:=k3 i c' (by simpa using e1);rwa [show a0+1+i=a0+(i+1) by omega] at this
  ·unfold inL;exact ⟨h3,k4⟩
  ·unfold cJ;rw [List.map_cons];unfold Rows.uptoBulkAll;omega
theorem uT (a:Addr) {css:List (List Value)} {kids:List JV} (h:VRs W TT css kids) (hc:∀ i c,css[i]? = some c->W.cells? 0 (a.add (i*5)) 5=some c):RdF W TT (some a) css.flatten:=by
 intro hne;have hpos:0<css.length:=by
  rcases css with _ | ⟨c,r⟩
  ·exact absurd rfl hne
  ·simp
 obtain ⟨b,o,spot⟩:=a;have h5:=h.five;have h0:=World.cells?_some (hc 0 _ (List.getElem?_eq_getElem hpos));have q0:=h0.2.2 0 (by decide);rw [List.getElem?_eq_getElem (by omega)] at q0;have hspot:spot=none:=by simpa [Addr.add] using World.cell?_spot q0
 subst hspot;have hcell:∀ i (hi:i<css.flatten.length),W.cell? ⟨b,o+i,none⟩=some css.flatten[i]:=by
  intro i hi;rw [eH h5] at hi;have hq:i / 5<css.length:=by omega
  have hx:=World.cells?_some (hc (i / 5) _ (List.getElem?_eq_getElem hq));have hy:=hx.2.2 (i % 5) (by omega);rw [add_plain,add_plain,← iF h5 (List.getElem?_eq_getElem hq) (by omega)] at hy;rw [show o+i=o+i / 5*5+i % 5 by omega,hy,show i / 5*5+i % 5=i by omega,List.getElem?_eq_getElem]
 refine ⟨b,o,rfl,?_,trivial,hcell⟩;have hl:0<css.flatten.length:=by rw [eH h5];omega
 have hz:=hcell 0 hl;rcases Nat.lt_or_ge b W.heap.size with hlt | hge
 ·exact hlt
 ·unfold World.cell? at hz;simp [Array.getElem?_eq_none hge] at hz
theorem pH (f:Nat->ByteArray):∀ l:List Nat,bN (l.map λ i=>(f i).data.toList)<=Rows.uptoBulkAll (H:=H) (l.map λ i=>.lit (.string (f i).data.toList))
 | []=>Nat.zero_le _
 |i::r=>by
  have:=pH f r;rw [List.map_cons,List.map_cons];unfold bN Rows.uptoBulkAll Rows.uptoBulk;omega
theorem pt {n:Int} (h:(Lit.int .i64 n).wf=true):iw n:=by
 have h:(decide (IntKind.i64.min<=n) && decide (n<=IntKind.i64.max))=true:=h;rw [Bool.and_eq_true,decide_eq_true_eq,decide_eq_true_eq] at h;have e1:IntKind.i64.min = -9223372036854775808:=by decide
 have e2:IntKind.i64.max=9223372036854775807:=by decide
 unfold iw;omega
theorem kD:∀ (fuel:Nat) (cs:List Value) (x:DataW H × List MemPlace),DataW.trod enc Tryz.prog W 0 (λ _=>true) true fuel 25 cs=some x->∃ v,VR W TT cs v/\inJ v/\cr v<=Rows.uptoBulk x.1:=by
 intro fuel
 induction fuel using Nat.strongRecOn with
 |ind fuel ih =>
  intro cs x h;obtain ⟨xs,n,rfl,rfl,hlen,hxl,hf⟩:=DataW.trod_struct Tryz.underlying25 h;have ci:Tryz.prog.cellsOf 3=1:=by kernel_rfl
  have cl:Tryz.prog.cellsOf 2=1:=by kernel_rfl
  have ct:Tryz.prog.cellsOf 9=1:=by kernel_rfl
  have ck:Tryz.prog.cellsOf 22=1:=by kernel_rfl
  have cy:Tryz.prog.cellsOf 23=1:=by kernel_rfl
  have cv:Tryz.prog.cellsOf 25=5:=by kernel_rfl
  rw [cv] at hlen;have f0:=hf 0 _ rfl;have f1:=hf 1 _ rfl;have f2:=hf 2 _ rfl;have f3:=hf 3 _ rfl;have f4:=hf 4 _ rfl;clear hf
  match xs,hxl,cs,hlen with
  |[y0,y1,y2,y3,y4],_,[c0,c1,c2,c3,c4],_ =>
   simp [ci,cl,ct,ck,cy] at f0 f1 f2 f3 f4;obtain ⟨k,e0,rfl,w0⟩:=DataW.trod_int Tryz.underlying3 f0;obtain ⟨m,e1,rfl,w1⟩:=DataW.trod_int Tryz.underlying2 f1;obtain ⟨s,e2,rfl,w2⟩:=DataW.trod_string Tryz.underlying9 f2;obtain rfl:c0=.int .i64 k:=by simpa using e0
   obtain rfl:c1=.int .i64 m:=by simpa using e1
   obtain rfl:c2=.string s:=by simpa using e2
   obtain ⟨A,ca,css,kids,rfl,hk1,hk2,hk3,hk4,hk5,hk6⟩:∃ A ca css kids,c3=.slice A kids.length ca/\VRs W TT css kids/\kids.length<=ca/\(A=none->ca=0)/\RdF W TT A css.flatten/\inL kids/\cJ kids<=Rows.uptoBulk y3.1:=by
    rcases DataW.trod_slice Tryz.underlying22 f3 with ⟨e3,rfl⟩ | ⟨a,len,cap,elems,rest,n',hn,e3,rfl,hb,hl,hm,hel,hk,_,_⟩
    ·exact ⟨none,0,[],[],by simpa using e3,VRs.nil,Nat.le_refl _,λ _=>rfl,RdF.nil,trivial,Nat.zero_le _⟩
    ·rw [cv] at hk;obtain ⟨css,kids,k1,k2,k3,k4,k5⟩:=pP (W:=W) a elems 0 (λ i hi=>by
      have hq:=hk i (by omega);rw [List.getElem?_eq_getElem hi] at hq;obtain ⟨c,q1,q2⟩:=Option.bind_eq_some_iff.1 hq;obtain ⟨v,q3,q4,q5⟩:=ih n' (by omega) c _ q2;exact ⟨c,v,_,List.getElem?_eq_getElem hi,by rw [Nat.zero_add];exact q1,q3,q4,q5⟩)
     refine ⟨some a,cap,css,kids,?_,k1,by omega,λ e=>by simp at e,uT a k1 (λ i c e=>by have:=k3 i c e;rwa [Nat.zero_add] at this),k4,?_⟩
     ·rw [k2,hel];simpa using e3
     ·show _<=Rows.uptoBulk (.slice _ _);unfold Rows.uptoBulk;omega
   obtain ⟨B,cb,keys,rfl,hy1,hy2,hy3,hy4⟩:∃ B cb keys,c4=.slice B keys.length cb/\keys.length<=cb/\(B=none->cb=0)/\RdF W TT B (cQ keys)/\bN keys<=Rows.uptoBulk y4.1:=by
    rcases open_strs Tryz.underlying23 Tryz.underlying9 ct f4 with ⟨e4,rfl⟩ | ⟨a,len,cap,q,Sx,e4,hb,hl,hm,hq,rfl,hx⟩
    ·exact ⟨none,0,[],by simpa using e4,Nat.le_refl _,λ _=>rfl,RdF.nil,Nat.zero_le _⟩
    ·simp at hq;subst hq;refine ⟨some a,q,(List.range len).map λ i=>(Sx i).data.toList,by simpa using e4,by simpa using hl,λ e=>by simp at e,λ hne=>?_,?_⟩
     ·have hpos:0<len:=by
       rcases len with _ | len
       ·exact absurd rfl hne
       ·omega
      obtain ⟨b,o,spot⟩:=a;have q0:=(hx 0 (by omega)).1;have hspot:spot=none:=by simpa [Addr.add] using World.cell?_spot q0
      subst hspot;refine ⟨b,o,rfl,?_,trivial,λ i hi=>?_⟩
      ·rcases Nat.lt_or_ge b W.heap.size with hlt | hge
       ·exact hlt
       ·rw [add_plain] at q0;unfold World.cell? at q0;simp [Array.getElem?_eq_none hge] at q0
      ·have hi':i<len:=by rw [cP] at hi;simpa using hi
       have:=(hx i (by omega)).1;rw [add_plain] at this;rw [this];simp [cQ]
     ·have:=pH (H:=H) Sx (List.range len);show _<=Rows.uptoBulk (.slice _ _);unfold Rows.uptoBulk;omega
   obtain ⟨ss,rfl⟩:∃ ss:List UInt8,s=⟨ss.toArray⟩:=⟨s.data.toList,by simp⟩
   refine ⟨.mk k m ss kids keys,VR.into k m ss hk1 hk2 hy1 hk3 hy2 hk4 hy3 rfl rfl,?_,?_⟩
   ·unfold inJ;exact ⟨pt w0,pt w1,hk5⟩
   ·unfold cr;simp only [List.map_cons,List.map_nil];unfold Rows.uptoBulk Rows.uptoBulkAll Rows.uptoBulkAll Rows.uptoBulkAll Rows.uptoBulkAll Rows.uptoBulkAll Rows.uptoBulkAll;have:Rows.uptoBulk (H:=H) (.lit (.string ss))=ss.length+1:=by unfold Rows.uptoBulk;rfl
    have e2:(Lit.string (ByteArray.mk ss.toArray).data.toList)=.string ss:=by simp
    rw [e2,this];omega
end
end
section
open Go.RowKit
inductive EJ where
 | mk:Int->JV->List UInt8->List EJ->EJ
inductive SJ where
 | mk:Int->List UInt8->EJ->EJ->List SJ->List SJ->SJ
def EJ.kind:EJ->Int | .mk k _ _ _=>k
def EJ.val:EJ->JV | .mk _ v _ _=>v
def EJ.kids:EJ->List EJ | .mk _ _ _ l=>l
def ff:EJ:=.mk 0 eP [] []
instance:Inhabited EJ:=⟨ff⟩
instance:Inhabited SJ:=⟨.mk 0 [] ff ff [] []⟩
def RR {α:Type} (R:List Value->α->Prop) (css:List (List Value)) (xs:List α):Prop:=css.length=xs.length/\∀ (i:Nat) c x,css[i]? = some c->xs[i]? = some x->R c x
section
variable {α:Type} {R R':List Value->α->Prop} {css:List (List Value)} {xs:List α} {m:Nat}
theorem RR.imp (h:RR R css xs) (hm:∀ c x,R c x->R' c x):RR R' css xs:=⟨h.1,λ i c x h1 h2=>hm c x (h.2 i c x h1 h2)⟩
theorem RR.nil:RR R [] ([]:List α):=⟨rfl,λ i c x h=>by simp at h⟩
theorem eM:∀ {css:List (List Value)},(∀ c ∈ css,c.length=m)->css.flatten.length=css.length*m
 | [],_=>by simp
 |c::r,h=>by
  rw [List.flatten_cons,List.length_append,h c List.mem_cons_self,eM (λ c hc=>h c (List.mem_cons_of_mem _ hc)),List.length_cons,Nat.add_mul];omega
theorem ik:∀ {css:List (List Value)} (_:∀ c ∈ css,c.length=m) {i:Nat} {c:List Value} (_:css[i]? = some c) {j:Nat} (_:j<m),css.flatten[i*m+j]? = c[j]?
 | [],_,i,c,h,_,_=>by simp at h
 |c'::r,h5,0,c,h,j,hj=>by
  have:c'=c:=by simpa using h
  subst this;rw [List.flatten_cons,Nat.zero_mul,Nat.zero_add,List.getElem?_append_left (by rw [h5 c' List.mem_cons_self];exact hj)]
 |c'::r,h5,i+1,c,h,j,hj=>by
  have h':r[i]? = some c:=by simpa using h
  have hl:=h5 c' List.mem_cons_self;have e:(i+1)*m=m+i*m:=by rw [Nat.add_mul];omega
  rw [List.flatten_cons,List.getElem?_append_right (by omega),← ik (λ c hc=>h5 c (List.mem_cons_of_mem _ hc)) h' hj];congr 1;omega
theorem RR.mem (h:RR R css xs) {c:List Value} (hc:c ∈ css):∃ x,x ∈ xs/\R c x:=by
 obtain ⟨i,hi,rfl⟩:=List.getElem_of_mem hc;have hx:i<xs.length:=by rw [← h.1];exact hi
 exact ⟨xs[i],List.getElem_mem hx,h.2 i _ _ (List.getElem?_eq_getElem hi) (List.getElem?_eq_getElem hx)⟩
theorem RR.lens (h:RR R css xs) (hR:∀ c x,R c x->c.length=m):∀ c ∈ css,c.length=m:=λ c hc=>by
 obtain ⟨x,_,hx⟩:=h.mem hc;exact hR c x hx
theorem RR.flat (h:RR R css xs) (hR:∀ c x,R c x->c.length=m):css.flatten.length=xs.length*m:=by rw [eM (h.lens hR),h.1]
theorem RR.snoc {c:List Value} {x:α} (h:RR R css xs) (hx:R c x):RR R (css++[c]) (xs++[x]):=by
 refine ⟨by simp [h.1],λ i c' x' h1 h2=>?_⟩;rcases Nat.lt_or_ge i css.length with hi | hi
 ·rw [List.getElem?_append_left hi] at h1;rw [List.getElem?_append_left (by rw [← h.1];exact hi)] at h2;exact h.2 i c' x' h1 h2
 ·rw [List.getElem?_append_right hi] at h1;rw [List.getElem?_append_right (by rw [← h.1];exact hi)] at h2;have:i-css.length=0:=by
   rcases Nat.eq_zero_or_pos (i-css.length) with h0 | h0
   ·exact h0
   ·rw [List.getElem?_eq_none (by simp;omega)] at h1;cases h1
  rw [this] at h1;rw [← h.1,this] at h2;obtain rfl:c=c':=by simpa using h1
  obtain rfl:x=x':=by simpa using h2
  exact hx
theorem RR.get_ {i:Nat} {x:α} (h:RR R css xs) (hx:xs[i]? = some x):∃ c,css[i]? = some c/\R c x:=by
 have hi:i<css.length:=by rw [h.1];exact (List.getElem?_eq_some_iff.1 hx).1
 exact ⟨_,List.getElem?_eq_getElem hi,h.2 i _ x (List.getElem?_eq_getElem hi) hx⟩
theorem RR.take (h:RR R css xs) (n:Nat):RR R (css.take n) (xs.take n):=by
 refine ⟨by simp [h.1],λ i c x h1 h2=>?_⟩;rw [List.getElem?_take] at h1 h2;split at h1
 ·rename_i hi;rw [if_pos hi] at h2;exact h.2 i c x h1 h2
 ·cases h1
theorem RR.append {css':List (List Value)} {xs':List α} (h:RR R css xs) (h':RR R css' xs'):RR R (css++css') (xs++xs'):=by
 refine ⟨by simp [h.1,h'.1],λ i c x h1 h2=>?_⟩;rcases Nat.lt_or_ge i css.length with hi | hi
 ·rw [List.getElem?_append_left hi] at h1;rw [List.getElem?_append_left (by rw [← h.1];exact hi)] at h2;exact h.2 i c x h1 h2
 ·rw [List.getElem?_append_right hi] at h1;rw [List.getElem?_append_right (by rw [← h.1];exact hi),← h.1] at h2;exact h'.2 _ c x h1 h2
theorem RR.cell {W:World} {F:Nat->Prop} {A:Option Addr} (h:RR R css xs) (hR:∀ c x,R c x->c.length=m) (hm:0<m) (hr:RdF W F A css.flatten) {i:Nat} {x:α} (hx:xs[i]? = some x) :
  ∃ (b o:Nat) (c:List Value),A=some ⟨b,o,none⟩/\b<W.heap.size/\F b/\css[i]? = some c/\R c x/\∀ (j:Nat) u,j<m->c[j]? = some u->W.cell? ⟨b,o+(i*m+j),none⟩=some u:=by
 obtain ⟨c,hc,hv⟩:=h.get_ hx;have hl:=h.lens hR;have hi:i<css.length:=(List.getElem?_eq_some_iff.1 hc).1;have hfl:=eM hl;have him:i*m+m<=css.length*m:=by
  have:=Nat.mul_le_mul_right m hi;rw [Nat.succ_mul] at this;exact this
 have hne:css.flatten≠[]:=by
  intro e;rw [e] at hfl;simp only [List.length_nil] at hfl;omega
 obtain ⟨b,o,rfl,hb,hf,hx'⟩:=hr hne;refine ⟨b,o,c,rfl,hb,hf,hc,hv,λ j u hj hu=>?_⟩;have hg:=ik hl hc hj;rw [hu] at hg;obtain ⟨h1,h2⟩:=List.getElem?_eq_some_iff.1 hg;rw [hx' _ h1,h2]
end
theorem VRs.rr {W:World} {F:Nat->Prop} {css:List (List Value)} {xs:List JV} (h:VRs W F css xs):RR (VR W F) css xs:=h
inductive ER (W:World) (F:Nat->Prop):List Value->EJ->Prop where
 | mk {k:Int} {v:JV} {s:List UInt8} {kids:List EJ} {A:Option Addr} {ca:Nat} {a b c d e:Value} {css:List (List Value)} :
   VR W F [a,b,c,d,e] v->css.length=kids.length->kids.length<=ca->(A=none->ca=0)->RdF W F A css.flatten ->
   (∀ (i:Nat) c x,css[i]? = some c->kids[i]? = some x->ER W F c x) ->
   ER W F [Zi Zq k,a,b,c,d,e,Zt ⟨s.toArray⟩,Zs A kids.length ca] (.mk k v s kids)
abbrev ERs (W:World) (F:Nat->Prop):=RR (ER W F)
section
variable {W W':World} {F F':Nat->Prop} {cs:List Value} {x:EJ}
theorem ER.keep (h:ER W F cs x) (hk:af F W W'):ER W' F cs x:=by
 induction h with
 | mk h0 h1 h2 h3 h4 _ ih=>exact .mk (h0.keep hk) h1 h2 h3 (h4.keep hk) ih
theorem ER.mono (h:ER W F cs x) (hm:∀ b,b<W.heap.size->F b->F' b):ER W F' cs x:=by
 induction h with
 | mk h0 h1 h2 h3 h4 _ ih=>exact .mk (h0.mono hm) h1 h2 h3 (h4.mono hm) ih
theorem ER.bel (h:ER W F cs x) (hb:Below W.heap.size W W'):ER W' F cs x:=h.keep (af.of_below hb)
theorem ER.len (h:ER W F cs x):cs.length=8:=by cases h;rfl
theorem ER.one (h:ER W F cs x):∀ u ∈ cs,u.oneCell'=true:=by
 cases h with
 |mk h0 h1 h2 h3 h4 h5 =>
  intro u hu;have h9:=h0.one;simp only [List.mem_cons,List.not_mem_nil,or_false] at hu h9;rcases hu with rfl | rfl | rfl | rfl | rfl | rfl | rfl | rfl
  ·rfl
  ·exact h9 _ (.inl rfl)
  ·exact h9 _ (.inr (.inl rfl))
  ·exact h9 _ (.inr (.inr (.inl rfl)))
  ·exact h9 _ (.inr (.inr (.inr (.inl rfl))))
  ·exact h9 _ (.inr (.inr (.inr (.inr rfl))))
  ·rfl
  ·rfl
theorem ER.out {k:Int} {v:JV} {s:List UInt8} {kids:List EJ} (h:ER W F cs (.mk k v s kids)) :
  ∃ (k1 n1:Int) (s1:ByteArray) (A1:Option Addr) (na1 ca1:Nat) (B1:Option Addr) (nb1 cb1:Nat) (A:Option Addr) (ca:Nat) (css:List (List Value)),
   cs=[Zi Zq k,Zi Zq k1,Zi Zq n1,Zt s1,Zs A1 na1 ca1,Zs B1 nb1 cb1,Zt ⟨s.toArray⟩,Zs A kids.length ca] /\
   VR W F [Zi Zq k1,Zi Zq n1,Zt s1,Zs A1 na1 ca1,Zs B1 nb1 cb1] v/\ERs W F css kids/\kids.length<=ca/\(A=none->ca=0)/\RdF W F A css.flatten:=by
 cases h with
 |mk h0 h1 h2 h3 h4 h5 =>
  obtain ⟨k1,n1,s1,A1,na1,ca1,B1,nb1,cb1,e⟩:=h0.form;injection e with e1 e;injection e with e2 e;injection e with e3 e;injection e with e4 e;injection e with e5 e
  subst e1 e2 e3 e4 e5;exact ⟨k1,n1,s1,A1,na1,ca1,B1,nb1,cb1,_,_,_,rfl,h0,⟨h1,h5⟩,h2,h3,h4⟩
theorem ER.into {k:Int} {v:JV} {s:List UInt8} {kids:List EJ} {A:Option Addr} {ca:Nat} {a b c d e:Value} {css:List (List Value)} (h0:VR W F [a,b,c,d,e] v) (h1:ERs W F css kids) {n:Nat} (hn:n=kids.length) (h2:kids.length<=ca) (h3:A=none->ca=0) (h4:RdF W F A css.flatten) :
  ER W F [Zi Zq k,a,b,c,d,e,Zt ⟨s.toArray⟩,Zs A n ca] (.mk k v s kids):=by
 subst hn;exact .mk h0 h1.1 h2 h3 h4 h1.2
theorem ER.leaf (k:Int) (s:List UInt8) {v:JV} {a b c d e:Value} (h0:VR W F [a,b,c,d,e] v):ER W F [Zi Zq k,a,b,c,d,e,Zt ⟨s.toArray⟩,Zs none 0 0] (.mk k v s []) :=
 ER.into (kids:=[]) (css:=[]) h0 RR.nil rfl (Nat.le_refl _) (λ _=>rfl) RdF.nil
theorem ER.zero:ER W F [Zi Zq 0,Zi Zq 0,Zi Zq 0,Zt ⟨#[]⟩,Zs none 0 0,Zs none 0 0,Zt ⟨#[]⟩,Zs none 0 0] ff:=ER.leaf 0 [] VR.zero
theorem ER.form (h:ER W F cs x):∃ (k k1 n1:Int) (s1:ByteArray) (A1:Option Addr) (na1 ca1:Nat) (B1:Option Addr) (nb1 cb1:Nat) (s:ByteArray) (A:Option Addr) (n ca:Nat),
   cs=[Zi Zq k,Zi Zq k1,Zi Zq n1,Zt s1,Zs A1 na1 ca1,Zs B1 nb1 cb1,Zt s,Zs A n ca]:=by
 obtain ⟨k,v,s,kids⟩:=x;obtain ⟨k1,n1,s1,A1,na1,ca1,B1,nb1,cb1,A,ca,css,e,_⟩:=h.out;exact ⟨k,k1,n1,s1,A1,na1,ca1,B1,nb1,cb1,_,A,_,ca,e⟩
end
inductive SR (W:World) (F:Nat->Prop):List Value->SJ->Prop where
 | mk {k:Int} {s:List UInt8} {a b:EJ} {body els:List SJ} {A B:Option Addr} {ca cb:Nat} {acs bcs:List Value} {css dss:List (List Value)} :
   ER W F acs a->ER W F bcs b->css.length=body.length->body.length<=ca->(A=none->ca=0)->RdF W F A css.flatten ->
   dss.length=els.length->els.length<=cb->(B=none->cb=0)->RdF W F B dss.flatten ->
   (∀ (i:Nat) c x,css[i]? = some c->body[i]? = some x->SR W F c x)->(∀ (i:Nat) c x,dss[i]? = some c->els[i]? = some x->SR W F c x) ->
   SR W F ([Zi Zq k,Zt ⟨s.toArray⟩]++acs++bcs++[Zs A body.length ca,Zs B els.length cb]) (.mk k s a b body els)
abbrev SRs (W:World) (F:Nat->Prop):=RR (SR W F)
section
variable {W W':World} {F F':Nat->Prop} {cs:List Value} {x:SJ}
theorem SR.keep (h:SR W F cs x) (hk:af F W W'):SR W' F cs x:=by
 induction h with
 | mk ha hb h1 h2 h3 h4 g1 g2 g3 g4 _ _ ih1 ih2=>exact .mk (ha.keep hk) (hb.keep hk) h1 h2 h3 (h4.keep hk) g1 g2 g3 (g4.keep hk) ih1 ih2
theorem SR.mono (h:SR W F cs x) (hm:∀ b,b<W.heap.size->F b->F' b):SR W F' cs x:=by
 induction h with
 | mk ha hb h1 h2 h3 h4 g1 g2 g3 g4 _ _ ih1 ih2=>exact .mk (ha.mono hm) (hb.mono hm) h1 h2 h3 (h4.mono hm) g1 g2 g3 (g4.mono hm) ih1 ih2
theorem SR.bel (h:SR W F cs x) (hb:Below W.heap.size W W'):SR W' F cs x:=h.keep (af.of_below hb)
theorem SR.len (h:SR W F cs x):cs.length=20:=by
 cases h with
 | mk ha hb=>simp [ha.len,hb.len]
theorem SR.one (h:SR W F cs x):∀ u ∈ cs,u.oneCell'=true:=by
 cases h with
 |mk ha hb =>
  intro u hu;simp only [List.mem_append,List.mem_cons,List.not_mem_nil,or_false] at hu;rcases hu with (((rfl | rfl) | hu) | hu) | (rfl | rfl)
  ·rfl
  ·rfl
  ·exact ha.one u hu
  ·exact hb.one u hu
  ·rfl
  ·rfl
theorem SR.out {k:Int} {s:List UInt8} {a b:EJ} {body els:List SJ} (h:SR W F cs (.mk k s a b body els)) :
  ∃ (acs bcs:List Value) (A B:Option Addr) (ca cb:Nat) (css dss:List (List Value)),
   cs=[Zi Zq k,Zt ⟨s.toArray⟩]++acs++bcs++[Zs A body.length ca,Zs B els.length cb]/\ER W F acs a/\ER W F bcs b /\
   (SRs W F css body/\body.length<=ca/\(A=none->ca=0)/\RdF W F A css.flatten)/\SRs W F dss els/\els.length<=cb/\(B=none->cb=0)/\RdF W F B dss.flatten:=by
 cases h with
 | mk ha hb h1 h2 h3 h4 g1 g2 g3 g4 h5 g5=>exact ⟨_,_,_,_,_,_,_,_,rfl,ha,hb,⟨⟨h1,h5⟩,h2,h3,h4⟩,⟨g1,g5⟩,g2,g3,g4⟩
theorem SR.into {k:Int} {s:List UInt8} {a b:EJ} {body els:List SJ} {A B:Option Addr} {ca cb:Nat} {acs bcs:List Value} {css dss:List (List Value)} (ha:ER W F acs a) (hb:ER W F bcs b)
  (h1:SRs W F css body) {n:Nat} (hn:n=body.length) (h2:body.length<=ca) (h3:A=none->ca=0) (h4:RdF W F A css.flatten) (g1:SRs W F dss els) {m:Nat} (hm:m=els.length) (g2:els.length<=cb) (g3:B=none->cb=0) (g4:RdF W F B dss.flatten) :
  SR W F ([Zi Zq k,Zt ⟨s.toArray⟩]++acs++bcs++[Zs A n ca,Zs B m cb]) (.mk k s a b body els):=by
 subst hn hm;exact .mk ha hb h1.1 h2 h3 h4 g1.1 g2 g3 g4 h1.2 g1.2
end
def BnR (W:World) (F:Nat->Prop) (cs:List Value) (x:List UInt8 × JV):Prop:=∃ vcs,cs=Zt ⟨x.1.toArray⟩::vcs/\VR W F vcs x.2
abbrev dL (W:World) (F:Nat->Prop):=RR (BnR W F)
def EmR (W:World) (F:Nat->Prop) (cs:List Value) (x:JV × JV):Prop:=∃ kcs vcs,cs=kcs++vcs/\VR W F kcs x.1/\VR W F vcs x.2
abbrev e9 (W:World) (F:Nat->Prop):=RR (EmR W F)
section
variable {W W':World} {F F':Nat->Prop} {cs:List Value}
theorem BnR.keep {x:List UInt8 × JV} (h:BnR W F cs x) (hk:af F W W'):BnR W' F cs x:=by obtain ⟨v,e,h⟩:=h;exact ⟨v,e,h.keep hk⟩
theorem BnR.mono {x:List UInt8 × JV} (h:BnR W F cs x) (hm:∀ b,b<W.heap.size->F b->F' b):BnR W F' cs x:=by obtain ⟨v,e,h⟩:=h;exact ⟨v,e,h.mono hm⟩
theorem BnR.len {x:List UInt8 × JV} (h:BnR W F cs x):cs.length=6:=by obtain ⟨v,rfl,h⟩:=h;simp [h.len]
theorem BnR.one {x:List UInt8 × JV} (h:BnR W F cs x):∀ u ∈ cs,u.oneCell'=true:=by
 obtain ⟨v,rfl,h⟩:=h;intro u hu;rcases List.mem_cons.1 hu with rfl | hu
 ·rfl
 ·exact h.one u hu
theorem EmR.keep {x:JV × JV} (h:EmR W F cs x) (hk:af F W W'):EmR W' F cs x:=by obtain ⟨k,v,e,h,h'⟩:=h;exact ⟨k,v,e,h.keep hk,h'.keep hk⟩
theorem EmR.mono {x:JV × JV} (h:EmR W F cs x) (hm:∀ b,b<W.heap.size->F b->F' b):EmR W F' cs x:=by obtain ⟨k,v,e,h,h'⟩:=h;exact ⟨k,v,e,h.mono hm,h'.mono hm⟩
theorem EmR.len {x:JV × JV} (h:EmR W F cs x):cs.length=10:=by obtain ⟨k,v,rfl,h,h'⟩:=h;simp [h.len,h'.len]
theorem EmR.one {x:JV × JV} (h:EmR W F cs x):∀ u ∈ cs,u.oneCell'=true:=by
 obtain ⟨k,v,rfl,h,h'⟩:=h;intro u hu;rcases List.mem_append.1 hu with hu | hu
 ·exact h.one u hu
 ·exact h'.one u hu
end
mutual
/-- an expression all parts of which are of a size -/
def gW (N:Nat):EJ->Prop | .mk k v s kids=>1<=N/\iw k/\inJ v/\cr v<=N/\s.length<=N/\kids.length<=N/\fV N kids
def fV (N:Nat):List EJ->Prop | []=>True | x::r=>gW N x/\fV N r
end
theorem kZ {N:Nat}:∀ {xs:List EJ},fV N xs ↔ ∀ x ∈ xs,gW N x
 | []=>by simp [fV]
 | x::r=>by simp [fV,kZ (xs:=r)]
mutual
theorem dw {N M:Nat} (h:N<=M):∀ (x:EJ),gW N x->gW M x
 | .mk k v s kids,hx=>by
  unfold gW at hx ⊢;obtain ⟨h0,h1,h2,h3,h4,h5,h6⟩:=hx;exact ⟨by omega,h1,h2,by omega,by omega,by omega,jt h kids h6⟩
theorem jt {N M:Nat} (h:N<=M):∀ (xs:List EJ),fV N xs->fV M xs
 | [],_=>trivial
 | x::r,hx=>by unfold fV at hx ⊢;exact ⟨dw h x hx.1,jt h r hx.2⟩
end
mutual
/-- a statement all parts of which are of a size -/
def eV (N:Nat):SJ->Prop | .mk k s a b body els=>1<=N/\iw k/\s.length<=N/\gW N a/\gW N b/\body.length<=N/\els.length<=N/\fl N body/\fl N els
def fl (N:Nat):List SJ->Prop | []=>True | x::r=>eV N x/\fl N r
end
theorem fy {N:Nat}:∀ {xs:List SJ},fl N xs ↔ ∀ x ∈ xs,eV N x
 | []=>by simp [fl]
 | x::r=>by simp [fl,fy (xs:=r)]
mutual
theorem de {N M:Nat} (h:N<=M):∀ (x:SJ),eV N x->eV M x
 | .mk k s a b body els,hx=>by
  unfold eV at hx ⊢;obtain ⟨h0,h1,h2,h3,h4,h5,h6,h7,h8⟩:=hx;exact ⟨by omega,h1,by omega,dw h a h3,dw h b h4,by omega,by omega,gh h body h7,gh h els h8⟩
theorem gh {N M:Nat} (h:N<=M):∀ (xs:List SJ),fl N xs->fl M xs
 | [],_=>trivial
 | x::r,hx=>by unfold fl at hx ⊢;exact ⟨de h x hx.1,gh h r hx.2⟩
end
def di (n:Int):Int:=if n<0 then -1 else if 0<n then 1 else 0
def dh (a b:Int):Int:=if a=0 then b else a
def cK (s t:List UInt8):Int:=if s=t then 0 else if ltB s t=true then -1 else 1
def mh (a b:Int):Int:=di (a-b)
def aT:JV->Int
 | .mk k n _ _ _=>if k=1 then 0 else if k=2 then (if n=1 then 2 else 1) else k
mutual
def bp:JV->JV->Int
 | .mk k n s kids keys,b =>
  if aT (.mk k n s kids keys)≠aT b then di (aT (.mk k n s kids keys)-aT b)
  else if k=3 then mh n b.num
  else if k=4 then cK s b.txt
  else cd (decide (k=6)) kids keys b.kids b.keys
def cd:Bool->List JV->List (List UInt8)->List JV->List (List UInt8)->Int
 | o,x::r,ks,y::r',ks'=>dh (if o=true then cK (ks.headD []) (ks'.headD []) else 0) (dh (bp x y) (cd o r ks.tail r' ks'.tail))
 | _,[],_,[],_=>0
 | _,[],_,_::_,_ => -1
 | _,_::_,_,[],_=>1
end
theorem sA (n:Int):di n = -1∨di n=0∨di n=1:=by
 unfold di;split;· simp
 split<;>simp
theorem qT (s t:List UInt8):cK s t = -1∨cK s t=0∨cK s t=1:=by
 unfold cK;split;· simp
 split<;>simp
theorem ld {s t:List UInt8}:cK s t=0 ↔ s=t:=by
 unfold cK;split
 ·rename_i h;simp [h]
 ·rename_i h;split<;>simp [h]
theorem m9 {s t:List UInt8}:cK s t = -1 ↔ ltB s t=true:=by
 unfold cK;split
 ·rename_i h;subst h;have:=cw s;simp [this]
 ·rename_i h;split<;>simp_all
theorem lm (s t:List UInt8):cK t s = - cK s t:=by
 unfold cK;by_cases h:s=t
 ·rw [if_pos h,if_pos h.symm];rfl
 ·rw [if_neg h,if_neg (λ e=>h e.symm)];rcases iC h with h1 | h1
  ·have h2:¬ ltB t s=true:=λ h2=>cw s (dv h1 h2)
   rw [if_pos h1,if_neg h2];rfl
  ·have h2:¬ ltB s t=true:=λ h2=>cw s (dv h2 h1)
   rw [if_pos h1,if_neg h2]
theorem rA {a b:Int} (ha:a = -1∨a=0∨a=1) (hb:b = -1∨b=0∨b=1):dh a b = -1∨dh a b=0∨dh a b=1:=by unfold dh;split<;>assumption
theorem mV (a b:Int):dh (-a) (-b) = - dh a b:=by
 unfold dh;by_cases h:a=0
 ·rw [if_pos h,if_pos (by omega)]
 ·rw [if_neg h,if_neg (by omega)]
def eG (o:Bool) (ks ks':List (List UInt8)):Int:=if o=true then cK (ks.headD []) (ks'.headD []) else 0
theorem vD (o:Bool) (ks ks':List (List UInt8)):eG o ks ks' = -1∨eG o ks ks'=0∨eG o ks ks'=1:=by
 unfold eG;split
 ·exact qT _ _
 ·simp
theorem qj (o:Bool) (ks ks':List (List UInt8)):eG o ks' ks = - eG o ks ks':=by
 unfold eG;split
 ·exact lm _ _
 ·rfl
theorem fG (o:Bool) (x:JV) (r:List JV) (ks:List (List UInt8)) (y:JV) (r':List JV) (ks':List (List UInt8)) :
  cd o (x::r) ks (y::r') ks'=dh (eG o ks ks') (dh (bp x y) (cd o r ks.tail r' ks'.tail)):=by
 rw [cd];rfl
theorem jr (o:Bool) (ks ks':List (List UInt8)):cd o [] ks [] ks'=0:=by rw [cd]
theorem jf (o:Bool) (ks:List (List UInt8)) (y:JV) (r':List JV) (ks':List (List UInt8)):cd o [] ks (y::r') ks' = -1:=by rw [cd]
theorem jg (o:Bool) (x:JV) (r:List JV) (ks ks':List (List UInt8)):cd o (x::r) ks [] ks'=1:=by rw [cd]
mutual
theorem iu:∀ (a b:JV),bp a b = -1∨bp a b=0∨bp a b=1
 | .mk k n s kids keys,b=>by
  rw [bp];split
  ·exact sA _
  split
  ·exact sA _
  split
  ·exact qT _ _
  ·exact rF _ _ _ _ _
theorem rF:∀ (o:Bool) (xs:List JV) (ks:List (List UInt8)) (ys:List JV) (ls:List (List UInt8)),cd o xs ks ys ls = -1∨cd o xs ks ys ls=0∨cd o xs ks ys ls=1
 |o,x::r,ks,y::r',ls=>by
  rw [fG];exact rA (vD _ _ _) (rA (iu x y) (rF _ r _ _ _))
 | o,[],ks,[],ls=>by rw [jr];simp
 | o,[],ks,y::r',ls=>by rw [jf];simp
 | o,x::r,ks,[],ls=>by rw [jg];simp
end
theorem aK {d:Nat} {k n:Int} {s:List UInt8} {kids:List JV} {keys:List (List UInt8)} (h:aN d (.mk k n s kids keys)=true):aI k n s kids.length keys=true/\(5<=k->d≠0)/\bz (d-1) kids=true:=by
 unfold aN at h;simp only [Bool.and_eq_true,decide_eq_true_eq] at h;exact ⟨h.1,h.2.1,h.2.2⟩
theorem gA {k n:Int} {s:List UInt8} {kids:List JV} {keys:List (List UInt8)} (h:1<=k/\k<=6) :
  (k=1/\aT (.mk k n s kids keys)=0)∨(k=2/\n=1/\aT (.mk k n s kids keys)=2)∨(k=2/\n≠1/\aT (.mk k n s kids keys)=1)∨(3<=k/\aT (.mk k n s kids keys)=k):=by
 rw [aT];by_cases h1:k=1
 ·rw [if_pos h1];exact .inl ⟨h1,rfl⟩
 rw [if_neg h1];by_cases h2:k=2
 ·rw [if_pos h2];by_cases h3:n=1
  ·rw [if_pos h3];exact .inr (.inl ⟨h2,h3,rfl⟩)
  ·rw [if_neg h3];exact .inr (.inr (.inl ⟨h2,h3,rfl⟩))
 ·rw [if_neg h2];exact .inr (.inr (.inr ⟨by omega,rfl⟩))
theorem iy {k n k' n':Int} {s s':List UInt8} {kids kids':List JV} {keys keys':List (List UInt8)} (h:aI k n s kids.length keys=true) (h':aI k' n' s' kids'.length keys'=true)
  (hr:aT (.mk k n s kids keys)=aT (.mk k' n' s' kids' keys')):k=k'/\(k≠3->n=n')/\(k≠4->s=s'):=by
 have h1:=aH h;have h2:=aH h';have hk:k=k':=by
  have r1:=gA (n:=n) (s:=s) (kids:=kids) (keys:=keys) h1;have r2:=gA (n:=n') (s:=s') (kids:=kids') (keys:=keys') h2;omega
 subst hk;refine ⟨rfl,?_⟩;have hk7:k=1∨k=2∨k=3∨k=4∨k=5∨k=6:=by omega
 rcases hk7 with rfl | rfl | rfl | rfl | rfl | rfl<;>simp [aI] at h h'<;>refine ⟨λ _=>?_,λ _=>?_⟩<;>simp_all
 unfold aT at hr;simp at hr;rcases h.1.1.1 with rfl | rfl<;>rcases h'.1.1.1 with rfl | rfl<;>simp_all
theorem keyed {k n:Int} {s:List UInt8} {nk:Nat} {keys:List (List UInt8)} (h:aI k n s nk keys=true):(k=6->keys.length=nk)/\(k≠6->keys=[]):=by
 have h1:=aH h;refine ⟨λ e=>?_,λ e=>?_⟩
 ·subst e;exact (dx h).2.2.1.symm
 ·rcases Int.lt_or_le k 5 with h2 | h2
  ·exact (dz h h2).2
  ·obtain rfl:k=5:=by omega
   exact (eT h).2.2
theorem nF (n:Int):di (-n) = - di n:=by
 unfold di;rcases Int.lt_trichotomy n 0 with h | h | h
 ·rw [if_pos h,if_neg (by omega),if_pos (by omega)];rfl
 ·subst h;rfl
 ·rw [if_pos (by omega),if_neg (by omega),if_pos h]
mutual
theorem iD:∀ {a b:JV} {d d':Nat},aN d a=true->aN d' b=true->bp b a = - bp a b
 | .mk k n s kids keys,.mk k' n' s' kids' keys',d,d',h,h'=>by
  obtain ⟨h1,h2,h3⟩:=aK h;obtain ⟨h1',h2',h3'⟩:=aK h';rw [bp,bp];by_cases hr:aT (.mk k n s kids keys)=aT (.mk k' n' s' kids' keys')
  ·obtain ⟨rfl,hn,hs⟩:=iy h1 h1' hr;have q1:¬ (aT (.mk k n' s' kids' keys')≠aT (.mk k n s kids keys)):=λ e=>e hr.symm
   have q2:¬ (aT (.mk k n s kids keys)≠aT (.mk k n' s' kids' keys')):=λ e=>e hr
   rw [if_neg q1,if_neg q2];split
   ·show di (n'-n) = - di (n-n');rw [← nF];congr 1;omega
   split
   ·exact lm _ _
   ·exact lz h3 h3'
  ·have q1:aT (.mk k' n' s' kids' keys')≠aT (.mk k n s kids keys):=λ e=>hr e.symm
   rw [if_pos q1,if_pos hr,← nF];congr 1;omega
theorem lz:∀ {o:Bool} {xs:List JV} {ks:List (List UInt8)} {ys:List JV} {ls:List (List UInt8)} {d d':Nat},bz d xs=true->bz d' ys=true->cd o ys ls xs ks = - cd o xs ks ys ls
 |o,x::r,ks,y::r',ls,d,d',h,h'=>by
  unfold bz at h h';rw [Bool.and_eq_true] at h h';rw [fG,fG,iD h.1 h'.1,qj o ks ls,lz h.2 h'.2,mV,mV]
 | o,[],ks,[],ls,d,d',h,h'=>by rw [jr,jr];rfl
 | o,[],ks,y::r',ls,d,d',h,h'=>by rw [jf,jg];rfl
 | o,x::r,ks,[],ls,d,d',h,h'=>by rw [jf,jg]
end
end
end Go.Proofs.YtgolomgmnanbpaaGreatDoor
