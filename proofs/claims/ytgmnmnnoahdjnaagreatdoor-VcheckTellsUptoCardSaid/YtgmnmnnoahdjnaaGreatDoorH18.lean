import Derived.Test.YtgmnmnnoahdjnaaGreatDoorRows
import Derived.Deep.Strs
import Derived.Test.YtgmnmnnoahdjnaaGreatDoorH14
open Go.Value renaming int → Zi, slice → Zs, string → Zt, pointer → Zp
open Go.IntKind renaming i64 → Zq
set_option maxRecDepth 100000
set_option maxHeartbeats 16000000
set_option linter.unusedVariables false
set_option linter.unusedSimpArgs false
namespace Go.Proofs.YtgmnmnnoahdjnaaGreatDoor
section
open Go.RowKit Go.Deep Go.ChangeShapes Go.WideShapes
section
variable {H:Type} {enc:TypeId × Value->H} {W:World}
theorem qp (a:Addr):∀ (elems:List (DataW H × List MemPlace)) (a0:Nat),(∀ i,i<elems.length->∃ c v y,elems[i]? = some y/\W.cells? 0 (a.add ((a0+i)*5)) 5=some c/\VR W TT c v/\inJ v/\bW v<=Rows.uptoBulk y.1) ->
  ∃ css kids,VRs W TT css kids/\kids.length=elems.length/\(∀ i c,css[i]? = some c->W.cells? 0 (a.add ((a0+i)*5)) 5=some c)/\inL kids/\cq kids<=Rows.uptoBulkAll (elems.map (·.1))
 | [],_,_=>⟨[],[],VRs.nil,rfl,λ i c h=>by simp at h,trivial,Nat.zero_le _⟩
 |y::r,a0,h=>by
  obtain ⟨c,v,y',e,h1,h2,h3,h4⟩:=h 0 (by simp);obtain rfl:y=y':=by simpa using e
  obtain ⟨css,kids,k1,k2,k3,k4,k5⟩:=qp a r (a0+1) (λ i hi=>by
   obtain ⟨c,v,y',e,h1,h2,h3,h4⟩:=h (i+1) (by simp;omega);exact ⟨c,v,y',by simpa using e,by rw [show a0+1+i=a0+(i+1) by omega];exact h1,h2,h3,h4⟩)
  refine ⟨c::css,v::kids,⟨by simp [k1.1],λ i c' x' e1 e2=>?_⟩,by simp [k2],λ i c' e1=>?_,?_,?_⟩
  ·cases i with
   |zero =>
    obtain rfl:c=c':=by simpa using e1
    obtain rfl:v=x':=by simpa using e2
    exact h2
   | succ i=>exact k1.2 i c' x' (by simpa using e1) (by simpa using e2)
  ·cases i with
   |zero =>
    obtain rfl:c=c':=by simpa using e1
    exact h1
   | succ i=>have:=k3 i c' (by simpa using e1);rwa [show a0+1+i=a0+(i+1) by omega] at this
  ·unfold inL;exact ⟨h3,k4⟩
  ·unfold cq;rw [List.map_cons];unfold Rows.uptoBulkAll;omega
theorem wX (a:Addr) {css:List (List Value)} {kids:List JV} (h:VRs W TT css kids) (hc:∀ i c,css[i]? = some c->W.cells? 0 (a.add (i*5)) 5=some c):RdF W TT (some a) css.flatten:=by
 intro hne;have hpos:0<css.length:=by
  rcases css with _ | ⟨c,r⟩
  ·exact absurd rfl hne
  ·simp
 obtain ⟨b,o,spot⟩:=a;have h5:=h.five;have h0:=World.cells?_some (hc 0 _ (List.getElem?_eq_getElem hpos));have q0:=h0.2.2 0 (by decide);rw [List.getElem?_eq_getElem (by omega)] at q0;have hspot:spot=none:=by simpa [Addr.add] using World.cell?_spot q0
 subst hspot;have hcell:∀ i (hi:i<css.flatten.length),W.cell? ⟨b,o+i,none⟩=some css.flatten[i]:=by
  intro i hi;rw [gt h5] at hi;have hq:i / 5<css.length:=by omega
  have hx:=World.cells?_some (hc (i / 5) _ (List.getElem?_eq_getElem hq));have hy:=hx.2.2 (i % 5) (by omega);rw [add_plain,add_plain,← iZ h5 (List.getElem?_eq_getElem hq) (by omega)] at hy;rw [show o+i=o+i / 5*5+i % 5 by omega,hy,show i / 5*5+i % 5=i by omega,List.getElem?_eq_getElem]
 refine ⟨b,o,rfl,?_,trivial,hcell⟩;have hl:0<css.flatten.length:=by rw [gt h5];omega
 have hz:=hcell 0 hl;rcases Nat.lt_or_ge b W.heap.size with hlt | hge
 ·exact hlt
 ·unfold World.cell? at hz;simp [Array.getElem?_eq_none hge] at hz
theorem qn (f:Nat->ByteArray):∀ l:List Nat,cI (l.map λ i=>(f i).data.toList)<=Rows.uptoBulkAll (H:=H) (l.map λ i=>.lit (.string (f i).data.toList))
 | []=>Nat.zero_le _
 |i::r=>by
  have:=qn f r;rw [List.map_cons,List.map_cons];unfold cI Rows.uptoBulkAll Rows.uptoBulk;omega
theorem qH {n:Int} (h:(Lit.int .i64 n).wf=true):iw n:=by
 have h:(decide (IntKind.i64.min<=n) && decide (n<=IntKind.i64.max))=true:=h;rw [Bool.and_eq_true,decide_eq_true_eq,decide_eq_true_eq] at h;have e1:IntKind.i64.min = -9223372036854775808:=by decide
 have e2:IntKind.i64.max=9223372036854775807:=by decide
 unfold iw;omega
theorem px:∀ (fuel:Nat) (cs:List Value) (x:DataW H × List MemPlace),DataW.trod enc Tryz.prog W 0 (λ _=>true) true fuel 42 cs=some x->∃ v,VR W TT cs v/\inJ v/\bW v<=Rows.uptoBulk x.1:=by
 intro fuel
 induction fuel using Nat.strongRecOn with
 |ind fuel ih =>
  intro cs x h;obtain ⟨xs,n,rfl,rfl,hlen,hxl,hf⟩:=DataW.trod_struct Tryz.underlying42 h;have ci:Tryz.prog.cellsOf 3=1:=by kernel_rfl
  have cl:Tryz.prog.cellsOf 2=1:=by kernel_rfl
  have ct:Tryz.prog.cellsOf 9=1:=by kernel_rfl
  have ck:Tryz.prog.cellsOf 39=1:=by kernel_rfl
  have cy:Tryz.prog.cellsOf 40=1:=by kernel_rfl
  have cv:Tryz.prog.cellsOf 42=5:=by kernel_rfl
  rw [cv] at hlen;have f0:=hf 0 _ rfl;have f1:=hf 1 _ rfl;have f2:=hf 2 _ rfl;have f3:=hf 3 _ rfl;have f4:=hf 4 _ rfl;clear hf
  match xs,hxl,cs,hlen with
  |[y0,y1,y2,y3,y4],_,[c0,c1,c2,c3,c4],_ =>
   simp [ci,cl,ct,ck,cy] at f0 f1 f2 f3 f4;obtain ⟨k,e0,rfl,w0⟩:=DataW.trod_int Tryz.underlying3 f0;obtain ⟨m,e1,rfl,w1⟩:=DataW.trod_int Tryz.underlying2 f1;obtain ⟨s,e2,rfl,w2⟩:=DataW.trod_string Tryz.underlying9 f2;obtain rfl:c0=.int .i64 k:=by simpa using e0
   obtain rfl:c1=.int .i64 m:=by simpa using e1
   obtain rfl:c2=.string s:=by simpa using e2
   obtain ⟨A,ca,css,kids,rfl,hk1,hk2,hk3,hk4,hk5,hk6⟩:∃ A ca css kids,c3=.slice A kids.length ca/\VRs W TT css kids/\kids.length<=ca/\(A=none->ca=0)/\RdF W TT A css.flatten/\inL kids/\cq kids<=Rows.uptoBulk y3.1:=by
    rcases DataW.trod_slice Tryz.underlying39 f3 with ⟨e3,rfl⟩ | ⟨a,len,cap,elems,rest,n',hn,e3,rfl,hb,hl,hm,hel,hk,_,_⟩
    ·exact ⟨none,0,[],[],by simpa using e3,VRs.nil,Nat.le_refl _,λ _=>rfl,RdF.nil,trivial,Nat.zero_le _⟩
    ·rw [cv] at hk;obtain ⟨css,kids,k1,k2,k3,k4,k5⟩:=qp (W:=W) a elems 0 (λ i hi=>by
      have hq:=hk i (by omega);rw [List.getElem?_eq_getElem hi] at hq;obtain ⟨c,q1,q2⟩:=Option.bind_eq_some_iff.1 hq;obtain ⟨v,q3,q4,q5⟩:=ih n' (by omega) c _ q2;exact ⟨c,v,_,List.getElem?_eq_getElem hi,by rw [Nat.zero_add];exact q1,q3,q4,q5⟩)
     refine ⟨some a,cap,css,kids,?_,k1,by omega,λ e=>by simp at e,wX a k1 (λ i c e=>by have:=k3 i c e;rwa [Nat.zero_add] at this),k4,?_⟩
     ·rw [k2,hel];simpa using e3
     ·show _<=Rows.uptoBulk (.slice _ _);unfold Rows.uptoBulk;omega
   obtain ⟨B,cb,keys,rfl,hy1,hy2,hy3,hy4⟩:∃ B cb keys,c4=.slice B keys.length cb/\keys.length<=cb/\(B=none->cb=0)/\RdF W TT B (ar keys)/\cI keys<=Rows.uptoBulk y4.1:=by
    rcases open_strs Tryz.underlying40 Tryz.underlying9 ct f4 with ⟨e4,rfl⟩ | ⟨a,len,cap,q,Sx,e4,hb,hl,hm,hq,rfl,hx⟩
    ·exact ⟨none,0,[],by simpa using e4,Nat.le_refl _,λ _=>rfl,RdF.nil,Nat.zero_le _⟩
    ·simp at hq;subst hq;refine ⟨some a,q,(List.range len).map λ i=>(Sx i).data.toList,by simpa using e4,by simpa using hl,λ e=>by simp at e,λ hne=>?_,?_⟩
     ·have hpos:0<len:=by
       rcases len with _ | len
       ·exact absurd rfl hne
       ·omega
      obtain ⟨b,o,spot⟩:=a;have q0:=(hx 0 (by omega)).1;have hspot:spot=none:=by simpa [Addr.add] using World.cell?_spot q0
      subst hspot;refine ⟨b,o,rfl,?_,trivial,λ i hi=>?_⟩
      ·rcases Nat.lt_or_ge b W.heap.size with hlt | hge
       ·exact hlt
       ·rw [add_plain] at q0;unfold World.cell? at q0;simp [Array.getElem?_eq_none hge] at q0
      ·have hi':i<len:=by rw [av] at hi;simpa using hi
       have:=(hx i (by omega)).1;rw [add_plain] at this;rw [this];simp [ar]
     ·have:=qn (H:=H) Sx (List.range len);show _<=Rows.uptoBulk (.slice _ _);unfold Rows.uptoBulk;omega
   obtain ⟨ss,rfl⟩:∃ ss:List UInt8,s=⟨ss.toArray⟩:=⟨s.data.toList,by simp⟩
   refine ⟨.mk k m ss kids keys,VR.into k m ss hk1 hk2 hy1 hk3 hy2 hk4 hy3 rfl rfl,?_,?_⟩
   ·unfold inJ;exact ⟨qH w0,qH w1,hk5⟩
   ·unfold bW;simp only [List.map_cons,List.map_nil];unfold Rows.uptoBulk Rows.uptoBulkAll Rows.uptoBulkAll Rows.uptoBulkAll Rows.uptoBulkAll Rows.uptoBulkAll Rows.uptoBulkAll;have:Rows.uptoBulk (H:=H) (.lit (.string ss))=ss.length+1:=by unfold Rows.uptoBulk;rfl
    have e2:(Lit.string (ByteArray.mk ss.toArray).data.toList)=.string ss:=by simp
    rw [e2,this];omega
end
end
section
open Go.RowKit
inductive EJ where
 | mk:Int->JV->List UInt8->List EJ->EJ
inductive SJ where
 | mk:Int->List UInt8->EJ->EJ->List SJ->List SJ->SJ
def EJ.kind:EJ->Int | .mk k _ _ _=>k
def EJ.kids:EJ->List EJ | .mk _ _ _ l=>l
def a8:EJ:=.mk 0 cJ [] []
instance:Inhabited EJ:=⟨a8⟩
instance:Inhabited SJ:=⟨.mk 0 [] a8 a8 [] []⟩
def RR {α:Type} (R:List Value->α->Prop) (css:List (List Value)) (xs:List α):Prop:=css.length=xs.length/\∀ (i:Nat) c x,css[i]? = some c->xs[i]? = some x->R c x
section
variable {α:Type} {R R':List Value->α->Prop} {css:List (List Value)} {xs:List α} {m:Nat}
theorem RR.imp (h:RR R css xs) (hm:∀ c x,R c x->R' c x):RR R' css xs:=⟨h.1,λ i c x h1 h2=>hm c x (h.2 i c x h1 h2)⟩
theorem RR.nil:RR R [] ([]:List α):=⟨rfl,λ i c x h=>by simp at h⟩
theorem gu:∀ {css:List (List Value)},(∀ c ∈ css,c.length=m)->css.flatten.length=css.length*m
 | [],_=>by simp
 |c::r,h=>by
  rw [List.flatten_cons,List.length_append,h c List.mem_cons_self,gu (λ c hc=>h c (List.mem_cons_of_mem _ hc)),List.length_cons,Nat.add_mul];omega
theorem jc:∀ {css:List (List Value)} (_:∀ c ∈ css,c.length=m) {i:Nat} {c:List Value} (_:css[i]? = some c) {j:Nat} (_:j<m),css.flatten[i*m+j]? = c[j]?
 | [],_,i,c,h,_,_=>by simp at h
 |c'::r,h5,0,c,h,j,hj=>by
  have:c'=c:=by simpa using h
  subst this;rw [List.flatten_cons,Nat.zero_mul,Nat.zero_add,List.getElem?_append_left (by rw [h5 c' List.mem_cons_self];exact hj)]
 |c'::r,h5,i+1,c,h,j,hj=>by
  have h':r[i]? = some c:=by simpa using h
  have hl:=h5 c' List.mem_cons_self;have e:(i+1)*m=m+i*m:=by rw [Nat.add_mul];omega
  rw [List.flatten_cons,List.getElem?_append_right (by omega),← jc (λ c hc=>h5 c (List.mem_cons_of_mem _ hc)) h' hj];congr 1;omega
theorem RR.mem (h:RR R css xs) {c:List Value} (hc:c ∈ css):∃ x,x ∈ xs/\R c x:=by
 obtain ⟨i,hi,rfl⟩:=List.getElem_of_mem hc;have hx:i<xs.length:=by rw [← h.1];exact hi
 exact ⟨xs[i],List.getElem_mem hx,h.2 i _ _ (List.getElem?_eq_getElem hi) (List.getElem?_eq_getElem hx)⟩
theorem RR.lens (h:RR R css xs) (hR:∀ c x,R c x->c.length=m):∀ c ∈ css,c.length=m:=λ c hc=>by
 obtain ⟨x,_,hx⟩:=h.mem hc;exact hR c x hx
theorem RR.snoc {c:List Value} {x:α} (h:RR R css xs) (hx:R c x):RR R (css++[c]) (xs++[x]):=by
 refine ⟨by simp [h.1],λ i c' x' h1 h2=>?_⟩;rcases Nat.lt_or_ge i css.length with hi | hi
 ·rw [List.getElem?_append_left hi] at h1;rw [List.getElem?_append_left (by rw [← h.1];exact hi)] at h2;exact h.2 i c' x' h1 h2
 ·rw [List.getElem?_append_right hi] at h1;rw [List.getElem?_append_right (by rw [← h.1];exact hi)] at h2;have:i-css.length=0:=by
   rcases Nat.eq_zero_or_pos (i-css.length) with h0 | h0
   ·exact h0
   ·rw [List.getElem?_eq_none (by simp;omega)] at h1;cases h1
  rw [this] at h1;rw [← h.1,this] at h2;obtain rfl:c=c':=by simpa using h1
  obtain rfl:x=x':=by simpa using h2
  exact hx
theorem RR.get_ {i:Nat} {x:α} (h:RR R css xs) (hx:xs[i]? = some x):∃ c,css[i]? = some c/\R c x:=by
 have hi:i<css.length:=by rw [h.1];exact (List.getElem?_eq_some_iff.1 hx).1
 exact ⟨_,List.getElem?_eq_getElem hi,h.2 i _ x (List.getElem?_eq_getElem hi) hx⟩
theorem RR.take (h:RR R css xs) (n:Nat):RR R (css.take n) (xs.take n):=by
 refine ⟨by simp [h.1],λ i c x h1 h2=>?_⟩;rw [List.getElem?_take] at h1 h2;split at h1
 ·rename_i hi;rw [if_pos hi] at h2;exact h.2 i c x h1 h2
 ·cases h1
theorem RR.append {css':List (List Value)} {xs':List α} (h:RR R css xs) (h':RR R css' xs'):RR R (css++css') (xs++xs'):=by
 refine ⟨by simp [h.1,h'.1],λ i c x h1 h2=>?_⟩;rcases Nat.lt_or_ge i css.length with hi | hi
 ·rw [List.getElem?_append_left hi] at h1;rw [List.getElem?_append_left (by rw [← h.1];exact hi)] at h2;exact h.2 i c x h1 h2
 ·rw [List.getElem?_append_right hi] at h1;rw [List.getElem?_append_right (by rw [← h.1];exact hi),← h.1] at h2;exact h'.2 _ c x h1 h2
theorem RR.cell {W:World} {F:Nat->Prop} {A:Option Addr} (h:RR R css xs) (hR:∀ c x,R c x->c.length=m) (hm:0<m) (hr:RdF W F A css.flatten) {i:Nat} {x:α} (hx:xs[i]? = some x) :
  ∃ (b o:Nat) (c:List Value),A=some ⟨b,o,none⟩/\b<W.heap.size/\F b/\css[i]? = some c/\R c x/\∀ (j:Nat) u,j<m->c[j]? = some u->W.cell? ⟨b,o+(i*m+j),none⟩=some u:=by
 obtain ⟨c,hc,hv⟩:=h.get_ hx;have hl:=h.lens hR;have hi:i<css.length:=(List.getElem?_eq_some_iff.1 hc).1;have hfl:=gu hl;have him:i*m+m<=css.length*m:=by
  have:=Nat.mul_le_mul_right m hi;rw [Nat.succ_mul] at this;exact this
 have hne:css.flatten≠[]:=by
  intro e;rw [e] at hfl;simp only [List.length_nil] at hfl;omega
 obtain ⟨b,o,rfl,hb,hf,hx'⟩:=hr hne;refine ⟨b,o,c,rfl,hb,hf,hc,hv,λ j u hj hu=>?_⟩;have hg:=jc hl hc hj;rw [hu] at hg;obtain ⟨h1,h2⟩:=List.getElem?_eq_some_iff.1 hg;rw [hx' _ h1,h2]
end
theorem VRs.rr {W:World} {F:Nat->Prop} {css:List (List Value)} {xs:List JV} (h:VRs W F css xs):RR (VR W F) css xs:=h
inductive ER (W:World) (F:Nat->Prop):List Value->EJ->Prop where
 | mk {k:Int} {v:JV} {s:List UInt8} {kids:List EJ} {A:Option Addr} {ca:Nat} {a b c d e:Value} {css:List (List Value)} :
   VR W F [a,b,c,d,e] v->css.length=kids.length->kids.length<=ca->(A=none->ca=0)->RdF W F A css.flatten ->
   (∀ (i:Nat) c x,css[i]? = some c->kids[i]? = some x->ER W F c x) ->
   ER W F [Zi Zq k,a,b,c,d,e,Zt ⟨s.toArray⟩,Zs A kids.length ca] (.mk k v s kids)
abbrev ERs (W:World) (F:Nat->Prop):=RR (ER W F)
section
variable {W W':World} {F F':Nat->Prop} {cs:List Value} {x:EJ}
theorem ER.keep (h:ER W F cs x) (hk:aj F W W'):ER W' F cs x:=by
 induction h with
 | mk h0 h1 h2 h3 h4 _ ih=>exact .mk (h0.keep hk) h1 h2 h3 (h4.keep hk) ih
theorem ER.mono (h:ER W F cs x) (hm:∀ b,b<W.heap.size->F b->F' b):ER W F' cs x:=by
 induction h with
 | mk h0 h1 h2 h3 h4 _ ih=>exact .mk (h0.mono hm) h1 h2 h3 (h4.mono hm) ih
theorem ER.bel (h:ER W F cs x) (hb:Below W.heap.size W W'):ER W' F cs x:=h.keep (aj.of_below hb)
theorem ER.len (h:ER W F cs x):cs.length=8:=by cases h;rfl
theorem ER.one (h:ER W F cs x):∀ u ∈ cs,u.oneCell'=true:=by
 cases h with
 |mk h0 h1 h2 h3 h4 h5 =>
  intro u hu;have h9:=h0.one;simp only [List.mem_cons,List.not_mem_nil,or_false] at hu h9;rcases hu with rfl | rfl | rfl | rfl | rfl | rfl | rfl | rfl
  ·rfl
  ·exact h9 _ (.inl rfl)
  ·exact h9 _ (.inr (.inl rfl))
  ·exact h9 _ (.inr (.inr (.inl rfl)))
  ·exact h9 _ (.inr (.inr (.inr (.inl rfl))))
  ·exact h9 _ (.inr (.inr (.inr (.inr rfl))))
  ·rfl
  ·rfl
theorem ER.out {k:Int} {v:JV} {s:List UInt8} {kids:List EJ} (h:ER W F cs (.mk k v s kids)) :
  ∃ (k1 n1:Int) (s1:ByteArray) (A1:Option Addr) (na1 ca1:Nat) (B1:Option Addr) (nb1 cb1:Nat) (A:Option Addr) (ca:Nat) (css:List (List Value)),
   cs=[Zi Zq k,Zi Zq k1,Zi Zq n1,Zt s1,Zs A1 na1 ca1,Zs B1 nb1 cb1,Zt ⟨s.toArray⟩,Zs A kids.length ca] /\
   VR W F [Zi Zq k1,Zi Zq n1,Zt s1,Zs A1 na1 ca1,Zs B1 nb1 cb1] v/\ERs W F css kids/\kids.length<=ca/\(A=none->ca=0)/\RdF W F A css.flatten:=by
 cases h with
 |mk h0 h1 h2 h3 h4 h5 =>
  obtain ⟨k1,n1,s1,A1,na1,ca1,B1,nb1,cb1,e⟩:=h0.form;injection e with e1 e;injection e with e2 e;injection e with e3 e;injection e with e4 e;injection e with e5 e
  subst e1 e2 e3 e4 e5;exact ⟨k1,n1,s1,A1,na1,ca1,B1,nb1,cb1,_,_,_,rfl,h0,⟨h1,h5⟩,h2,h3,h4⟩
theorem ER.into {k:Int} {v:JV} {s:List UInt8} {kids:List EJ} {A:Option Addr} {ca:Nat} {a b c d e:Value} {css:List (List Value)} (h0:VR W F [a,b,c,d,e] v) (h1:ERs W F css kids) {n:Nat} (hn:n=kids.length) (h2:kids.length<=ca) (h3:A=none->ca=0) (h4:RdF W F A css.flatten) :
  ER W F [Zi Zq k,a,b,c,d,e,Zt ⟨s.toArray⟩,Zs A n ca] (.mk k v s kids):=by
 subst hn;exact .mk h0 h1.1 h2 h3 h4 h1.2
theorem ER.leaf (k:Int) (s:List UInt8) {v:JV} {a b c d e:Value} (h0:VR W F [a,b,c,d,e] v):ER W F [Zi Zq k,a,b,c,d,e,Zt ⟨s.toArray⟩,Zs none 0 0] (.mk k v s []) :=
 ER.into (kids:=[]) (css:=[]) h0 RR.nil rfl (Nat.le_refl _) (λ _=>rfl) RdF.nil
theorem ER.zero:ER W F [Zi Zq 0,Zi Zq 0,Zi Zq 0,Zt ⟨#[]⟩,Zs none 0 0,Zs none 0 0,Zt ⟨#[]⟩,Zs none 0 0] a8:=ER.leaf 0 [] VR.zero
theorem ER.form (h:ER W F cs x):∃ (k k1 n1:Int) (s1:ByteArray) (A1:Option Addr) (na1 ca1:Nat) (B1:Option Addr) (nb1 cb1:Nat) (s:ByteArray) (A:Option Addr) (n ca:Nat),
   cs=[Zi Zq k,Zi Zq k1,Zi Zq n1,Zt s1,Zs A1 na1 ca1,Zs B1 nb1 cb1,Zt s,Zs A n ca]:=by
 obtain ⟨k,v,s,kids⟩:=x;obtain ⟨k1,n1,s1,A1,na1,ca1,B1,nb1,cb1,A,ca,css,e,_⟩:=h.out;exact ⟨k,k1,n1,s1,A1,na1,ca1,B1,nb1,cb1,_,A,_,ca,e⟩
end
inductive SR (W:World) (F:Nat->Prop):List Value->SJ->Prop where
 | mk {k:Int} {s:List UInt8} {a b:EJ} {body els:List SJ} {A B:Option Addr} {ca cb:Nat} {acs bcs:List Value} {css dss:List (List Value)} :
   ER W F acs a->ER W F bcs b->css.length=body.length->body.length<=ca->(A=none->ca=0)->RdF W F A css.flatten ->
   dss.length=els.length->els.length<=cb->(B=none->cb=0)->RdF W F B dss.flatten ->
   (∀ (i:Nat) c x,css[i]? = some c->body[i]? = some x->SR W F c x)->(∀ (i:Nat) c x,dss[i]? = some c->els[i]? = some x->SR W F c x) ->
   SR W F ([Zi Zq k,Zt ⟨s.toArray⟩]++acs++bcs++[Zs A body.length ca,Zs B els.length cb]) (.mk k s a b body els)
abbrev SRs (W:World) (F:Nat->Prop):=RR (SR W F)
section
variable {W W':World} {F F':Nat->Prop} {cs:List Value} {x:SJ}
theorem SR.keep (h:SR W F cs x) (hk:aj F W W'):SR W' F cs x:=by
 induction h with
 | mk ha hb h1 h2 h3 h4 g1 g2 g3 g4 _ _ ih1 ih2=>exact .mk (ha.keep hk) (hb.keep hk) h1 h2 h3 (h4.keep hk) g1 g2 g3 (g4.keep hk) ih1 ih2
theorem SR.mono (h:SR W F cs x) (hm:∀ b,b<W.heap.size->F b->F' b):SR W F' cs x:=by
 induction h with
 | mk ha hb h1 h2 h3 h4 g1 g2 g3 g4 _ _ ih1 ih2=>exact .mk (ha.mono hm) (hb.mono hm) h1 h2 h3 (h4.mono hm) g1 g2 g3 (g4.mono hm) ih1 ih2
theorem SR.bel (h:SR W F cs x) (hb:Below W.heap.size W W'):SR W' F cs x:=h.keep (aj.of_below hb)
theorem SR.len (h:SR W F cs x):cs.length=20:=by
 cases h with
 | mk ha hb=>simp [ha.len,hb.len]
theorem SR.one (h:SR W F cs x):∀ u ∈ cs,u.oneCell'=true:=by
 cases h with
 |mk ha hb =>
  intro u hu;simp only [List.mem_append,List.mem_cons,List.not_mem_nil,or_false] at hu;rcases hu with (((rfl | rfl) | hu) | hu) | (rfl | rfl)
  ·rfl
  ·rfl
  ·exact ha.one u hu
  ·exact hb.one u hu
  ·rfl
  ·rfl
theorem SR.out {k:Int} {s:List UInt8} {a b:EJ} {body els:List SJ} (h:SR W F cs (.mk k s a b body els)) :
  ∃ (acs bcs:List Value) (A B:Option Addr) (ca cb:Nat) (css dss:List (List Value)),
   cs=[Zi Zq k,Zt ⟨s.toArray⟩]++acs++bcs++[Zs A body.length ca,Zs B els.length cb]/\ER W F acs a/\ER W F bcs b /\
   (SRs W F css body/\body.length<=ca/\(A=none->ca=0)/\RdF W F A css.flatten)/\SRs W F dss els/\els.length<=cb/\(B=none->cb=0)/\RdF W F B dss.flatten:=by
 cases h with
 | mk ha hb h1 h2 h3 h4 g1 g2 g3 g4 h5 g5=>exact ⟨_,_,_,_,_,_,_,_,rfl,ha,hb,⟨⟨h1,h5⟩,h2,h3,h4⟩,⟨g1,g5⟩,g2,g3,g4⟩
theorem SR.into {k:Int} {s:List UInt8} {a b:EJ} {body els:List SJ} {A B:Option Addr} {ca cb:Nat} {acs bcs:List Value} {css dss:List (List Value)} (ha:ER W F acs a) (hb:ER W F bcs b)
  (h1:SRs W F css body) {n:Nat} (hn:n=body.length) (h2:body.length<=ca) (h3:A=none->ca=0) (h4:RdF W F A css.flatten) (g1:SRs W F dss els) {m:Nat} (hm:m=els.length) (g2:els.length<=cb) (g3:B=none->cb=0) (g4:RdF W F B dss.flatten) :
  SR W F ([Zi Zq k,Zt ⟨s.toArray⟩]++acs++bcs++[Zs A n ca,Zs B m cb]) (.mk k s a b body els):=by
 subst hn hm;exact .mk ha hb h1.1 h2 h3 h4 g1.1 g2 g3 g4 h1.2 g1.2
end
section
variable {W W':World} {F F':Nat->Prop} {cs:List Value}
end
mutual
/-- an expression all parts of which are of a size -/
def jg (N:Nat):EJ->Prop | .mk k v s kids=>1<=N/\iw k/\inJ v/\bW v<=N/\s.length<=N/\kids.length<=N/\gO N kids
def gO (N:Nat):List EJ->Prop | []=>True | x::r=>jg N x/\gO N r
end
theorem lN {N:Nat}:∀ {xs:List EJ},gO N xs ↔ ∀ x ∈ xs,jg N x
 | []=>by simp [gO]
 | x::r=>by simp [gO,lN (xs:=r)]
mutual
theorem dI {N M:Nat} (h:N<=M):∀ (x:EJ),jg N x->jg M x
 | .mk k v s kids,hx=>by
  unfold jg at hx ⊢;obtain ⟨h0,h1,h2,h3,h4,h5,h6⟩:=hx;exact ⟨by omega,h1,h2,by omega,by omega,by omega,ky h kids h6⟩
theorem ky {N M:Nat} (h:N<=M):∀ (xs:List EJ),gO N xs->gO M xs
 | [],_=>trivial
 | x::r,hx=>by unfold gO at hx ⊢;exact ⟨dI h x hx.1,ky h r hx.2⟩
end
mutual
/-- a statement all parts of which are of a size -/
def gW (N:Nat):SJ->Prop | .mk k s a b body els=>1<=N/\iw k/\s.length<=N/\jg N a/\jg N b/\body.length<=N/\els.length<=N/\fX N body/\fX N els
def fX (N:Nat):List SJ->Prop | []=>True | x::r=>gW N x/\fX N r
end
theorem gB {N:Nat}:∀ {xs:List SJ},fX N xs ↔ ∀ x ∈ xs,gW N x
 | []=>by simp [fX]
 | x::r=>by simp [fX,gB (xs:=r)]
mutual
theorem el {N M:Nat} (h:N<=M):∀ (x:SJ),gW N x->gW M x
 | .mk k s a b body els,hx=>by
  unfold gW at hx ⊢;obtain ⟨h0,h1,h2,h3,h4,h5,h6,h7,h8⟩:=hx;exact ⟨by omega,h1,by omega,dI h a h3,dI h b h4,by omega,by omega,gX h body h7,gX h els h8⟩
theorem gX {N M:Nat} (h:N<=M):∀ (xs:List SJ),fX N xs->fX M xs
 | [],_=>trivial
 | x::r,hx=>by unfold fX at hx ⊢;exact ⟨el h x hx.1,gX h r hx.2⟩
end
theorem gy {d:Nat} {k n:Int} {s:List UInt8} {kids:List JV} {keys:List (List UInt8)} (h:dR d (.mk k n s kids keys)=true):bZ k n s kids.length keys=true/\(5<=k->d≠0)/\fP (d-1) kids=true:=by
 unfold dR at h;simp only [Bool.and_eq_true,decide_eq_true_eq] at h;exact ⟨h.1,h.2.1,h.2.2⟩
def gd (v:JV):Prop:=dg v=true
theorem gd.j {v:JV} (h:gd v):dR 8 v=true:=by unfold gd dg at h;rw [Bool.and_eq_true] at h;exact h.1
variable {l:List UInt8}
end
section
def fW (v:JV):Bool:=dg v && (decide (v.kind=3/\0<=v.num) || decide (v.kind=1∨v.kind=2∨v.kind=4))
def dz:JV->Bool | .mk k n s kids keys=>decide (k=0/\n=0/\s=[]/\kids.length+keys.length=0)
def eH (s:List UInt8):Bool:=bm ⟨s.toArray⟩
def okX (k:Int) (v:JV) (s:List UInt8) (nk:Nat):Bool :=
 if k=1 then fW v && decide (s=[]/\nk=0)
 else if dz v=false then false
 else if k=2 then eH s && decide (nk=0)
 else if k=3 then eH s && decide (nk=1)
 else if k=4 then decide (s=[])
 else if 5<=k/\k<=7 then decide (s=[]/\nk=1)
 else if 8<=k/\k<=15 then decide (s=[]/\nk=2)
 else false
mutual
/-- how deep an expression is that may be,within so many levels;0: it may not be -/
def bY:Nat->EJ->Nat
 | room,.mk k v s kids=>if room=0 then 0 else if okX k v s kids.length=true then (match bO (room-1) kids with | none=>0 | some m=>m+1) else 0
def bO:Nat->List EJ->Option Nat
 | _,[]=>some 0
 | room,x::r=>if bY room x=0 then none else match bO room r with | none=>none | some m=>some (max (bY room x) m)
end
def iq (x:EJ):Prop:=bY 12 x≠0
instance (x:EJ):Decidable (iq x):=by unfold iq;infer_instance
def dD:EJ->Bool | .mk k v s kids=>decide (k=0/\s=[]/\kids.length=0) && dz v
mutual
/-- may a statement be,within so many levels? -/
def iE:Nat->SJ->Bool
 | room,.mk k s a b body els=>decide (room≠0) && (decide (iq a) &&
   (if k=1 then decide (iq b) && decide (s=[]/\body.length+els.length=0)
    else if k=2 then dD b && (decide (s=[]) && (bR (room-1) body && bR (room-1) els))
    else if k=3 then dD b && (eH s && (bR (room-1) body && decide (els.length=0)))
    else false))
def bR:Nat->List SJ->Bool
 | _,[]=>true
 | room,x::r=>iE room x && bR room r
end
def ff (l:List SJ):Bool:=bR 12 l
theorem kz {d:Nat}:∀ {xs:List SJ},bR d xs=true ↔ ∀ x ∈ xs,iE d x=true
 | []=>by simp [bR]
 | x::r=>by simp [bR,kz (xs:=r)]
theorem o5 {r:Nat} {x:EJ} {l:List EJ}:bO r (x::l)≠none ↔ bY r x≠0/\bO r l≠none:=by
 rw [bO];by_cases h:bY r x=0
 ·rw [if_pos h];simp [h]
 ·rw [if_neg h];cases hd:bO r l<;>simp [h]
theorem gq {r:Nat}:∀ {l:List EJ},bO r l≠none ↔ ∀ x ∈ l,bY r x≠0
 | []=>by simp [bO]
 | x::l=>by rw [o5,gq (l:=l)];simp
theorem lD {r:Nat} {k:Int} {v:JV} {s:List UInt8} {kids:List EJ} (h:bY r (.mk k v s kids)≠0):r≠0/\okX k v s kids.length=true/\∀ x ∈ kids,bY (r-1) x≠0:=by
 unfold bY at h;by_cases h0:r=0
 ·rw [if_pos h0] at h;exact absurd rfl h
 ·rw [if_neg h0] at h;by_cases h1:okX k v s kids.length=true
  ·rw [if_pos h1] at h;refine ⟨h0,h1,gq.1 λ e=>?_⟩;rw [e] at h;exact h rfl
  ·rw [if_neg h1] at h;exact absurd rfl h
theorem o4 {r:Nat} {k:Int} {v:JV} {s:List UInt8} {kids:List EJ} (h0:r≠0) (h1:okX k v s kids.length=true) (h2:∀ x ∈ kids,bY (r-1) x≠0):bY r (.mk k v s kids)≠0:=by
 unfold bY;rw [if_neg h0,if_pos h1];cases hd:bO (r-1) kids with
 | none=>exact absurd hd (gq.2 h2)
 | some m=>simp
def fe (b:Bool):JV:=.mk 2 (if b=true then 1 else 0) [] [] []
def nS (n:Int):JV:=.mk 3 n [] [] []
def jz (s:List UInt8):JV:=.mk 4 0 s [] []
inductive PR (α:Type) where
 | ok:α->Nat->PR α
 | bad:Nat->PR α
def tkK (T:List al) (p:Nat):Int:=match T[p]? with | some t=>t.1 | none=>6
def tkT (T:List al) (p:Nat):List UInt8:=match T[p]? with | some t=>t.2.2.1 | none=>[]
def tkN (T:List al) (p:Nat):Int:=match T[p]? with | some t=>t.2.2.2 | none=>0
def tkA (T:List al) (p:Nat):Nat:=match T[p]? with | some t=>t.2.1 | none=>0
def ao (T:List al) (p:Nat) (w:List UInt8):Bool:=decide ((tkK T p=5∨tkK T p=2)/\tkT T p=w)
def es:Nat->List (List UInt8 × Int)
 | 1=>[([111,114],15)]
 | 2=>[([97,110,100],14)]
 | 3=>[([110,111,116],5)]
 | 4=>[([61,61],11),([60],12),([60,61],13)]
 | 5=>[([43],9),([45],10)]
 | 6=>[([42],8)]
 | 7=>[([115,105,122,101],6),([107,105,110,100],7)]
 | _=>[]
def eI (T:List al) (p:Nat):List (List UInt8 × Int)->Option Int
 | []=>none
 | x::r=>if ao T p x.1=true then some x.2 else eI T p r
def dU (T:List al) (lvl p:Nat):Option Int:=eI T p (es lvl)
def eOp (k:Int) (l:List EJ):EJ:=.mk k cJ [] l
def eb (v:JV):EJ:=.mk 1 v [] []
def fB:List UInt8:=[101,109,105,116]
def wIf:List UInt8:=[105,102]
def gl:List UInt8:=[101,108,115,101]
def lu:List UInt8:=[102,111,114]
def wIn:List UInt8:=[105,110]
def pX:List UInt8:=[110,117,108,108]
def lh:List UInt8:=[116,114,117,101]
def ig:List UInt8:=[102,97,108,115,101]
mutual
/-- an expression from a level on -/
def aB (T:List al):Nat->Nat->Nat->PR EJ
 | 0,_,p=>.bad p
 |n+1,lvl,p =>
  if lvl=3∨lvl=7 then
   match dU T lvl p with
   |some k=>(match aB T n lvl (p+1) with
    | .ok x q=>.ok (eOp k [x]) q
    | .bad q=>.bad q)
   | none=>aB T n (lvl+1) p
  else if 8<=lvl then
   match bU T n p with
   | .ok x q=>dB T n x q
   | .bad q=>.bad q
  else match aB T n (lvl+1) p with
   | .ok x q=>fC T n lvl x q
   | .bad q=>.bad q
/-- what stands behind an expression,of a level's operators -/
def fC (T:List al):Nat->Nat->EJ->Nat->PR EJ
 | 0,_,_,p=>.bad p
 |n+1,lvl,x,p=>match dU T lvl p with
  | none=>.ok x p
  |some k=>match aB T n (lvl+1) (p+1) with
   | .bad q=>.bad q
   | .ok y q=>if lvl=4 then .ok (eOp k [x,y]) q else fC T n lvl (eOp k [x,y]) q
/-- names behind points -/
def dB (T:List al):Nat->EJ->Nat->PR EJ
 | 0,_,p=>.bad p
 | n+1,x,p=>if ao T p [46]=true then (if tkK T (p+1)=1 then dB T n (.mk 3 cJ (tkT T (p+1)) [x]) (p+2) else .bad (p+1)) else .ok x p
/-- what stands alone -/
def bU (T:List al):Nat->Nat->PR EJ
 | 0,p=>.bad p
 |n+1,p =>
  if tkK T p=1 then .ok (.mk 2 cJ (tkT T p) []) (p+1)
  else if tkK T p=3 then .ok (eb (nS (tkN T p))) (p+1)
  else if tkK T p=4 then .ok (eb (jz (tkT T p))) (p+1)
  else if ao T p pX=true then .ok (eb (.mk 1 0 [] [] [])) (p+1)
  else if ao T p lh=true then .ok (eb (fe true)) (p+1)
  else if ao T p ig=true then .ok (eb (fe false)) (p+1)
  else if ao T p [40]=true then (match aB T n 1 (p+1) with
   | .ok x q=>if ao T q [41]=true then .ok x (q+1) else .bad q
   | .bad q=>.bad q)
  else if ao T p [91]=true then (if ao T (p+1) [93]=true then .ok (eOp 4 []) (p+2) else dA T n [] (p+1))
  else .bad p
/-- the expressions of a list -/
def dA (T:List al):Nat->List EJ->Nat->PR EJ
 | 0,_,p=>.bad p
 |n+1,acc,p=>match aB T n 1 p with
  | .bad q=>.bad q
  | .ok x q=>if ao T q [44]=true then dA T n (acc++[x]) (q+1) else if ao T q [93]=true then .ok (eOp 4 (acc++[x])) (q+1) else .bad q
end
mutual
/-- statements,as long as there are some -/
def bE (T:List al):Nat->List SJ->Nat->PR (List SJ)
 | 0,_,p=>.bad p
 |n+1,acc,p =>
  if ao T p fB=true then
   match aB T n 1 (p+1) with
   | .bad q=>.bad q
   | .ok a q=>if ao T q [44]=true then (match aB T n 1 (q+1) with
     | .bad r=>.bad r
     | .ok b r=>if ao T r [59]=true then bE T n (acc++[.mk 1 [] a b [] []]) (r+1) else .bad r)
    else .bad q
  else if ao T p wIf=true then
   match aB T n 1 (p+1) with
   | .bad q=>.bad q
   | .ok a q=>match bc T n q with
    | .bad r=>.bad r
    | .ok body r=>if ao T r gl=true then (match bc T n (r+1) with
      | .bad u=>.bad u
      | .ok els u=>bE T n (acc++[.mk 2 [] a a8 body els]) u)
     else bE T n (acc++[.mk 2 [] a a8 body []]) r
  else if ao T p lu=true then
   (if tkK T (p+1)=1 then
    (if ao T (p+2) wIn=true then (match aB T n 1 (p+3) with
     | .bad q=>.bad q
     | .ok a q=>match bc T n q with
      | .bad r=>.bad r
      | .ok body r=>bE T n (acc++[.mk 3 (tkT T (p+1)) a a8 body []]) r)
    else .bad (p+2))
   else .bad (p+1))
  else .ok acc p
/-- statements in brackets -/
def bc (T:List al):Nat->Nat->PR (List SJ)
 | 0,p=>.bad p
 |n+1,p=>if ao T p [123]=true then (match bE T n [] (p+1) with
   | .bad q=>.bad q
   | .ok l q=>if ao T q [125]=true then .ok l (q+1) else .bad q)
  else .bad p
end
structure WT (T:List al):Prop where
 last:∃ m,T.length=m+1/\tkK T m=6
 one:∀ p,p+1<T.length->tkK T p≠6
 words:∀ p,tkK T p=2->tkT T p ∈ cT
 signs:∀ p,tkK T p=5->tkT T p ∉ cT
 kinds:∀ p,1<=tkK T p/\tkK T p<=6
theorem WT.next {T:List al} (h:WT T) {p:Nat} (hp:p<T.length) (hk:tkK T p≠6):p+1<T.length:=by
 obtain ⟨m,hm,h6⟩:=h.last;rcases Nat.lt_or_ge (p+1) T.length with h1 | h1
 ·exact h1
 ·obtain rfl:p=m:=by omega
  exact absurd h6 hk
theorem am {T:List al} {p:Nat} {w:List UInt8} (h:ao T p w=true):tkK T p≠6:=by
 unfold ao at h;rw [decide_eq_true_eq] at h;omega
theorem eq {T:List al} {p:Nat}:∀ {l:List (List UInt8 × Int)} {k:Int},eI T p l=some k->tkK T p≠6
 | [],k,h=>by cases h
 |x::r,k,h=>by
  unfold eI at h;split at h
  ·rename_i hs;exact am hs
  ·exact eq h
def PR.In {α:Type} (T:List al) (p:Nat):PR α->Prop
 | .ok _ q=>p<q/\q<T.length
 | .bad q=>p<=q/\q<T.length
def PR.In0 {α:Type} (T:List al) (p:Nat):PR α->Prop
 | .ok _ q=>p<=q/\q<T.length
 | .bad q=>p<=q/\q<T.length
theorem PR.In.mono {α:Type} {T:List al} {p p':Nat} {r:PR α} (h:r.In T p) (hp:p'<=p):r.In T p':=by
 cases r<;>(unfold PR.In at h ⊢;omega)
theorem PR.In0.mono {α:Type} {T:List al} {p p':Nat} {r:PR α} (h:r.In0 T p) (hp:p'<=p):r.In0 T p':=by
 cases r<;>(unfold PR.In0 at h ⊢;omega)
theorem PR.In0.up {α:Type} {T:List al} {p p':Nat} {r:PR α} (h:r.In0 T p) (hp:p'<p):r.In T p':=by
 cases r<;>(unfold PR.In0 at h;unfold PR.In;omega)
theorem PR.In.zero {α:Type} {T:List al} {p:Nat} {r:PR α} (h:r.In T p):r.In0 T p:=by
 cases r<;>(unfold PR.In at h;unfold PR.In0;omega)
theorem fp {α:Type} {T:List al} {p q:Nat} (h:p<=q) (hq:q<T.length):(PR.bad q:PR α).In T p:=⟨h,hq⟩
theorem gP {α:Type} {T:List al} {p q:Nat} {x:α} (h:p<q) (hq:q<T.length):(PR.ok x q).In T p:=⟨h,hq⟩
section
variable {T:List al} (hT:WT T)
include hT
theorem lq:∀ (n:Nat),(∀ lvl p,p<T.length->(aB T n lvl p).In T p)/\(∀ lvl x p,p<T.length->(fC T n lvl x p).In0 T p)/\(∀ x p,p<T.length->(dB T n x p).In0 T p)/\(∀ p,p<T.length->(bU T n p).In T p)/\(∀ acc p,p<T.length->(dA T n acc p).In T p)
 | 0=>⟨λ lvl p hp=>by unfold aB;exact fp (Nat.le_refl _) hp,λ lvl x p hp=>by unfold fC;exact ⟨Nat.le_refl _,hp⟩,λ x p hp=>by unfold dB;exact ⟨Nat.le_refl _,hp⟩,λ p hp=>by unfold bU;exact fp (Nat.le_refl _) hp,λ acc p hp=>by unfold dA;exact fp (Nat.le_refl _) hp⟩
 |n+1=>by
  obtain ⟨hE,hB,hP,hA,hL⟩:=lq n;refine ⟨λ lvl p hp=>?_,λ lvl x p hp=>?_,λ x p hp=>?_,λ p hp=>?_,λ acc p hp=>?_⟩
  ·unfold aB;split
   ·cases ho:dU T lvl p with
    | none=>exact hE _ _ hp
    |some k =>
     have h1:=hE lvl (p+1) (hT.next hp (eq ho));simp only;cases hx:aB T n lvl (p+1) with
     | ok x q=>rw [hx] at h1;exact ⟨by have:=h1.1;omega,h1.2⟩
     | bad q=>rw [hx] at h1;exact ⟨by have:=h1.1;omega,h1.2⟩
   ·split
    ·have h1:=hA p hp;cases hx:bU T n p with
     | ok x q=>rw [hx] at h1;simp only;exact (hP x q h1.2).up h1.1
     | bad q=>rw [hx] at h1;exact h1
    ·have h1:=hE (lvl+1) p hp;cases hx:aB T n (lvl+1) p with
     | ok x q=>rw [hx] at h1;simp only;exact (hB lvl x q h1.2).up h1.1
     | bad q=>rw [hx] at h1;exact h1
  ·unfold fC;cases ho:dU T lvl p with
   | none=>exact ⟨Nat.le_refl _,hp⟩
   |some k =>
    have h1:=hE (lvl+1) (p+1) (hT.next hp (eq ho));simp only;cases hx:aB T n (lvl+1) (p+1) with
    | bad q=>rw [hx] at h1;exact ⟨by have:=h1.1;omega,h1.2⟩
    |ok y q =>
     rw [hx] at h1;simp only;split
     ·exact ⟨by have:=h1.1;omega,h1.2⟩
     ·exact (hB lvl _ q h1.2).mono (by have:=h1.1;omega)
  ·unfold dB;split
   ·rename_i hs
    have h1:=hT.next hp (am hs);split
    ·rename_i hk
     have h2:=hT.next h1 (by omega);exact (hP _ (p+2) h2).mono (by omega)
    ·exact ⟨by omega,h1⟩
   ·exact ⟨Nat.le_refl _,hp⟩
  ·unfold bU;split
   ·exact gP (by omega) (hT.next hp (by omega))
   split
   ·exact gP (by omega) (hT.next hp (by omega))
   split
   ·exact gP (by omega) (hT.next hp (by omega))
   split
   ·rename_i hs;exact gP (by omega) (hT.next hp (am hs))
   split
   ·rename_i hs;exact gP (by omega) (hT.next hp (am hs))
   split
   ·rename_i hs;exact gP (by omega) (hT.next hp (am hs))
   split
   ·rename_i hs
    have h0:=hT.next hp (am hs);have h1:=hE 1 (p+1) h0;cases hx:aB T n 1 (p+1) with
    | bad q=>rw [hx] at h1;exact ⟨by have:=h1.1;omega,h1.2⟩
    |ok y q =>
     rw [hx] at h1;simp only;split
     ·rename_i hs2;exact gP (by have:=h1.1;omega) (hT.next h1.2 (am hs2))
     ·exact fp (by have:=h1.1;omega) h1.2
   split
   ·rename_i hs
    have h0:=hT.next hp (am hs);split
    ·rename_i hs2;exact gP (by omega) (hT.next h0 (am hs2))
    ·exact (hL [] (p+1) h0).mono (by omega)
   ·exact fp (Nat.le_refl _) hp
  ·unfold dA;have h1:=hE 1 p hp;cases hx:aB T n 1 p with
   | bad q=>rw [hx] at h1;exact h1
   |ok y q =>
    rw [hx] at h1;simp only;split
    ·rename_i hs;exact (hL _ (q+1) (hT.next h1.2 (am hs))).mono (by have:=h1.1;omega)
    ·split
     ·rename_i hs;exact gP (by have:=h1.1;omega) (hT.next h1.2 (am hs))
     ·exact fp (by have:=h1.1;omega) h1.2
theorem dr (n lvl p:Nat) (hp:p<T.length):(aB T n lvl p).In T p:=(lq hT n).1 lvl p hp
theorem pG:∀ (n:Nat),(∀ acc p,p<T.length->(bE T n acc p).In0 T p)/\(∀ p,p<T.length->(bc T n p).In T p)
 | 0=>⟨λ acc p hp=>by unfold bE;exact ⟨Nat.le_refl _,hp⟩,λ p hp=>by unfold bc;exact fp (Nat.le_refl _) hp⟩
 |n+1=>by
  obtain ⟨hS,hB⟩:=pG n;refine ⟨λ acc p hp=>?_,λ p hp=>?_⟩
  ·unfold bE;split
   ·rename_i hs
    have h1:=dr hT n 1 (p+1) (hT.next hp (am hs));cases hx:aB T n 1 (p+1) with
    | bad q=>rw [hx] at h1;exact ⟨by have:=h1.1;omega,h1.2⟩
    |ok a q =>
     rw [hx] at h1;simp only;split
     ·rename_i hs2
      have h2:=dr hT n 1 (q+1) (hT.next h1.2 (am hs2));cases hy:aB T n 1 (q+1) with
      | bad r=>rw [hy] at h2;exact ⟨by have:=h1.1;have:=h2.1;omega,h2.2⟩
      |ok b r =>
       rw [hy] at h2;simp only;split
       ·rename_i hs3;exact (hS _ (r+1) (hT.next h2.2 (am hs3))).mono (by have:=h1.1;have:=h2.1;omega)
       ·exact ⟨by have:=h1.1;have:=h2.1;omega,h2.2⟩
     ·exact ⟨by have:=h1.1;omega,h1.2⟩
   split
   ·rename_i hs
    have h1:=dr hT n 1 (p+1) (hT.next hp (am hs));cases hx:aB T n 1 (p+1) with
    | bad q=>rw [hx] at h1;exact ⟨by have:=h1.1;omega,h1.2⟩
    |ok a q =>
     rw [hx] at h1;simp only;have h2:=hB q h1.2;cases hy:bc T n q with
     | bad r=>rw [hy] at h2;exact ⟨by have:=h1.1;have:=h2.1;omega,h2.2⟩
     |ok body r =>
      rw [hy] at h2;simp only;split
      ·rename_i hs3
       have h3:=hB (r+1) (hT.next h2.2 (am hs3));cases hz:bc T n (r+1) with
       | bad u=>rw [hz] at h3;exact ⟨by have:=h1.1;have:=h2.1;have:=h3.1;omega,h3.2⟩
       | ok els u=>rw [hz] at h3;exact (hS _ u h3.2).mono (by have:=h1.1;have:=h2.1;have:=h3.1;omega)
      ·exact (hS _ r h2.2).mono (by have:=h1.1;have:=h2.1;omega)
   split
   ·rename_i hs
    have h0:=hT.next hp (am hs);split
    ·rename_i hk
     have h9:=hT.next h0 (by omega);split
     ·rename_i hs2
      have h1:=dr hT n 1 (p+3) (hT.next h9 (am hs2));cases hx:aB T n 1 (p+3) with
      | bad q=>rw [hx] at h1;exact ⟨by have:=h1.1;omega,h1.2⟩
      |ok a q =>
       rw [hx] at h1;simp only;have h2:=hB q h1.2;cases hy:bc T n q with
       | bad r=>rw [hy] at h2;exact ⟨by have:=h1.1;have:=h2.1;omega,h2.2⟩
       | ok body r=>rw [hy] at h2;exact (hS _ r h2.2).mono (by have:=h1.1;have:=h2.1;omega)
     ·exact ⟨by omega,h9⟩
    ·exact ⟨by omega,h0⟩
   ·exact ⟨Nat.le_refl _,hp⟩
  ·unfold bc;split
   ·rename_i hs
    have h0:=hT.next hp (am hs);have h1:=hS [] (p+1) h0;cases hx:bE T n [] (p+1) with
    | bad q=>rw [hx] at h1;exact ⟨by have:=h1.1;omega,h1.2⟩
    |ok l q =>
     rw [hx] at h1;simp only;split
     ·rename_i hs2;exact gP (by have:=h1.1;omega) (hT.next h1.2 (am hs2))
     ·exact fp (by have:=h1.1;omega) h1.2
   ·exact fp (Nat.le_refl _) hp
end
def tn (T:List al):Nat:=12*(T.length+2)
def fZ (T:List al):PR (List SJ) :=
 match bE T (tn T) [] 0 with
 | .bad p=>.bad p
 | .ok l p=>if tkK T p=6 then .ok l p else .bad p
theorem Blk.set8C {w:World} {g:Nat} {t:TypeId} {c0 c1 c2 c3 c4 c5 c6 c7:Value} (h:Blk w g t #[c0,c1,c2,c3,c4,c5,c6,c7]) (x0 x1 x2 x3 x4 x5 x6 x7:Value):Blk (w.setCells g 0 [x0,x1,x2,x3,x4,x5,x6,x7]) g t #[x0,x1,x2,x3,x4,x5,x6,x7] :=
 (((((((h.set_ 0 x0).set_ 1 x1).set_ 2 x2).set_ 3 x3).set_ 4 x4).set_ 5 x5).set_ 6 x6).set_ 7 x7
end
section
open Go.RowKit
attribute [local go_sem] ab ae af ac
section
variable {B g ib p:Nat} {w0 W W':World} {S:ByteArray} {l m:List UInt8}
end
theorem Rd.lit {W:World} {t:TypeId} {cs:Array Value} {xs:List Value} (h:xs=cs.toList):Rd (W.alloc (.cells cs t)) (some ⟨W.heap.size,0,none⟩) xs:=by
 subst h;exact Rd.of_blk (Blk.new W t cs)
end
end Go.Proofs.YtgmnmnnoahdjnaaGreatDoor
