import Derived.Test.YtgmnmnnoahdjnaaGreatDoorC11
import Derived.Test.YtgmnmnnoahdjnaaGreatDoorC10
open Go.Value renaming int → Zi, slice → Zs, string → Zt, pointer → Zp
open Go.IntKind renaming i64 → Zq
set_option maxRecDepth 100000
set_option maxHeartbeats 16000000
set_option linter.unusedVariables false
set_option linter.unusedSimpArgs false
namespace Go.Proofs.YtgmnmnnoahdjnaaGreatDoor
section
open Go.RowKit
inductive EJ where
 | mk:Int->JV->List UInt8->List EJ->EJ
inductive SJ where
 | mk:Int->List UInt8->EJ->EJ->List SJ->List SJ->SJ
def EJ.kind:EJ->Int | .mk k _ _ _=>k
def EJ.kids:EJ->List EJ | .mk _ _ _ l=>l
def aM:EJ:=.mk 0 cn [] []
instance:Inhabited EJ:=⟨aM⟩
instance:Inhabited SJ:=⟨.mk 0 [] aM aM [] []⟩
def RR {α:Type} (R:List Value->α->Prop) (css:List (List Value)) (xs:List α):Prop:=css.length=xs.length/\∀ (i:Nat) c x,css[i]? = some c->xs[i]? = some x->R c x
section
variable {α:Type} {R R':List Value->α->Prop} {css:List (List Value)} {xs:List α} {m:Nat}
theorem RR.imp (h:RR R css xs) (hm:∀ c x,R c x->R' c x):RR R' css xs:=⟨h.1,λ i c x h1 h2=>hm c x (h.2 i c x h1 h2)⟩
theorem RR.nil:RR R [] ([]:List α):=⟨rfl,λ i c x h=>by simp at h⟩
theorem iR:∀ {css:List (List Value)},(∀ c ∈ css,c.length=m)->css.flatten.length=css.length*m
 | [],_=>by simp
 |c::r,h=>by
  rw [List.flatten_cons,List.length_append,h c List.mem_cons_self,iR (λ c hc=>h c (List.mem_cons_of_mem _ hc)),List.length_cons,Nat.add_mul];omega
theorem kw:∀ {css:List (List Value)} (_:∀ c ∈ css,c.length=m) {i:Nat} {c:List Value} (_:css[i]? = some c) {j:Nat} (_:j<m),css.flatten[i*m+j]? = c[j]?
 | [],_,i,c,h,_,_=>by simp at h
 |c'::r,h5,0,c,h,j,hj=>by
  have:c'=c:=by simpa using h
  subst this;rw [List.flatten_cons,Nat.zero_mul,Nat.zero_add,List.getElem?_append_left (by rw [h5 c' List.mem_cons_self];exact hj)]
 |c'::r,h5,i+1,c,h,j,hj=>by
  have h':r[i]? = some c:=by simpa using h
  have hl:=h5 c' List.mem_cons_self;have e:(i+1)*m=m+i*m:=by rw [Nat.add_mul];omega
  rw [List.flatten_cons,List.getElem?_append_right (by omega),← kw (λ c hc=>h5 c (List.mem_cons_of_mem _ hc)) h' hj];congr 1;omega
theorem RR.mem (h:RR R css xs) {c:List Value} (hc:c ∈ css):∃ x,x ∈ xs/\R c x:=by
 obtain ⟨i,hi,rfl⟩:=List.getElem_of_mem hc;have hx:i<xs.length:=by rw [← h.1];exact hi
 exact ⟨xs[i],List.getElem_mem hx,h.2 i _ _ (List.getElem?_eq_getElem hi) (List.getElem?_eq_getElem hx)⟩
theorem RR.lens (h:RR R css xs) (hR:∀ c x,R c x->c.length=m):∀ c ∈ css,c.length=m:=λ c hc=>by
 obtain ⟨x,_,hx⟩:=h.mem hc;exact hR c x hx
theorem RR.snoc {c:List Value} {x:α} (h:RR R css xs) (hx:R c x):RR R (css++[c]) (xs++[x]):=by
 refine ⟨by simp [h.1],λ i c' x' h1 h2=>?_⟩;rcases Nat.lt_or_ge i css.length with hi | hi
 ·rw [List.getElem?_append_left hi] at h1;rw [List.getElem?_append_left (by rw [← h.1];exact hi)] at h2;exact h.2 i c' x' h1 h2
 ·rw [List.getElem?_append_right hi] at h1;rw [List.getElem?_append_right (by rw [← h.1];exact hi)] at h2;have:i-css.length=0:=by
   rcases Nat.eq_zero_or_pos (i-css.length) with h0 | h0
   ·exact h0
   ·rw [List.getElem?_eq_none (by simp;omega)] at h1;cases h1
  rw [this] at h1;rw [← h.1,this] at h2;obtain rfl:c=c':=by simpa using h1
  obtain rfl:x=x':=by simpa using h2
  exact hx
theorem RR.get_ {i:Nat} {x:α} (h:RR R css xs) (hx:xs[i]? = some x):∃ c,css[i]? = some c/\R c x:=by
 have hi:i<css.length:=by rw [h.1];exact (List.getElem?_eq_some_iff.1 hx).1
 exact ⟨_,List.getElem?_eq_getElem hi,h.2 i _ x (List.getElem?_eq_getElem hi) hx⟩
theorem RR.take (h:RR R css xs) (n:Nat):RR R (css.take n) (xs.take n):=by
 refine ⟨by simp [h.1],λ i c x h1 h2=>?_⟩;rw [List.getElem?_take] at h1 h2;split at h1
 ·rename_i hi;rw [if_pos hi] at h2;exact h.2 i c x h1 h2
 ·cases h1
theorem RR.append {css':List (List Value)} {xs':List α} (h:RR R css xs) (h':RR R css' xs'):RR R (css++css') (xs++xs'):=by
 refine ⟨by simp [h.1,h'.1],λ i c x h1 h2=>?_⟩;rcases Nat.lt_or_ge i css.length with hi | hi
 ·rw [List.getElem?_append_left hi] at h1;rw [List.getElem?_append_left (by rw [← h.1];exact hi)] at h2;exact h.2 i c x h1 h2
 ·rw [List.getElem?_append_right hi] at h1;rw [List.getElem?_append_right (by rw [← h.1];exact hi),← h.1] at h2;exact h'.2 _ c x h1 h2
theorem RR.cell {W:World} {F:Nat->Prop} {A:Option Addr} (h:RR R css xs) (hR:∀ c x,R c x->c.length=m) (hm:0<m) (hr:RdF W F A css.flatten) {i:Nat} {x:α} (hx:xs[i]? = some x) :
  ∃ (b o:Nat) (c:List Value),A=some ⟨b,o,none⟩/\b<W.heap.size/\F b/\css[i]? = some c/\R c x/\∀ (j:Nat) u,j<m->c[j]? = some u->W.cell? ⟨b,o+(i*m+j),none⟩=some u:=by
 obtain ⟨c,hc,hv⟩:=h.get_ hx;have hl:=h.lens hR;have hi:i<css.length:=(List.getElem?_eq_some_iff.1 hc).1;have hfl:=iR hl;have him:i*m+m<=css.length*m:=by
  have:=Nat.mul_le_mul_right m hi;rw [Nat.succ_mul] at this;exact this
 have hne:css.flatten≠[]:=by
  intro e;rw [e] at hfl;simp only [List.length_nil] at hfl;omega
 obtain ⟨b,o,rfl,hb,hf,hx'⟩:=hr hne;refine ⟨b,o,c,rfl,hb,hf,hc,hv,λ j u hj hu=>?_⟩;have hg:=kw hl hc hj;rw [hu] at hg;obtain ⟨h1,h2⟩:=List.getElem?_eq_some_iff.1 hg;rw [hx' _ h1,h2]
end
inductive ER (W:World) (F:Nat->Prop):List Value->EJ->Prop where
 | mk {k:Int} {v:JV} {s:List UInt8} {kids:List EJ} {A:Option Addr} {ca:Nat} {a b c d e:Value} {css:List (List Value)} :
   VR W F [a,b,c,d,e] v->css.length=kids.length->kids.length<=ca->(A=none->ca=0)->RdF W F A css.flatten ->
   (∀ (i:Nat) c x,css[i]? = some c->kids[i]? = some x->ER W F c x) ->
   ER W F [Zi Zq k,a,b,c,d,e,Zt ⟨s.toArray⟩,Zs A kids.length ca] (.mk k v s kids)
abbrev ERs (W:World) (F:Nat->Prop):=RR (ER W F)
section
variable {W W':World} {F F':Nat->Prop} {cs:List Value} {x:EJ}
theorem ER.keep (h:ER W F cs x) (hk:ah F W W'):ER W' F cs x:=by
 induction h with
 | mk h0 h1 h2 h3 h4 _ ih=>exact .mk (h0.keep hk) h1 h2 h3 (h4.keep hk) ih
theorem ER.mono (h:ER W F cs x) (hm:∀ b,b<W.heap.size->F b->F' b):ER W F' cs x:=by
 induction h with
 | mk h0 h1 h2 h3 h4 _ ih=>exact .mk (h0.mono hm) h1 h2 h3 (h4.mono hm) ih
theorem ER.bel (h:ER W F cs x) (hb:Below W.heap.size W W'):ER W' F cs x:=h.keep (ah.of_below hb)
theorem ER.len (h:ER W F cs x):cs.length=8:=by cases h;rfl
theorem ER.one (h:ER W F cs x):∀ u ∈ cs,u.oneCell'=true:=by
 cases h with
 |mk h0 h1 h2 h3 h4 h5 =>
  intro u hu;have h9:=h0.one;simp only [List.mem_cons,List.not_mem_nil,or_false] at hu h9;rcases hu with rfl | rfl | rfl | rfl | rfl | rfl | rfl | rfl
  ·rfl
  ·exact h9 _ (.inl rfl)
  ·exact h9 _ (.inr (.inl rfl))
  ·exact h9 _ (.inr (.inr (.inl rfl)))
  ·exact h9 _ (.inr (.inr (.inr (.inl rfl))))
  ·exact h9 _ (.inr (.inr (.inr (.inr rfl))))
  ·rfl
  ·rfl
theorem ER.out {k:Int} {v:JV} {s:List UInt8} {kids:List EJ} (h:ER W F cs (.mk k v s kids)) :
  ∃ (k1 n1:Int) (s1:ByteArray) (A1:Option Addr) (na1 ca1:Nat) (B1:Option Addr) (nb1 cb1:Nat) (A:Option Addr) (ca:Nat) (css:List (List Value)),
   cs=[Zi Zq k,Zi Zq k1,Zi Zq n1,Zt s1,Zs A1 na1 ca1,Zs B1 nb1 cb1,Zt ⟨s.toArray⟩,Zs A kids.length ca] /\
   VR W F [Zi Zq k1,Zi Zq n1,Zt s1,Zs A1 na1 ca1,Zs B1 nb1 cb1] v/\ERs W F css kids/\kids.length<=ca/\(A=none->ca=0)/\RdF W F A css.flatten:=by
 cases h with
 |mk h0 h1 h2 h3 h4 h5 =>
  obtain ⟨k1,n1,s1,A1,na1,ca1,B1,nb1,cb1,e⟩:=h0.form;injection e with e1 e;injection e with e2 e;injection e with e3 e;injection e with e4 e;injection e with e5 e
  subst e1 e2 e3 e4 e5;exact ⟨k1,n1,s1,A1,na1,ca1,B1,nb1,cb1,_,_,_,rfl,h0,⟨h1,h5⟩,h2,h3,h4⟩
theorem ER.into {k:Int} {v:JV} {s:List UInt8} {kids:List EJ} {A:Option Addr} {ca:Nat} {a b c d e:Value} {css:List (List Value)} (h0:VR W F [a,b,c,d,e] v) (h1:ERs W F css kids) {n:Nat} (hn:n=kids.length) (h2:kids.length<=ca) (h3:A=none->ca=0) (h4:RdF W F A css.flatten) :
  ER W F [Zi Zq k,a,b,c,d,e,Zt ⟨s.toArray⟩,Zs A n ca] (.mk k v s kids):=by
 subst hn;exact .mk h0 h1.1 h2 h3 h4 h1.2
theorem ER.leaf (k:Int) (s:List UInt8) {v:JV} {a b c d e:Value} (h0:VR W F [a,b,c,d,e] v):ER W F [Zi Zq k,a,b,c,d,e,Zt ⟨s.toArray⟩,Zs none 0 0] (.mk k v s []) :=
 ER.into (kids:=[]) (css:=[]) h0 RR.nil rfl (Nat.le_refl _) (λ _=>rfl) RdF.nil
theorem ER.zero:ER W F [Zi Zq 0,Zi Zq 0,Zi Zq 0,Zt ⟨#[]⟩,Zs none 0 0,Zs none 0 0,Zt ⟨#[]⟩,Zs none 0 0] aM:=ER.leaf 0 [] VR.zero
theorem ER.form (h:ER W F cs x):∃ (k k1 n1:Int) (s1:ByteArray) (A1:Option Addr) (na1 ca1:Nat) (B1:Option Addr) (nb1 cb1:Nat) (s:ByteArray) (A:Option Addr) (n ca:Nat),
   cs=[Zi Zq k,Zi Zq k1,Zi Zq n1,Zt s1,Zs A1 na1 ca1,Zs B1 nb1 cb1,Zt s,Zs A n ca]:=by
 obtain ⟨k,v,s,kids⟩:=x;obtain ⟨k1,n1,s1,A1,na1,ca1,B1,nb1,cb1,A,ca,css,e,_⟩:=h.out;exact ⟨k,k1,n1,s1,A1,na1,ca1,B1,nb1,cb1,_,A,_,ca,e⟩
end
inductive SR (W:World) (F:Nat->Prop):List Value->SJ->Prop where
 | mk {k:Int} {s:List UInt8} {a b:EJ} {body els:List SJ} {A B:Option Addr} {ca cb:Nat} {acs bcs:List Value} {css dss:List (List Value)} :
   ER W F acs a->ER W F bcs b->css.length=body.length->body.length<=ca->(A=none->ca=0)->RdF W F A css.flatten ->
   dss.length=els.length->els.length<=cb->(B=none->cb=0)->RdF W F B dss.flatten ->
   (∀ (i:Nat) c x,css[i]? = some c->body[i]? = some x->SR W F c x)->(∀ (i:Nat) c x,dss[i]? = some c->els[i]? = some x->SR W F c x) ->
   SR W F ([Zi Zq k,Zt ⟨s.toArray⟩]++acs++bcs++[Zs A body.length ca,Zs B els.length cb]) (.mk k s a b body els)
abbrev SRs (W:World) (F:Nat->Prop):=RR (SR W F)
section
variable {W W':World} {F F':Nat->Prop} {cs:List Value} {x:SJ}
theorem SR.keep (h:SR W F cs x) (hk:ah F W W'):SR W' F cs x:=by
 induction h with
 | mk ha hb h1 h2 h3 h4 g1 g2 g3 g4 _ _ ih1 ih2=>exact .mk (ha.keep hk) (hb.keep hk) h1 h2 h3 (h4.keep hk) g1 g2 g3 (g4.keep hk) ih1 ih2
theorem SR.mono (h:SR W F cs x) (hm:∀ b,b<W.heap.size->F b->F' b):SR W F' cs x:=by
 induction h with
 | mk ha hb h1 h2 h3 h4 g1 g2 g3 g4 _ _ ih1 ih2=>exact .mk (ha.mono hm) (hb.mono hm) h1 h2 h3 (h4.mono hm) g1 g2 g3 (g4.mono hm) ih1 ih2
theorem SR.bel (h:SR W F cs x) (hb:Below W.heap.size W W'):SR W' F cs x:=h.keep (ah.of_below hb)
theorem SR.len (h:SR W F cs x):cs.length=20:=by
 cases h with
 | mk ha hb=>simp [ha.len,hb.len]
theorem SR.one (h:SR W F cs x):∀ u ∈ cs,u.oneCell'=true:=by
 cases h with
 |mk ha hb =>
  intro u hu;simp only [List.mem_append,List.mem_cons,List.not_mem_nil,or_false] at hu;rcases hu with (((rfl | rfl) | hu) | hu) | (rfl | rfl)
  ·rfl
  ·rfl
  ·exact ha.one u hu
  ·exact hb.one u hu
  ·rfl
  ·rfl
theorem SR.out {k:Int} {s:List UInt8} {a b:EJ} {body els:List SJ} (h:SR W F cs (.mk k s a b body els)) :
  ∃ (acs bcs:List Value) (A B:Option Addr) (ca cb:Nat) (css dss:List (List Value)),
   cs=[Zi Zq k,Zt ⟨s.toArray⟩]++acs++bcs++[Zs A body.length ca,Zs B els.length cb]/\ER W F acs a/\ER W F bcs b /\
   (SRs W F css body/\body.length<=ca/\(A=none->ca=0)/\RdF W F A css.flatten)/\SRs W F dss els/\els.length<=cb/\(B=none->cb=0)/\RdF W F B dss.flatten:=by
 cases h with
 | mk ha hb h1 h2 h3 h4 g1 g2 g3 g4 h5 g5=>exact ⟨_,_,_,_,_,_,_,_,rfl,ha,hb,⟨⟨h1,h5⟩,h2,h3,h4⟩,⟨g1,g5⟩,g2,g3,g4⟩
theorem SR.into {k:Int} {s:List UInt8} {a b:EJ} {body els:List SJ} {A B:Option Addr} {ca cb:Nat} {acs bcs:List Value} {css dss:List (List Value)} (ha:ER W F acs a) (hb:ER W F bcs b)
  (h1:SRs W F css body) {n:Nat} (hn:n=body.length) (h2:body.length<=ca) (h3:A=none->ca=0) (h4:RdF W F A css.flatten) (g1:SRs W F dss els) {m:Nat} (hm:m=els.length) (g2:els.length<=cb) (g3:B=none->cb=0) (g4:RdF W F B dss.flatten) :
  SR W F ([Zi Zq k,Zt ⟨s.toArray⟩]++acs++bcs++[Zs A n ca,Zs B m cb]) (.mk k s a b body els):=by
 subst hn hm;exact .mk ha hb h1.1 h2 h3 h4 g1.1 g2 g3 g4 h1.2 g1.2
end
section
variable {W W':World} {F F':Nat->Prop} {cs:List Value}
end
mutual
/-- an expression all parts of which are of a size -/
def kC (N:Nat):EJ->Prop | .mk k v s kids=>1<=N/\iw k/\inJ v/\b8 v<=N/\s.length<=N/\kids.length<=N/\jk N kids
def jk (N:Nat):List EJ->Prop | []=>True | x::r=>kC N x/\jk N r
end
theorem nR {N:Nat}:∀ {xs:List EJ},jk N xs ↔ ∀ x ∈ xs,kC N x
 | []=>by simp [jk]
 | x::r=>by simp [jk,nR (xs:=r)]
mutual
theorem eC {N M:Nat} (h:N<=M):∀ (x:EJ),kC N x->kC M x
 | .mk k v s kids,hx=>by
  unfold kC at hx ⊢;obtain ⟨h0,h1,h2,h3,h4,h5,h6⟩:=hx;exact ⟨by omega,h1,h2,by omega,by omega,by omega,mx h kids h6⟩
theorem mx {N M:Nat} (h:N<=M):∀ (xs:List EJ),jk N xs->jk M xs
 | [],_=>trivial
 | x::r,hx=>by unfold jk at hx ⊢;exact ⟨eC h x hx.1,mx h r hx.2⟩
end
mutual
/-- a statement all parts of which are of a size -/
def jz (N:Nat):SJ->Prop | .mk k s a b body els=>1<=N/\iw k/\s.length<=N/\kC N a/\kC N b/\body.length<=N/\els.length<=N/\iD N body/\iD N els
def iD (N:Nat):List SJ->Prop | []=>True | x::r=>jz N x/\iD N r
end
theorem iW {N:Nat}:∀ {xs:List SJ},iD N xs ↔ ∀ x ∈ xs,jz N x
 | []=>by simp [iD]
 | x::r=>by simp [iD,iW (xs:=r)]
mutual
theorem fv {N M:Nat} (h:N<=M):∀ (x:SJ),jz N x->jz M x
 | .mk k s a b body els,hx=>by
  unfold jz at hx ⊢;obtain ⟨h0,h1,h2,h3,h4,h5,h6,h7,h8⟩:=hx;exact ⟨by omega,h1,by omega,eC h a h3,eC h b h4,by omega,by omega,jA h body h7,jA h els h8⟩
theorem jA {N M:Nat} (h:N<=M):∀ (xs:List SJ),iD N xs->iD M xs
 | [],_=>trivial
 | x::r,hx=>by unfold iD at hx ⊢;exact ⟨fv h x hx.1,jA h r hx.2⟩
end
end
section
open Go.RowKit Go.Shelf
attribute [local go_sem] aa ac ae ab Oper.semAt_some
mutual
def dD:Nat->JV->List (Nat × JV) | lv,.mk k n s kids keys=>(lv,.mk k n s kids keys)::bX (lv+1) kids
def bX:Nat->List JV->List (Nat × JV) | _,[]=>[] | lv,x::r=>dD lv x++bX lv r
end
theorem kv (lv:Nat):∀ xs ys:List JV,bX lv (xs++ys)=bX lv xs++bX lv ys
 | [],ys=>by simp [bX]
 | x::r,ys=>by rw [List.cons_append,bX,bX,kv lv r ys,List.append_assoc]
mutual
theorem ku:∀ (lv:Nat) (v:JV),(dD lv v).length=bU v
 | lv,.mk k n s kids keys=>by rw [dD,bU,List.length_cons,nJ (lv+1) kids];omega
theorem nJ:∀ (lv:Nat) (xs:List JV),(bX lv xs).length=bN xs
 | lv,[]=>by rw [bX,bN];rfl
 | lv,x::r=>by rw [bX,bN,List.length_append,ku lv x,nJ lv r]
end
theorem vE {lv:Nat} {xs:List JV} {i:Nat} {x:JV} (h:xs[i]? = some x):bX lv (xs.take (i+1))=bX lv (xs.take i)++dD lv x/\bX lv xs=bX lv (xs.take i)++(dD lv x++bX lv (xs.drop (i+1))):=by
 have e:bX lv (xs.take (i+1))=bX lv (xs.take i)++dD lv x:=by rw [List.take_add_one,h,kv];show _++bX lv [x]=_;rw [bX,bX,List.append_nil]
 refine ⟨e,?_⟩;have h2:=kv lv (xs.take (i+1)) (xs.drop (i+1));rw [List.take_append_drop,e,List.append_assoc] at h2;exact h2
abbrev eN:=Nat × JV × Array Value
def ee (x:eN):Nat × JV:=(x.1,x.2.1)
def xY (x:eN):Array Value:=#[Zi Zq x.1,.agg x.2.2]
def jo:Nat->Prop:=λ _=>True
def KpC (C:Nat->Prop) (N:Nat) (A B:World):Prop:=A.heap.size<=B.heap.size/\∀ k,k<A.heap.size->¬ C k->(k<N∨∃ t cs,Blk A k t cs)->B.heap[k]? = A.heap[k]?
theorem KpC.trans {C:Nat->Prop} {N:Nat} {A B D:World} (h:KpC C N A B) (k:KpC C N B D):KpC C N A D:=by
 refine ⟨Nat.le_trans h.1 k.1,λ j hj hc hb=>?_⟩;have h1:=h.2 j hj hc hb;refine (k.2 j (Nat.lt_of_lt_of_le hj h.1) hc ?_).trans h1;rcases hb with hb | ⟨t,cs,hb⟩
 ·exact .inl hb
 ·exact .inr ⟨t,cs,h1.trans hb⟩
theorem KpC.of_below {C:Nat->Prop} {N:Nat} {A B:World} (h:Below A.heap.size A B):KpC C N A B:=⟨h.size,λ k hk _ _=>h.block k hk⟩
theorem KpC.refl (C:Nat->Prop) (N:Nat) (A:World):KpC C N A A:=⟨Nat.le_refl _,λ _ _ _ _=>rfl⟩
theorem KpC.blk {C:Nat->Prop} {N:Nat} {A B:World} {g:Nat} {t:TypeId} {cs:Array Value} (h:KpC C N A B) (hb:Blk A g t cs) (hg:¬ C g):Blk B g t cs:=(h.2 g hb.lt hg (.inr ⟨t,cs,hb⟩)).trans hb
theorem KpC.keepF {C:Nat->Prop} {w0 A B:World} (h:KpC C w0.heap.size A B) (hk:ah jo w0 A) (hC:∀ k,C k->w0.heap.size<=k):ah jo w0 B :=
 ⟨Nat.le_trans hk.1 h.1,λ b _ hb=>(h.2 b (Nat.lt_of_lt_of_le hb hk.1) (λ hc=>by have:=hC b hc;omega) (.inl hb)).trans (hk.2 b trivial hb)⟩
theorem KpC.set {C:Nat->Prop} {N:Nat} {A B:World} (h:KpC C N A B) {k:Nat} (hk:C k) (i:Nat) (u:Value):KpC C N A (B.setCell ⟨k,i,none⟩ u) :=
 ⟨by simpa using h.1,λ b hb hc hx=>(Below.heap_setCell B ⟨k,i,none⟩ u b (λ e=>hc (by have e:b=k:=e;rw [e];exact hk))).trans (h.2 b hb hc hx)⟩
theorem rY {W:World} {css:List (List Value)} {xs:List JV} {A:Option Addr} (h:VRs W jo css xs) (hr:RdF W jo A css.flatten) {i:Nat} {x:JV} (hx:xs[i]? = some x) :
  ∃ (b o:Nat) (k n:Int) (s:ByteArray) (A':Option Addr) (na ca:Nat) (B':Option Addr) (nb cb:Nat),A=some ⟨b,o,none⟩/\b<W.heap.size/\VR W jo [Zi Zq k,Zi Zq n,Zt s,Zs A' na ca,Zs B' nb cb] x /\
   ∀ W',ah jo W W'->W'.cell? ⟨b,o+i*5,none⟩=some (Zi Zq k)/\W'.cell? ⟨b,o+i*5+1,none⟩=some (Zi Zq n)/\W'.cell? ⟨b,o+i*5+2,none⟩=some (Zt s)/\W'.cell? ⟨b,o+i*5+3,none⟩=some (Zs A' na ca)/\W'.cell? ⟨b,o+i*5+4,none⟩=some (Zs B' nb cb):=by
 obtain ⟨b,o,c,rfl,hb,_,hv,hc⟩:=h.cell hr hx;obtain ⟨k,n,s,A',na,ca,B',nb,cb,rfl⟩:=hv.form;refine ⟨b,o,k,n,s,A',na,ca,B',nb,cb,rfl,hb,hv,λ W' hW=>?_⟩;have z:=λ (j:Nat) u (hj:j<5) hu=>(World.cell?_of_block (w:=W) (a:=⟨b,o+(i*5+j),none⟩) (hW.2 b trivial hb)).trans (hc j u hj hu)
 exact ⟨z 0 _ (by decide) rfl,z 1 _ (by decide) rfl,z 2 _ (by decide) rfl,z 3 _ (by decide) rfl,z 4 _ (by decide) rfl⟩
def Ax (w0:World) (v0:JV) (pre:List eN) (x:eN):Prop:=VR w0 jo x.2.2.toList x.2.1/\(pre++[x]).map ee <+: dD 0 v0
def YN (l:Nat) (w0:World) (C:Nat->Prop) (v0:JV) (J Jx:List eN->World->Prop):Prop:=∀ pre x W1,J pre W1->Ax w0 v0 pre x->YieldAt Fence.wide 1 Tryz.prog l (xY x) W1 λ e W' =>
 (e=.returned (.bool true)/\J (pre++[x]) W'/\KpC C w0.heap.size W1 W')∨(e=.returned (.bool false)/\Jx (pre++[x]) W'/\KpC C w0.heap.size W1 W')
def uY (w0:World) (C:Nat->Prop) (J Jx:List eN->World->Prop) (lv:Nat) (v:JV) (pre:List eN) (W:World) (e:Ending) (W':World):Prop :=
 (e=.returned (.bool true)/\∃ ys,ys.map ee=dD lv v/\J (pre++ys) W'/\KpC C w0.heap.size W W')∨(e=.returned (.bool false)/\∃ ys,Jx ys W')
abbrev vS (yb ib:Nat):Value:=.func (.func 228) #[] #[Zp (some ⟨yb,0,none⟩),Zp (some ⟨ib,0,none⟩)]
theorem qz (l:Nat) (w0:World) (C:Nat->Prop) (NC:Nat) (v0:JV) (J Jx:List eN->World->Prop) (yb ib:Nat) (hC0:∀ k,C k->w0.heap.size<=k) (hCN:∀ k,C k->k<NC) (hyC:¬ C yb) (hiC:¬ C ib)
  (hJ:∀ s A B,Below A.heap.size A B->J s A->J s B) (hY:YN l w0 C v0 J Jx):∀ (M:Nat) (v:JV),bU v<=M->∀ (lv:Nat) (pre:List eN) (rest:List (Nat × JV)) (cs:List Value) (W:World),
  VR w0 jo cs v->ah jo w0 W->J pre W->Blk W yb 274 #[.func (.yield l) #[] #[]]->Blk W ib 274 #[vS yb ib]->dD 0 v0=pre.map ee++(dD lv v++rest)->lv+bU v<=4194304->NC<=W.heap.size ->
  Calls Tryz.prog 228 #[Zi Zq lv,.agg cs.toArray,Zp (some ⟨yb,0,none⟩),Zp (some ⟨ib,0,none⟩)] W (uY w0 C J Jx lv v pre W)
 | 0,v,h,_,_,_,_,_,_,_,_,_,_,_,_,_=>by have:=jD v;omega
 |M+1,.mk k n s kids keys,hM,lv,pre,rest,cs,W,hv,hK,hJ0,hyb,hib,hfl,hlv,hNC=>by
  have ih:=qz l w0 C NC v0 J Jx yb ib hC0 hCN hyC hiC hJ hY M;obtain ⟨A,B,ca,cb,css,rfl,h1,h2,h3,h4,h5,h6,h7⟩:=hv.out;have HIH:=aW (λ (i:Nat) (x:JV) (hx:kids[i]? = some x)=>rY h1 h6 hx);unfold bU at hM hlv;have hkl:=mF kids;have hfl2:dD 0 v0=pre.map ee++((lv,JV.mk k n s kids keys)::bX (lv+1) kids++rest):=hfl;obtain ⟨nk,hnk⟩:∃ nk,kids.length=nk:=⟨_,rfl⟩
  obtain ⟨ny,hny⟩:∃ ny,keys.length=ny:=⟨_,rfl⟩
  rw [hnk] at h2 hkl hv;rw [hny] at h3 hv;rw [hnk,hny];have hb1:=(Below.refl W.heap.size W).alloc (Nat.le_refl _) (.cells #[Zi Zq k,Zi Zq n,Zt ⟨s.toArray⟩,Zs A nk ca,Zs B ny cb] 42);obtain ⟨fn,tmps,assign,body,hy,hR⟩:=hY pre (lv,.mk k n s kids keys,#[Zi Zq k,Zi Zq n,Zt ⟨s.toArray⟩,Zs A nk ca,Zs B ny cb]) _ (hJ _ _ _ hb1 hJ0)
   ⟨hv,by rw [hfl2,List.map_append];exact ⟨bX (lv+1) kids++rest,by simp [ee]⟩⟩
  unfold xY at hy;simp only at hy;have hbk:=Blk.new W 42 #[Zi Zq k,Zi Zq n,Zt ⟨s.toArray⟩,Zs A nk ca,Zs B ny cb];have hgC:¬ C W.heap.size:=λ h=>by have:=hCN _ h;omega
  have HKB:=aW hb1;have HBK:=aW hbk;have HI:=aW ih;have HJ:=aW hJ;have HK:=aW hK;have HYB:=aW hyb;have HIB:=aW hib;have HFL:=aW hfl2;have HNK:=aW hnk;have HC0:=aW hC0;obtain ⟨a1,b1,d1⟩:=(hyb.alloc (.cells #[Zi Zq k,Zi Zq n,Zt ⟨s.toArray⟩,Zs A nk ca,Zs B ny cb] 42)).rules;clear hv hK hyb hib hfl hfl2 h1 h4 h5 h6 h7 hbk hb1 ih hJ hY hJ0 hnk hny hC0 hCN;refine (callsIn_wide (n:=2)).1 ?_;refine callsIn_of_wp Tryz.func228 rfl trivial ?_ rfl;simp only [Tryz.ntmps228,List.size_toArray,List.length_cons,List.length_nil,Nat.reduceAdd,Nat.reduceSub,Array.replicate_succ,Array.replicate_zero,List.push_toArray,List.append_toArray,List.nil_append,List.cons_append];gi_wp2;refine hR.mono ?_;rintro e W3 (⟨rfl,hJ3,hk3⟩ | ⟨rfl,hJx3,hk3⟩)
  ·have hk1:KpC C w0.heap.size W W3:=(KpC.of_below HKB.out).trans hk3;obtain ⟨c1,f1,l1⟩:=(hk3.blk HBK.out hgC).rules;have z3:=c1 3;simp at z3;have HK1:=aW hk1;have HJ3:=aW hJ3;clear hk1 hk3 hJ3 hR hy a1 b1 d1;gi_wp2;clear c1 f1 l1 z3
   gi_loopg [17] nk (λ gk s17 wr => ∃ (i:Nat) (ys:List eN),i<=nk/\gk=nk-i/\s17=Zi Zq i/\Hid (ys.map ee=(lv,.mk k n s kids keys)::bX (lv+1) (kids.take i))/\Hid (J (pre++ys) wr)/\Hid (KpC C w0.heap.size W wr))
   case atStart=>exact ⟨0,[(lv,.mk k n s kids keys,#[Zi Zq k,Zi Zq n,Zt ⟨s.toArray⟩,Zs A nk ca,Zs B ny cb])],Nat.zero_le _,rfl,by go_num,aW (by simp [ee,bX]),HJ3,HK1⟩
   case round =>
    obtain ⟨i,ys,hi,hgk,rfl,HYS,HJw,HKw⟩:=hrel;have HG:=aW hgk;clear hgk HK1 HJ3;by_cases hlt:i<nk
    ·obtain ⟨x,hx⟩:∃ x,kids[i]? = some x:=⟨_,List.getElem?_eq_getElem (by rw [HNK.out];exact hlt)⟩
     obtain ⟨b,o,k',n',s',A',na,ca',B',nb,cb',rfl,hb,hvx,hz⟩:=HIH.out i x hx;have hKF:=HKw.out.keepF HK.out HC0.out;obtain ⟨q0,q1,q2,q3,q4⟩:=hz _ hKF;have hyw:=HKw.out.blk HYB.out hyC;have hiw:=HKw.out.blk HIB.out hiC;obtain ⟨hf1,hf2⟩:=vE (lv:=lv+1) hx;obtain ⟨hn1,hn2⟩:=nX hx;have hbA:=(Below.refl wr.heap.size wr).alloc (Nat.le_refl _) (.cells #[Zi Zq k',Zi Zq n',Zt s',Zs A' na ca',Zs B' nb cb'] 42);have hcl:=HI.out x (by omega) (lv+1) (pre++ys) (bX (lv+1) (kids.drop (i+1))++rest) _ _ hvx (hKF.bel hbA) (HJ.out _ _ _ hbA HJw.out) (hyw.alloc _) (hiw.alloc _)
      (by rw [HFL.out,List.map_append,HYS.out,hf2];simp) (by omega) (by have:=HKw.out.1;simp;omega)
     rw [show ((lv+1:Nat):Int)=(lv:Int)+1 by omega] at hcl;have HCL:=aW hcl;have HF1:=aW hf1;have HKA:=aW (HKw.out.trans (KpC.of_below hbA));obtain ⟨d1,d2,d3⟩:=(hyw.alloc (.cells #[Zi Zq k',Zi Zq n',Zt s',Zs A' na ca',Zs B' nb cb'] 42)).rules;obtain ⟨e1,e2,e3⟩:=(hiw.alloc (.cells #[Zi Zq k',Zi Zq n',Zt s',Zs A' na ca',Zs B' nb cb'] 42)).rules;clear hcl hf1 hf2 hn1 hn2 hbA hz hvx hx hKF hyw hiw;gi_wp2;refine ⟨trivial,CallsIn.mono (callsIn_wide.2 HCL.out) ?_⟩;rintro e W5 (⟨rfl,zs,hzs,hJ5,hk5⟩ | ⟨rfl,zs,hJx5⟩)
     ·have HJ5:=aW hJ5;have HK5:=aW (HKA.out.trans hk5);have HZ:=aW hzs;clear hJ5 hk5 hzs;gi_wp2
      gi_roundg (nk-(i+1))
      case measure=>rw [HG.out];omega
      case rel=>exact ⟨i+1,ys++zs,hlt,rfl,by go_num,aW (by rw [List.map_append,HYS.out,HZ.out,HF1.out];simp),aW (by rw [← List.append_assoc];exact HJ5.out),HK5⟩
     ·gi_wp2;go_ret;exact .inr ⟨rfl,zs,hJx5⟩
    ·obtain rfl:i=nk:=by omega
     gi_wp2;go_ret;refine .inl ⟨rfl,ys,?_,HJw.out,HKw.out⟩;have h:=HYS.out;rw [List.take_of_length_le (by rw [HNK.out];exact Nat.le_refl _)] at h;exact h
  ·have HJX:=aW hJx3;clear hJx3 hk3 hR hy a1 b1 d1;gi_wp2;go_ret;exact .inr ⟨rfl,_,HJX.out⟩
theorem xI (k n:Int) (s:ByteArray) (A B:Option Addr) (nk ca ny cb:Nat) (w:World) :
  Calls Tryz.prog 215 #[.agg #[Zi Zq k,Zi Zq n,Zt s,Zs A nk ca,Zs B ny cb]] w λ e w'=>e=.returned (.func (.func 227) #[] #[Zp (some ⟨w.heap.size,0,none⟩)])/\w.alloc (.cells #[Zi Zq k,Zi Zq n,Zt s,Zs A nk ca,Zs B ny cb] 42)=w':=by
 have hmf:∀ (fn:Fn) (first cap:Array Value) (w:World),(Instr.makeFunc fn first cap).run Tryz.prog w=.ok (.func fn first cap) w:=λ _ _ _ _=>rfl
 go_enter Tryz.func215,Tryz.ntmps215;go_wp2;go_ret;exact ⟨rfl,rfl⟩
theorem vf (l:Nat) (w0:World) (C:Nat->Prop) (NC:Nat) (v0:JV) (J Jx:List eN->World->Prop) (hC0:∀ k,C k->w0.heap.size<=k) (hCN:∀ k,C k->k<NC)
  (hJ:∀ s A B,Below A.heap.size A B->J s A->J s B) (hY:YN l w0 C v0 J Jx) (vb:Nat) (cs:List Value) (W:World) (hv:VR w0 jo cs v0) (hK:ah jo w0 W) (hvb:Blk W vb 42 cs.toArray) (hJ0:J [] W) (hn:bU v0<=4194304) (hNC:NC<=W.heap.size) :
  CallsIn Fence.wide 2 Tryz.prog 227 #[.func (.yield l) #[] #[],Zp (some ⟨vb,0,none⟩)] W λ e W'=>(∃ v,e=.returned v)/\((∃ xs,xs.map ee=dD 0 v0/\J xs W')∨(∃ pre,True/\Jx pre W')):=by
 have hmf:∀ (fn:Fn) (first cap:Array Value) (w:World),(Instr.makeFunc fn first cap).run Tryz.prog w=.ok (.func fn first cap) w:=λ _ _ _ _=>rfl
 have hb2:Below W.heap.size W ((W.alloc (.cells #[.func (.yield l) #[] #[]] 274)).alloc (.cells #[vS W.heap.size (W.heap.size+1)] 274)):=((Below.refl _ W).alloc (Nat.le_refl _) _).alloc (by simp) _;have hib:=Blk.new (W.alloc (.cells #[.func (.yield l) #[] #[]] 274)) 274 #[vS W.heap.size (W.heap.size+1)];rw [World.size_alloc] at hib;have hcl:=qz l w0 C NC v0 J Jx W.heap.size (W.heap.size+1) hC0 hCN (λ h=>by have:=hCN _ h;omega) (λ h=>by have:=hCN _ h;omega) hJ hY _ v0 (Nat.le_refl _) 0 [] [] cs _ hv (hK.bel hb2) (hJ _ _ _ hb2 hJ0)
  ((Blk.new W 274 #[.func (.yield l) #[] #[]]).alloc _) hib (by simp) (by omega) (by simp;omega)
 rw [show ((0:Nat):Int)=0 from rfl] at hcl;obtain ⟨k,n,s,A,na,ca,B,nb,cb,rfl⟩:=hv.form;have HCL:=aW hcl;obtain ⟨c1,f1,l1⟩:=(hvb.keep hb2).rules;obtain ⟨d1,d2,d3⟩:=hvb.rules;clear hcl hib hb2 hvb hY hJ hK hv hJ0;refine callsIn_of_wp Tryz.func227 rfl trivial ?_ rfl;simp only [Tryz.ntmps227,List.size_toArray,List.length_cons,List.length_nil,Nat.reduceAdd,Nat.reduceSub,Array.replicate_succ,Array.replicate_zero,List.push_toArray,List.append_toArray,List.nil_append,List.cons_append];gi_wp2;refine ⟨trivial,CallsIn.mono (callsIn_wide.2 HCL.out) ?_⟩;rintro e W5 (⟨rfl,ys,hys,hJ5,_⟩ | ⟨rfl,ys,hJx⟩)
 ·gi_wp2;go_end0;exact ⟨⟨_,rfl⟩,.inl ⟨ys,hys,hJ5⟩⟩
 ·gi_wp2;go_end0;exact ⟨⟨_,rfl⟩,.inr ⟨ys,trivial,hJx⟩⟩
end
end Go.Proofs.YtgmnmnnoahdjnaaGreatDoor
