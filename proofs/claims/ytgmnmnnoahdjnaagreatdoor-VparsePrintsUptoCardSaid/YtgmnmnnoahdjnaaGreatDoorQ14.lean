import Derived.Test.YtgmnmnnoahdjnaaGreatDoorQ11
open Go.Value renaming int → Zi, slice → Zs, string → Zt, pointer → Zp
open Go.IntKind renaming i64 → Zq
set_option maxRecDepth 100000
set_option maxHeartbeats 16000000
set_option linter.unusedVariables false
set_option linter.unusedSimpArgs false
namespace Go.Proofs.YtgmnmnnoahdjnaaGreatDoor
section
open Go.RowKit
inductive EJ where
 | mk:Int->JV->List UInt8->List EJ->EJ
inductive SJ where
 | mk:Int->List UInt8->EJ->EJ->List SJ->List SJ->SJ
def EJ.kind:EJ->Int | .mk k _ _ _=>k
def EJ.kids:EJ->List EJ | .mk _ _ _ l=>l
def bQ:EJ:=.mk 0 dX [] []
instance:Inhabited EJ:=⟨bQ⟩
instance:Inhabited SJ:=⟨.mk 0 [] bQ bQ [] []⟩
def RR {α:Type} (R:List Value->α->Prop) (css:List (List Value)) (xs:List α):Prop:=css.length=xs.length/\∀ (i:Nat) c x,css[i]? = some c->xs[i]? = some x->R c x
section
variable {α:Type} {R R':List Value->α->Prop} {css:List (List Value)} {xs:List α} {m:Nat}
theorem RR.imp (h:RR R css xs) (hm:∀ c x,R c x->R' c x):RR R' css xs:=⟨h.1,λ i c x h1 h2=>hm c x (h.2 i c x h1 h2)⟩
theorem RR.nil:RR R [] ([]:List α):=⟨rfl,λ i c x h=>by simp at h⟩
theorem iR:∀ {css:List (List Value)},(∀ c ∈ css,c.length=m)->css.flatten.length=css.length*m
 | [],_=>by simp
 |c::r,h=>by
  rw [List.flatten_cons,List.length_append,h c List.mem_cons_self,iR (λ c hc=>h c (List.mem_cons_of_mem _ hc)),List.length_cons,Nat.add_mul];omega
theorem kz:∀ {css:List (List Value)} (_:∀ c ∈ css,c.length=m) {i:Nat} {c:List Value} (_:css[i]? = some c) {j:Nat} (_:j<m),css.flatten[i*m+j]? = c[j]?
 | [],_,i,c,h,_,_=>by simp at h
 |c'::r,h5,0,c,h,j,hj=>by
  have:c'=c:=by simpa using h
  subst this;rw [List.flatten_cons,Nat.zero_mul,Nat.zero_add,List.getElem?_append_left (by rw [h5 c' List.mem_cons_self];exact hj)]
 |c'::r,h5,i+1,c,h,j,hj=>by
  have h':r[i]? = some c:=by simpa using h
  have hl:=h5 c' List.mem_cons_self;have e:(i+1)*m=m+i*m:=by rw [Nat.add_mul];omega
  rw [List.flatten_cons,List.getElem?_append_right (by omega),← kz (λ c hc=>h5 c (List.mem_cons_of_mem _ hc)) h' hj];congr 1;omega
theorem RR.mem (h:RR R css xs) {c:List Value} (hc:c ∈ css):∃ x,x ∈ xs/\R c x:=by
 obtain ⟨i,hi,rfl⟩:=List.getElem_of_mem hc;have hx:i<xs.length:=by rw [← h.1];exact hi
 exact ⟨xs[i],List.getElem_mem hx,h.2 i _ _ (List.getElem?_eq_getElem hi) (List.getElem?_eq_getElem hx)⟩
theorem RR.lens (h:RR R css xs) (hR:∀ c x,R c x->c.length=m):∀ c ∈ css,c.length=m:=λ c hc=>by
 obtain ⟨x,_,hx⟩:=h.mem hc;exact hR c x hx
theorem RR.snoc {c:List Value} {x:α} (h:RR R css xs) (hx:R c x):RR R (css++[c]) (xs++[x]):=by
 refine ⟨by simp [h.1],λ i c' x' h1 h2=>?_⟩;rcases Nat.lt_or_ge i css.length with hi | hi
 ·rw [List.getElem?_append_left hi] at h1;rw [List.getElem?_append_left (by rw [← h.1];exact hi)] at h2;exact h.2 i c' x' h1 h2
 ·rw [List.getElem?_append_right hi] at h1;rw [List.getElem?_append_right (by rw [← h.1];exact hi)] at h2;have:i-css.length=0:=by
   rcases Nat.eq_zero_or_pos (i-css.length) with h0 | h0
   ·exact h0
   ·rw [List.getElem?_eq_none (by simp;omega)] at h1;cases h1
  rw [this] at h1;rw [← h.1,this] at h2;obtain rfl:c=c':=by simpa using h1
  obtain rfl:x=x':=by simpa using h2
  exact hx
theorem RR.get_ {i:Nat} {x:α} (h:RR R css xs) (hx:xs[i]? = some x):∃ c,css[i]? = some c/\R c x:=by
 have hi:i<css.length:=by rw [h.1];exact (List.getElem?_eq_some_iff.1 hx).1
 exact ⟨_,List.getElem?_eq_getElem hi,h.2 i _ x (List.getElem?_eq_getElem hi) hx⟩
theorem RR.take (h:RR R css xs) (n:Nat):RR R (css.take n) (xs.take n):=by
 refine ⟨by simp [h.1],λ i c x h1 h2=>?_⟩;rw [List.getElem?_take] at h1 h2;split at h1
 ·rename_i hi;rw [if_pos hi] at h2;exact h.2 i c x h1 h2
 ·cases h1
theorem RR.append {css':List (List Value)} {xs':List α} (h:RR R css xs) (h':RR R css' xs'):RR R (css++css') (xs++xs'):=by
 refine ⟨by simp [h.1,h'.1],λ i c x h1 h2=>?_⟩;rcases Nat.lt_or_ge i css.length with hi | hi
 ·rw [List.getElem?_append_left hi] at h1;rw [List.getElem?_append_left (by rw [← h.1];exact hi)] at h2;exact h.2 i c x h1 h2
 ·rw [List.getElem?_append_right hi] at h1;rw [List.getElem?_append_right (by rw [← h.1];exact hi),← h.1] at h2;exact h'.2 _ c x h1 h2
theorem RR.cell {W:World} {F:Nat->Prop} {A:Option Addr} (h:RR R css xs) (hR:∀ c x,R c x->c.length=m) (hm:0<m) (hr:RdF W F A css.flatten) {i:Nat} {x:α} (hx:xs[i]? = some x) :
  ∃ (b o:Nat) (c:List Value),A=some ⟨b,o,none⟩/\b<W.heap.size/\F b/\css[i]? = some c/\R c x/\∀ (j:Nat) u,j<m->c[j]? = some u->W.cell? ⟨b,o+(i*m+j),none⟩=some u:=by
 obtain ⟨c,hc,hv⟩:=h.get_ hx;have hl:=h.lens hR;have hi:i<css.length:=(List.getElem?_eq_some_iff.1 hc).1;have hfl:=iR hl;have him:i*m+m<=css.length*m:=by
  have:=Nat.mul_le_mul_right m hi;rw [Nat.succ_mul] at this;exact this
 have hne:css.flatten≠[]:=by
  intro e;rw [e] at hfl;simp only [List.length_nil] at hfl;omega
 obtain ⟨b,o,rfl,hb,hf,hx'⟩:=hr hne;refine ⟨b,o,c,rfl,hb,hf,hc,hv,λ j u hj hu=>?_⟩;have hg:=kz hl hc hj;rw [hu] at hg;obtain ⟨h1,h2⟩:=List.getElem?_eq_some_iff.1 hg;rw [hx' _ h1,h2]
end
theorem VRs.rr {W:World} {F:Nat->Prop} {css:List (List Value)} {xs:List JV} (h:VRs W F css xs):RR (VR W F) css xs:=h
inductive ER (W:World) (F:Nat->Prop):List Value->EJ->Prop where
 | mk {k:Int} {v:JV} {s:List UInt8} {kids:List EJ} {A:Option Addr} {ca:Nat} {a b c d e:Value} {css:List (List Value)} :
   VR W F [a,b,c,d,e] v->css.length=kids.length->kids.length<=ca->(A=none->ca=0)->RdF W F A css.flatten ->
   (∀ (i:Nat) c x,css[i]? = some c->kids[i]? = some x->ER W F c x) ->
   ER W F [Zi Zq k,a,b,c,d,e,Zt ⟨s.toArray⟩,Zs A kids.length ca] (.mk k v s kids)
abbrev ERs (W:World) (F:Nat->Prop):=RR (ER W F)
section
variable {W W':World} {F F':Nat->Prop} {cs:List Value} {x:EJ}
theorem ER.keep (h:ER W F cs x) (hk:ah F W W'):ER W' F cs x:=by
 induction h with
 | mk h0 h1 h2 h3 h4 _ ih=>exact .mk (h0.keep hk) h1 h2 h3 (h4.keep hk) ih
theorem ER.mono (h:ER W F cs x) (hm:∀ b,b<W.heap.size->F b->F' b):ER W F' cs x:=by
 induction h with
 | mk h0 h1 h2 h3 h4 _ ih=>exact .mk (h0.mono hm) h1 h2 h3 (h4.mono hm) ih
theorem ER.bel (h:ER W F cs x) (hb:Below W.heap.size W W'):ER W' F cs x:=h.keep (ah.of_below hb)
theorem ER.len (h:ER W F cs x):cs.length=8:=by cases h;rfl
theorem ER.one (h:ER W F cs x):∀ u ∈ cs,u.oneCell'=true:=by
 cases h with
 |mk h0 h1 h2 h3 h4 h5 =>
  intro u hu;have h9:=h0.one;simp only [List.mem_cons,List.not_mem_nil,or_false] at hu h9;rcases hu with rfl | rfl | rfl | rfl | rfl | rfl | rfl | rfl
  ·rfl
  ·exact h9 _ (.inl rfl)
  ·exact h9 _ (.inr (.inl rfl))
  ·exact h9 _ (.inr (.inr (.inl rfl)))
  ·exact h9 _ (.inr (.inr (.inr (.inl rfl))))
  ·exact h9 _ (.inr (.inr (.inr (.inr rfl))))
  ·rfl
  ·rfl
theorem ER.out {k:Int} {v:JV} {s:List UInt8} {kids:List EJ} (h:ER W F cs (.mk k v s kids)) :
  ∃ (k1 n1:Int) (s1:ByteArray) (A1:Option Addr) (na1 ca1:Nat) (B1:Option Addr) (nb1 cb1:Nat) (A:Option Addr) (ca:Nat) (css:List (List Value)),
   cs=[Zi Zq k,Zi Zq k1,Zi Zq n1,Zt s1,Zs A1 na1 ca1,Zs B1 nb1 cb1,Zt ⟨s.toArray⟩,Zs A kids.length ca] /\
   VR W F [Zi Zq k1,Zi Zq n1,Zt s1,Zs A1 na1 ca1,Zs B1 nb1 cb1] v/\ERs W F css kids/\kids.length<=ca/\(A=none->ca=0)/\RdF W F A css.flatten:=by
 cases h with
 |mk h0 h1 h2 h3 h4 h5 =>
  obtain ⟨k1,n1,s1,A1,na1,ca1,B1,nb1,cb1,e⟩:=h0.form;injection e with e1 e;injection e with e2 e;injection e with e3 e;injection e with e4 e;injection e with e5 e
  subst e1 e2 e3 e4 e5;exact ⟨k1,n1,s1,A1,na1,ca1,B1,nb1,cb1,_,_,_,rfl,h0,⟨h1,h5⟩,h2,h3,h4⟩
theorem ER.into {k:Int} {v:JV} {s:List UInt8} {kids:List EJ} {A:Option Addr} {ca:Nat} {a b c d e:Value} {css:List (List Value)} (h0:VR W F [a,b,c,d,e] v) (h1:ERs W F css kids) {n:Nat} (hn:n=kids.length) (h2:kids.length<=ca) (h3:A=none->ca=0) (h4:RdF W F A css.flatten) :
  ER W F [Zi Zq k,a,b,c,d,e,Zt ⟨s.toArray⟩,Zs A n ca] (.mk k v s kids):=by
 subst hn;exact .mk h0 h1.1 h2 h3 h4 h1.2
theorem ER.leaf (k:Int) (s:List UInt8) {v:JV} {a b c d e:Value} (h0:VR W F [a,b,c,d,e] v):ER W F [Zi Zq k,a,b,c,d,e,Zt ⟨s.toArray⟩,Zs none 0 0] (.mk k v s []) :=
 ER.into (kids:=[]) (css:=[]) h0 RR.nil rfl (Nat.le_refl _) (λ _=>rfl) RdF.nil
theorem ER.zero:ER W F [Zi Zq 0,Zi Zq 0,Zi Zq 0,Zt ⟨#[]⟩,Zs none 0 0,Zs none 0 0,Zt ⟨#[]⟩,Zs none 0 0] bQ:=ER.leaf 0 [] VR.zero
theorem ER.form (h:ER W F cs x):∃ (k k1 n1:Int) (s1:ByteArray) (A1:Option Addr) (na1 ca1:Nat) (B1:Option Addr) (nb1 cb1:Nat) (s:ByteArray) (A:Option Addr) (n ca:Nat),
   cs=[Zi Zq k,Zi Zq k1,Zi Zq n1,Zt s1,Zs A1 na1 ca1,Zs B1 nb1 cb1,Zt s,Zs A n ca]:=by
 obtain ⟨k,v,s,kids⟩:=x;obtain ⟨k1,n1,s1,A1,na1,ca1,B1,nb1,cb1,A,ca,css,e,_⟩:=h.out;exact ⟨k,k1,n1,s1,A1,na1,ca1,B1,nb1,cb1,_,A,_,ca,e⟩
end
inductive SR (W:World) (F:Nat->Prop):List Value->SJ->Prop where
 | mk {k:Int} {s:List UInt8} {a b:EJ} {body els:List SJ} {A B:Option Addr} {ca cb:Nat} {acs bcs:List Value} {css dss:List (List Value)} :
   ER W F acs a->ER W F bcs b->css.length=body.length->body.length<=ca->(A=none->ca=0)->RdF W F A css.flatten ->
   dss.length=els.length->els.length<=cb->(B=none->cb=0)->RdF W F B dss.flatten ->
   (∀ (i:Nat) c x,css[i]? = some c->body[i]? = some x->SR W F c x)->(∀ (i:Nat) c x,dss[i]? = some c->els[i]? = some x->SR W F c x) ->
   SR W F ([Zi Zq k,Zt ⟨s.toArray⟩]++acs++bcs++[Zs A body.length ca,Zs B els.length cb]) (.mk k s a b body els)
abbrev SRs (W:World) (F:Nat->Prop):=RR (SR W F)
section
variable {W W':World} {F F':Nat->Prop} {cs:List Value} {x:SJ}
theorem SR.keep (h:SR W F cs x) (hk:ah F W W'):SR W' F cs x:=by
 induction h with
 | mk ha hb h1 h2 h3 h4 g1 g2 g3 g4 _ _ ih1 ih2=>exact .mk (ha.keep hk) (hb.keep hk) h1 h2 h3 (h4.keep hk) g1 g2 g3 (g4.keep hk) ih1 ih2
theorem SR.mono (h:SR W F cs x) (hm:∀ b,b<W.heap.size->F b->F' b):SR W F' cs x:=by
 induction h with
 | mk ha hb h1 h2 h3 h4 g1 g2 g3 g4 _ _ ih1 ih2=>exact .mk (ha.mono hm) (hb.mono hm) h1 h2 h3 (h4.mono hm) g1 g2 g3 (g4.mono hm) ih1 ih2
theorem SR.bel (h:SR W F cs x) (hb:Below W.heap.size W W'):SR W' F cs x:=h.keep (ah.of_below hb)
theorem SR.len (h:SR W F cs x):cs.length=20:=by
 cases h with
 | mk ha hb=>simp [ha.len,hb.len]
theorem SR.one (h:SR W F cs x):∀ u ∈ cs,u.oneCell'=true:=by
 cases h with
 |mk ha hb =>
  intro u hu;simp only [List.mem_append,List.mem_cons,List.not_mem_nil,or_false] at hu;rcases hu with (((rfl | rfl) | hu) | hu) | (rfl | rfl)
  ·rfl
  ·rfl
  ·exact ha.one u hu
  ·exact hb.one u hu
  ·rfl
  ·rfl
theorem SR.out {k:Int} {s:List UInt8} {a b:EJ} {body els:List SJ} (h:SR W F cs (.mk k s a b body els)) :
  ∃ (acs bcs:List Value) (A B:Option Addr) (ca cb:Nat) (css dss:List (List Value)),
   cs=[Zi Zq k,Zt ⟨s.toArray⟩]++acs++bcs++[Zs A body.length ca,Zs B els.length cb]/\ER W F acs a/\ER W F bcs b /\
   (SRs W F css body/\body.length<=ca/\(A=none->ca=0)/\RdF W F A css.flatten)/\SRs W F dss els/\els.length<=cb/\(B=none->cb=0)/\RdF W F B dss.flatten:=by
 cases h with
 | mk ha hb h1 h2 h3 h4 g1 g2 g3 g4 h5 g5=>exact ⟨_,_,_,_,_,_,_,_,rfl,ha,hb,⟨⟨h1,h5⟩,h2,h3,h4⟩,⟨g1,g5⟩,g2,g3,g4⟩
theorem SR.into {k:Int} {s:List UInt8} {a b:EJ} {body els:List SJ} {A B:Option Addr} {ca cb:Nat} {acs bcs:List Value} {css dss:List (List Value)} (ha:ER W F acs a) (hb:ER W F bcs b)
  (h1:SRs W F css body) {n:Nat} (hn:n=body.length) (h2:body.length<=ca) (h3:A=none->ca=0) (h4:RdF W F A css.flatten) (g1:SRs W F dss els) {m:Nat} (hm:m=els.length) (g2:els.length<=cb) (g3:B=none->cb=0) (g4:RdF W F B dss.flatten) :
  SR W F ([Zi Zq k,Zt ⟨s.toArray⟩]++acs++bcs++[Zs A n ca,Zs B m cb]) (.mk k s a b body els):=by
 subst hn hm;exact .mk ha hb h1.1 h2 h3 h4 g1.1 g2 g3 g4 h1.2 g1.2
end
def BnR (W:World) (F:Nat->Prop) (cs:List Value) (x:List UInt8 × JV):Prop:=∃ vcs,cs=Zt ⟨x.1.toArray⟩::vcs/\VR W F vcs x.2
abbrev yL (W:World) (F:Nat->Prop):=RR (BnR W F)
def EmR (W:World) (F:Nat->Prop) (cs:List Value) (x:JV × JV):Prop:=∃ kcs vcs,cs=kcs++vcs/\VR W F kcs x.1/\VR W F vcs x.2
abbrev yO (W:World) (F:Nat->Prop):=RR (EmR W F)
section
variable {W W':World} {F F':Nat->Prop} {cs:List Value}
theorem BnR.keep {x:List UInt8 × JV} (h:BnR W F cs x) (hk:ah F W W'):BnR W' F cs x:=by obtain ⟨v,e,h⟩:=h;exact ⟨v,e,h.keep hk⟩
theorem BnR.mono {x:List UInt8 × JV} (h:BnR W F cs x) (hm:∀ b,b<W.heap.size->F b->F' b):BnR W F' cs x:=by obtain ⟨v,e,h⟩:=h;exact ⟨v,e,h.mono hm⟩
theorem BnR.len {x:List UInt8 × JV} (h:BnR W F cs x):cs.length=6:=by obtain ⟨v,rfl,h⟩:=h;simp [h.len]
theorem BnR.one {x:List UInt8 × JV} (h:BnR W F cs x):∀ u ∈ cs,u.oneCell'=true:=by
 obtain ⟨v,rfl,h⟩:=h;intro u hu;rcases List.mem_cons.1 hu with rfl | hu
 ·rfl
 ·exact h.one u hu
theorem EmR.keep {x:JV × JV} (h:EmR W F cs x) (hk:ah F W W'):EmR W' F cs x:=by obtain ⟨k,v,e,h,h'⟩:=h;exact ⟨k,v,e,h.keep hk,h'.keep hk⟩
theorem EmR.mono {x:JV × JV} (h:EmR W F cs x) (hm:∀ b,b<W.heap.size->F b->F' b):EmR W F' cs x:=by obtain ⟨k,v,e,h,h'⟩:=h;exact ⟨k,v,e,h.mono hm,h'.mono hm⟩
theorem EmR.len {x:JV × JV} (h:EmR W F cs x):cs.length=10:=by obtain ⟨k,v,rfl,h,h'⟩:=h;simp [h.len,h'.len]
theorem EmR.one {x:JV × JV} (h:EmR W F cs x):∀ u ∈ cs,u.oneCell'=true:=by
 obtain ⟨k,v,rfl,h,h'⟩:=h;intro u hu;rcases List.mem_append.1 hu with hu | hu
 ·exact h.one u hu
 ·exact h'.one u hu
end
mutual
/-- an expression all parts of which are of a size -/
def kH (N:Nat):EJ->Prop | .mk k v s kids=>1<=N/\iw k/\inJ v/\dj v<=N/\s.length<=N/\kids.length<=N/\jl N kids
def jl (N:Nat):List EJ->Prop | []=>True | x::r=>kH N x/\jl N r
end
theorem ov {N:Nat}:∀ {xs:List EJ},jl N xs ↔ ∀ x ∈ xs,kH N x
 | []=>by simp [jl]
 | x::r=>by simp [jl,ov (xs:=r)]
mutual
theorem eu {N M:Nat} (h:N<=M):∀ (x:EJ),kH N x->kH M x
 | .mk k v s kids,hx=>by
  unfold kH at hx ⊢;obtain ⟨h0,h1,h2,h3,h4,h5,h6⟩:=hx;exact ⟨by omega,h1,h2,by omega,by omega,by omega,mH h kids h6⟩
theorem mH {N M:Nat} (h:N<=M):∀ (xs:List EJ),jl N xs->jl M xs
 | [],_=>trivial
 | x::r,hx=>by unfold jl at hx ⊢;exact ⟨eu h x hx.1,mH h r hx.2⟩
end
mutual
/-- a statement all parts of which are of a size -/
def iy (N:Nat):SJ->Prop | .mk k s a b body els=>1<=N/\iw k/\s.length<=N/\kH N a/\kH N b/\body.length<=N/\els.length<=N/\iz N body/\iz N els
def iz (N:Nat):List SJ->Prop | []=>True | x::r=>iy N x/\iz N r
end
theorem iT {N:Nat}:∀ {xs:List SJ},iz N xs ↔ ∀ x ∈ xs,iy N x
 | []=>by simp [iz]
 | x::r=>by simp [iz,iT (xs:=r)]
mutual
theorem fo {N M:Nat} (h:N<=M):∀ (x:SJ),iy N x->iy M x
 | .mk k s a b body els,hx=>by
  unfold iy at hx ⊢;obtain ⟨h0,h1,h2,h3,h4,h5,h6,h7,h8⟩:=hx;exact ⟨by omega,h1,by omega,eu h a h3,eu h b h4,by omega,by omega,jA h body h7,jA h els h8⟩
theorem jA {N M:Nat} (h:N<=M):∀ (xs:List SJ),iz N xs->iz M xs
 | [],_=>trivial
 | x::r,hx=>by unfold iz at hx ⊢;exact ⟨fo h x hx.1,jA h r hx.2⟩
end
end
end Go.Proofs.YtgmnmnnoahdjnaaGreatDoor
namespace Go.Proofs.YtgmnmnnoahdjnaaGreatDoor
open Go.RowKit
end Go.Proofs.YtgmnmnnoahdjnaaGreatDoor
namespace Go.Proofs.YtgmnmnnoahdjnaaGreatDoor
open Go.RowKit
def mK:Nat->Nat->List UInt8
 | 0,_=>[]
 | f+1,n=>if n<10 then [UInt8.ofNat (48+n)] else mK f (n / 10)++[UInt8.ofNat (48+n % 10)]
def fe (n:Nat):List UInt8:=mK (n+1) n
theorem ox:∀ (f g n:Nat),n<f->n<g->mK f n=mK g n
 | 0,_,_,h,_=>by omega
 | _+1,0,_,_,h=>by omega
 |f+1,g+1,n,h,h'=>by
  unfold mK;split
  ·rfl
  ·rw [ox f g (n / 10) (by omega) (by omega)]
theorem ev {n:Nat} (h:n<10):fe n=[UInt8.ofNat (48+n)]:=by unfold fe mK;rw [if_pos h]
theorem iX {n:Nat} (h:10<=n):fe n=fe (n / 10)++[UInt8.ofNat (48+n % 10)]:=by
 unfold fe;rw [mK,if_neg (by omega),ox n (n / 10+1) (n / 10) (by omega) (by omega)]
def cQ (n:Int):List UInt8:=if n<0 then 45::fe n.natAbs else fe n.natAbs
def ms (c:Nat):Option Nat :=
 if c=34 then some 34 else if c=92 then some 92 else if c=8 then some 98 else if c=12 then some 102 else if c=10 then some 110 else if c=13 then some 114 else if c=9 then some 116 else none
def mx (n:Nat):Nat:=if n<10 then 48+n else 87+n
def aE (c:Nat):List UInt8 :=
 match ms c with
 | some s=>[92,UInt8.ofNat s]
 | none=>if c<32 then [92,117,48,48,UInt8.ofNat (48+c / 16),UInt8.ofNat (mx (c % 16))] else af c
def mc:Nat->List UInt8->List Nat
 | _,[]=>[]
 | 0,_::_=>[]
 | f+1,c::r=>if (ar (c::r)).2=0 then [] else (ar (c::r)).1::mc f ((c::r).drop (ar (c::r)).2)
def eb (l:List UInt8):List Nat:=mc l.length l
def jB (l:List UInt8):List UInt8:=34::(eb l).flatMap aE++[34]
theorem nZ:∀ (f g:Nat) (l:List UInt8),l.length<=f->l.length<=g->mc f l=mc g l
 | f,g,[],_,_=>by cases f<;>cases g<;>rfl
 | 0,_,_::_,h,_=>by simp at h
 | _+1,0,_::_,_,h=>by simp at h
 |f+1,g+1,c::r,h,h'=>by
  unfold mc;split
  ·rfl
  ·rename_i hn
   rw [nZ f g _ ?_ ?_] <;> · rw [List.length_drop,List.length_cons] at *;omega
theorem tR:eb []=[]:=rfl
theorem rF {l:List UInt8} (h:l≠[]):eb l=if (ar l).2=0 then [] else (ar l).1::eb (l.drop (ar l).2):=by
 cases l with
 | nil=>exact absurd rfl h
 |cons c r =>
  show mc (r.length+1) (c::r)=_
  unfold mc;split
  ·rfl
  ·rename_i hn
   rw [eb,nZ _ _ _ ?_ (Nat.le_refl _)];rw [List.length_drop,List.length_cons];omega
theorem iO {l:List UInt8} {n:Nat} (h:bN l n=true):fZ (bu l n:Int)=true/\l.take n=af (bu l n):=by
 have h1:=(eH _ _).1 h;exact ⟨(fv _).2 h1.2.1,h1.2.2.symm⟩
theorem pj {l:List UInt8} (h:(ar l).2≠0):fZ ((ar l).1:Int)=true/\l.take (ar l).2=af (ar l).1:=by
 by_cases h1:bN l 1=true
 ·rw [jR h1];exact iO h1
 ·have f1:bN l 1=false:=by simpa using h1
  by_cases h2:bN l 2=true
  ·rw [lK f1 h2];exact iO h2
  ·have f2:bN l 2=false:=by simpa using h2
   by_cases h3:bN l 3=true
   ·rw [lL f1 f2 h3];exact iO h3
   ·have f3:bN l 3=false:=by simpa using h3
    by_cases h4:bN l 4=true
    ·rw [lM f1 f2 f3 h4];exact iO h4
    ·rw [dP f1 f2 f3 (by simpa using h4)] at h;exact absurd rfl h
theorem rj:∀ (f:Nat) (l:List UInt8),l.length<=f->cc l=true->(∀ c ∈ eb l,fZ (c:Int)=true)/\l=(eb l).flatMap af
 | _,[],_,_=>⟨by simp [tR],rfl⟩
 | 0,_::_,h,_=>by simp at h
 |f+1,c::r,h,ht=>by
  have hne:c::r≠[]:=by simp
  rw [gU hne] at ht;by_cases h0:(ar (c::r)).2=0
  ·rw [if_pos h0] at ht;cases ht
  ·rw [if_neg h0] at ht;obtain ⟨h1,h2⟩:=rj f _ (by rw [List.length_drop,List.length_cons];rw [List.length_cons] at h;omega) ht;obtain ⟨k1,k2⟩:=pj h0;rw [rF hne,if_neg h0];refine ⟨λ x hx=>?_,?_⟩
   ·rcases List.mem_cons.1 hx with rfl | hx
    ·exact k1
    ·exact h1 x hx
   ·rw [List.flatMap_cons,← k2,← h2,List.take_append_drop]
theorem lz {l:List UInt8} (h:cc l=true):(∀ c ∈ eb l,fZ (c:Int)=true)/\l=(eb l).flatMap af:=rj _ l (Nat.le_refl _) h
end Go.Proofs.YtgmnmnnoahdjnaaGreatDoor
namespace Go.Proofs.YtgmnmnnoahdjnaaGreatDoor
open Go.RowKit
theorem fW {s:ByteArray} {p k:Nat} {b:UInt8} {u:List UInt8} (h:s.data.toList.drop p=u) (hb:u[k]? = some b):s.get! (p+k)=b/\p+k<s.size:=by
 have h1:s.data.toList[p+k]? = some b:=by rw [← hb,← h,List.getElem?_drop]
 obtain ⟨hlt,he⟩:=List.getElem?_eq_some_iff.1 h1;have hs:p+k<s.size:=by rw [Array.length_toList] at hlt;exact hlt
 refine ⟨?_,hs⟩;show s.get! (p+k)=b
 have:s.get! (p+k)=s[p+k]:=by
  simp [ByteArray.get!,getElem!_pos,hs];rfl
 rw [this,← he];rfl
theorem tS {s:ByteArray} {p c:Nat} {r:List UInt8} (hc:fZ (c:Int)=true) (h:s.data.toList.drop p=af c++r):Utf8.decode s p=(c,(af c).length):=by
 have hle:=(fv c).1 hc;unfold af at h ⊢;by_cases h1:c<128
 ·rw [if_pos h1] at h ⊢;obtain ⟨g0,s0⟩:=fW (k:=0) h (by rfl);have e0:=oN8 c (by omega);unfold Utf8.decode;simp only [g0,e0];rw [if_pos h1];rfl
 rw [if_neg h1] at h ⊢;by_cases h2:c<2048
 ·rw [if_pos h2] at h ⊢;obtain ⟨g0,s0⟩:=fW (k:=0) h (by rfl);obtain ⟨g1,s1⟩:=fW (k:=1) h (by rfl);have e0:=oN8 (192+c / 64) (by omega);have e1:=oN8 (128+c % 64) (by omega);unfold Utf8.decode;simp only [g0,g1,e0,e1];rw [if_neg (by omega),if_pos (by simp [s1];omega),if_pos (by omega)];simp;omega
 rw [if_neg h2] at h ⊢;by_cases h3:c<65536
 ·rw [if_pos h3] at h ⊢;obtain ⟨g0,s0⟩:=fW (k:=0) h (by rfl);obtain ⟨g1,s1⟩:=fW (k:=1) h (by rfl);obtain ⟨g2,s2⟩:=fW (k:=2) h (by rfl);have e0:=oN8 (224+c / 4096) (by omega);have e1:=oN8 (128+c / 64 % 64) (by omega);have e2:=oN8 (128+c % 64) (by omega);have hn:(224+c / 4096) % 16*4096+(128+c / 64 % 64) % 64*64+(128+c % 64) % 64=c:=by omega
  unfold Utf8.decode;simp only [g0,g1,g2,e0,e1,e2];rw [if_neg (by omega),if_neg (by simp;omega),if_pos (by simp [s1,s2];omega),hn,if_pos (by simp [Utf8.valid];omega)];simp
 ·rw [if_neg h3] at h ⊢;obtain ⟨g0,s0⟩:=fW (k:=0) h (by rfl);obtain ⟨g1,s1⟩:=fW (k:=1) h (by rfl);obtain ⟨g2,s2⟩:=fW (k:=2) h (by rfl);obtain ⟨g3,s3⟩:=fW (k:=3) h (by rfl);have e0:=oN8 (240+c / 262144) (by omega);have e1:=oN8 (128+c / 4096 % 64) (by omega);have e2:=oN8 (128+c / 64 % 64) (by omega);have e3:=oN8 (128+c % 64) (by omega);have hn:(240+c / 262144) % 8*262144+(128+c / 4096 % 64) % 64*4096+(128+c / 64 % 64) % 64*64+(128+c % 64) % 64=c:=by omega
  unfold Utf8.decode;simp only [g0,g1,g2,g3,e0,e1,e2,e3];rw [if_neg (by omega),if_neg (by simp;omega),if_neg (by simp;omega),if_pos (by simp [s1,s2,s3];omega),hn,if_pos (by simp [Utf8.valid];omega)];simp
theorem tT {c:Nat} (hc:fZ (c:Int)=true):Utf8.encode (c:Int)=⟨(af c).toArray⟩:=by
 have hle:=(fv c).1 hc;have hv:Utf8.valid (c:Int)=true:=by simp [Utf8.valid];omega
 unfold Utf8.encode af;simp only [hv,if_true,Int.toNat_natCast];by_cases h1:c<128
 ·rw [if_pos h1,if_pos h1]
 rw [if_neg h1,if_neg h1];by_cases h2:c<2048
 ·rw [if_pos h2,if_pos h2]
 rw [if_neg h2,if_neg h2];by_cases h3:c<65536
 ·rw [if_pos h3,if_pos h3]
 ·rw [if_neg h3,if_neg h3]
end Go.Proofs.YtgmnmnnoahdjnaaGreatDoor
namespace Go.Proofs.YtgmnmnnoahdjnaaGreatDoor
open Go.RowKit
variable {l:List UInt8}
theorem rK {c s:Nat} (h:ms c=some s):(s=34∨s=92∨s=98∨s=102∨s=110∨s=114∨s=116)/\aG s=some c/\c<128:=by
 unfold ms at h
 repeat' split at h
 all_goals first
  | (simp only [Option.some.injEq] at h;subst h;subst_vars;exact ⟨by decide,by decide,by decide⟩)
  | cases h
theorem qG:∀ (f n:Nat),∀ c ∈ mK f n,bc c=true
 | 0,_,c,h=>by cases h
 |f+1,n,c,h=>by
  unfold mK at h;have key:∀ k,k<10->bc (UInt8.ofNat (48+k))=true:=by decide
  split at h
  ·rename_i h1
   rw [List.mem_singleton] at h;subst h;exact key n h1
  ·rcases List.mem_append.1 h with h | h
   ·exact qG f _ c h
   ·rw [List.mem_singleton] at h;subst h;exact key _ (by omega)
theorem vN (n:Nat):∀ c ∈ fe n,bc c=true:=qG _ _
theorem xF:∀ (f n:Nat),n<f->mK f n≠[]
 | 0,_,h=>by omega
 | f+1,n,h=>by unfold mK;split<;>simp
theorem iW (n:Nat):fe n≠[]:=xF _ _ (by omega)
def AX (r:List UInt8):Prop:=∀ c,r.head? = some c->bc c=false/\c≠46/\c≠101/\c≠69
end Go.Proofs.YtgmnmnnoahdjnaaGreatDoor
namespace Go.Proofs.YtgmnmnnoahdjnaaGreatDoor
section
open Go.RowKit
def FN (F:Nat->Prop) (w:World) (b:Nat):Prop:=F b∨w.heap.size<=b
theorem Blk.farC {g b:Nat} {t:TypeId} {cs:Array Value} (hb:g≠b):∀ (l:List Value) (o:Nat) {w:World},Blk w g t cs->Blk (w.setCells b o l) g t cs
 | [],_,_,h=>h
 | v::r,o,w,h=>Blk.farC hb r (o+1) (h.far hb v)
theorem im {B:Nat} {a:World} {b:Nat} (hb:B<=b):∀ (l:List Value) (o:Nat) {w:World},Below B a w->Below B a (w.setCells b o l)
 | [],_,_,h=>h
 | v::r,o,w,h=>im hb r (o+1) (h.setCell (p:=⟨b,o,none⟩) hb v)
theorem ah.setC {F:Nat->Prop} {a:World} {b:Nat} (hb:∀ k,F k->k≠b):∀ (l:List Value) (o:Nat) {w:World},ah F a w->ah F a (w.setCells b o l)
 | [],_,_,h=>h
 | v::r,o,w,h=>ah.setC hb r (o+1) (h.set hb o v)
theorem Blk.there {w:World} {g:Nat} {t:TypeId} {cs:Array Value} (h:Blk w g t cs):World.there w g 0 cs.size :=
 λ j hj=>⟨by rw [Nat.zero_add,h.cell];simp [hj],h.frozen _⟩
def FO (G:Nat->Prop) (row:Value) (b:Nat):Prop:=G b/\some b≠row.ownBlock
theorem aH.grown {L:List (Nat × TypeId × Array Value)} {w0 W W':World} {r:Option Nat} (h:aH L w0 W) (hg:W.grownBy W' r) (hr:∀ k,r=some k->w0.heap.size<=k) (hL:∀ x ∈ L,some x.1≠r):aH L w0 W' :=
 ⟨h.1.grown hg h.1.size hr,λ x hx=>(h.2 x hx).grown hg (hL x hx)⟩
theorem cj {w:World} {base:Nat} {e:TypeId} {size n:Nat} {v:Value} {xs:List Value} (h:w.ownsRow base e size v n xs):∃ A cap,v=Zs A n cap/\n<=cap/\(A=none->cap=0)/\RdF w (λ b=>base<=b) A xs:=by
 obtain ⟨A,cap,e1,h1,h2⟩:=Rd.of_own h;refine ⟨A,cap,e1,h1,?_,λ hne=>?_⟩;rotate_left
 ·obtain ⟨b,o,e2,hb,hc⟩:=h2 hne;exact ⟨b,o,e2,hb,(h.lt b (by rw [e1,e2];rfl)).1,hc⟩
 rintro rfl;rcases h.2 with ⟨e2,_⟩ | ⟨g,cap',cur,e2,_⟩
 ·rw [e1] at e2;injection e2
 ·rw [e1] at e2;injection e2 with e2;cases e2
theorem oe {w w2:World} {G:Nat->Prop} {row row2:Value} {css:List (List Value)} {kids:List EJ} (h:ERs w (FO G row) css kids) (hg:w.grownBy w2 row.ownBlock) (ho:row2.ownBlock=row.ownBlock∨row2.ownBlock=some w.heap.size) :
  ERs w2 (FO G row2) css kids:=by
 refine RR.imp h λ c x hc=>?_
 have h1:ER w (λ b=>FO G row b/\b<w.heap.size) c x:=hc.mono λ b hb hF=>⟨hF,hb⟩
 have h2:ER w2 (λ b=>FO G row b/\b<w.heap.size) c x:=h1.keep (ah.of_grown hg λ b hb=>hb.1.2);refine h2.mono λ b _ hF=>⟨hF.1.1,λ e=>?_⟩
 rcases ho with ho | ho
 ·exact hF.1.2 (by rw [e,ho])
 ·rw [ho] at e;have:b=w.heap.size:=by injection e
  omega
theorem jc {w w2:World} {G:Nat->Prop} {row row2:Value} {css:List (List Value)} {kids:List SJ} (h:SRs w (FO G row) css kids) (hg:w.grownBy w2 row.ownBlock) (ho:row2.ownBlock=row.ownBlock∨row2.ownBlock=some w.heap.size) :
  SRs w2 (FO G row2) css kids:=by
 refine RR.imp h λ c x hc=>?_
 have h1:SR w (λ b=>FO G row b/\b<w.heap.size) c x:=hc.mono λ b hb hF=>⟨hF,hb⟩
 have h2:SR w2 (λ b=>FO G row b/\b<w.heap.size) c x:=h1.keep (ah.of_grown hg λ b hb=>hb.1.2);refine h2.mono λ b _ hF=>⟨hF.1.1,λ e=>?_⟩
 rcases ho with ho | ho
 ·exact hF.1.2 (by rw [e,ho])
 ·rw [ho] at e;have:b=w.heap.size:=by injection e
  omega
theorem eD {a:World} {b:Nat}:∀ (l:List Value) (o:Nat) {W:World},a.grownBy W (some b)->a.grownBy (W.setCells b o l) (some b)
 | [],_,_,h=>h
 | v::r,o,W,h=>eD r (o+1) (h.trans ⟨rfl,rfl,rfl,by simp,λ k hk hne=>Below.heap_setCell W ⟨b,o,none⟩ v k (λ e=>hne (by rw [e]))⟩)
theorem Blk.thereAt {w:World} {g:Nat} {t:TypeId} {cs:Array Value} {o n:Nat} (h:Blk w g t cs) (ho:o+n<=cs.size):World.there w g o n :=
 λ j hj=>⟨by rw [h.cell];simp;omega,h.frozen _⟩
theorem Blk.setSA {w:World} {g:Nat} {t:TypeId} {c0 c1 c2 c3 c4 c5 c6 c7 c8 c9 c10 c11 c12 c13 c14 c15 c16 c17 c18 c19:Value} (h:Blk w g t #[c0,c1,c2,c3,c4,c5,c6,c7,c8,c9,c10,c11,c12,c13,c14,c15,c16,c17,c18,c19]) (x0 x1 x2 x3 x4 x5 x6 x7:Value):Blk (w.setCells g 2 [x0,x1,x2,x3,x4,x5,x6,x7]) g t #[c0,c1,x0,x1,x2,x3,x4,x5,x6,x7,c10,c11,c12,c13,c14,c15,c16,c17,c18,c19]:=by
 replace h:=h.set_ 2 x0;simp only [List.setIfInBounds_toArray,List.set_cons_succ,List.set_cons_zero] at h;replace h:=h.set_ 3 x1;simp only [List.setIfInBounds_toArray,List.set_cons_succ,List.set_cons_zero] at h;replace h:=h.set_ 4 x2;simp only [List.setIfInBounds_toArray,List.set_cons_succ,List.set_cons_zero] at h;replace h:=h.set_ 5 x3;simp only [List.setIfInBounds_toArray,List.set_cons_succ,List.set_cons_zero] at h;replace h:=h.set_ 6 x4;simp only [List.setIfInBounds_toArray,List.set_cons_succ,List.set_cons_zero] at h;replace h:=h.set_ 7 x5;simp only [List.setIfInBounds_toArray,List.set_cons_succ,List.set_cons_zero] at h;replace h:=h.set_ 8 x6;simp only [List.setIfInBounds_toArray,List.set_cons_succ,List.set_cons_zero] at h;replace h:=h.set_ 9 x7;simp only [List.setIfInBounds_toArray,List.set_cons_succ,List.set_cons_zero] at h;exact h
theorem Blk.setSB {w:World} {g:Nat} {t:TypeId} {c0 c1 c2 c3 c4 c5 c6 c7 c8 c9 c10 c11 c12 c13 c14 c15 c16 c17 c18 c19:Value} (h:Blk w g t #[c0,c1,c2,c3,c4,c5,c6,c7,c8,c9,c10,c11,c12,c13,c14,c15,c16,c17,c18,c19]) (x0 x1 x2 x3 x4 x5 x6 x7:Value):Blk (w.setCells g 10 [x0,x1,x2,x3,x4,x5,x6,x7]) g t #[c0,c1,c2,c3,c4,c5,c6,c7,c8,c9,x0,x1,x2,x3,x4,x5,x6,x7,c18,c19]:=by
 replace h:=h.set_ 10 x0;simp only [List.setIfInBounds_toArray,List.set_cons_succ,List.set_cons_zero] at h;replace h:=h.set_ 11 x1;simp only [List.setIfInBounds_toArray,List.set_cons_succ,List.set_cons_zero] at h;replace h:=h.set_ 12 x2;simp only [List.setIfInBounds_toArray,List.set_cons_succ,List.set_cons_zero] at h;replace h:=h.set_ 13 x3;simp only [List.setIfInBounds_toArray,List.set_cons_succ,List.set_cons_zero] at h;replace h:=h.set_ 14 x4;simp only [List.setIfInBounds_toArray,List.set_cons_succ,List.set_cons_zero] at h;replace h:=h.set_ 15 x5;simp only [List.setIfInBounds_toArray,List.set_cons_succ,List.set_cons_zero] at h;replace h:=h.set_ 16 x6;simp only [List.setIfInBounds_toArray,List.set_cons_succ,List.set_cons_zero] at h;replace h:=h.set_ 17 x7;simp only [List.setIfInBounds_toArray,List.set_cons_succ,List.set_cons_zero] at h;exact h
def PbM (mb:Nat) (em:Value) (w:World) (b:Nat):Prop:=b<w.heap.size/\b≠mb/\some b≠em.ownBlock
structure MG (mb:Nat) (a:Value) (w:World) (b:Value) (w':World):Prop where
 os:w'.os=w.os
 tape:w'.tape=w.tape
 output:w'.output=w.output
 size:w.heap.size<=w'.heap.size
 block:∀ k,k<w.heap.size->k≠mb->some k≠a.ownBlock->w'.heap[k]? = w.heap[k]?
 own:b.ownBlock=a.ownBlock∨∃ k,b.ownBlock=some k/\w.heap.size<=k
theorem ap {P:Program} {md:Region.Mode} {ops:Array Oper} {Q:Exit->Act->World->Prop} {S:World->Prop} {fuel:Nat} {listed:Array Bool} {a:Act} {w:World} (h:∀ W,W=w->wpAnyH P md ops Q S fuel listed a W):wpAnyH P md ops Q S fuel listed a w:=h w rfl
section
variable {mb:Nat} {a b c:Value} {w w1 w2 W:World}
theorem MG.refl (mb:Nat) (a:Value) (w:World):MG mb a w a w:=⟨rfl,rfl,rfl,Nat.le_refl _,λ _ _ _ _=>rfl,.inl rfl⟩
theorem MG.trans (h:MG mb a w b w1) (k:MG mb b w1 c w2):MG mb a w c w2:=by
 refine ⟨k.os.trans h.os,k.tape.trans h.tape,k.output.trans h.output,Nat.le_trans h.size k.size,λ i hi hm hne=>(k.block i (Nat.lt_of_lt_of_le hi h.size) hm ?_).trans (h.block i hi hm hne),?_⟩
 ·rcases h.own with h2 | ⟨q,h2,h3⟩
  ·rw [h2];exact hne
  ·rw [h2];intro e;injection e with e;omega
 ·rcases k.own with k2 | ⟨q,k2,k3⟩
  ·rcases h.own with h2 | ⟨q',h2,h3⟩
   ·exact .inl (k2.trans h2)
   ·exact .inr ⟨q',k2.trans h2,h3⟩
  ·exact .inr ⟨q,k2,Nat.le_trans h.size k3⟩
theorem MG.bel (h:Below w.heap.size w w1):MG mb a w a w1:=⟨h.os,h.tape,h.output,h.size,λ k hk _ _=>h.block k hk,.inl rfl⟩
theorem MG.set (h:MG mb a w b w1) (i:Nat) (u:Value):MG mb a w b (w1.setCell ⟨mb,i,none⟩ u) :=
 ⟨h.os,h.tape,h.output,by simpa [World.setCell] using h.size,λ k hk hm hne=>(Below.heap_setCell w1 ⟨mb,i,none⟩ u k hm).trans (h.block k hk hm hne),h.own⟩
theorem MG.app (h:w.grownBy w1 a.ownBlock) (ho:b.ownBlock=a.ownBlock∨b.ownBlock=some w.heap.size):MG mb a w b w1 :=
 ⟨h.os,h.tape,h.output,h.size,λ k hk _ hne=>h.block k hk hne,ho.imp id λ e=>⟨_,e,Nat.le_refl _⟩⟩
theorem MG.below {base:Nat} (h:MG mb a w b w1) (hb:base<=w.heap.size) (hm:base<=mb) (ho:∀ k,a.ownBlock=some k->base<=k):Below base w w1 :=
 ⟨h.os,h.tape,h.output,h.size,λ k hk=>h.block k (by omega) (by omega) (λ e=>by have:=ho k e.symm;omega)⟩
theorem MG.pb (h:MG mb a w b w1) {k:Nat} (hk:PbM mb a w k):PbM mb b w1 k:=by
 refine ⟨Nat.lt_of_lt_of_le hk.1 h.size,hk.2.1,?_⟩;rcases h.own with h2 | ⟨q,h2,h3⟩
 ·rw [h2];exact hk.2.2
 ·rw [h2];intro e;injection e with e;have:=hk.1;omega
theorem MG.keepF (h:MG mb a w b w1):ah (PbM mb a w) w w1:=⟨h.size,λ k hf hk=>h.block k hk hf.2.1 hf.2.2⟩
theorem MG.blk (h:MG mb a w b w1) {g:Nat} {t:TypeId} {cs:Array Value} (hb:Blk w g t cs) (hm:g≠mb) (ho:some g≠a.ownBlock):Blk w1 g t cs:=(h.block g hb.lt hm ho).trans hb
theorem VR.mg {cs:List Value} {v:JV} (h:VR w (PbM mb a w) cs v) (g:MG mb a w b w1):VR w1 (PbM mb b w1) cs v:=(h.keep g.keepF).mono λ _ _ hb=>g.pb hb
theorem ER.mg {cs:List Value} {v:EJ} (h:ER w (PbM mb a w) cs v) (g:MG mb a w b w1):ER w1 (PbM mb b w1) cs v:=(h.keep g.keepF).mono λ _ _ hb=>g.pb hb
theorem SR.mg {cs:List Value} {v:SJ} (h:SR w (PbM mb a w) cs v) (g:MG mb a w b w1):SR w1 (PbM mb b w1) cs v:=(h.keep g.keepF).mono λ _ _ hb=>g.pb hb
theorem RdF.mg {A:Option Addr} {xs:List Value} (h:RdF w (PbM mb a w) A xs) (g:MG mb a w b w1):RdF w1 (PbM mb b w1) A xs:=(h.keep g.keepF).mono λ _ _ hb=>g.pb hb
theorem yL.mg {ecs:List (List Value)} {env:List (List UInt8 × JV)} (h:yL w (PbM mb a w) ecs env) (g:MG mb a w b w1):yL w1 (PbM mb b w1) ecs env:=RR.imp h λ c x hc=>(BnR.keep hc g.keepF).mono λ _ _ hb=>g.pb hb
theorem yO.mg {ess:List (List Value)} {l:List (JV × JV)} (h:yO w (PbM mb a w) ess l) (g:MG mb a w b w1):yO w1 (PbM mb b w1) ess l:=RR.imp h λ c x hc=>(EmR.keep hc g.keepF).mono λ _ _ hb=>g.pb hb
end
theorem FN.le {F:Nat->Prop} {w W:World} {b:Nat} (h:FN F W b) (hs:w.heap.size<=W.heap.size):FN F w b:=h.imp id λ h=>by omega
end
end Go.Proofs.YtgmnmnnoahdjnaaGreatDoor
