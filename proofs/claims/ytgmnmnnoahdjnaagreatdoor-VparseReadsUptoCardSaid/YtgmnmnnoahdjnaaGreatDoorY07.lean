import Derived.Test.YtgmnmnnoahdjnaaGreatDoorY06
import Derived.Test.YtgmnmnnoahdjnaaGreatDoorY05
open Go.Value renaming int → Zi, slice → Zs, string → Zt, pointer → Zp
open Go.IntKind renaming i64 → Zq
set_option maxRecDepth 100000
set_option maxHeartbeats 16000000
set_option linter.unusedVariables false
set_option linter.unusedSimpArgs false
namespace Go.Proofs.YtgmnmnnoahdjnaaGreatDoor
section
inductive JV where
 | mk:Int->Int->List UInt8->List JV->List (List UInt8)->JV
def JV.kind:JV->Int | .mk k _ _ _ _=>k
def JV.num:JV->Int | .mk _ n _ _ _=>n
def JV.txt:JV->List UInt8 | .mk _ _ s _ _=>s
def JV.kids:JV->List JV | .mk _ _ _ l _=>l
def JV.keys:JV->List (List UInt8) | .mk _ _ _ _ k=>k
def cS:JV:=.mk 0 0 [] [] []
def ltB (a b:List UInt8):Bool:=Op.bytesLess a b
abbrev zE:=List (JV × List UInt8)
inductive t6 where
 | fail:Int->Int->t6
 | done:Nat->JV->t6
 | go:Nat->Nat->Nat->zE->t6
theorem ql {l:List UInt8} {e:Nat} (h:aC l e=[]) (he:e<l.length):(qsS l e).2.2≠0:=λ h0=>by
 obtain ⟨p,m,h1,h2,_⟩:=nR (c:=(qsS l e).1) (n:=(qsS l e).2.1) (by rw [← h0]) he;have:=fN (l:=l) (a:=e) (p:=p) (m:=m) (by rw [← h1,← h2,← h0]) he;rw [h] at this;cases this
theorem mn {l:List UInt8} {a:Nat} (h:(bZ l a).2.2=0):∃ m:Nat,(bZ l a).2.1=m/\a<m/\m<=l.length:=by
 unfold bZ at h ⊢;split at h
 ·simp at h
 ·rename_i h1
  rw [if_neg h1];split at h
  ·simp at h
  ·rename_i h2
   rw [if_neg h2];rw [Int.toNat_natCast] at h ⊢;split at h
   ·simp at h
   ·rename_i h3
    rw [if_neg h3];have hp:=iO (l:=l) (l.length-(a+1)) (a+1) _ (Nat.le_refl _) (List.prefix_refl _) (by omega);obtain ⟨_,g2,g3,g4⟩:=hp;split at h
    ·rename_i h4
     rw [if_pos h4];have:=(List.getElem?_eq_some_iff.1 h4).1;exact ⟨eW (a+1) (aC l (a+1))+1,rfl,by omega,this⟩
    ·exfalso;have hnil:aC l (eW (a+1) (aC l (a+1)))=[]:=List.self_eq_append_right.1 g4;unfold fM at h;rw [if_neg (by omega)] at h;split at h
     ·simp at h
     ·rename_i h5
      rw [Int.toNat_natCast] at h;exact ql hnil (by omega) h
end
section
open Go.RowKit
theorem qv {s l:List UInt8} {st:NSt}:st.pos<=(cQ s l st).pos:=by
 unfold cQ;split
 ·exact Nat.le_succ _
 ·exact Nat.le_refl _
theorem pc {gr:Bool} {l:List UInt8} {st:NSt}:st.pos<=(gF gr l st).1.pos:=by
 unfold gF;split
 ·exact Nat.le_refl _
 ·cases gr<;>exact Nat.le_add_right _ _
theorem qt {k:Nat} {l:List UInt8} {st st':NSt} {q:Option Nat} (h:eQ k l st=(st',q)):st.pos<=st'.pos:=by
 have e:(eQ k l st).1=st':=by rw [h]
 rw [← e];rcases k with _ | _ | _ | k
 ·exact qv (s:=[45])
 ·show st.pos<=(ez l st).1.pos
  unfold ez;split
  ·exact Nat.le_succ _
  ·exact pc
 ·show st.pos<=(ik l st).1.pos
  unfold ik;split
  ·exact Nat.le_trans (Nat.le_succ st.pos) (pc (gr:=false) (l:=l) (st:={ st with pos:=st.pos+1,part:=true }))
  ·exact Nat.le_refl _
 ·show st.pos<=(j6 l st).1.pos
  unfold j6;split
  ·exact Nat.le_trans (Nat.le_trans (Nat.le_succ st.pos) (qv (s:=[43,45]) (l:=l) (st:={ st with pos:=st.pos+1,part:=true }))) pc
  ·exact Nat.le_refl _
theorem pf {l:List UInt8}:∀ {ks:List Nat} {st st':NSt} {q:Option Nat},ja l ks st=(st',q)->st.pos<=l.length->st.size<18446744073709551616->st.pos<=st'.pos/\st'.pos<=l.length
 |[],st,st',q,h,hp,_=>by
  simp only [ja,Prod.mk.injEq] at h;rw [← h.1];exact ⟨Nat.le_refl _,hp⟩
 |k::ks,st,st',q,h,hp,hs=>by
  obtain ⟨⟨s1,r⟩,hr⟩:∃ r,eQ k l st=r:=⟨_,rfl⟩
  have hle:=eR hr hp hs;have hge:=qt hr;cases r with
  |none =>
   rw [cZ hr] at h;have:=pf h hle.1 hle.2;exact ⟨Nat.le_trans hge this.1,this.2⟩
  |some p =>
   rw [ev hr] at h;simp only [Prod.mk.injEq] at h;rw [← h.1];exact ⟨hge,hle.1⟩
theorem mh {l:List UInt8} {a:Nat} (h:(cH l a).2.2=0):∃ m:Nat,(cH l a).2.1=m/\a<=m/\m<=l.length:=by
 unfold cH at h ⊢;split at h
 ·simp at h
 ·rename_i h1
  rw [if_neg h1];rw [Int.toNat_natCast] at h ⊢;obtain ⟨⟨st,q⟩,hq⟩:∃ r,dC l (aQ a)=r:=⟨_,rfl⟩
  have hin:=pf hq (by show a<=_;omega) (by show 0 < _;omega);rw [hq] at h ⊢;cases q with
  | some p=>simp at h
  |none =>
   simp only at h ⊢;unfold bg at h ⊢;split at h
   ·simp at h
   ·rename_i h2
    rw [if_neg h2];exact ⟨st.pos,rfl,hin.1,hin.2⟩
theorem qF {l:List UInt8} {st st':NSt} (h:ez l st=(st',none)):st.pos<st'.pos:=by
 unfold ez at h;split at h
 ·simp only [Prod.mk.injEq] at h;rw [← h.1];exact Nat.lt_succ_self _
 ·unfold gF at h;split at h
  ·simp at h
  ·rename_i hd
   simp only [Prod.mk.injEq] at h;rw [← h.1];have:0<(cv l st.pos).length:=List.length_pos_iff.2 hd;show st.pos<st.pos+_
   omega
theorem oY {l:List UInt8} {a:Nat} (h:(cH l a).2.2=0):∃ m:Nat,(cH l a).2.1=m/\a<m/\m<=l.length:=by
 obtain ⟨m,h1,_,h3⟩:=mh h;refine ⟨m,h1,?_,h3⟩;unfold cH at h h1;split at h
 ·simp at h
 ·rename_i hin
  rw [if_neg hin] at h1;rw [Int.toNat_natCast] at h h1;obtain ⟨⟨st,q⟩,hq⟩:∃ r,dC l (aQ a)=r:=⟨_,rfl⟩
  rw [hq] at h h1;cases q with
  | some p=>simp at h
  |none =>
   simp only at h h1;unfold bg at h h1;split at h
   ·simp at h
   ·rename_i h2
    rw [if_neg h2] at h1;have hm:st.pos=m:=by simp at h1;omega
    rw [← hm];unfold dC at hq;have ha:a<=l.length:=by omega
    obtain ⟨⟨s1,r1⟩,e1⟩:∃ r,eQ 0 l (aQ a)=r:=⟨_,rfl⟩
    have b1:=qt e1;have c1:=eR e1 ha (by show 0 < _;omega);have hr1:r1=none:=by
     have:(eQ 0 l (aQ a)).2=none:=rfl;rw [e1] at this;exact this
    subst hr1;rw [cZ e1] at hq;obtain ⟨⟨s2,r2⟩,e2⟩:∃ r,eQ 1 l s1=r:=⟨_,rfl⟩
    cases r2 with
    | some x=>rw [ev e2] at hq;simp at hq
    |none =>
     have b2:=qF (l:=l) (st:=s1) (st':=s2) e2;have c2:=eR e2 c1.1 c1.2;rw [cZ e2] at hq;have b3:=pf hq c2.1 c2.2;have:(aQ a).pos=a:=rfl;omega
end
section
section
variable {l:List UInt8}
end
def later (p:Nat):t6->Prop
 | .go _ p' _ _=>p<p'
 | _=>True
section
variable {l:List UInt8}
end
end
section
open Go.RowKit
section Cut
variable {l:List UInt8}
end Cut
section Cut
variable {l:List UInt8}
end Cut
section CutN
variable {l:List UInt8}
end CutN
section CutS
variable {l:List UInt8}
def far (n:Nat):t6->Prop
 | .fail _ _=>True
 | .go _ p' _ _=>n<p'
 | .done q _=>n<q
end CutS
end
section
section Less
end Less
mutual
def a7:JV->Nat | .mk _ _ _ kids _=>1+bd kids
def bd:List JV->Nat | []=>0 | x::r=>a7 x+bd r
end
theorem jr:∀ (xs ys:List JV),bd (xs++ys)=bd xs+bd ys
 | [],ys=>by simp [bd]
 | x::r,ys=>by rw [List.cons_append,bd,bd,jr r ys];omega
section RightR
variable {l:List UInt8}
end RightR
end
section
open Go.RowKit
def RdF (W:World) (F:Nat->Prop) (A:Option Addr) (xs:List Value):Prop :=
 xs≠[]->∃ b o,A=some ⟨b,o,none⟩/\b<W.heap.size/\F b/\∀ i (h:i<xs.length),W.cell? ⟨b,o+i,none⟩=some xs[i]
def af (F:Nat->Prop) (W W':World):Prop:=W.heap.size<=W'.heap.size/\∀ b,F b->b<W.heap.size->W'.heap[b]? = W.heap[b]?
section
variable {W W':World} {F F':Nat->Prop} {A:Option Addr} {xs:List Value}
theorem RdF.rd (h:RdF W F A xs):Rd W A xs:=λ hn=>by
 obtain ⟨b,o,e,hb,_,hx⟩:=h hn;exact ⟨b,o,e,hb,hx⟩
theorem RdF.nil:RdF W F A []:=λ h=>(h rfl).elim
theorem RdF.keep (h:RdF W F A xs) (hk:af F W W'):RdF W' F A xs:=λ hn=>by
 obtain ⟨b,o,e,hb,hf,hx⟩:=h hn;refine ⟨b,o,e,Nat.lt_of_lt_of_le hb hk.1,hf,λ i hi=>?_⟩;rw [← hx i hi];exact World.cell?_of_block (hk.2 b hf hb)
theorem RdF.mono (h:RdF W F A xs) (hm:∀ b,b<W.heap.size->F b->F' b):RdF W F' A xs:=λ hn=>by
 obtain ⟨b,o,e,hb,hf,hx⟩:=h hn;exact ⟨b,o,e,hb,hm b hb hf,hx⟩
theorem af.of_below (h:Below W.heap.size W W'):af F W W':=⟨h.size,λ b _ hb=>h.block b hb⟩
theorem af.of_grown {g:Option Nat} (h:W.grownBy W' g) (hg:∀ b,F b->some b≠g):af F W W':=⟨h.size,λ b hf hb=>h.block b hb (hg b hf)⟩
theorem af.refl:af F W W:=⟨Nat.le_refl _,λ _ _ _=>rfl⟩
theorem af.trans {W'':World} (h:af F W W') (h':af F W' W''):af F W W'' :=
 ⟨Nat.le_trans h.1 h'.1,λ b hf hb=>(h'.2 b hf (Nat.lt_of_lt_of_le hb h.1)).trans (h.2 b hf hb)⟩
end
theorem af.set {W W':World} {F:Nat->Prop} (h:af F W W') {k:Nat} (hk:∀ b,F b->b≠k) (i:Nat) (u:Value):af F W (W'.setCell ⟨k,i,none⟩ u) :=
 ⟨by simpa using h.1,λ b hf hb=>(Below.heap_setCell W' ⟨k,i,none⟩ u b (hk b hf)).trans (h.2 b hf hb)⟩
theorem af.bel {W W' W'':World} {F:Nat->Prop} (h:af F W W') (hb:Below W'.heap.size W' W''):af F W W'':=h.trans (af.of_below hb)
theorem af.alloc {W W':World} {F:Nat->Prop} (h:af F W W') (o:Obj):af F W (W'.alloc o):=h.bel ((Below.refl _ _).alloc (Nat.le_refl _) o)
def kw (ks:List (List UInt8)):List Value:=ks.map λ s=>Zt ⟨s.toArray⟩
theorem mG (ks:List (List UInt8)):(kw ks).length=ks.length:=by simp [kw]
inductive VR (W:World) (F:Nat->Prop):List Value->JV->Prop where
 | mk {k n:Int} {s:List UInt8} {kids:List JV} {keys:List (List UInt8)} {A B:Option Addr} {ca cb:Nat} {css:List (List Value)} :
   css.length=kids.length->kids.length<=ca->keys.length<=cb->(A=none->ca=0)->(B=none->cb=0)->RdF W F A css.flatten->RdF W F B (kw keys) ->
   (∀ (i:Nat) c x,css[i]? = some c->kids[i]? = some x->VR W F c x) ->
   VR W F [Zi Zq k,Zi Zq n,Zt ⟨s.toArray⟩,Zs A kids.length ca,Zs B keys.length cb] (.mk k n s kids keys)
section
variable {W W':World} {F F':Nat->Prop} {cs:List Value} {v:JV}
theorem VR.keep (h:VR W F cs v) (hk:af F W W'):VR W' F cs v:=by
 induction h with
 | mk h1 h2 h3 hA hB h4 h5 _ ih=>exact .mk h1 h2 h3 hA hB (h4.keep hk) (h5.keep hk) ih
theorem VR.mono (h:VR W F cs v) (hm:∀ b,b<W.heap.size->F b->F' b):VR W F' cs v:=by
 induction h with
 | mk h1 h2 h3 hA hB h4 h5 _ ih=>exact .mk h1 h2 h3 hA hB (h4.mono hm) (h5.mono hm) ih
theorem VR.bel (h:VR W F cs v) (hb:Below W.heap.size W W'):VR W' F cs v:=h.keep (af.of_below hb)
theorem VR.form (h:VR W F cs v):∃ (k n:Int) (s:ByteArray) (A:Option Addr) (na ca:Nat) (B:Option Addr) (nb cb:Nat),cs=[Zi Zq k,Zi Zq n,Zt s,Zs A na ca,Zs B nb cb]:=by
 cases h;exact ⟨_,_,_,_,_,_,_,_,_,rfl⟩
theorem VR.len (h:VR W F cs v):cs.length=5:=by cases h;rfl
theorem VR.one (h:VR W F cs v):∀ u ∈ cs,u.oneCell'=true:=by
 cases h
 intro u hu;simp only [List.mem_cons,List.not_mem_nil,or_false] at hu;rcases hu with rfl | rfl | rfl | rfl | rfl<;>rfl
theorem VR.atom (k n:Int) (s:List UInt8):VR W F [Zi Zq k,Zi Zq n,Zt ⟨s.toArray⟩,Zs none 0 0,Zs none 0 0] (.mk k n s [] []) :=
 VR.mk (kids:=[]) (keys:=[]) (css:=[]) (ca:=0) (cb:=0) rfl (Nat.le_refl _) (Nat.le_refl _) (λ _=>rfl) (λ _=>rfl) RdF.nil RdF.nil (λ i c x h=>by simp at h)
theorem VR.zero:VR W F [Zi Zq 0,Zi Zq 0,Zt ⟨#[]⟩,Zs none 0 0,Zs none 0 0] cS:=VR.atom 0 0 []
end
def VRs (W:World) (F:Nat->Prop) (css:List (List Value)) (xs:List JV):Prop:=css.length=xs.length/\∀ (i:Nat) c x,css[i]? = some c->xs[i]? = some x->VR W F c x
section
variable {W W':World} {F F':Nat->Prop} {css:List (List Value)} {xs:List JV}
theorem VRs.keep (h:VRs W F css xs) (hk:af F W W'):VRs W' F css xs:=⟨h.1,λ i c x h1 h2=>(h.2 i c x h1 h2).keep hk⟩
theorem VRs.mono (h:VRs W F css xs) (hm:∀ b,b<W.heap.size->F b->F' b):VRs W F' css xs:=⟨h.1,λ i c x h1 h2=>(h.2 i c x h1 h2).mono hm⟩
theorem VRs.below (h:VRs W F css xs) (hb:Below W.heap.size W W'):VRs W' F css xs:=h.keep (af.of_below hb)
theorem VRs.nil:VRs W F [] []:=⟨rfl,λ i c x h=>by simp at h⟩
theorem nA:∀ {css:List (List Value)},(∀ c ∈ css,c.length=5)->css.flatten.length=css.length*5
 | [],_=>rfl
 |c::r,h=>by
  rw [List.flatten_cons,List.length_append,h c List.mem_cons_self,nA (λ c hc=>h c (List.mem_cons_of_mem _ hc)),List.length_cons];omega
theorem nz:∀ {css:List (List Value)} (_:∀ c ∈ css,c.length=5) {i:Nat} {c:List Value} (_:css[i]? = some c) {j:Nat} (_:j<5),css.flatten[i*5+j]? = c[j]?
 | [],_,i,c,h,_,_=>by simp at h
 |c'::r,h5,0,c,h,j,hj=>by
  have:c'=c:=by simpa using h
  subst this;rw [List.flatten_cons,Nat.zero_mul,Nat.zero_add,List.getElem?_append_left (by rw [h5 c' List.mem_cons_self];exact hj)]
 |c'::r,h5,i+1,c,h,j,hj=>by
  have h':r[i]? = some c:=by simpa using h
  have hl:=h5 c' List.mem_cons_self;rw [List.flatten_cons,List.getElem?_append_right (by omega),← nz (λ c hc=>h5 c (List.mem_cons_of_mem _ hc)) h' hj];congr 1;omega
theorem VRs.five (h:VRs W F css xs):∀ c ∈ css,c.length=5:=λ c hc=>by
 obtain ⟨i,hi,rfl⟩:=List.getElem_of_mem hc;have hx:i<xs.length:=by rw [← h.1];exact hi
 exact (h.2 i _ _ (List.getElem?_eq_getElem hi) (List.getElem?_eq_getElem hx)).len
theorem VRs.one (h:VRs W F css xs):∀ u ∈ css.flatten,u.oneCell'=true:=λ u hu=>by
 obtain ⟨c,hc,hu⟩:=List.mem_flatten.1 hu;obtain ⟨i,hi,rfl⟩:=List.getElem_of_mem hc;have hx:i<xs.length:=by rw [← h.1];exact hi
 exact (h.2 i _ _ (List.getElem?_eq_getElem hi) (List.getElem?_eq_getElem hx)).one u hu
theorem VRs.snoc {c:List Value} {x:JV} (h:VRs W F css xs) (hx:VR W F c x):VRs W F (css++[c]) (xs++[x]):=by
 refine ⟨by simp [h.1],λ i c' x' h1 h2=>?_⟩;rcases Nat.lt_or_ge i css.length with hi | hi
 ·rw [List.getElem?_append_left hi] at h1;rw [List.getElem?_append_left (by rw [← h.1];exact hi)] at h2;exact h.2 i c' x' h1 h2
 ·rw [List.getElem?_append_right hi] at h1;rw [List.getElem?_append_right (by rw [← h.1];exact hi)] at h2;have:i-css.length=0:=by
   rcases Nat.eq_zero_or_pos (i-css.length) with h0 | h0
   ·exact h0
   ·rw [List.getElem?_eq_none (by simp;omega)] at h1;cases h1
  rw [this] at h1;rw [← h.1,this] at h2;obtain rfl:c=c':=by simpa using h1
  obtain rfl:x=x':=by simpa using h2
  exact hx
theorem VRs.get_ {i:Nat} {x:JV} (h:VRs W F css xs) (hx:xs[i]? = some x):∃ c,css[i]? = some c/\VR W F c x:=by
 have hi:i<css.length:=by rw [h.1];exact (List.getElem?_eq_some_iff.1 hx).1
 exact ⟨_,List.getElem?_eq_getElem hi,h.2 i _ x (List.getElem?_eq_getElem hi) hx⟩
theorem VRs.take (h:VRs W F css xs) (n:Nat):VRs W F (css.take n) (xs.take n):=by
 refine ⟨by simp [h.1],λ i c x h1 h2=>?_⟩;rw [List.getElem?_take] at h1 h2;split at h1
 ·rename_i hi;rw [if_pos hi] at h2;exact h.2 i c x h1 h2
 ·cases h1
theorem VRs.drop (h:VRs W F css xs) (n:Nat):VRs W F (css.drop n) (xs.drop n):=by
 refine ⟨by simp [h.1],λ i c x h1 h2=>?_⟩;rw [List.getElem?_drop] at h1 h2;exact h.2 _ c x h1 h2
theorem VRs.append {css':List (List Value)} {xs':List JV} (h:VRs W F css xs) (h':VRs W F css' xs'):VRs W F (css++css') (xs++xs'):=by
 refine ⟨by simp [h.1,h'.1],λ i c x h1 h2=>?_⟩;rcases Nat.lt_or_ge i css.length with hi | hi
 ·rw [List.getElem?_append_left hi] at h1;rw [List.getElem?_append_left (by rw [← h.1];exact hi)] at h2;exact h.2 i c x h1 h2
 ·rw [List.getElem?_append_right hi] at h1;rw [List.getElem?_append_right (by rw [← h.1];exact hi),← h.1] at h2;exact h'.2 _ c x h1 h2
end
theorem VR.out {W:World} {F:Nat->Prop} {cs:List Value} {k n:Int} {s:List UInt8} {kids:List JV} {keys:List (List UInt8)} (h:VR W F cs (.mk k n s kids keys)) :
  ∃ A B ca cb css,cs=[Zi Zq k,Zi Zq n,Zt ⟨s.toArray⟩,Zs A kids.length ca,Zs B keys.length cb]/\VRs W F css kids/\kids.length<=ca/\keys.length<=cb/\(A=none->ca=0)/\(B=none->cb=0)/\RdF W F A css.flatten/\RdF W F B (kw keys):=by
 cases h with
 | mk h1 h2 h3 hA hB h4 h5 h6=>exact ⟨_,_,_,_,_,rfl,⟨h1,h6⟩,h2,h3,hA,hB,h4,h5⟩
theorem VR.into {W:World} {F:Nat->Prop} {A B:Option Addr} {ca cb:Nat} {css:List (List Value)} (k n:Int) (s:List UInt8) {kids:List JV} {keys:List (List UInt8)} (h:VRs W F css kids) (h2:kids.length<=ca) (h3:keys.length<=cb) (hA:A=none->ca=0) (hB:B=none->cb=0)
  (h4:RdF W F A css.flatten) (h5:RdF W F B (kw keys)) {na nb:Nat} (hna:na=kids.length) (hnb:nb=keys.length):VR W F [Zi Zq k,Zi Zq n,Zt ⟨s.toArray⟩,Zs A na ca,Zs B nb cb] (.mk k n s kids keys):=by
 subst hna hnb;exact .mk h.1 h2 h3 hA hB h4 h5 h.2
theorem aw {w w':World} (h:Below w.heap.size w w') (row:Option Nat):w.grownBy w' row:=⟨h.os,h.tape,h.output,h.size,λ k hk _=>h.block k hk⟩
theorem rC {w w':World} {base:Nat} {e:TypeId} {size n:Nat} {v:Value} {xs:List Value} (h:w.ownsRow base e size v n xs) (hb:Below w.heap.size w w'):w'.ownsRow base e size v n xs :=
 h.kept (aw hb none) (by cases v.ownBlock<;>simp)
theorem oN8 (n:Nat) (h:n<256):(UInt8.ofNat n).toNat=n:=by
 have:(UInt8.ofNat n).toNat=n % 256:=by simp
 rw [this];omega
theorem fR (c:Nat) (r:List UInt8) (h:eV (c:Int)=true):ak (ah c++r)=(c,(ah c).length)/\1<=(ah c).length/\(ah c).length<=4:=by
 have hc:=(ec c).1 h;by_cases h1:c<128
 ·obtain ⟨c0,e0,h0⟩:∃ c0:UInt8,UInt8.ofNat c=c0/\c0.toNat=c:=⟨_,rfl,oN8 _ (by omega)⟩
  have e:ah c=[c0]:=by unfold ah;rw [if_pos h1,e0]
  rw [e,List.cons_append,List.nil_append,iD ((ok1 c0 r).2 (by omega))];refine ⟨?_,by simp,by simp⟩;have:a5 (c0::r) 1=c0.toNat:=by simp [a5]
  rw [this,h0];rfl
 by_cases h2:c<2048
 ·obtain ⟨c0,e0,h0⟩:∃ c0:UInt8,UInt8.ofNat (192+c / 64)=c0/\c0.toNat=192+c / 64:=⟨_,rfl,oN8 _ (by omega)⟩
  obtain ⟨c1,e1,k1⟩:∃ c1:UInt8,UInt8.ofNat (128+c % 64)=c1/\c1.toNat=128+c % 64:=⟨_,rfl,oN8 _ (by omega)⟩
  have e:ah c=[c0,c1]:=by unfold ah;rw [if_neg h1,if_pos h2,e0,e1]
  have n1:bE (c0::c1::r) 1=false:=by rw [Bool.eq_false_iff,Ne,ok1];omega
  rw [e];show ak (c0::c1::r)=_/\_
  rw [ld n1 ((ok2 c0 c1 r).2 (by omega))];refine ⟨?_,by simp,by simp⟩;have:a5 (c0::c1::r) 2=c0.toNat % 32*64+c1.toNat % 64:=by simp [a5]
  rw [this,h0,k1];show (_,2)=(_,2)
  congr 1;omega
 by_cases h3:c<65536
 ·obtain ⟨c0,e0,h0⟩:∃ c0:UInt8,UInt8.ofNat (224+c / 4096)=c0/\c0.toNat=224+c / 4096:=⟨_,rfl,oN8 _ (by omega)⟩
  obtain ⟨c1,e1,k1⟩:∃ c1:UInt8,UInt8.ofNat (128+c / 64 % 64)=c1/\c1.toNat=128+c / 64 % 64:=⟨_,rfl,oN8 _ (by omega)⟩
  obtain ⟨c2,e2,k2⟩:∃ c2:UInt8,UInt8.ofNat (128+c % 64)=c2/\c2.toNat=128+c % 64:=⟨_,rfl,oN8 _ (by omega)⟩
  have e:ah c=[c0,c1,c2]:=by unfold ah;rw [if_neg h1,if_neg h2,if_pos h3,e0,e1,e2]
  have n1:bE (c0::c1::c2::r) 1=false:=by rw [Bool.eq_false_iff,Ne,ok1];omega
  have n2:bE (c0::c1::c2::r) 2=false:=no2 _ _ (by omega);rw [e];show ak (c0::c1::c2::r)=_/\_
  rw [le n1 n2 ((ok3 c0 c1 c2 r).2 (by omega))];refine ⟨?_,by simp,by simp⟩;have:a5 (c0::c1::c2::r) 3=(c0.toNat % 16*64+c1.toNat % 64)*64+c2.toNat % 64:=by simp [a5]
  rw [this,h0,k1,k2];show (_,3)=(_,3)
  congr 1;omega
 ·obtain ⟨c0,e0,h0⟩:∃ c0:UInt8,UInt8.ofNat (240+c / 262144)=c0/\c0.toNat=240+c / 262144:=⟨_,rfl,oN8 _ (by omega)⟩
  obtain ⟨c1,e1,k1⟩:∃ c1:UInt8,UInt8.ofNat (128+c / 4096 % 64)=c1/\c1.toNat=128+c / 4096 % 64:=⟨_,rfl,oN8 _ (by omega)⟩
  obtain ⟨c2,e2,k2⟩:∃ c2:UInt8,UInt8.ofNat (128+c / 64 % 64)=c2/\c2.toNat=128+c / 64 % 64:=⟨_,rfl,oN8 _ (by omega)⟩
  obtain ⟨c3,e3,k3⟩:∃ c3:UInt8,UInt8.ofNat (128+c % 64)=c3/\c3.toNat=128+c % 64:=⟨_,rfl,oN8 _ (by omega)⟩
  have e:ah c=[c0,c1,c2,c3]:=by unfold ah;rw [if_neg h1,if_neg h2,if_neg h3,e0,e1,e2,e3]
  have n1:bE (c0::c1::c2::c3::r) 1=false:=by rw [Bool.eq_false_iff,Ne,ok1];omega
  have n2:bE (c0::c1::c2::c3::r) 2=false:=no2 _ _ (by omega);have n3:bE (c0::c1::c2::c3::r) 3=false:=no3 _ _ (by omega);rw [e];show ak (c0::c1::c2::c3::r)=_/\_
  rw [lf n1 n2 n3 ((ok4 c0 c1 c2 c3 r).2 (by omega))];refine ⟨?_,by simp,by simp⟩;have:a5 (c0::c1::c2::c3::r) 4=((c0.toNat % 8*64+c1.toNat % 64)*64+c2.toNat % 64)*64+c3.toNat % 64:=by simp [a5]
  rw [this,h0,k1,k2,k3];show (_,4)=(_,4)
  congr 1;omega
theorem ws {cs:List Nat} (h:∀ c ∈ cs,eV (c:Int)=true):cs.length<=(cs.flatMap ah).length/\(cs.flatMap ah).length<=4*cs.length:=by
 induction cs with
 | nil=>simp
 |cons c r ih =>
  have h1:=fR c [] (h c List.mem_cons_self);have h2:=ih (λ x hx=>h x (List.mem_cons_of_mem _ hx));rw [List.flatMap_cons,List.length_append,List.length_cons];omega
theorem iQ {W:World} {b o:Nat} {ks:List (List UInt8)} {n:Nat} (h:RdF W (λ _=>True) (some ⟨b,o,none⟩) (kw ks)) {i:Nat} {t:List UInt8} (hx:ks[i]? = some t):W.cell? ⟨b,o+i,none⟩=some (Zt ⟨t.toArray⟩):=by
 have hkl:=List.getElem?_eq_some_iff.1 hx;obtain ⟨b',o',e,_,_,hc⟩:=h (by intro e;have h:=mG ks;rw [e] at h;have:=hkl.1;simp at h;omega);injection e with e;injection e with e1 e2
 subst e1;subst e2;rw [hc i (by rw [mG];exact hkl.1)];simp [kw,hkl.2]
theorem od {W:World} {F:Nat->Prop} {A:Option Addr} {ks:List (List UInt8)} (h:RdF W F A (kw ks)) (hx:0<ks.length):∃ b o,A=some ⟨b,o,none⟩/\b<W.heap.size:=by
 obtain ⟨b,o,e,hb,_⟩:=h (by intro e;have h:=mG ks;rw [e] at h;simp at h;omega);exact ⟨b,o,e,hb⟩
theorem dO (v:JV):1<=a7 v:=by cases v;unfold a7;omega
theorem mc:∀ xs:List JV,xs.length<=bd xs
 | []=>Nat.zero_le _
 | x::r=>by have:=mc r;have:=dO x;rw [bd,List.length_cons];omega
theorem iK {xs:List JV} {i:Nat} {x:JV} (h:xs[i]? = some x):bd (xs.take (i+1))=bd (xs.take i)+a7 x/\bd (xs.take i)+a7 x<=bd xs:=by
 have e:bd (xs.take (i+1))=bd (xs.take i)+a7 x:=by rw [List.take_add_one,h,jr];show _+bd [x]=_;rw [bd,bd];omega
 refine ⟨e,?_⟩;have:=jr (xs.take (i+1)) (xs.drop (i+1));rw [List.take_append_drop] at this;omega
def mK:Nat->List UInt8->Bool
 | _,[]=>true
 | 0,_::_=>false
 | f+1,c::r=>if (ak (c::r)).2=0 then false else mK f ((c::r).drop (ak (c::r)).2)
def cA (l:List UInt8):Bool:=mK l.length l
theorem mL:∀ (f g:Nat) (l:List UInt8),l.length<=f->l.length<=g->mK f l=mK g l
 | f,g,[],_,_=>by cases f<;>cases g<;>rfl
 | 0,_,_::_,h,_=>by simp at h
 | _+1,0,_::_,_,h=>by simp at h
 |f+1,g+1,c::r,h,h'=>by
  unfold mK;split
  ·rfl
  ·rename_i hn
   refine mL f g _ ?_ ?_ <;> · rw [List.length_drop,List.length_cons] at *;omega
theorem jv {l:List UInt8} (h:l≠[]):cA l=(if (ak l).2=0 then false else cA (l.drop (ak l).2)):=by
 cases l with
 | nil=>exact absurd rfl h
 |cons c r =>
  show mK (r.length+1) (c::r)=_
  unfold mK;split
  ·rfl
  ·rename_i hn
   refine mL _ _ _ ?_ ?_ <;> · rw [List.length_drop,List.length_cons];omega
theorem kF (l:List UInt8):(ak l).2<=l.length/\(ak l).2<=4:=⟨kG l,lA l⟩
def df:List (List UInt8)->Bool
 | []=>true
 | k::r=>cA k && ((match r with | []=>true | k'::_=>ltB k k') && df r)
def cz (k n:Int) (s:List UInt8) (nk:Nat) (keys:List (List UInt8)):Bool :=
 if k=1 then n == 0 && s == [] && nk == 0 && keys == []
 else if k=2 then (n == 0 || n == 1) && s == [] && nk == 0 && keys == []
 else if k=3 then s == [] && nk == 0 && keys == []
 else if k=4 then n == 0 && cA s && nk == 0 && keys == []
 else if k=5 then n == 0 && s == [] && keys == []
 else if k=6 then n == 0 && s == [] && nk == keys.length && df keys
 else false
mutual
/-- right within so many levels -/
def eG:Nat->JV->Bool
 | d,.mk k n s kids keys=>cz k n s kids.length keys && (decide (5<=k->d≠0) && il (d-1) kids)
def il:Nat->List JV->Bool
 | _,[]=>true
 | d,x::r=>eG d x && il d r
end
theorem j9 {d:Nat}:∀ {xs:List JV},il d xs=true ↔ ∀ x ∈ xs,eG d x=true
 | []=>by simp [il]
 | x::r=>by simp [il,j9 (xs:=r)]
def dX (v:JV):Bool:=eG 8 v && decide (a7 v<=256)
theorem gM {k n:Int} {s:List UInt8} {nk:Nat} {keys:List (List UInt8)} (h:cz k n s nk keys=true):1<=k/\k<=6:=by
 unfold cz at h;split at h
 ·omega
 split at h
 ·omega
 split at h
 ·omega
 split at h
 ·omega
 split at h
 ·omega
 split at h
 ·omega
 ·cases h
theorem lK {k n:Int} {s:List UInt8} {nk:Nat} {keys:List (List UInt8)} (h:cz k n s nk keys=true) (hk:k<5):nk=0/\keys=[]:=by
 have:=gM h;unfold cz at h;split at h
 ·simp only [Bool.and_eq_true,beq_iff_eq] at h;exact ⟨h.1.2,h.2⟩
 split at h
 ·simp only [Bool.and_eq_true,beq_iff_eq] at h;exact ⟨h.1.2,h.2⟩
 split at h
 ·simp only [Bool.and_eq_true,beq_iff_eq] at h;exact ⟨h.1.2,h.2⟩
 split at h
 ·simp only [Bool.and_eq_true,beq_iff_eq] at h;exact ⟨h.1.2,h.2⟩
 ·omega
theorem sY (ds:List UInt8) (c:UInt8):a8 (ds++[c])=10*a8 ds+fo c:=by simp [a8]
theorem nF:∀ (ds pre:List UInt8) (s:NSt),(∀ c ∈ ds,aJ c=true)->((s.over=true/\18446744073709551615<a8 pre)∨(s.over=false/\s.size=a8 pre/\a8 pre<=18446744073709551615)) ->
  (((cu ds s).over=true/\18446744073709551615<a8 (pre++ds))∨((cu ds s).over=false/\(cu ds s).size=a8 (pre++ds)/\a8 (pre++ds)<=18446744073709551615))
 | [],pre,s,_,h=>by simpa [cu] using h
 |c::ds,pre,s,hd,h=>by
  have hc:48<=c.toNat/\c.toNat<=57:=of_decide_eq_true (hd c List.mem_cons_self);have ih:=nF ds (pre++[c]) (gz (fo c) s) (λ x hx=>hd x (List.mem_cons_of_mem _ hx));rw [List.append_assoc,List.singleton_append] at ih;refine ih ?_;rw [sY];have hv:fo c<=9:=by unfold fo;omega
  unfold gz;simp only;rcases h with ⟨h1,h2⟩ | ⟨h1,h2,h3⟩
  ·left;rw [h1];exact ⟨rfl,by omega⟩
  ·rw [h1,h2];by_cases ho:(18446744073709551615-fo c) / 10<a8 pre
   ·left;rw [decide_eq_true ho];exact ⟨rfl,by omega⟩
   ·right;rw [decide_eq_false ho];refine ⟨rfl,Nat.mod_eq_of_lt (by omega),by omega⟩
theorem vM {f:UInt8->Bool}:∀ {l:List UInt8} {c:UInt8},c ∈ l.takeWhile f->f c=true
 | [],c,h=>by cases h
 |x::r,c,h=>by
  rw [List.takeWhile_cons] at h;split at h
  ·rename_i hx
   rcases List.mem_cons.1 h with rfl | h
   ·exact hx
   ·exact vM h
  ·cases h
theorem pF (l:List UInt8) (p:Nat):∀ c ∈ cv l p,aJ c=true:=λ c hc=>vM hc
theorem nt (l:List UInt8) (p:Nat):(l.drop p).take (cv l p).length=cv l p:=by
 unfold cv;exact (List.prefix_iff_eq_take.1 (List.takeWhile_prefix aJ)).symm
theorem rU (c:UInt8):[48,49,50,51,52,53,54,55,56,57].contains c=aJ c:=by
 have key:(List.range 256).all (λ n=>([48,49,50,51,52,53,54,55,56,57]:List UInt8).contains (UInt8.ofNat n) == aJ (UInt8.ofNat n))=true:=by decide +kernel
 have:=List.all_eq_true.1 key c.toNat (List.mem_range.2 c.toNat_lt);simpa using this
theorem ew {l:List UInt8} {p:Nat} {c:UInt8} (h:l[p]? = some c) (s:List UInt8):aB l p s=s.contains c:=by unfold aB;rw [h]
theorem jJ (ds:List UInt8) (s:NSt):(cu ds s).part=s.part/\(cu ds s).minus=s.minus:=⟨(gN ds s).2.2,(gN ds s).2.1⟩
def lZ:Nat->Nat->List UInt8
 | 0,_=>[]
 | f+1,n=>if n<10 then [UInt8.ofNat (48+n)] else lZ f (n / 10)++[UInt8.ofNat (48+n % 10)]
def fT (n:Nat):List UInt8:=lZ (n+1) n
theorem nK:∀ (f g n:Nat),n<f->n<g->lZ f n=lZ g n
 | 0,_,_,h,_=>by omega
 | _+1,0,_,_,h=>by omega
 |f+1,g+1,n,h,h'=>by
  unfold lZ;split
  ·rfl
  ·rw [nK f g (n / 10) (by omega) (by omega)]
theorem jq {n:Nat} (h:n<10):fT n=[UInt8.ofNat (48+n)]:=by unfold fT lZ;rw [if_pos h]
theorem nJ {n:Nat} (h:10<=n):fT n=fT (n / 10)++[UInt8.ofNat (48+n % 10)]:=by
 unfold fT;rw [lZ,if_neg (by omega),nK n (n / 10+1) (n / 10) (by omega) (by omega)]
def iZ (n:Int):List UInt8:=if n<0 then 45::fT n.natAbs else fT n.natAbs
def uB (c:Nat):Option Nat :=
 if c=34 then some 34 else if c=92 then some 92 else if c=8 then some 98 else if c=12 then some 102 else if c=10 then some 110 else if c=13 then some 114 else if c=9 then some 116 else none
def uH (n:Nat):Nat:=if n<10 then 48+n else 87+n
def bQ (c:Nat):List UInt8 :=
 match uB c with
 | some s=>[92,UInt8.ofNat s]
 | none=>if c<32 then [92,117,48,48,UInt8.ofNat (48+c / 16),UInt8.ofNat (uH (c % 16))] else ah c
def qR:Nat->List UInt8->List Nat
 | _,[]=>[]
 | 0,_::_=>[]
 | f+1,c::r=>if (ak (c::r)).2=0 then [] else (ak (c::r)).1::qR f ((c::r).drop (ak (c::r)).2)
def ig (l:List UInt8):List Nat:=qR l.length l
def mX (l:List UInt8):List UInt8:=34::(ig l).flatMap bQ++[34]
theorem np:∀ (f g:Nat) (l:List UInt8),l.length<=f->l.length<=g->qR f l=qR g l
 | f,g,[],_,_=>by cases f<;>cases g<;>rfl
 | 0,_,_::_,h,_=>by simp at h
 | _+1,0,_::_,_,h=>by simp at h
 |f+1,g+1,c::r,h,h'=>by
  unfold qR;split
  ·rfl
  ·rename_i hn
   rw [np f g _ ?_ ?_] <;> · rw [List.length_drop,List.length_cons] at *;omega
theorem sX:ig []=[]:=rfl
theorem qS {l:List UInt8} (h:l≠[]):ig l=if (ak l).2=0 then [] else (ak l).1::ig (l.drop (ak l).2):=by
 cases l with
 | nil=>exact absurd rfl h
 |cons c r =>
  show qR (r.length+1) (c::r)=_
  unfold qR;split
  ·rfl
  ·rename_i hn
   rw [ig,np _ _ _ ?_ (Nat.le_refl _)];rw [List.length_drop,List.length_cons];omega
theorem iE {l:List UInt8} {n:Nat} (h:bE l n=true):eV (a5 l n:Int)=true/\l.take n=ah (a5 l n):=by
 have h1:=(d8 _ _).1 h;exact ⟨(ec _).2 h1.2.1,h1.2.2.symm⟩
theorem oL {l:List UInt8} (h:(ak l).2≠0):eV ((ak l).1:Int)=true/\l.take (ak l).2=ah (ak l).1:=by
 by_cases h1:bE l 1=true
 ·rw [iD h1];exact iE h1
 ·have f1:bE l 1=false:=by simpa using h1
  by_cases h2:bE l 2=true
  ·rw [ld f1 h2];exact iE h2
  ·have f2:bE l 2=false:=by simpa using h2
   by_cases h3:bE l 3=true
   ·rw [le f1 f2 h3];exact iE h3
   ·have f3:bE l 3=false:=by simpa using h3
    by_cases h4:bE l 4=true
    ·rw [lf f1 f2 f3 h4];exact iE h4
    ·rw [dK f1 f2 f3 (by simpa using h4)] at h;exact absurd rfl h
theorem qB:∀ (f:Nat) (l:List UInt8),l.length<=f->cA l=true->(∀ c ∈ ig l,eV (c:Int)=true)/\l=(ig l).flatMap ah
 | _,[],_,_=>⟨by simp [sX],rfl⟩
 | 0,_::_,h,_=>by simp at h
 |f+1,c::r,h,ht=>by
  have hne:c::r≠[]:=by simp
  rw [jv hne] at ht;by_cases h0:(ak (c::r)).2=0
  ·rw [if_pos h0] at ht;cases ht
  ·rw [if_neg h0] at ht;obtain ⟨h1,h2⟩:=qB f _ (by rw [List.length_drop,List.length_cons];rw [List.length_cons] at h;omega) ht;obtain ⟨k1,k2⟩:=oL h0;rw [qS hne,if_neg h0];refine ⟨λ x hx=>?_,?_⟩
   ·rcases List.mem_cons.1 hx with rfl | hx
    ·exact k1
    ·exact h1 x hx
   ·rw [List.flatMap_cons,← k2,← h2,List.take_append_drop]
theorem qA {l:List UInt8} (h:cA l=true):(∀ c ∈ ig l,eV (c:Int)=true)/\l=(ig l).flatMap ah:=qB _ l (Nat.le_refl _) h
theorem fQ {s:ByteArray} {p k:Nat} {b:UInt8} {u:List UInt8} (h:s.data.toList.drop p=u) (hb:u[k]? = some b):s.get! (p+k)=b/\p+k<s.size:=by
 have h1:s.data.toList[p+k]? = some b:=by rw [← hb,← h,List.getElem?_drop]
 obtain ⟨hlt,he⟩:=List.getElem?_eq_some_iff.1 h1;have hs:p+k<s.size:=by rw [Array.length_toList] at hlt;exact hlt
 refine ⟨?_,hs⟩;show s.get! (p+k)=b
 have:s.get! (p+k)=s[p+k]:=by
  simp [ByteArray.get!,getElem!_pos,hs];rfl
 rw [this,← he];rfl
theorem sZ {s:ByteArray} {p c:Nat} {r:List UInt8} (hc:eV (c:Int)=true) (h:s.data.toList.drop p=ah c++r):Utf8.decode s p=(c,(ah c).length):=by
 have hle:=(ec c).1 hc;unfold ah at h ⊢;by_cases h1:c<128
 ·rw [if_pos h1] at h ⊢;obtain ⟨g0,s0⟩:=fQ (k:=0) h (by rfl);have e0:=oN8 c (by omega);unfold Utf8.decode;simp only [g0,e0];rw [if_pos h1];rfl
 rw [if_neg h1] at h ⊢;by_cases h2:c<2048
 ·rw [if_pos h2] at h ⊢;obtain ⟨g0,s0⟩:=fQ (k:=0) h (by rfl);obtain ⟨g1,s1⟩:=fQ (k:=1) h (by rfl);have e0:=oN8 (192+c / 64) (by omega);have e1:=oN8 (128+c % 64) (by omega);unfold Utf8.decode;simp only [g0,g1,e0,e1];rw [if_neg (by omega),if_pos (by simp [s1];omega),if_pos (by omega)];simp;omega
 rw [if_neg h2] at h ⊢;by_cases h3:c<65536
 ·rw [if_pos h3] at h ⊢;obtain ⟨g0,s0⟩:=fQ (k:=0) h (by rfl);obtain ⟨g1,s1⟩:=fQ (k:=1) h (by rfl);obtain ⟨g2,s2⟩:=fQ (k:=2) h (by rfl);have e0:=oN8 (224+c / 4096) (by omega);have e1:=oN8 (128+c / 64 % 64) (by omega);have e2:=oN8 (128+c % 64) (by omega);have hn:(224+c / 4096) % 16*4096+(128+c / 64 % 64) % 64*64+(128+c % 64) % 64=c:=by omega
  unfold Utf8.decode;simp only [g0,g1,g2,e0,e1,e2];rw [if_neg (by omega),if_neg (by simp;omega),if_pos (by simp [s1,s2];omega),hn,if_pos (by simp [Utf8.valid];omega)];simp
 ·rw [if_neg h3] at h ⊢;obtain ⟨g0,s0⟩:=fQ (k:=0) h (by rfl);obtain ⟨g1,s1⟩:=fQ (k:=1) h (by rfl);obtain ⟨g2,s2⟩:=fQ (k:=2) h (by rfl);obtain ⟨g3,s3⟩:=fQ (k:=3) h (by rfl);have e0:=oN8 (240+c / 262144) (by omega);have e1:=oN8 (128+c / 4096 % 64) (by omega);have e2:=oN8 (128+c / 64 % 64) (by omega);have e3:=oN8 (128+c % 64) (by omega);have hn:(240+c / 262144) % 8*262144+(128+c / 4096 % 64) % 64*4096+(128+c / 64 % 64) % 64*64+(128+c % 64) % 64=c:=by omega
  unfold Utf8.decode;simp only [g0,g1,g2,g3,e0,e1,e2,e3];rw [if_neg (by omega),if_neg (by simp;omega),if_neg (by simp;omega),if_pos (by simp [s1,s2,s3];omega),hn,if_pos (by simp [Utf8.valid];omega)];simp
theorem tc {c:Nat} (hc:eV (c:Int)=true):Utf8.encode (c:Int)=⟨(ah c).toArray⟩:=by
 have hle:=(ec c).1 hc;have hv:Utf8.valid (c:Int)=true:=by simp [Utf8.valid];omega
 unfold Utf8.encode ah;simp only [hv,if_true,Int.toNat_natCast];by_cases h1:c<128
 ·rw [if_pos h1,if_pos h1]
 rw [if_neg h1,if_neg h1];by_cases h2:c<2048
 ·rw [if_pos h2,if_pos h2]
 rw [if_neg h2,if_neg h2];by_cases h3:c<65536
 ·rw [if_pos h3,if_pos h3]
 ·rw [if_neg h3,if_neg h3]
variable {l:List UInt8}
theorem pZ:∀ (f n:Nat),∀ c ∈ lZ f n,aJ c=true
 | 0,_,c,h=>by cases h
 |f+1,n,c,h=>by
  unfold lZ at h;have key:∀ k,k<10->aJ (UInt8.ofNat (48+k))=true:=by decide
  split at h
  ·rename_i h1
   rw [List.mem_singleton] at h;subst h;exact key n h1
  ·rcases List.mem_append.1 h with h | h
   ·exact pZ f _ c h
   ·rw [List.mem_singleton] at h;subst h;exact key _ (by omega)
theorem uS (n:Nat):∀ c ∈ fT n,aJ c=true:=pZ _ _
theorem wH:∀ (f n:Nat),n<f->lZ f n≠[]
 | 0,_,h=>by omega
 | f+1,n,h=>by unfold lZ;split<;>simp
theorem iJ (n:Nat):fT n≠[]:=wH _ _ (by omega)
end
section
open Go.RowKit
attribute [local go_sem] aa ac ae ab
abbrev ap:=Int × Nat × List UInt8 × Int
def gX (x:ap):List Value:=[Zi Zq x.1,Zi Zq x.2.1,Zt ⟨x.2.2.1.toArray⟩,Zi Zq x.2.2.2]
def aG (ts:List ap):List Value:=ts.flatMap gX
theorem fW (x:ap) (ts:List ap):aG (x::ts)=gX x++aG ts:=rfl
theorem gQ (a b:List ap):aG (a++b)=aG a++aG b:=by simp [aG]
theorem fd:∀ ts:List ap,(aG ts).length=ts.length*4
 | []=>rfl
 | x::ts=>by rw [fW,List.length_append,fd ts];simp [gX];omega
theorem jX:∀ {ts:List ap} {i:Nat} {x:ap} (_:ts[i]? = some x) {j:Nat} (_:j<4),(aG ts)[i*4+j]? = (gX x)[j]?
 | [],i,x,h,_,_=>by simp at h
 |y::ts,0,x,h,j,hj=>by
  have:y=x:=by simpa using h
  subst this;rw [fW,Nat.zero_mul,Nat.zero_add,List.getElem?_append_left (by simp [gX];omega)]
 |y::ts,i+1,x,h,j,hj=>by
  have h':ts[i]? = some x:=by simpa using h
  rw [fW,List.getElem?_append_right (by simp [gX];omega),← jX h' hj];congr 1;simp [gX];omega
def TS (w:World) (v:Value) (ts:List ap):Prop:=∃ A cap,v=Zs A ts.length cap/\ts.length<=cap/\Rd w A (aG ts)
theorem TS.below {w w':World} {v:Value} {ts:List ap} (h:TS w v ts) (hb:Below w.heap.size w w'):TS w' v ts:=by
 obtain ⟨A,cap,rfl,hc,hr⟩:=h;exact ⟨A,cap,rfl,hc,hr.below hb⟩
theorem TS.drewN {w:World} {v:Value} {ts:List ap} (h:TS w v ts) (n:Nat):TS (w.drewN n) v ts:=h
theorem TS.alloc {w:World} {v:Value} {ts:List ap} (h:TS w v ts) (o:Obj):TS (w.alloc o) v ts:=h.below ((Below.refl _ w).alloc (Nat.le_refl _) o)
theorem TS.nil {w:World}:TS w (Zs none 0 0) []:=⟨none,0,rfl,Nat.le_refl _,Rd.nil⟩
theorem Rd.tok {w:World} {A:Option Addr} {ts:List ap} (h:Rd w A (aG ts)) {i:Nat} {x:ap} (hx:ts[i]? = some x) :
  ∃ b o,A=some ⟨b,o,none⟩/\b<w.heap.size/\w.cell? ⟨b,o+i*4,none⟩=some (Zi Zq x.1)/\w.cell? ⟨b,o+i*4+1,none⟩=some (Zi Zq x.2.1) /\
   w.cell? ⟨b,o+i*4+2,none⟩=some (Zt ⟨x.2.2.1.toArray⟩)/\w.cell? ⟨b,o+i*4+3,none⟩=some (Zi Zq x.2.2.2):=by
 have hi:i<ts.length:=(List.getElem?_eq_some_iff.1 hx).1;obtain ⟨b,o,rfl,hb,hc⟩:=h (by intro e;have h3:=fd ts;rw [e,List.length_nil] at h3;omega);have key:∀ j v,j<4->(gX x)[j]? = some v->w.cell? ⟨b,o+i*4+j,none⟩=some v:=λ j v hj hv=>by
  have h1:=jX hx hj;rw [hv] at h1;obtain ⟨hlt,e⟩:=List.getElem?_eq_some_iff.1 h1;rw [Nat.add_assoc,hc _ hlt,e]
 exact ⟨b,o,rfl,hb,key 0 _ (by omega) rfl,key 1 _ (by omega) rfl,key 2 _ (by omega) rfl,key 3 _ (by omega) rfl⟩
theorem dV {a b:List UInt8}:((⟨a.toArray⟩:ByteArray).toList == (⟨b.toArray⟩:ByteArray).toList)=decide (a=b):=by
 rw [ByteArray.toList_eq,ByteArray.toList_eq,Bool.eq_iff_iff];simp
theorem VRs.cell {W:World} {F:Nat->Prop} {css:List (List Value)} {xs:List JV} {A:Option Addr} (h:VRs W F css xs) (hr:RdF W F A css.flatten) {i:Nat} {x:JV} (hx:xs[i]? = some x) :
  ∃ b o c,A=some ⟨b,o,none⟩/\b<W.heap.size/\F b/\VR W F c x/\∀ (j:Nat) (u:Value),j<5->c[j]? = some u->W.cell? ⟨b,o+(i*5+j),none⟩=some u:=by
 obtain ⟨c,hc,hv⟩:=h.get_ hx;have hl:css.flatten≠[]:=by
  have h3:=nA h.five;have h4:=(List.getElem?_eq_some_iff.1 hc).1;intro e;rw [e] at h3;simp at h3;omega
 obtain ⟨b,o,rfl,hb,hf,hx⟩:=hr hl;refine ⟨b,o,c,rfl,hb,hf,hv,λ j u hj hu=>?_⟩;have h1:=nz h.five hc hj;rw [hu] at h1;obtain ⟨hlt,e⟩:=List.getElem?_eq_some_iff.1 h1;rw [hx _ hlt,e]
end
section
theorem Blk.set8C {w:World} {g:Nat} {t:TypeId} {c0 c1 c2 c3 c4 c5 c6 c7:Value} (h:Blk w g t #[c0,c1,c2,c3,c4,c5,c6,c7]) (x0 x1 x2 x3 x4 x5 x6 x7:Value):Blk (w.setCells g 0 [x0,x1,x2,x3,x4,x5,x6,x7]) g t #[x0,x1,x2,x3,x4,x5,x6,x7] :=
 (((((((h.set_ 0 x0).set_ 1 x1).set_ 2 x2).set_ 3 x3).set_ 4 x4).set_ 5 x5).set_ 6 x6).set_ 7 x7
end
section
open Go.RowKit
attribute [local go_sem] aa ac ae ab
theorem se:(Tryz.prog.info? 86).map (λ i=>(i.zero,i.size,i.bytes))=some (some (.agg #[Zi Zq 0,Zi Zq 0,Zt ⟨#[]⟩,Zi Zq 0]),4,40):=by kernel_rfl
theorem jY (ts:List ap):∀ v ∈ aG ts,v.oneCell'=true:=by
 intro v hv;simp only [aG,List.mem_flatMap] at hv;obtain ⟨x,_,hx⟩:=hv;simp only [gX,List.mem_cons,List.not_mem_nil,or_false] at hx;rcases hx with rfl | rfl | rfl | rfl<;>rfl
theorem TS.of_own {w:World} {base:Nat} {e:TypeId} {v:Value} {n:Nat} {ts:List ap} (h:w.ownsRow base e 4 v n (aG ts)):TS w v ts:=by
 obtain ⟨A,cap,rfl,hc,hr⟩:=Rd.of_own h;have h1:=h.1;rw [fd] at h1;obtain rfl:n=ts.length:=by omega
 exact ⟨A,cap,rfl,hc,hr⟩
theorem sF {a b:ByteArray} (h:(a.toList == b.toList)=true):a=b:=by
 have:a.toList=b.toList:=by simpa using h
 rw [ByteArray.toList_eq,ByteArray.toList_eq] at this;exact jU this
theorem sG {a b:ByteArray} (h:(a.toList == b.toList)=false):a≠b:=by rintro rfl;simp at h
theorem mr (c:UInt8) (t:ByteArray) (w:World) (ht:t.size<=4194304):Calls Tryz.prog 88 #[Zi .u8 c.toNat,Zt t] w λ e w'=>e=.returned (.bool ((sl t).contains c))/\w=w':=by
 obtain ⟨b,hb⟩:∃ b,(sl t).contains c=b:=⟨_,rfl⟩
 rw [hb];have HB:=aW hb;clear hb;go_enter Tryz.func88,Tryz.ntmps88;go_wp2;go_loop [5] (λ i => ∃ k:Nat,k<=t.size/\i=Zi Zq k/\b=((sl t).drop k).contains c) (λ i=>t.size-(intOf i).toNat)
 case atStart=>exact ⟨0,Nat.zero_le _,rfl,by rw [← HB.out];simp⟩
 case round =>
  obtain ⟨k,hk,rfl,hc⟩:=hrel;by_cases hlt:k<t.size
  ·have hd:(sl t).drop k=t[k]::(sl t).drop (k+1):=List.drop_eq_getElem_cons (by rw [bL];exact hlt);rw [hd] at hc;obtain ⟨x,hx⟩:∃ x,t[k]=x:=⟨_,rfl⟩
   rw [hx] at hc;have HC:=aW hc;clear hc hd;by_cases hxc:x=c
   ·subst hxc;go_wp2;go_ret;exact ⟨am (by rw [HC.out];simp),rfl⟩
   ·have hne:((x.toNat:Int) == (c.toNat:Int))=false:=by
     have:x.toNat≠c.toNat:=λ e=>hxc (UInt8.toNat_inj.1 e)
     simp;omega
    go_wp2;go_round
    case rel=>exact ⟨k+1,hlt,by go_num,by rw [HC.out,List.contains_cons];simp;intro h;exact absurd h.symm hxc⟩
    case measure=>simp [intOf];omega
  ·obtain rfl:k=t.size:=by omega
   have HC:=aW hc;clear hc;go_wp2;go_ret;exact ⟨am (by rw [HC.out,List.drop_eq_nil_of_le (by rw [bL];exact Nat.le_refl _)];rfl),rfl⟩
def eX:List UInt8->List UInt8->List (List UInt8)
 | [],acc=>[acc]
 | c::r,acc=>if c=32 then acc::eX r [] else eX r (acc++[c])
theorem xT (t:ByteArray) (f k:Nat):sl (t.extract f k)=((sl t).drop f).take (k-f):=by
 simp [sl,List.drop_take]
theorem uk {l:List UInt8} {f k:Nat} {c:UInt8} (hf:f<=k) (h:l[k]? = some c):(l.drop f).take (k+1-f)=(l.drop f).take (k-f)++[c]:=by
 rw [show k+1-f=(k-f)+1 from by omega,List.take_add_one,List.getElem?_drop,show f+(k-f)=k from by omega,h];rfl
theorem mo (s t:ByteArray) (w:World) (ht:t.size<=4194304):Calls Tryz.prog 144 #[Zt s,Zt t] w λ e w'=>e=.returned (.bool (decide (sl s ∈ eX (sl t) [])))/\w=w':=by
 obtain ⟨bb,hb⟩:∃ b,decide (sl s ∈ eX (sl t) [])=b:=⟨_,rfl⟩
 rw [hb];have HB:=aW (show (sl s ∈ eX (sl t) []) ↔ bb=true by rw [← hb];simp);clear hb;go_enter Tryz.func144,Tryz.ntmps144;go_wp2;go_loop [5,6] (λ fr i => ∃ f k:Nat,k<=t.size+1/\f<=k/\fr=Zi Zq f/\i=Zi Zq k/\(k<=t.size->Hid (bb=true ↔ sl s ∈ eX ((sl t).drop k) (((sl t).drop f).take (k-f))))/\(k=t.size+1->Hid (bb=false))) (λ _ i=>t.size+1-(intOf i).toNat)
 case atStart=>exact ⟨0,0,Nat.zero_le _,Nat.le_refl _,rfl,rfl,λ _=>aW (by rw [← HB.out];simp),λ h=>by omega⟩
 case round =>
  obtain ⟨f,k,hk,hf,rfl,rfl,h1,h2⟩:=hrel;by_cases hle:k<=t.size
  ·have h1:=(h1 hle).out;have hcut:=xT t f k;obtain ⟨a,ha⟩:∃ a,t.extract f k=a:=⟨_,rfl⟩
   rw [ha] at hcut;rw [← hcut] at h1;have HCUT:=aW hcut;clear h2 hcut;by_cases hlt:k<t.size
   ·have hget:=yM t k hlt;have hd:(sl t).drop k=t[k]::(sl t).drop (k+1):=List.drop_eq_getElem_cons (by rw [bL];exact hlt);obtain ⟨x,hx⟩:∃ x,t[k]=x:=⟨_,rfl⟩
    rw [hx] at hd hget;rw [hd] at h1;have HX:=aW hget;have H1:=aW h1;have hkn:((k:Int) == (t.size:Int))=false:=by simp;omega
    clear h1 hd hget;by_cases h32:x=32
    ·subst h32;go_wp2
     ·have hq:=sF ‹(a.toList == s.toList)=true›;go_ret;refine ⟨am ?_,rfl⟩;rw [eq_comm,H1.out,eX,if_pos rfl,hq];exact List.mem_cons_self
     ·have hq:=sG ‹(a.toList == s.toList)=false›;go_round
      case rel =>
       refine ⟨k+1,k+1,by omega,Nat.le_refl _,by go_num,by go_num,λ _=>aW ?_,λ h=>by omega⟩;rw [H1.out,eX,if_pos rfl,List.mem_cons,Nat.sub_self,List.take_zero];constructor
       ·rintro (h | h)
        ·exact absurd (jU h.symm) hq
        ·exact h
       ·exact .inr
      case measure=>simp [intOf];omega
    ·have hne:((x.toNat:Int) == 32)=false:=by
      have:x.toNat≠32:=λ e=>h32 (UInt8.toNat_inj.1 (by simpa using e))
      simp;omega
     go_wp2;go_round
     case rel =>
      refine ⟨f,k+1,by omega,by omega,rfl,by go_num,λ _=>aW ?_,λ h=>by omega⟩;rw [H1.out,eX,if_neg h32,HCUT.out,uk hf HX.out]
     case measure=>simp [intOf];omega
   ·obtain rfl:k=t.size:=by omega
    rw [List.drop_eq_nil_of_le (by rw [bL];exact Nat.le_refl _),eX,List.mem_singleton] at h1;have H1:=aW h1;clear h1;go_wp2
    ·have hq:=sF ‹(a.toList == s.toList)=true›;go_ret;refine ⟨am ?_,rfl⟩;rw [eq_comm,H1.out,hq]
    ·have hq:=sG ‹(a.toList == s.toList)=false›;go_round
     case rel =>
      refine ⟨t.size+1,t.size+1,by omega,Nat.le_refl _,by go_num,by go_num,λ h=>by omega,λ _=>aW ?_⟩;rw [Bool.eq_false_iff,Ne,H1.out];exact λ h=>hq (jU h.symm)
     case measure=>first | (simp [intOf];done) | (simp [intOf];omega)
  ·obtain rfl:k=t.size+1:=by omega
   have H2:=h2 rfl;clear h1 h2;go_wp2;go_ret;exact ⟨am H2.out.symm,rfl⟩
end
end Go.Proofs.YtgmnmnnoahdjnaaGreatDoor
