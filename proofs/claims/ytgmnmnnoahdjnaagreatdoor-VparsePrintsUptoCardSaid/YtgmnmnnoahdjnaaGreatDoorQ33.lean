import Derived.Test.YtgmnmnnoahdjnaaGreatDoorQ30
import Derived.Test.YtgmnmnnoahdjnaaGreatDoorQ29
set_option maxRecDepth 100000
set_option maxHeartbeats 16000000
set_option linter.unusedVariables false
set_option linter.unusedSimpArgs false
namespace Go.Proofs.YtgmnmnnoahdjnaaGreatDoor
section
def TG (T:List aq):Prop:=T.length<=1000/\∀ p,(tkT T p).length<=4000/\iw (tkN T p)
instance decIw (n:Int):Decidable (iw n):=by unfold iw;exact inferInstance
theorem xh {n:Int} (h:iw n):cW (pA n):=cW.of (by unfold pA inJ inL;exact ⟨by decide,h,trivial⟩) (by unfold pA dj fL eV;simp)
theorem xk {s:List UInt8} (h:s.length<=4000):cW (lg s):=cW.of (by unfold lg inJ inL;exact ⟨by decide,by decide,trivial⟩) (by unfold lg dj fL eV;omega)
theorem xj:cW (.mk 1 0 [] [] []):=cW.of (by unfold inJ inL;exact ⟨by decide,by decide,trivial⟩) (by unfold dj fL eV;simp)
theorem qi (b:Bool):cW (ic b):=cW.of (by unfold ic inJ inL;cases b<;>exact ⟨by decide,by decide,trivial⟩) (by unfold ic dj fL eV;simp)
theorem jT:cW dX:=cW.of (by unfold dX inJ inL;exact ⟨by decide,by decide,trivial⟩) (by unfold dX dj fL eV;simp)
theorem jS {v:JV} (h:cW v):bh (fH v):=by unfold fH bh io;exact ⟨by decide,h,by simp,by simp,trivial⟩
theorem gv:bh bQ:=by unfold bQ bh io;exact ⟨by decide,jT,by simp,by simp,trivial⟩
theorem ph {k:Int} {l:List EJ} (hk:iw k) (hl:l.length<=1000) (h:∀ x ∈ l,bh x):bh (eOp k l):=by
 unfold eOp bh;exact ⟨hk,jT,by simp,by omega,aK.2 h⟩
theorem oz {T:List aq} {p:Nat}:∀ {l:List (List UInt8 × Int)} {k:Int},gc T p l=some k->∃ x ∈ l,x.2=k/\au T p x.1=true
 | [],k,h=>by cases h
 |x::r,k,h=>by
  unfold gc at h;split at h
  ·rename_i hs;injection h with h;exact ⟨x,List.mem_cons_self,h,hs⟩
  ·obtain ⟨y,hy,h1⟩:=oz h;exact ⟨y,List.mem_cons_of_mem _ hy,h1⟩
theorem gE {T:List aq} {lvl p:Nat} {k:Int} (h:ez T lvl p=some k):5<=k/\k<=15:=by
 obtain ⟨x,hx,rfl,_⟩:=oz h;have:∀ lvl,∀ x ∈ fA lvl,5<=x.2/\x.2<=15:=by
  intro lvl
  match lvl with
  | 0=>simp [fA]
  | 1=>decide
  | 2=>decide
  | 3=>decide
  | 4=>decide
  | 5=>decide
  | 6=>decide
  | 7=>decide
  | n+8=>simp [fA]
 exact this lvl x hx
theorem sW {k:Int} (h:5<=k/\k<=15):iw k:=by unfold iw;omega
section
variable {T:List aq} (hT:WT T) (hG:TG T)
include hT hG
theorem yG:∀ (n:Nat),(∀ lvl p x q,p<T.length->aP T n lvl p=.ok x q->bh x)/\(∀ lvl x p y q,p<T.length->bh x->iD T n lvl x p=.ok y q->bh y)/\(∀ x p y q,p<T.length->bh x->eJ T n x p=.ok y q->bh y) /\
  (∀ p x q,p<T.length->de T n p=.ok x q->bh x)/\(∀ acc p x q,p<T.length->acc.length<=p->(∀ y ∈ acc,bh y)->eI T n acc p=.ok x q->bh x)
 | 0=>⟨λ lvl p x q _ h=>(by unfold aP at h;cases h),λ lvl x p y q _ _ h=>(by unfold iD at h;cases h),λ x p y q _ _ h=>(by unfold eJ at h;cases h),λ p x q _ h=>(by unfold de at h;cases h),λ acc p x q _ _ _ h=>by unfold eI at h;cases h⟩
 |n+1=>by
  obtain ⟨hE,hB,hP,hA,hL⟩:=yG n;have hI:=λ lvl p (hp:p<T.length)=>(nO hT n).1 lvl p hp
  have hIA:=λ p (hp:p<T.length)=>(nO hT n).2.2.2.1 p hp
  refine ⟨λ lvl p x q hp h=>?_,λ lvl x p y q hp hx h=>?_,λ x p y q hp hx h=>?_,λ p x q hp h=>?_,λ acc p x q hp hl hx h=>?_⟩
  ·unfold aP at h;split at h
   ·cases ho:ez T lvl p with
    | none=>rw [ho] at h;exact hE _ _ _ _ hp h
    |some k =>
     rw [ho] at h;simp only at h;have h0:=hT.next hp (fy ho);cases hx:aP T n lvl (p+1) with
     | bad q=>rw [hx] at h;cases h
     |ok y r =>
      rw [hx] at h;injection h with h1 h2
      subst h1;exact ph (sW (gE ho)) (by simp) (by simpa using hE _ _ _ _ h0 hx)
   ·split at h
    ·cases hx:de T n p with
     | bad q=>rw [hx] at h;cases h
     |ok y r =>
      rw [hx] at h;have h1:=hIA p hp;rw [hx] at h1;exact hP _ _ _ _ h1.2 (hA _ _ _ hp hx) h
    ·cases hx:aP T n (lvl+1) p with
     | bad q=>rw [hx] at h;cases h
     |ok y r =>
      rw [hx] at h;have h1:=hI (lvl+1) p hp;rw [hx] at h1;exact hB _ _ _ _ _ h1.2 (hE _ _ _ _ hp hx) h
  ·unfold iD at h;cases ho:ez T lvl p with
   | none=>rw [ho] at h;injection h with h1;subst h1;exact hx
   |some k =>
    rw [ho] at h;simp only at h;have h0:=hT.next hp (fy ho);cases hy:aP T n (lvl+1) (p+1) with
    | bad q=>rw [hy] at h;cases h
    |ok z r =>
     rw [hy] at h;have h1:=hI (lvl+1) (p+1) h0;rw [hy] at h1;have hc:bh (eOp k [x,z]):=ph (sW (gE ho)) (by simp) (by intro u hu;rcases List.mem_cons.1 hu with rfl | hu;exact hx;obtain rfl:=List.mem_singleton.1 hu;exact hE _ _ _ _ h0 hy);simp only at h;split at h
     ·injection h with h1;subst h1;exact hc
     ·exact hB _ _ _ _ _ h1.2 hc h
  ·unfold eJ at h;split at h
   ·rename_i hs
    split at h
    ·rename_i hk
     have h1:=hT.next hp (av hs);have h2:=hT.next h1 (by omega);refine hP _ _ _ _ h2 ?_ h;unfold bh;have:=(hG.2 (p+1)).1;exact ⟨by decide,jT,by omega,by simp,aK.2 (by simpa using hx)⟩
    ·cases h
   ·injection h with h1;subst h1;exact hx
  ·unfold de at h;have hg:=hG.2 p;split at h
   ·injection h with h1;subst h1
    unfold bh io;exact ⟨by decide,jT,by omega,by simp,trivial⟩
   split at h
   ·injection h with h1;subst h1;exact jS (xh hg.2)
   split at h
   ·injection h with h1;subst h1;exact jS (xk hg.1)
   split at h
   ·injection h with h1;subst h1;exact jS xj
   split at h
   ·injection h with h1;subst h1;exact jS (qi true)
   split at h
   ·injection h with h1;subst h1;exact jS (qi false)
   split at h
   ·rename_i hs
    have h0:=hT.next hp (av hs);cases hx:aP T n 1 (p+1) with
    | bad q=>rw [hx] at h;cases h
    |ok y r =>
     rw [hx] at h;simp only at h;split at h
     ·injection h with h1;subst h1;exact hE _ _ _ _ h0 hx
     ·cases h
   split at h
   ·rename_i hs
    have h0:=hT.next hp (av hs);split at h
    ·injection h with h1;subst h1;exact ph (by decide) (by simp) (by simp)
    ·exact hL _ _ _ _ h0 (by simp) (by simp) h
   ·cases h
  ·unfold eI at h;cases hy:aP T n 1 p with
   | bad q=>rw [hy] at h;cases h
   |ok z r =>
    rw [hy] at h;simp only at h;have h1:=hI 1 p hp;rw [hy] at h1;have hc:∀ u ∈ acc++[z],bh u:=by
     intro u hu;rcases List.mem_append.1 hu with hu | hu
     ·exact hx u hu
     ·obtain rfl:=List.mem_singleton.1 hu;exact hE _ _ _ _ hp hy
    have hlen:(acc++[z]).length<=r:=by have:=h1.1;simp;omega
    split at h
    ·rename_i hs
     exact hL _ _ _ _ (hT.next h1.2 (av hs)) (by omega) hc h
    ·split at h
     ·injection h with h3;subst h3
      exact ph (by decide) (by have:=h1.2;have:=hG.1;omega) hc
     ·cases h
theorem gF {n lvl p:Nat} {x:EJ} {q:Nat} (hp:p<T.length) (h:aP T n lvl p=.ok x q):bh x:=(yG hT hG n).1 _ _ _ _ hp h
theorem yJ:∀ (n:Nat),(∀ acc p x q,p<T.length->acc.length<=p->a9 acc->cF T n acc p=.ok x q->a9 x/\x.length<=q)/\(∀ p x q,p<T.length->bX T n p=.ok x q->a9 x/\x.length<=q)
 | 0=>⟨λ acc p x q _ _ _ h=>(by unfold cF at h;cases h),λ p x q _ h=>by unfold bX at h;cases h⟩
 |n+1=>by
  obtain ⟨hS,hK⟩:=yJ n;have hIK:=(su hT n).2;have hIS:=(su hT n).1;have hsnoc:∀ (acc:List SJ) (x:SJ),a9 acc->fX x->a9 (acc++[x]):=λ acc x h1 h2=>cM.2 λ y hy=>by
   rcases List.mem_append.1 hy with hy | hy
   ·exact cM.1 h1 y hy
   ·obtain rfl:=List.mem_singleton.1 hy;exact h2
  have hTl:=hG.1;refine ⟨λ acc p x q hp hl hx h=>?_,λ p x q hp h=>?_⟩
  ·unfold cF at h;split at h
   ·rename_i hs
    have h0:=hT.next hp (av hs);have g1:=ei hT n 1 (p+1) h0;cases hy:aP T n 1 (p+1) with
    | bad q=>rw [hy] at h;cases h
    |ok a r =>
     rw [hy] at h g1;simp only at h;split at h
     ·rename_i hs2
      have h9:=hT.next g1.2 (av hs2);have g2:=ei hT n 1 (r+1) h9;cases hz:aP T n 1 (r+1) with
      | bad q=>rw [hz] at h;cases h
      |ok b u =>
       rw [hz] at h g2;simp only at h;split at h
       ·rename_i hs3
        have g11:=g1.1;have g21:=g2.1;refine hS _ _ _ _ (hT.next g2.2 (av hs3)) (by simp;omega) (hsnoc _ _ hx ?_) h;unfold fX a9;exact ⟨by decide,by simp,gF hT hG h0 hy,gF hT hG h9 hz,by simp,by simp,trivial,trivial⟩
       ·cases h
     ·cases h
   split at h
   ·rename_i hs
    have h0:=hT.next hp (av hs);have g1:=ei hT n 1 (p+1) h0;cases hy:aP T n 1 (p+1) with
    | bad q=>rw [hy] at h;cases h
    |ok a r =>
     rw [hy] at h g1;simp only at h;have g11:=g1.1;have g2:=hIK r g1.2;cases hz:bX T n r with
     | bad q=>rw [hz] at h;cases h
     |ok body u =>
      rw [hz] at h g2;simp only at h;have g21:=g2.1;have k1:=hK _ _ _ g1.2 hz;split at h
      ·rename_i hs3
       have h9:=hT.next g2.2 (av hs3);have g3:=hIK (u+1) h9;cases hv:bX T n (u+1) with
       | bad q=>rw [hv] at h;cases h
       |ok els t =>
        rw [hv] at h g3;simp only at h;have g31:=g3.1;have k2:=hK _ _ _ h9 hv;refine hS _ _ _ _ g3.2 (by simp;omega) (hsnoc _ _ hx ?_) h;unfold fX;exact ⟨by decide,by simp,gF hT hG h0 hy,gv,by have:=g2.2;have:=k1.2;omega,by have:=g3.2;have:=k2.2;omega,k1.1,k2.1⟩
      ·refine hS _ _ _ _ g2.2 (by simp;omega) (hsnoc _ _ hx ?_) h;unfold fX;exact ⟨by decide,by simp,gF hT hG h0 hy,gv,by have:=g2.2;have:=k1.2;omega,by simp,k1.1,trivial⟩
   split at h
   ·rename_i hs
    have h0:=hT.next hp (av hs);split at h
    ·rename_i hk
     have h8:=hT.next h0 (by omega);split at h
     ·rename_i hs2
      have h9:=hT.next h8 (av hs2);have g1:=ei hT n 1 (p+3) h9;cases hy:aP T n 1 (p+3) with
      | bad q=>rw [hy] at h;cases h
      |ok a r =>
       rw [hy] at h g1;simp only at h;have g11:=g1.1;have g2:=hIK r g1.2;cases hz:bX T n r with
       | bad q=>rw [hz] at h;cases h
       |ok body u =>
        rw [hz] at h g2;simp only at h;have g21:=g2.1;have k1:=hK _ _ _ g1.2 hz;refine hS _ _ _ _ g2.2 (by simp;omega) (hsnoc _ _ hx ?_) h;unfold fX;have:=(hG.2 (p+1)).1;exact ⟨by decide,by omega,gF hT hG h9 hy,gv,by have:=g2.2;have:=k1.2;omega,by simp,k1.1,trivial⟩
     ·cases h
    ·cases h
   ·injection h with h1 h2;subst h1 h2;exact ⟨hx,hl⟩
  ·unfold bX at h;split at h
   ·rename_i hs
    have h0:=hT.next hp (av hs);cases hy:cF T n [] (p+1) with
    | bad q=>rw [hy] at h;cases h
    |ok l r =>
     rw [hy] at h;simp only at h;split at h
     ·injection h with h1 h2;subst h1 h2
      have:=hS [] (p+1) _ _ h0 (by simp) trivial hy;exact ⟨this.1,by omega⟩
     ·cases h
   ·cases h
end
theorem ng (l:List UInt8):∀ k a,(dW l k a).length<=k
 | 0,a=>by simp [dW]
 |k+1,a=>by
  unfold dW;split
  ·rw [List.length_cons];have:=ng l k (qsS l a).2.1.toNat;omega
  ·simp
theorem Bl (c:Nat):(af c).length<=4:=by
 unfold af
 repeat' split
 all_goals simp
theorem lp:∀ xs:List (Int × Int),(bY xs).length<=4*xs.length
 | []=>by simp [bY]
 |x::r=>by
  have h1:=Bl x.1.toNat;have h2:=lp r;unfold bY at h2 ⊢;rw [List.flatMap_cons,List.length_append,List.length_cons];omega
theorem sh (l:List UInt8) (a:Int):(cI l a).1.length<=4*l.length:=by
 unfold cI;split
 ·simp
 split
 ·simp
 split
 ·simp
 split
 ·show (bY (bw l (a.toNat+1))).length<=_
  have h1:=lp (bw l (a.toNat+1));have h2:=ng l (l.length-(a.toNat+1)) (a.toNat+1);unfold bw at h1 ⊢;omega
 ·simp
theorem r5 (l:List UInt8) (a:Int):(cg l a).2.2=0->iw (cg l a).1:=by
 unfold cg;split
 ·intro h;cases h
 ·cases ey l (cO a.toNat) with
  |mk st q =>
   cases q with
   | some p=>intro h;cases h
   |none =>
    simp only;unfold cu;split
    ·intro h;cases h
    ·rename_i h
     intro _;have h2:¬ ew st.minus<st.size:=λ h3=>h (by simp [h3])
     unfold ew at h2;unfold iw;simp only;cases hm:st.minus
     ·rw [hm] at h2;simp at h2 ⊢;omega
     ·rw [hm] at h2;simp at h2 ⊢;omega
theorem yd {l:List UInt8} {p:Nat} {k n:Int} {t:List UInt8} {m:Nat} (h:dz l p=.inl (k,t,n,m)):t.length<=4*l.length+2/\iw n:=by
 have tw:∀ (x:List UInt8) (q:Nat),((x.drop q).takeWhile dK).length<=x.length:=λ x q=>by
  have h1:=(List.takeWhile_sublist (p:=dK) (l:=x.drop q)).length_le;rw [List.length_drop] at h1;omega
 unfold dz at h;split at h
 ·split at h
  ·unfold gJ at h;have h1:=tw l p;simp only at h;split at h
   ·injection h with h;injection h with _ h;injection h with h2 h;injection h with h3 _
    subst h2 h3;exact ⟨by omega,by decide⟩
   split at h
   ·injection h with h;injection h with _ h;injection h with h2 h;injection h with h3 _
    subst h2 h3;exact ⟨by omega,by decide⟩
   ·cases h
  split at h
  ·unfold eo at h;simp only at h;split at h
   ·rename_i h0
    injection h with h;injection h with _ h;injection h with h2 h;injection h with h3 _
    subst h2 h3;refine ⟨?_,r5 l p h0⟩;rw [List.length_take,List.length_drop];omega
   ·cases h
  split at h
  ·unfold iL at h;simp only at h;split at h
   ·injection h with h;injection h with _ h;injection h with h2 h;injection h with h3 _
    subst h2 h3;have:=sh l p;exact ⟨by omega,by decide⟩
   ·cases h
  ·unfold gL at h;split at h
   ·rename_i s hs
    injection h with h;injection h with _ h;injection h with h2 h;injection h with h3 _
    subst h2 h3;have:∀ x ∈ cn,x.length<=2:=by decide
    have:=this _ (fQ hs).1;exact ⟨by omega,by decide⟩
   ·cases h
 ·cases h
theorem wu {l:List UInt8}:∀ (k p:Nat),∀ t ∈ (gK l k p).1,t.2.2.1.length<=4*l.length+2/\iw t.2.2.2
 | 0,_,t,h=>by simp [gK] at h
 |k+1,p,t,h=>by
  unfold gK at h;split at h
  ·cases hv:dz l (aM l p) with
   | inr e=>rw [hv] at h;simp at h
   |inl r =>
    obtain ⟨kd,s,n,m⟩:=r;rw [hv] at h;simp only at h;rcases List.mem_cons.1 h with rfl | h
    ·exact yd hv
    ·exact wu k m t h
  ·obtain rfl:=List.mem_singleton.1 h;exact ⟨by simp,by show iw 0;decide⟩
theorem oY {l:List UInt8}:∀ {k p:Nat} {e:Int × Int},(gK l k p).2=some e->e.2≠0
 | 0,_,_,h=>by cases h
 |k+1,p,e,h=>by
  unfold gK at h;split at h
  ·rename_i hq
   cases hv:dz l (aM l p) with
   | inr e'=>rw [hv] at h;simp only [Option.some.injEq] at h;subst h;exact o4 hq hv
   |inl r =>
    obtain ⟨kd,t,n,m⟩:=r;rw [hv] at h;exact oY h
  ·cases h
theorem vF {l:List UInt8} {T:List aq} {a:Int} (h:iK l=(T,a,0)):WT T/\TG T/\T≠[]:=by
 unfold iK at h;split at h
 ·injection h with _ h;injection h with _ h;cases h
 ·rename_i hl
  have hrun:(cJ l 0).2=none/\T=(cJ l 0).1∨∃ e,(cJ l 0).2=some e/\e.2=0:=by
   cases he:(cJ l 0).2 with
   | none=>rw [he] at h;injection h with h _;exact .inl ⟨rfl,h.symm⟩
   | some e=>rw [he] at h;injection h with _ h;injection h with _ h;exact .inr ⟨e,rfl,h⟩
  rcases hrun with ⟨h1,h2⟩ | ⟨e,h1,h2⟩
  ·obtain ⟨T',e,hw⟩:=wv (l.length+1-0) 0 (cJ l 0).1 (by rw [← h1];rfl) (by omega);rw [h2,e];refine ⟨WT.of hw,⟨?_,λ p=>?_⟩,by simp⟩
   ·rw [← e];have:=o5 l 0;omega
   ·rw [← e];unfold tkT tkN;cases hp:(cJ l 0).1[p]? with
    | none=>exact ⟨by simp,by decide⟩
    |some t =>
     have:=wu (l:=l) (l.length+1-0) 0 t (List.mem_of_getElem? hp);exact ⟨by have:=this.1;simp only;omega,this.2⟩
  ·exact absurd h2 (oY h1)
theorem uN.head {x:LX} {r r':List UInt8} (h:uN x r) (e:r'.head? = r.head?):uN x r' :=
 ⟨λ hk c hc=>h.1 hk c (e ▸ hc),λ hk c hc=>h.2.1 hk c (e ▸ hc),λ hk ht c hc=>h.2.2 hk ht c (e ▸ hc)⟩
def ChB:List (Nat × LX)->Prop
 | []=>True
 | [x]=>jq x.2
 | x::y::r=>jq x.2/\(y.1=0->nL (aF x.2) (aF y.2)=false/\(x.2.1=5->x.2.2.1=[60]->(aF y.2).headD 0≠61))/\ChB (y::r)
theorem ChB.head {x:Nat × LX} {r:List (Nat × LX)} (h:ChB (x::r)):jq x.2:=by
 cases r with
 | nil=>exact h
 | cons y r=>exact h.1
theorem ChB.tail {x:Nat × LX} {r:List (Nat × LX)} (h:ChB (x::r)):ChB r:=by
 cases r with
 | nil=>trivial
 | cons y r=>exact h.2.2
theorem ChB.app:∀ {a b:List (Nat × LX)},ChB a->ChB b->(∀ y,b.head? = some y->y.1≠0)->ChB (a++b)
 | [],b,_,hb,_=>hb
 | [x],[],hx,_,_=>hx
 | [x],y::r,hx,hb,h=>⟨hx,λ e=>absurd e (h y rfl),hb⟩
 | x::z::r,b,ha,hb,h=>⟨ha.1,ha.2.1,ChB.app (a:=z::r) ha.2.2 hb h⟩
theorem Ad:(dU [101,109,105,116,32,49,44,32,50]).2=(9,330):=by kernel_rfl
theorem Ag:(dU [101,109,105,116,32,97,32,60,32,98,32,60,32,99,44,32,49,59]).2=(11,330):=by kernel_rfl
def jo:List UInt8:=[105,102,32,110,111,116,32,40,97,32,61,61,32,49,41,32,97,110,100,32,40,98,32,111,114,32,99,41,32,123,32,101,109,105,116,32,40,49,41,46,120,44,32,48,59,32,125,32,101,108,115,101,32,123,32,125]
theorem Bh:(dU jo).2=(0,0):=by kernel_rfl
theorem yp:fB (dU jo).1=[105,102,32,110,111,116,32,97,61,61,49,32,97,110,100,40,98,32,111,114,32,99,41,123,101,109,105,116,32,49,32,46,120,44,48,59,125]:=by kernel_rfl
theorem Af:ie (dU jo).1=true:=by kernel_rfl
theorem wN:(match (dU jo).1 with | [.mk k _ _ _ body _]=>decide (k=2/\body.length=1) | _=>false)=true:=by kernel_rfl
end
section
open Go.RowKit
attribute [local go_sem] aa ac ae ab
def cY (x:Nat) (base:List UInt8):Nat->List UInt8
 | 0=>base
 | c+1=>if aG c=some x/\c≠47 then [92,UInt8.ofNat c] else cY x base c
theorem mR {x:Nat} {base:List UInt8}:∀ {c:Nat},(∀ k,k<c->¬ (aG k=some x/\k≠47))->cY x base c=base
 | 0,_=>rfl
 | c+1,h=>by rw [cY,if_neg (h c (Nat.lt_succ_self c)),mR (λ k hk=>h k (by omega))]
theorem jy {k x:Nat} (h:aG k=some x) (hk:k≠47):ms x=some k:=by
 unfold aG at h
 repeat' split at h
 all_goals first
  | (simp only [Option.some.injEq] at h;subst h;subst_vars;first | rfl | exact absurd rfl hk)
  | cases h
theorem oC {x s:Nat} {base:List UInt8} (hs:aG s=some x/\s≠47):∀ {c:Nat},s<c->cY x base c=[92,UInt8.ofNat s]
 | 0,h=>by omega
 |c+1,h=>by
  rw [cY];by_cases hc:aG c=some x/\c≠47
  ·rw [if_pos hc];have h1:=jy hc.1 hc.2;have h2:=jy hs.1 hs.2;rw [h1] at h2;rw [Option.some.inj h2]
  ·rw [if_neg hc];refine oC hs ?_;rcases Nat.lt_or_ge s c with h3 | h3
   ·exact h3
   ·exact absurd (by rw [show c=s by omega];exact hs) hc
theorem ug (x:Nat):cY x (if x<32 then [92,117,48,48,UInt8.ofNat (48+x / 16),UInt8.ofNat (mx (x % 16))] else af x) 128=aE x:=by
 unfold aE;cases he:ms x with
 |some s =>
  have h:=rK he;rw [oC (s:=s) ⟨h.2.1,by omega⟩ (by omega)]
 |none =>
  rw [mR];intro k _ ⟨h1,h2⟩;rw [jy h1 h2] at he;cases he
theorem vw (k:Nat) (h:k<(⟨#[48,49,50,51,52,53,54,55,56,57,97,98,99,100,101,102]⟩:ByteArray).size):(⟨#[48,49,50,51,52,53,54,55,56,57,97,98,99,100,101,102]⟩:ByteArray)[k]=UInt8.ofNat (mx k):=by
 have key:∀ k:Fin 16,(⟨#[48,49,50,51,52,53,54,55,56,57,97,98,99,100,101,102]⟩:ByteArray)[k.1]=UInt8.ofNat (mx k.1):=by decide
 exact key ⟨k,h⟩
theorem xG {cs:List Nat} (h:0<cs.length):nM cs≠[]:=by
 intro e;have:=congrArg List.length e;simp only [nM,List.length_map,List.length_nil] at this;omega
def pd (w:World) (l:List UInt8) (v:Value) (W:World):Prop:=W.ownsRow w.heap.size 5 1 v l.length (ak l)/\Below w.heap.size w W
theorem pd.bel {w W W':World} {l:List UInt8} {v:Value} (h:pd w l v W) (hb:Below W.heap.size W W'):pd w l v W':=⟨kL h.1 hb,h.2.trans (hb.mono h.2.size)⟩
theorem xR (A:Option Addr) (n cap:Nat) (cs:List Nat) (w:World) (hn:cs.length=n) (hcap:n<=cap) (hr:Rd w A (nM cs)) (hcp:∀ c ∈ cs,fZ (c:Int)=true) (hn8:n<=4194304) :
  Calls Tryz.prog 166 #[.slice A n cap] w (lS (34::cs.flatMap aE++[34]) w):=by
 obtain ⟨i0,hi,hz0,hz1,hz2⟩:=info_parts mA;have HI:=aW hi;have HN:=aW hn;have HR:=aW hr;have HCP:=aW hcp;have HB0:=aW (show pd w [34] (.slice (some ⟨w.heap.size,0,none⟩) 1 1) (w.alloc (.cells #[.int .u8 34] 5)) from
  ⟨⟨rfl,.inr ⟨w.heap.size,1,_,rfl,Nat.le_refl _,Blk.new w 5 #[.int .u8 34],Nat.le_refl _,by decide,rfl,rfl⟩⟩,(Below.refl _ w).alloc (Nat.le_refl _) _⟩)
 clear hi hn hr hcp;go_enter Tryz.func166,Tryz.ntmps166;go_wp2;go_loopg [3,5,6,7] n (λ gk s3 s5 s6 s7 wr => ∃ (i:Nat),gk=n-i/\i<=n/\s5=.int .i64 i/\Hid (pd w (34::(cs.take i).flatMap aE) s3 wr))
 case atStart=>exact ⟨0,rfl,Nat.zero_le _,by go_num,HB0⟩
 case round =>
  obtain ⟨i,hgk,hi,rfl,HX⟩:=hrel;have HG:=aW hgk;clear hgk HB0;by_cases hlt:i<n
  ·obtain ⟨x,hx⟩:∃ x,cs[i]? = some x:=⟨_,List.getElem?_eq_getElem (by rw [HN.out];exact hlt)⟩
   have hcx:=HCP.out x (List.mem_of_getElem? hx);have hle:=(fv x).1 hcx;obtain ⟨b,oo,rfl,hb,hrc⟩:=HR.out (xG (by rw [HN.out];omega));have hbr:b<wr.heap.size:=Nat.lt_of_lt_of_le hb HX.out.2.size;have hcell0:w.cell? ⟨b,oo+i,none⟩=some (.int .i64 (x:Int)):=by
    rw [hrc i (by simp [nM,HN.out];exact hlt)];have:=(List.getElem?_eq_some_iff.1 hx).2;simp [nM,this]
   have HCL:=aW (λ (W:World) (h:Below w.heap.size w W)=>(h.cell (p:=⟨b,oo+i,none⟩) hb).trans hcell0);have htk:(cs.take (i+1)).flatMap aE=(cs.take i).flatMap aE++aE x:=by rw [List.take_add_one,hx];simp
   have hbd:(34::(cs.take i).flatMap aE).length+6<=140737488355328:=by
    have h:=mX (cs.take i);have h2:(cs.take i).length<=n:=by rw [List.length_take];omega
    rw [List.length_cons];omega
   obtain ⟨L,hL⟩:∃ L,34::(cs.take i).flatMap aE=L:=⟨_,rfl⟩
   rw [hL] at HX hbd;have HND:=aW (show 34::(cs.take (i+1)).flatMap aE=L++aE x by rw [htk,← hL];rfl);have HBD:=aW hbd;have HOA:=aW (ug x);have HQL:=aW (oG x);obtain ⟨xi,hxi⟩:∃ xi:Int,(x:Int)=xi:=⟨_,rfl⟩
   have HBY:=aW (λ W=>mZ (x:Int) W (by omega) (by omega));rw [Int.toNat_natCast] at HBY;rw [hxi] at HCL HBY;have hx0:0<=xi:=by omega
   have hx1:xi<=9223372036854775807:=by omega
   have HXI:=aW hxi;obtain ⟨A3,n3,c3,rfl⟩:∃ A n c,u3=.slice A n c:=by
    obtain ⟨a,c,e,_⟩:=Rd.of_own HX.out.1;exact ⟨_,_,_,e⟩
   have hcell:=HCL.out wr HX.out.2;clear hcx hle hrc hcell0 htk hbd hL hxi hx;go_wp2_with fail;refine (HBY.out _).mono ?_;rintro e w3 ⟨v6,rfl,hv6,hb3⟩;have HX3:=aW (HX.out.bel hb3);have HV6:=aW hv6;obtain ⟨A6,c6,rfl,_⟩:=hv6;have hcell3:=HCL.out w3 HX3.out.2;have hbr3:b<w3.heap.size:=Nat.lt_of_lt_of_le hb HX3.out.2.size;clear hb3 hcell hbr;by_cases h32:xi<32
   ·have hx32:x<32:=by have:=HXI.out;omega
    have HXN:=aW (show xi.toNat=x by have:=HXI.out;omega);obtain ⟨base,hbase⟩:∃ base,base=[92,117,48,48,UInt8.ofNat (48+x / 16),UInt8.ofNat (mx (x % 16))]:=⟨_,rfl⟩
    have HBA0:=aW hbase;have HOAB:=aW (show cY x base 128=aE x by have h:=HOA.out;rw [if_pos hx32,← hbase] at h;exact h);clear hbase;have hq0:0<=xi / 16:=by omega
    have hq1:xi / 16<16:=by omega
    have hm0:0<=xi % 16:=by omega
    have hm1:xi % 16<16:=by omega
    go_wp2
    go_region
    go_wp2;have HLB:=aW (λ (h1:(xi / 16).toNat<(⟨#[48,49,50,51,52,53,54,55,56,57,97,98,99,100,101,102]⟩:ByteArray).size) (h2:(xi % 16).toNat<(⟨#[48,49,50,51,52,53,54,55,56,57,97,98,99,100,101,102]⟩:ByteArray).size) =>
     show (#[.int .u8 92,.int .u8 117,.int .u8 48,.int .u8 48,.int .u8 ((⟨#[48,49,50,51,52,53,54,55,56,57,97,98,99,100,101,102]⟩:ByteArray)[(xi / 16).toNat].toNat),.int .u8 ((⟨#[48,49,50,51,52,53,54,55,56,57,97,98,99,100,101,102]⟩:ByteArray)[(xi % 16).toNat].toNat)]:Array Value)=(ak base).toArray by
      have e1:(xi / 16).toNat=x / 16:=by have:=HXI.out;omega
      have e2:(xi % 16).toNat=x % 16:=by have:=HXI.out;omega
      rw [vw,vw,e1,e2,HBA0.out];have e3:mx (x / 16)=48+x / 16:=by unfold mx;rw [if_pos (by omega)]
      rw [e3];rfl)
    clear hcell3 hbr3 hx32;go_loopg [6,7] 128 (λ gk s6 s7 wx => ∃ c:Nat,gk=128-c/\c<=128/\s7=.int .u8 c/\Hid (BS wx s6 (cY x base c))/\Hid (pd w L (.slice A3 n3 c3) wx))
    case atStart=>exact ⟨0,rfl,by omega,rfl,aW (BS.lit w3 base _ (HLB.out _ _) 6 (by rw [HBA0.out];rfl)),aW (HX3.out.bel (((Below.refl _ w3).alloc (Nat.le_refl _) _).drew))⟩
    case round =>
     obtain ⟨c,hgk2,hc128,rfl,HBS,HX7⟩:=hrel;have HG2:=aW hgk2;clear hgk2;by_cases hc:c<128
     ·have hu:(UInt8.ofNat c).toNat=c:=oN8 c (by omega);obtain ⟨r,hr9⟩:∃ r,uf (aG c)=r:=⟨_,rfl⟩
      have HLT:=aW (λ W=>show Calls Tryz.prog 191 #[.int .u8 (c:Int)] W (λ e w'=>e=.returned (.int .i64 r)/\Below W.heap.size W w') by
       have h:=j5 (UInt8.ofNat c) W;rw [hu,hr9] at h;exact h)
      have hcell7:=HCL.out wr HX7.out.2;have hbr7:b<wr.heap.size:=Nat.lt_of_lt_of_le hb HX7.out.2.size;have HCX:=aW (λ (W:World) (h:Below wr.heap.size wr W)=>HCL.out W (HX7.out.bel h).2);have HBX:=aW (λ (W:World) (h:Below wr.heap.size wr W)=>Nat.lt_of_lt_of_le hbr7 h.size);have HRX:=aW hr9;clear hu hr9;by_cases hit:aG c=some x
      ·have hrx:r=xi:=by rw [← HRX.out,hit,← HXI.out];rfl
       subst hrx;by_cases h47:c=47
       ·have HOT:=aW (show cY x base (c+1)=cY x base c by rw [cY,if_neg (λ h=>h.2 h47)]);subst h47;clear hit;go_wp2
        first | (go_region_with (go_at_call 191;refine (HLT.out _).mono ?_;rintro e w5 ⟨rfl,hb5⟩;have hd5:Below wr.heap.size wr w5:=(Below.refl wr.heap.size wr).drew.trans hb5;have hc5:=HCX.out w5 hd5;have hl5:=HBX.out w5 hd5)) | fail "no way"
        all_goals
         have HXA:=aW (HX7.out.bel hd5);have HBA:=aW (HBS.out.below hd5);clear hb5 hd5 hc5 hl5 hcell7 hbr7;go_wp2;go_roundg (128-(47+1))
         case measure=>rw [HG2.out];omega
         case rel=>exact ⟨47+1,rfl,by omega,by go_num,aW (by rw [HOT.out];exact HBA.out),HXA⟩
       ·have HOT:=aW (show cY x base (c+1)=[92,UInt8.ofNat c] by rw [cY,if_pos ⟨hit,h47⟩]);have h47':((c:Int) != 47)=true:=by simp;omega
        have HU8:=aW (oN8 c (by omega));clear hit;go_wp2
        first | (go_region_with (go_at_call 191;refine (HLT.out _).mono ?_;rintro e w5 ⟨rfl,hb5⟩;have hd5:Below wr.heap.size wr w5:=(Below.refl wr.heap.size wr).drew.trans hb5;have hc5:=HCX.out w5 hd5;have hl5:=HBX.out w5 hd5)) | fail "no way"
        all_goals
         have HXA:=aW (HX7.out.bel hd5);clear hb5 hd5 hc5 hl5 hcell7 hbr7;go_wp2;go_roundg (128-(c+1))
         case measure=>rw [HG2.out];omega
         case rel=>exact ⟨c+1,rfl,by omega,by go_num,aW (by rw [HOT.out];exact BS.lit _ _ _ (by simp only [ak,List.map_cons,List.map_nil,HU8.out];rfl) 2 rfl),aW (HXA.out.bel ((Below.refl _ _).alloc (Nat.le_refl _) _))⟩
      ·have hrx:r≠xi:=by
        rw [← HRX.out];intro e;cases hl:aG c with
        | none=>rw [hl] at e;have:(-1:Int)=xi:=e;omega
        | some y=>rw [hl] at e;have:(y:Int)=xi:=e;rw [← HXI.out] at this;exact hit (by rw [hl];congr 1;omega)
       have hrb:(r == xi)=false:=by simp [hrx]
       have HOT:=aW (show cY x base (c+1)=cY x base c by rw [cY,if_neg (λ h=>hit h.1)]);clear hit hrx;go_wp2
       first | (go_region_with (go_at_call 191;refine (HLT.out _).mono ?_;rintro e w5 ⟨rfl,hb5⟩;have hd5:Below wr.heap.size wr w5:=(Below.refl wr.heap.size wr).drew.trans hb5;have hc5:=HCX.out w5 hd5;have hl5:=HBX.out w5 hd5)) | fail "no way"
       all_goals
        have HXA:=aW (HX7.out.bel hd5);have HBA:=aW (HBS.out.below hd5);clear hb5 hd5 hc5 hl5 hcell7 hbr7;go_wp2;go_roundg (128-(c+1))
        case measure=>rw [HG2.out];omega
        case rel=>exact ⟨c+1,rfl,by omega,by go_num,aW (by rw [HOT.out];exact HBA.out),HXA⟩
     ·obtain rfl:c=128:=by omega
      rw [HOAB.out] at HBS;obtain ⟨A9,c9,rfl,hc9,hr9⟩:=HBS.out;have HR9:=aW hr9;have HA9:=aW (show A9=none->(aE x).length=0 from λ e=>by
       rcases Nat.eq_zero_or_pos (aE x).length with h | h
       ·exact h
       ·obtain ⟨_,_,e',_⟩:=Rd.some_ hr9 h;rw [e] at e';cases e')
      obtain ⟨q9,hq9⟩:∃ q9,(aE x).length=q9:=⟨_,rfl⟩
      have HQ9:=aW hq9;rw [hq9] at HA9 ⊢;clear hq9 hc9 hr9 hc;have hBw:=HX7.out.2.size;go_wp2_with (at_builtin;refine aT _ rfl _ _ 67 rfl w.heap.size 5 i0 _ 1 1 Tryz.underlying67 HI.out hz0 hz1 hz2 rfl (by decide) _ _ _ rfl HX7.out.1 A9 q9 c9 HA9.out (ak (aE x)) rfl (by rw [aC,Nat.mul_one];exact HQ9.out) HR9.out (gu _) (by have h1:=HBD.out;have h2:=HQL.out;have h3:=HQ9.out;unfold maxLen;omega) (by have h1:=HBD.out;have h2:=HQL.out;have h3:=HQ9.out;omega) hBw ?_;intro v' w8 hown' hgr _);have HY:=aW (show pd w (L++aE x) v' w8 from ⟨by rw [List.length_append,HQ9.out,ep];exact hown',HX7.out.2.grown hgr hBw (λ k e=>(HX7.out.1.lt k e).1)⟩);clear hown' hgr;go_roundg (n-(i+1))
      case measure=>rw [HG.out];omega
      case rel=>exact ⟨i+1,rfl,hlt,by go_num,aW (by rw [HND.out];exact HY.out)⟩
   ·have hx32:¬ x<32:=by have:=HXI.out;omega
    obtain ⟨base,hbase⟩:∃ base,base=af x:=⟨_,rfl⟩
    have HOAB:=aW (show cY x base 128=aE x by have h:=HOA.out;rw [if_neg hx32,← hbase] at h;exact h);have HVB:=aW (show BS w3 (.slice A6 (af x).length c6) base by rw [hbase];exact HV6.out);go_wp2;clear hcell3 hbr3 hx32 hbase;go_loopg [6,7] 128 (λ gk s6 s7 wx => ∃ c:Nat,gk=128-c/\c<=128/\s7=.int .u8 c/\Hid (BS wx s6 (cY x base c))/\Hid (pd w L (.slice A3 n3 c3) wx))
    case atStart=>exact ⟨0,rfl,by omega,rfl,aW (HVB.out),aW (HX3.out)⟩
    case round =>
     obtain ⟨c,hgk2,hc128,rfl,HBS,HX7⟩:=hrel;have HG2:=aW hgk2;clear hgk2;by_cases hc:c<128
     ·have hu:(UInt8.ofNat c).toNat=c:=oN8 c (by omega);obtain ⟨r,hr9⟩:∃ r,uf (aG c)=r:=⟨_,rfl⟩
      have HLT:=aW (λ W=>show Calls Tryz.prog 191 #[.int .u8 (c:Int)] W (λ e w'=>e=.returned (.int .i64 r)/\Below W.heap.size W w') by
       have h:=j5 (UInt8.ofNat c) W;rw [hu,hr9] at h;exact h)
      have hcell7:=HCL.out wr HX7.out.2;have hbr7:b<wr.heap.size:=Nat.lt_of_lt_of_le hb HX7.out.2.size;have HCX:=aW (λ (W:World) (h:Below wr.heap.size wr W)=>HCL.out W (HX7.out.bel h).2);have HBX:=aW (λ (W:World) (h:Below wr.heap.size wr W)=>Nat.lt_of_lt_of_le hbr7 h.size);have HRX:=aW hr9;clear hu hr9;by_cases hit:aG c=some x
      ·have hrx:r=xi:=by rw [← HRX.out,hit,← HXI.out];rfl
       subst hrx;by_cases h47:c=47
       ·have HOT:=aW (show cY x base (c+1)=cY x base c by rw [cY,if_neg (λ h=>h.2 h47)]);subst h47;clear hit;go_wp2
        first | (go_region_with (go_at_call 191;refine (HLT.out _).mono ?_;rintro e w5 ⟨rfl,hb5⟩;have hd5:Below wr.heap.size wr w5:=(Below.refl wr.heap.size wr).drew.trans hb5;have hc5:=HCX.out w5 hd5;have hl5:=HBX.out w5 hd5)) | fail "no way"
        all_goals
         have HXA:=aW (HX7.out.bel hd5);have HBA:=aW (HBS.out.below hd5);clear hb5 hd5 hc5 hl5 hcell7 hbr7;go_wp2;go_roundg (128-(47+1))
         case measure=>rw [HG2.out];omega
         case rel=>exact ⟨47+1,rfl,by omega,by go_num,aW (by rw [HOT.out];exact HBA.out),HXA⟩
       ·have HOT:=aW (show cY x base (c+1)=[92,UInt8.ofNat c] by rw [cY,if_pos ⟨hit,h47⟩]);have h47':((c:Int) != 47)=true:=by simp;omega
        have HU8:=aW (oN8 c (by omega));clear hit;go_wp2
        first | (go_region_with (go_at_call 191;refine (HLT.out _).mono ?_;rintro e w5 ⟨rfl,hb5⟩;have hd5:Below wr.heap.size wr w5:=(Below.refl wr.heap.size wr).drew.trans hb5;have hc5:=HCX.out w5 hd5;have hl5:=HBX.out w5 hd5)) | fail "no way"
        all_goals
         have HXA:=aW (HX7.out.bel hd5);clear hb5 hd5 hc5 hl5 hcell7 hbr7;go_wp2;go_roundg (128-(c+1))
         case measure=>rw [HG2.out];omega
         case rel=>exact ⟨c+1,rfl,by omega,by go_num,aW (by rw [HOT.out];exact BS.lit _ _ _ (by simp only [ak,List.map_cons,List.map_nil,HU8.out];rfl) 2 rfl),aW (HXA.out.bel ((Below.refl _ _).alloc (Nat.le_refl _) _))⟩
      ·have hrx:r≠xi:=by
        rw [← HRX.out];intro e;cases hl:aG c with
        | none=>rw [hl] at e;have:(-1:Int)=xi:=e;omega
        | some y=>rw [hl] at e;have:(y:Int)=xi:=e;rw [← HXI.out] at this;exact hit (by rw [hl];congr 1;omega)
       have hrb:(r == xi)=false:=by simp [hrx]
       have HOT:=aW (show cY x base (c+1)=cY x base c by rw [cY,if_neg (λ h=>hit h.1)]);clear hit hrx;go_wp2
       first | (go_region_with (go_at_call 191;refine (HLT.out _).mono ?_;rintro e w5 ⟨rfl,hb5⟩;have hd5:Below wr.heap.size wr w5:=(Below.refl wr.heap.size wr).drew.trans hb5;have hc5:=HCX.out w5 hd5;have hl5:=HBX.out w5 hd5)) | fail "no way"
       all_goals
        have HXA:=aW (HX7.out.bel hd5);have HBA:=aW (HBS.out.below hd5);clear hb5 hd5 hc5 hl5 hcell7 hbr7;go_wp2;go_roundg (128-(c+1))
        case measure=>rw [HG2.out];omega
        case rel=>exact ⟨c+1,rfl,by omega,by go_num,aW (by rw [HOT.out];exact HBA.out),HXA⟩
     ·obtain rfl:c=128:=by omega
      rw [HOAB.out] at HBS;obtain ⟨A9,c9,rfl,hc9,hr9⟩:=HBS.out;have HR9:=aW hr9;have HA9:=aW (show A9=none->(aE x).length=0 from λ e=>by
       rcases Nat.eq_zero_or_pos (aE x).length with h | h
       ·exact h
       ·obtain ⟨_,_,e',_⟩:=Rd.some_ hr9 h;rw [e] at e';cases e')
      obtain ⟨q9,hq9⟩:∃ q9,(aE x).length=q9:=⟨_,rfl⟩
      have HQ9:=aW hq9;rw [hq9] at HA9 ⊢;clear hq9 hc9 hr9 hc;have hBw:=HX7.out.2.size;go_wp2_with (at_builtin;refine aT _ rfl _ _ 67 rfl w.heap.size 5 i0 _ 1 1 Tryz.underlying67 HI.out hz0 hz1 hz2 rfl (by decide) _ _ _ rfl HX7.out.1 A9 q9 c9 HA9.out (ak (aE x)) rfl (by rw [aC,Nat.mul_one];exact HQ9.out) HR9.out (gu _) (by have h1:=HBD.out;have h2:=HQL.out;have h3:=HQ9.out;unfold maxLen;omega) (by have h1:=HBD.out;have h2:=HQL.out;have h3:=HQ9.out;omega) hBw ?_;intro v' w8 hown' hgr _);have HY:=aW (show pd w (L++aE x) v' w8 from ⟨by rw [List.length_append,HQ9.out,ep];exact hown',HX7.out.2.grown hgr hBw (λ k e=>(HX7.out.1.lt k e).1)⟩);clear hown' hgr;go_roundg (n-(i+1))
      case measure=>rw [HG.out];omega
      case rel=>exact ⟨i+1,rfl,hlt,by go_num,aW (by rw [HND.out];exact HY.out)⟩
  ·obtain rfl:i=n:=by omega
   have htk:cs.take i=cs:=List.take_of_length_le (by rw [HN.out];exact Nat.le_refl _);rw [htk] at HX;have hbd:(34::cs.flatMap aE).length+1<=140737488355328:=by
    have h:=mX cs;have h2:=HN.out;rw [List.length_cons];omega
   obtain ⟨L,hL⟩:∃ L,34::cs.flatMap aE=L:=⟨_,rfl⟩
   have HL:=aW hL;rw [hL] at HX hbd;have HBD:=aW hbd;clear hbd hL htk hlt;have hB1:=HX.out.2.size;obtain ⟨A3,n3,c3,rfl⟩:∃ A n c,u3=.slice A n c:=by
    obtain ⟨a,c,e,_⟩:=Rd.of_own HX.out.1;exact ⟨_,_,_,e⟩
   have HO1:=aW ((HX.out.bel ((Below.refl _ wr).alloc (Nat.le_refl _) (.cells #[.int .u8 34] 5))).1);have HO2:=aW ((Below.refl wr.heap.size wr).alloc (Nat.le_refl _) (.cells #[.int .u8 34] 5));have HBS:=aW (BS.lit wr [34] #[.int .u8 34] (by rfl) 1 (by rfl));have hB2:w.heap.size<=(wr.alloc (.cells #[.int .u8 34] 5)).heap.size:=Nat.le_trans hB1 HO2.out.size;have HRD:=aW (show Rd (wr.alloc (.cells #[.int .u8 34] 5)) (some ⟨wr.heap.size,0,none⟩) (ak [34]) by
    obtain ⟨A,c,e,_,h⟩:=HBS.out;cases e;exact h)
   go_wp2_with (at_builtin;refine aT _ rfl _ _ 67 rfl w.heap.size 5 i0 _ 1 1 Tryz.underlying67 HI.out hz0 hz1 hz2 rfl (by decide) _ _ _ rfl HO1.out (some ⟨wr.heap.size,0,none⟩) 1 1 (λ h=>nomatch h) (ak [34]) rfl rfl HRD.out (gu _) (by have h1:=HBD.out;unfold maxLen;omega) (by have h1:=HBD.out;omega) hB2 ?_;intro v' w8 hown' hgr _);have HBL:=aW (HX.out.2.trans (HO2.out.mono hB1));have hbel:=HBL.out.grown hgr hB2 (λ k e=>(HO1.out.lt k e).1);have hown2:w8.ownsRow w.heap.size 5 1 v' (L++[34]).length (ak (L++[34])):=by rw [ep,List.length_append];exact hown'
   obtain ⟨a5,c5,rfl,hc5,hr5⟩:=Rd.of_own hown2;have hcv:=BS.conv (show BS w8 (.slice a5 (L++[34]).length c5) (L++[34]) from ⟨_,_,rfl,hc5,hr5⟩);obtain ⟨n5,hn5⟩:∃ n5,(L++[34]).length=n5:=⟨_,rfl⟩
   rw [hn5] at hcv ⊢;clear hn5 hc5 hown' hown2 hr5;go_wp2;rw [hcv];go_wp2
   first | go_ret | (rw [Exit.noGoto_ret];go_ret2) | skip
   exact ⟨by rw [← HL.out];rfl,hbel⟩
end
end Go.Proofs.YtgmnmnnoahdjnaaGreatDoor
