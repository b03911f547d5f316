import Derived.Test.YtgmnmnnoahdjnaaGreatDoorY24
open Go.Value renaming int → Zi, slice → Zs, string → Zt, pointer → Zp
open Go.IntKind renaming i64 → Zq
set_option maxRecDepth 100000
set_option maxHeartbeats 16000000
set_option linter.unusedVariables false
set_option linter.unusedSimpArgs false
namespace Go.Proofs.YtgmnmnnoahdjnaaGreatDoor
section
def TG (T:List ap):Prop:=T.length<=1000/\∀ p,(tkT T p).length<=4000/\iw (tkN T p)
instance decIw (n:Int):Decidable (iw n):=by unfold iw;exact inferInstance
theorem wl {n:Int} (h:iw n):dc (lQ n):=dc.of (by unfold lQ inJ inL;exact ⟨by decide,h,trivial⟩) (by unfold lQ fE ic ga;simp)
theorem wn {s:List UInt8} (h:s.length<=4000):dc (je s):=dc.of (by unfold je inJ inL;exact ⟨by decide,by decide,trivial⟩) (by unfold je fE ic ga;omega)
theorem wm:dc (.mk 1 0 [] [] []):=dc.of (by unfold inJ inL;exact ⟨by decide,by decide,trivial⟩) (by unfold fE ic ga;simp)
theorem py (b:Bool):dc (eY b):=dc.of (by unfold eY inJ inL;cases b<;>exact ⟨by decide,by decide,trivial⟩) (by unfold eY fE ic ga;simp)
theorem jD:dc cS:=dc.of (by unfold cS inJ inL;exact ⟨by decide,by decide,trivial⟩) (by unfold cS fE ic ga;simp)
theorem jC {v:JV} (h:dc v):cj (dF v):=by unfold dF cj kE;exact ⟨by decide,h,by simp,by simp,trivial⟩
theorem gj:cj aR:=by unfold aR cj kE;exact ⟨by decide,jD,by simp,by simp,trivial⟩
theorem oI {k:Int} {l:List EJ} (hk:iw k) (hl:l.length<=1000) (h:∀ x ∈ l,cj x):cj (eOp k l):=by
 unfold eOp cj;exact ⟨hk,jD,by simp,by omega,bU.2 h⟩
theorem nM {T:List ap} {p:Nat}:∀ {l:List (List UInt8 × Int)} {k:Int},fs T p l=some k->∃ x ∈ l,x.2=k/\al T p x.1=true
 | [],k,h=>by cases h
 |x::r,k,h=>by
  unfold fs at h;split at h
  ·rename_i hs;injection h with h;exact ⟨x,List.mem_cons_self,h,hs⟩
  ·obtain ⟨y,hy,h1⟩:=nM h;exact ⟨y,List.mem_cons_of_mem _ hy,h1⟩
theorem gC {T:List ap} {lvl p:Nat} {k:Int} (h:eo T lvl p=some k):5<=k/\k<=15:=by
 obtain ⟨x,hx,rfl,_⟩:=nM h;have:∀ lvl,∀ x ∈ eZ lvl,5<=x.2/\x.2<=15:=by
  intro lvl
  match lvl with
  | 0=>simp [eZ]
  | 1=>decide
  | 2=>decide
  | 3=>decide
  | 4=>decide
  | 5=>decide
  | 6=>decide
  | 7=>decide
  | n+8=>simp [eZ]
 exact this lvl x hx
theorem sf {k:Int} (h:5<=k/\k<=15):iw k:=by unfold iw;omega
section
variable {T:List ap} (hT:WT T) (hG:TG T)
include hT hG
theorem xF:∀ (n:Nat),(∀ lvl p x q,p<T.length->aS T n lvl p=.ok x q->cj x)/\(∀ lvl x p y q,p<T.length->cj x->js T n lvl x p=.ok y q->cj y)/\(∀ x p y q,p<T.length->cj x->fx T n x p=.ok y q->cj y) /\
  (∀ p x q,p<T.length->dr T n p=.ok x q->cj x)/\(∀ acc p x q,p<T.length->acc.length<=p->(∀ y ∈ acc,cj y)->fv T n acc p=.ok x q->cj x)
 | 0=>⟨λ lvl p x q _ h=>(by unfold aS at h;cases h),λ lvl x p y q _ _ h=>(by unfold js at h;cases h),λ x p y q _ _ h=>(by unfold fx at h;cases h),λ p x q _ h=>(by unfold dr at h;cases h),λ acc p x q _ _ _ h=>by unfold fv at h;cases h⟩
 |n+1=>by
  obtain ⟨hE,hB,hP,hA,hL⟩:=xF n;have hI:=λ lvl p (hp:p<T.length)=>(mW hT n).1 lvl p hp
  have hIA:=λ p (hp:p<T.length)=>(mW hT n).2.2.2.1 p hp
  refine ⟨λ lvl p x q hp h=>?_,λ lvl x p y q hp hx h=>?_,λ x p y q hp hx h=>?_,λ p x q hp h=>?_,λ acc p x q hp hl hx h=>?_⟩
  ·unfold aS at h;split at h
   ·cases ho:eo T lvl p with
    | none=>rw [ho] at h;exact hE _ _ _ _ hp h
    |some k =>
     rw [ho] at h;simp only at h;have h0:=hT.next hp (fu ho);cases hx:aS T n lvl (p+1) with
     | bad q=>rw [hx] at h;cases h
     |ok y r =>
      rw [hx] at h;injection h with h1 h2
      subst h1;exact oI (sf (gC ho)) (by simp) (by simpa using hE _ _ _ _ h0 hx)
   ·split at h
    ·cases hx:dr T n p with
     | bad q=>rw [hx] at h;cases h
     |ok y r =>
      rw [hx] at h;have h1:=hIA p hp;rw [hx] at h1;exact hP _ _ _ _ h1.2 (hA _ _ _ hp hx) h
    ·cases hx:aS T n (lvl+1) p with
     | bad q=>rw [hx] at h;cases h
     |ok y r =>
      rw [hx] at h;have h1:=hI (lvl+1) p hp;rw [hx] at h1;exact hB _ _ _ _ _ h1.2 (hE _ _ _ _ hp hx) h
  ·unfold js at h;cases ho:eo T lvl p with
   | none=>rw [ho] at h;injection h with h1;subst h1;exact hx
   |some k =>
    rw [ho] at h;simp only at h;have h0:=hT.next hp (fu ho);cases hy:aS T n (lvl+1) (p+1) with
    | bad q=>rw [hy] at h;cases h
    |ok z r =>
     rw [hy] at h;have h1:=hI (lvl+1) (p+1) h0;rw [hy] at h1;have hc:cj (eOp k [x,z]):=oI (sf (gC ho)) (by simp) (by intro u hu;rcases List.mem_cons.1 hu with rfl | hu;exact hx;obtain rfl:=List.mem_singleton.1 hu;exact hE _ _ _ _ h0 hy);simp only at h;split at h
     ·injection h with h1;subst h1;exact hc
     ·exact hB _ _ _ _ _ h1.2 hc h
  ·unfold fx at h;split at h
   ·rename_i hs
    split at h
    ·rename_i hk
     have h1:=hT.next hp (ar hs);have h2:=hT.next h1 (by omega);refine hP _ _ _ _ h2 ?_ h;unfold cj;have:=(hG.2 (p+1)).1;exact ⟨by decide,jD,by omega,by simp,bU.2 (by simpa using hx)⟩
    ·cases h
   ·injection h with h1;subst h1;exact hx
  ·unfold dr at h;have hg:=hG.2 p;split at h
   ·injection h with h1;subst h1
    unfold cj kE;exact ⟨by decide,jD,by omega,by simp,trivial⟩
   split at h
   ·injection h with h1;subst h1;exact jC (wl hg.2)
   split at h
   ·injection h with h1;subst h1;exact jC (wn hg.1)
   split at h
   ·injection h with h1;subst h1;exact jC wm
   split at h
   ·injection h with h1;subst h1;exact jC (py true)
   split at h
   ·injection h with h1;subst h1;exact jC (py false)
   split at h
   ·rename_i hs
    have h0:=hT.next hp (ar hs);cases hx:aS T n 1 (p+1) with
    | bad q=>rw [hx] at h;cases h
    |ok y r =>
     rw [hx] at h;simp only at h;split at h
     ·injection h with h1;subst h1;exact hE _ _ _ _ h0 hx
     ·cases h
   split at h
   ·rename_i hs
    have h0:=hT.next hp (ar hs);split at h
    ·injection h with h1;subst h1;exact oI (by decide) (by simp) (by simp)
    ·exact hL _ _ _ _ h0 (by simp) (by simp) h
   ·cases h
  ·unfold fv at h;cases hy:aS T n 1 p with
   | bad q=>rw [hy] at h;cases h
   |ok z r =>
    rw [hy] at h;simp only at h;have h1:=hI 1 p hp;rw [hy] at h1;have hc:∀ u ∈ acc++[z],cj u:=by
     intro u hu;rcases List.mem_append.1 hu with hu | hu
     ·exact hx u hu
     ·obtain rfl:=List.mem_singleton.1 hu;exact hE _ _ _ _ hp hy
    have hlen:(acc++[z]).length<=r:=by have:=h1.1;simp;omega
    split at h
    ·rename_i hs
     exact hL _ _ _ _ (hT.next h1.2 (ar hs)) (by omega) hc h
    ·split at h
     ·injection h with h3;subst h3
      exact oI (by decide) (by have:=h1.2;have:=hG.1;omega) hc
     ·cases h
theorem gD {n lvl p:Nat} {x:EJ} {q:Nat} (hp:p<T.length) (h:aS T n lvl p=.ok x q):cj x:=(xF hT hG n).1 _ _ _ _ hp h
theorem xK:∀ (n:Nat),(∀ acc p x q,p<T.length->acc.length<=p->bY acc->cJ T n acc p=.ok x q->bY x/\x.length<=q)/\(∀ p x q,p<T.length->bX T n p=.ok x q->bY x/\x.length<=q)
 | 0=>⟨λ acc p x q _ _ _ h=>(by unfold cJ at h;cases h),λ p x q _ h=>by unfold bX at h;cases h⟩
 |n+1=>by
  obtain ⟨hS,hK⟩:=xK n;have hIK:=(rJ hT n).2;have hIS:=(rJ hT n).1;have hsnoc:∀ (acc:List SJ) (x:SJ),bY acc->j3 x->bY (acc++[x]):=λ acc x h1 h2=>dQ.2 λ y hy=>by
   rcases List.mem_append.1 hy with hy | hy
   ·exact dQ.1 h1 y hy
   ·obtain rfl:=List.mem_singleton.1 hy;exact h2
  have hTl:=hG.1;refine ⟨λ acc p x q hp hl hx h=>?_,λ p x q hp h=>?_⟩
  ·unfold cJ at h;split at h
   ·rename_i hs
    have h0:=hT.next hp (ar hs);have g1:=ej hT n 1 (p+1) h0;cases hy:aS T n 1 (p+1) with
    | bad q=>rw [hy] at h;cases h
    |ok a r =>
     rw [hy] at h g1;simp only at h;split at h
     ·rename_i hs2
      have h9:=hT.next g1.2 (ar hs2);have g2:=ej hT n 1 (r+1) h9;cases hz:aS T n 1 (r+1) with
      | bad q=>rw [hz] at h;cases h
      |ok b u =>
       rw [hz] at h g2;simp only at h;split at h
       ·rename_i hs3
        have g11:=g1.1;have g21:=g2.1;refine hS _ _ _ _ (hT.next g2.2 (ar hs3)) (by simp;omega) (hsnoc _ _ hx ?_) h;unfold j3 bY;exact ⟨by decide,by simp,gD hT hG h0 hy,gD hT hG h9 hz,by simp,by simp,trivial,trivial⟩
       ·cases h
     ·cases h
   split at h
   ·rename_i hs
    have h0:=hT.next hp (ar hs);have g1:=ej hT n 1 (p+1) h0;cases hy:aS T n 1 (p+1) with
    | bad q=>rw [hy] at h;cases h
    |ok a r =>
     rw [hy] at h g1;simp only at h;have g11:=g1.1;have g2:=hIK r g1.2;cases hz:bX T n r with
     | bad q=>rw [hz] at h;cases h
     |ok body u =>
      rw [hz] at h g2;simp only at h;have g21:=g2.1;have k1:=hK _ _ _ g1.2 hz;split at h
      ·rename_i hs3
       have h9:=hT.next g2.2 (ar hs3);have g3:=hIK (u+1) h9;cases hv:bX T n (u+1) with
       | bad q=>rw [hv] at h;cases h
       |ok els t =>
        rw [hv] at h g3;simp only at h;have g31:=g3.1;have k2:=hK _ _ _ h9 hv;refine hS _ _ _ _ g3.2 (by simp;omega) (hsnoc _ _ hx ?_) h;unfold j3;exact ⟨by decide,by simp,gD hT hG h0 hy,gj,by have:=g2.2;have:=k1.2;omega,by have:=g3.2;have:=k2.2;omega,k1.1,k2.1⟩
      ·refine hS _ _ _ _ g2.2 (by simp;omega) (hsnoc _ _ hx ?_) h;unfold j3;exact ⟨by decide,by simp,gD hT hG h0 hy,gj,by have:=g2.2;have:=k1.2;omega,by simp,k1.1,trivial⟩
   split at h
   ·rename_i hs
    have h0:=hT.next hp (ar hs);split at h
    ·rename_i hk
     have h8:=hT.next h0 (by omega);split at h
     ·rename_i hs2
      have h9:=hT.next h8 (ar hs2);have g1:=ej hT n 1 (p+3) h9;cases hy:aS T n 1 (p+3) with
      | bad q=>rw [hy] at h;cases h
      |ok a r =>
       rw [hy] at h g1;simp only at h;have g11:=g1.1;have g2:=hIK r g1.2;cases hz:bX T n r with
       | bad q=>rw [hz] at h;cases h
       |ok body u =>
        rw [hz] at h g2;simp only at h;have g21:=g2.1;have k1:=hK _ _ _ g1.2 hz;refine hS _ _ _ _ g2.2 (by simp;omega) (hsnoc _ _ hx ?_) h;unfold j3;have:=(hG.2 (p+1)).1;exact ⟨by decide,by omega,gD hT hG h9 hy,gj,by have:=g2.2;have:=k1.2;omega,by simp,k1.1,trivial⟩
     ·cases h
    ·cases h
   ·injection h with h1 h2;subst h1 h2;exact ⟨hx,hl⟩
  ·unfold bX at h;split at h
   ·rename_i hs
    have h0:=hT.next hp (ar hs);cases hy:cJ T n [] (p+1) with
    | bad q=>rw [hy] at h;cases h
    |ok l r =>
     rw [hy] at h;simp only at h;split at h
     ·injection h with h1 h2;subst h1 h2
      have:=hS [] (p+1) _ _ h0 (by simp) trivial hy;exact ⟨this.1,by omega⟩
     ·cases h
   ·cases h
end
end
section
open Go.RowKit
attribute [local go_sem] aa ac ae ab
def sJ (ss:List (List UInt8)):List Value:=ss.map λ s=>Zt ⟨s.toArray⟩
theorem vI {ss:List (List UInt8)} {i:Nat} {s:List UInt8} (h:ss[i]? = some s):(sJ ss)[i]? = some (Zt ⟨s.toArray⟩):=by unfold sJ;simp [h]
def gJ (g:Nat) (row:Value) (st:List UInt8 × Bool) (w:World) (e:Ending) (w':World):Prop:=e=.returned (.tuple #[])/\∃ row' n',WP w' g row' n' st.1 st.2/\MG g row w row' w'
def gap (out:List UInt8) (num:Bool) (s:List UInt8):Bool:=decide (out≠[]/\((cR (out.getLastD 0)=true/\cR (s.headD 0)=true)∨(num=true/\s.headD 0=46)))
theorem vg (out:List UInt8) (num:Bool) (s:List UInt8):a6 (out,num) s=(out++((if gap out num s=true then [32] else [])++s),aJ (s.headD 0)):=by
 unfold a6 gap;simp only [decide_eq_true_eq]
theorem iV.last {base n:Nat} {row:Value} {l:List UInt8} {w:World} (h:iV base row (n+1) l w):∃ b o cap c,row=Zs (some ⟨b,o,none⟩) (n+1) cap/\b<w.heap.size/\w.cell? ⟨b,o+n,none⟩=some (Zi .u8 (c:UInt8).toNat)/\l.getLastD 0=c:=by
 obtain ⟨hl,ho,hb⟩:=h;obtain ⟨A,cap,rfl,h1,h2,h3⟩:=bP ho;have hne:aq l≠[]:=by
  intro e;have:=congrArg List.length e;rw [av,hl] at this;simp at this
 obtain ⟨b,o,rfl,hlt,_,hc⟩:=h3 hne;have hn:n<l.length:=by omega
 have hg:l[n]? = some l[n]:=List.getElem?_eq_getElem hn;refine ⟨b,o,cap,l[n],rfl,hlt,?_,?_⟩
 ·have hnb:n<(aq l).length:=by rw [av];exact hn
  rw [hc n hnb];unfold aq;exact congrArg some (List.getElem_map ..)
 ·rw [List.getLastD_eq_getLast?,List.getLast?_eq_getElem?,show l.length-1=n by omega,hg];rfl
theorem MG.gr {mb:Nat} {a b:Value} {w w1:World} (h:Gr a w b w1):MG mb a w b w1:=⟨h.1.os,h.1.tape,h.1.output,h.1.size,λ k hk _ hne=>h.1.block k hk hne,h.2⟩
theorem WP.grow {w w2:World} {g n n2:Nat} {row row2:Value} {out out2:List UInt8} {num:Bool} (h:WP w g row n out num) (ho:iV (g+1) row2 n2 out2 w2) (hg:Gr row w row2 w2):WP (w2.setCell ⟨g,0,none⟩ row2) g row2 n2 out2 num/\MG g row w row2 (w2.setCell ⟨g,0,none⟩ row2):=by
 have hm:MG g row w row2 (w2.setCell ⟨g,0,none⟩ row2):=(MG.gr hg).set 0 row2;refine ⟨h.step hm ((hg.blk h.blk h.ne).set_ 0 _) ⟨ho.1,?_,by have:=ho.2.2;simpa [World.setCell] using this⟩,hm⟩;refine ho.2.1.kept (aH (dw w2 (some g)) 0 row2) ?_;rcases hro:row2.ownBlock with _ | j
 ·exact .inl rfl
 ·refine .inr λ e=>?_
  have:=(ho.2.1.lt j hro).1;injection e with e
  omega
theorem WP.setNum {w:World} {g n:Nat} {row:Value} {out:List UInt8} {num:Bool} (h:WP w g row n out num) (b:Bool):WP (w.setCell ⟨g,1,none⟩ (.bool b)) g row n out b/\MG g row w row (w.setCell ⟨g,1,none⟩ (.bool b)):=by
 have hm:MG g row w row (w.setCell ⟨g,1,none⟩ (.bool b)):=(MG.refl g row w).set 1 _;refine ⟨h.step hm (h.blk.set_ 1 _) ⟨h.own.1,?_,by have:=h.own.2.2;simpa [World.setCell] using this⟩,hm⟩;refine h.own.2.1.kept (aH (dw w (some g)) 1 (.bool b)) ?_;rcases hro:row.ownBlock with _ | j
 ·exact .inl rfl
 ·refine .inr λ e=>?_
  have:=(h.ge j hro).1;injection e with e
  omega
theorem nG {w w6:World} {g n m:Nat} {row row6:Value} {out s:List UInt8} {S:ByteArray} (ho:iV (g+1) row n out w) (hS:(⟨s.toArray⟩:ByteArray)=S) (hm:n+S.size=m) (h1:w6.ownsRow (g+1) 5 1 row6 m (aq out++Lib.strCells S)) (h2:w.grownBy w6 row.ownBlock) (h3:row6.ownBlock=row.ownBlock∨∃ k,row6.ownBlock=some k/\w.heap.size<=k):iV (g+1) row6 m (out++s) w6/\Gr row w row6 w6:=by
 subst hS hm;rw [mF,← gh] at h1;exact ⟨⟨by rw [List.length_append,ho.1];simp [ByteArray.size],h1,Nat.le_trans ho.2.2 h2.size⟩,h2,h3⟩
theorem vV (ss:List (List UInt8)) (A:Option Addr) (k ca:Nat) (w:World) (g:Nat) (row:Value) (n:Nat) (out:List UInt8) (num:Bool) (hW:WP w g row n out num) (hR:RdF w (PbM g row w) A (sJ ss)) (hk:ss.length=k) (hk3:k<=3) (hne:∀ s ∈ ss,s≠[])
  (hlen:n+(ss.map λ s=>s.length+1).sum<=100000000000) :
  Calls Tryz.prog 73 #[Zp (some ⟨g,0,none⟩),Zs A k ca] w (gJ g row (ss.foldl a6 (out,num)) w):=by
 obtain ⟨i0,hi,hz0,hz1,hz2⟩:=info_parts tl;have HI:=aW hi;have HW:=aW hW;have HR:=aW hR;have HK:=aW hk;have HNE:=aW hne;have HLEN:=aW hlen;clear hW hR hk hne hlen hi;go_enter Tryz.func73,Tryz.ntmps73;go_wp2;go_loopg [5,6,9] k (λ gk s5 s6 s9 wr => ∃ (i:Nat) (row':Value) (n':Nat) (out':List UInt8) (num':Bool),i<=k/\gk=k-i/\s9=Zi Zq (i:Int)/\Hid ((out',num')=(ss.take i).foldl a6 (out,num))/\Hid (WP wr g row' n' out' num')/\Hid (MG g row w row' wr)/\Hid (n'+((ss.drop i).map λ s=>s.length+1).sum<=100000000000))
 case atStart=>exact ⟨0,row,n,out,num,Nat.zero_le _,rfl,rfl,aW rfl,HW,aW (MG.refl _ _ _),HLEN⟩
 case round =>
  obtain ⟨i,row',n',out',num',hik,hgk,rfl,HST,HWP,HMG,HLN⟩:=hrel;have HGK:=aW hgk;clear hgk;by_cases hlt:i<k
  ·obtain ⟨s,hs⟩:∃ s,ss[i]? = some s:=⟨_,List.getElem?_eq_getElem (by rw [HK.out];exact hlt)⟩
   have hsne:=HNE.out s (List.mem_of_getElem? hs);obtain ⟨c,sr,rfl⟩:∃ c sr,s=c::sr:=by cases s with | nil=>exact absurd rfl hsne | cons c sr=>exact ⟨c,sr,rfl⟩
   have HST1:=aW (show a6 (out',num') (c::sr)=(ss.take (i+1)).foldl a6 (out,num) by rw [List.take_add_one,hs,List.foldl_append,← HST.out];rfl);have hdr:ss.drop i=(c::sr)::ss.drop (i+1):=by
    have h9:=(List.getElem?_eq_some_iff.1 hs)
    rw [List.drop_eq_getElem_cons h9.1,h9.2]
   have hln:=HLN.out;rw [hdr,List.map_cons,List.sum_cons] at hln;have HLN1:=aW hln;have hlr:=RdF.mg HR.out HMG.out;have hsx:(sJ ss)[i]? = some (Zt ⟨(c::sr).toArray⟩):=vI hs;obtain ⟨hix,hie⟩:=List.getElem?_eq_some_iff.1 hsx;obtain ⟨b,o,rfl,hb,hF,hc⟩:=hlr (by intro e;rw [e] at hix;exact absurd hix (Nat.not_lt_zero _));have hcell:=hc i hix;rw [hie] at hcell;have hix0:=λ W=>rj (s:=c::sr) (i:=0) (a:=c) rfl W
   obtain ⟨S,hS⟩:∃ S:ByteArray,⟨(c::sr).toArray⟩=S:=⟨_,rfl⟩
   have hsz:S.size=sr.length+1:=by rw [← hS];simp [ByteArray.size]
   have HS:=aW hS;have hS0:∀ h:0<S.size,((S[0]'h).toNat)=c.toNat:=by subst hS;intro h;rfl
   rw [hS] at hcell hix0;obtain ⟨cN,hcN⟩:∃ q,c.toNat=q:=⟨_,rfl⟩
   have HCN:=aW hcN;rw [hcN] at hix0 hS0;have HGP:=aW (vg out' num' (c::sr));obtain ⟨gp,hgp⟩:∃ q,gap out' num' (c::sr)=q:=⟨_,rfl⟩
   rw [hgp] at HGP;have HGQ:=aW hgp;obtain ⟨x0,x1,x2⟩:=HWP.out.blk.rules;obtain ⟨RA,rc,rfl,hrc,hrn,hrr⟩:=bP HWP.out.own.2.1;clear hs hsne hdr hln hlr hsx hix hie hc hS hcN hgp hrn hrr;go_upto_region 4 with fail;go_cut [49] (λ s49 wx=>s49=.bool gp/\wx=wr)
   case first =>
    cases hn0:n' with
    |zero =>
     subst hn0;have HGF:=aW (show gp=false by
      rw [← HGQ.out];unfold gap;have h0:=HWP.out.own.1;rw [List.length_eq_zero_iff.1 h0];simp)
     go_wp2;go_meet
     case rel=>exact ⟨by rw [HGF.out],rfl⟩
    |succ m =>
     subst hn0;obtain ⟨lb,lo,lcap,cl,hrl,hlb,hlc,hll⟩:=HWP.out.own.last;injection hrl with e1 e2 e3
     subst e1 e3;obtain ⟨clN,hclN⟩:∃ q,cl.toNat=q:=⟨_,rfl⟩
     obtain ⟨b1,hb1⟩:∃ q,cR cl=q:=⟨_,rfl⟩
     obtain ⟨b2,hb2⟩:∃ q,cR c=q:=⟨_,rfl⟩
     obtain ⟨dt,hdt⟩:∃ q,decide (cN=46)=q:=⟨_,rfl⟩
     have HW1:=aW (λ W=>sP cl W);have HW2:=aW (λ W=>sP c W);rw [hclN,hb1] at HW1;rw [HCN.out,hb2] at HW2;rw [hclN] at hlc;have HGE:=aW (show gp=((b1 && b2) || (num' && dt)) by
      have hne:out'≠[]:=by intro e;have h0:=HWP.out.own.1;rw [e] at h0;simp at h0
      have hc46:(c=46) ↔ (cN=46):=by rw [← UInt8.toNat_inj,HCN.out];exact Iff.rfl
      rw [← HGQ.out,← hdt,← hb1,← hb2];unfold gap;rw [hll];show decide (out'≠[]/\((cR cl=true/\cR c=true)∨(num'=true/\c=46)))=_
      rw [Bool.eq_iff_iff];simp [hne,hc46])
     have hd1:((cN:Int) == 46)=dt:=by rw [← hdt];rw [Bool.eq_iff_iff];simp;omega
     have hm9:m+1<=100000000000:=by have:=HLN1.out;omega
     have HWA:=aW (show ∀ (q:Nat) (b:Bool) (W:World),((q=clN/\b=b1)∨(q=cN/\b=b2))->Calls Tryz.prog 111 #[Zi .u8 (q:Int)] W λ e w'=>e=.returned (.bool b)/\w'=W by
      rintro q b W (⟨rfl,rfl⟩ | ⟨rfl,rfl⟩)
      ·exact HW1.out W
      ·exact HW2.out W)
     clear hclN hb1 hb2 hdt hll HGQ e2 HW1 HW2;cases b1<;>cases b2<;>cases num'<;>cases dt
     all_goals
      go_wp2_with (go_at_call 111;refine (HWA.out _ _ _ (by first | exact Or.inl ⟨rfl,rfl⟩ | exact Or.inr ⟨rfl,rfl⟩)).mono ?_;rintro e w2 ⟨rfl,rfl⟩);go_meet
      case rel=>exact ⟨by rw [HGE.out];rfl,rfl⟩
   case rest =>
    obtain ⟨rfl,hwx⟩:=hcut;have hwy:=hwx.symm;clear hwx;subst hwy;have hln1:=HLN1.out;simp only [List.length_cons] at hln1;go_upto_if 49 with fail;go_cut [] (λ wy => ∃ (row1:Value) (n1:Nat) (W:World),W=wy/\n1<=n'+1/\Hid (WP W g row1 n1 (out'++(if gp=true then [32] else [])) num')/\Hid (MG g (Zs RA n' rc) wr row1 W))
    case first =>
     cases gp
     ·go_wp2;go_meet
      case rel=>exact ⟨_,n',_,rfl,Nat.le_succ _,aW (by simpa using HWP.out),aW (MG.refl _ _ _)⟩
     ·have HA3:=aW (HWP.out.own.2.1.alloc (.cells #[Zi .u8 32] 5));have HR3:=aW (Rd.of_blk (Blk.new wr 5 #[Zi .u8 32]));have HB3:=aW (show g+1<=(wr.alloc (.cells #[Zi .u8 32] 5)).heap.size by have:=HWP.out.own.2.2;simp;omega);go_wp2_with (at_builtin;refine bD _ rfl _ _ 67 rfl (g+1) 5 i0 _ 1 1 Tryz.underlying67 HI.out hz0 hz1 hz2 rfl (by decide) (Zs RA n' rc) n' (aq out') rfl HA3.out (some ⟨wr.heap.size,0,none⟩) 1 1 (λ h=>by cases h) [Zi .u8 32] rfl rfl HR3.out (j2 [32]) (by unfold maxLen;omega) (by omega) HB3.out ?_;intro row3 w3 hown3 hgr3 hob3;obtain ⟨RA3,rc3,rfl,hrc3,hrn3,hrr3⟩:=bP hown3;obtain ⟨y0,y1,y2⟩:=((HWP.out.blk.keep ((Below.refl _ wr).alloc (Nat.le_refl _) (.cells #[Zi .u8 32] 5))).grown hgr3 HWP.out.ne).rules);have H3P:=aW (HWP.out.own.post (m:=[32]) (M:=1) hown3 rfl hgr3 hob3);have H3G:=aW (HWP.out.grow H3P.out.1 H3P.out.2);go_meet
      case rel=>exact ⟨_,n'+1,_,rfl,Nat.le_refl _,aW H3G.out.1,aW H3G.out.2⟩
    case rest =>
     obtain ⟨row1,n1,W1,rfl,hn1,HW1,HM1⟩:=hcut;clear x0 x1 x2;obtain ⟨RA1,rc1,rfl,hrc1,hrn1,hrr1⟩:=bP HW1.out.own.2.1;have HO1:=aW (HW1.out.own.bel ((Below.refl _ W1).drew));have HB1:=aW (HW1.out.blk.keep ((Below.refl _ W1).drew));have HLN9:=aW (show n1+S.size+((ss.drop (i+1)).map λ s=>s.length+1).sum<=100000000000 by rw [hsz];omega);have HW0:=HW1;clear HW1;have HW1:=aW (HW0.out.keep ((Below.refl _ W1).drew));have HM0:=HM1;clear HM1;have HM1:=aW (HM0.out.trans (MG.bel (mb:=g) (a:=Zs RA1 n1 rc1) ((Below.refl _ W1).drew)));clear HW0 HM0 hrc1 hrn1 hrr1 HWP;go_upto_region 6 with fail;by_cases h48:48<=cN
     ·have h48i:(48:Int)<=(cN:Int):=by omega
      obtain ⟨d7,hd7⟩:∃ b,decide ((cN:Int)<=57)=b:=⟨_,rfl⟩
      refine wp_region_held_drew (S:=λ _=>True) (by kernel_rfl) trivial (λ hHeld=>?_);refine tA 0 61 (Zp (some ⟨g,0,none⟩)) rfl ?_;refine tA 1 62 (Zp (some ⟨g,0,none⟩)) rfl ?_;refine tA 2 63 (Zp (some ⟨g,0,none⟩)) rfl ?_;refine tA 3 64 (Zp (some ⟨g,0,none⟩)) rfl ?_;refine tA 4 65 (Zp (some ⟨g,0,none⟩)) rfl ?_;refine tA 5 66 (Zp (some ⟨g,0,none⟩)) rfl ?_;refine tA 7 68 (Zt S) rfl ?_;refine tA 9 70 (Zt S) rfl ?_;refine tA 10 71 (Zi .u8 (cN:Int)) rfl ?_;refine tA 11 72 (.bool true) rfl ?_;refine aV 6 67 rfl (λ K hK=>?_);obtain ⟨y0,y1,y2⟩:=HB1.out.rules;go_simp;refine hK.out _ _ trivial (λ hHeld=>?_);clear hK K y0 y1 y2
      try simp only [pU]
      refine aV 8 69 rfl (λ K hK=>?_);rw [if_pos (by kernel_rfl)];refine jj _ (.tmp 67) (.tmp 68) 67 9 rfl (g+1) 5 i0 Tryz.underlying67 Tryz.underlying9 HI.out hz0 hz1 hz2 (Zs RA1 n1 rc1) n1 (aq (out'++(if gp=true then [32] else []))) rfl HO1.out.2.1 S rfl (by rw [hsz];unfold maxLen;omega) (by rw [hsz];omega) HO1.out.2.2 ?_;intro row6 w6 hown6 hgr6 hob6;obtain ⟨n6,hn6⟩:∃ q,n1+S.size=q:=⟨_,rfl⟩
      rw [hn6] at hown6;have HN6:=aW hn6;clear hn6;obtain ⟨RA6,rc6,rfl,hrc6,hrn6,hrr6⟩:=bP hown6;have H6:=aW (nG HO1.out HS.out HN6.out hown6 hgr6 hob6);have H6S:=aW (HW1.out.grow H6.out.1 H6.out.2);obtain ⟨y0,y1,y2⟩:=(H6.out.2.blk HW1.out.blk HW1.out.ne).rules;clear hown6 hgr6 hob6 hrc6 hrn6 hrr6;refine hK.out _ _ trivial (λ hHeld=>?_);clear hK K
      try simp only [pU]
      refine tA 12 73 (.bool true) rfl ?_;refine tA 13 74 (Zt S) rfl ?_;refine tA 14 75 (Zi .u8 (cN:Int)) rfl ?_;refine tA 15 76 (.bool d7) rfl ?_;refine tA 16 77 (.bool d7) rfl ?_;refine tA 17 78 (Zp (some ⟨g,0,none⟩)) rfl ?_;refine tA 18 79 (Zp (some ⟨g,0,none⟩)) rfl ?_;refine tA 19 80 (Zp (some ⟨g,0,none⟩)) rfl ?_;refine aU 20 rfl (λ K hK=>?_);go_simp;refine hK.out _ _ trivial (λ hHeld=>?_);clear hK K
      try simp only [pU]
      refine tA 21 81 (Zp (some ⟨g,0,none⟩)) rfl ?_;refine tA 22 82 (Zp (some ⟨g,0,none⟩)) rfl ?_;refine tA 23 83 (Zp (some ⟨g,1,none⟩)) rfl ?_;refine aU 24 rfl (λ K hK=>?_);obtain ⟨W8,hW8⟩:∃ W',w6.setCell ⟨g,0,none⟩ (Zs RA6 n6 rc6)=W':=⟨_,rfl⟩
      rw [hW8] at H6S ⊢;obtain ⟨v0,v1,v2⟩:=H6S.out.1.blk.rules;go_simp;refine hK.out _ _ trivial (λ hHeld=>?_);clear hK K
      try simp only [pU]
      refine aX ?_;have HZ:=aW (H6S.out.1.setNum d7);have HN9:=aW (show aJ c=d7 by unfold aJ;rw [HCN.out,← hd7,Bool.eq_iff_iff];simp;omega);obtain ⟨W9,hW9⟩:∃ W',W8.setCell ⟨g,1,none⟩ (.bool d7)=W':=⟨_,rfl⟩
      rw [hW9] at HZ ⊢;clear hW8 hW9 v0 v1 v2 y0 y1 y2;have HST9:=aW (show ((out'++(if gp=true then [32] else []))++(c::sr),d7)=(ss.take (i+1)).foldl a6 (out,num) by rw [← HST1.out,HGP.out,← HN9.out,List.append_assoc];rfl);go_wp2;go_roundg (k-(i+1))
      case measure=>have:=HGK.out;omega
      case rel=>exact ⟨i+1,_,_,_,d7,by omega,rfl,by go_num,HST9,aW HZ.out.1,aW ((HMG.out.trans HM1.out).trans (H6S.out.2.trans HZ.out.2)),aW (by rw [← HN6.out];exact HLN9.out)⟩
     ·have h48i:¬ (48:Int)<=(cN:Int):=by omega
      refine wp_region_held_drew (S:=λ _=>True) (by kernel_rfl) trivial (λ hHeld=>?_);refine tA 0 61 (Zp (some ⟨g,0,none⟩)) rfl ?_;refine tA 1 62 (Zp (some ⟨g,0,none⟩)) rfl ?_;refine tA 2 63 (Zp (some ⟨g,0,none⟩)) rfl ?_;refine tA 3 64 (Zp (some ⟨g,0,none⟩)) rfl ?_;refine tA 4 65 (Zp (some ⟨g,0,none⟩)) rfl ?_;refine tA 5 66 (Zp (some ⟨g,0,none⟩)) rfl ?_;refine tA 7 68 (Zt S) rfl ?_;refine tA 9 70 (Zt S) rfl ?_;refine tA 10 71 (Zi .u8 (cN:Int)) rfl ?_;refine tA 11 72 (.bool false) rfl ?_;refine aV 6 67 rfl (λ K hK=>?_);obtain ⟨y0,y1,y2⟩:=HB1.out.rules;go_simp;refine hK.out _ _ trivial (λ hHeld=>?_);clear hK K y0 y1 y2
      try simp only [pU]
      refine aV 8 69 rfl (λ K hK=>?_);rw [if_pos (by kernel_rfl)];refine jj _ (.tmp 67) (.tmp 68) 67 9 rfl (g+1) 5 i0 Tryz.underlying67 Tryz.underlying9 HI.out hz0 hz1 hz2 (Zs RA1 n1 rc1) n1 (aq (out'++(if gp=true then [32] else []))) rfl HO1.out.2.1 S rfl (by rw [hsz];unfold maxLen;omega) (by rw [hsz];omega) HO1.out.2.2 ?_;intro row6 w6 hown6 hgr6 hob6;obtain ⟨n6,hn6⟩:∃ q,n1+S.size=q:=⟨_,rfl⟩
      rw [hn6] at hown6;have HN6:=aW hn6;clear hn6;obtain ⟨RA6,rc6,rfl,hrc6,hrn6,hrr6⟩:=bP hown6;have H6:=aW (nG HO1.out HS.out HN6.out hown6 hgr6 hob6);have H6S:=aW (HW1.out.grow H6.out.1 H6.out.2);obtain ⟨y0,y1,y2⟩:=(H6.out.2.blk HW1.out.blk HW1.out.ne).rules;clear hown6 hgr6 hob6 hrc6 hrn6 hrr6;refine hK.out _ _ trivial (λ hHeld=>?_);clear hK K
      try simp only [pU]
      refine tA 12 73 (.bool false) rfl ?_;refine tN 13 74 undef rfl ?_;refine tN 14 75 undef rfl ?_;refine tN 15 76 undef rfl ?_;refine tA 16 77 (.bool false) rfl ?_;refine tA 17 78 (Zp (some ⟨g,0,none⟩)) rfl ?_;refine tA 18 79 (Zp (some ⟨g,0,none⟩)) rfl ?_;refine tA 19 80 (Zp (some ⟨g,0,none⟩)) rfl ?_;refine aU 20 rfl (λ K hK=>?_);go_simp;refine hK.out _ _ trivial (λ hHeld=>?_);clear hK K
      try simp only [pU]
      refine tA 21 81 (Zp (some ⟨g,0,none⟩)) rfl ?_;refine tA 22 82 (Zp (some ⟨g,0,none⟩)) rfl ?_;refine tA 23 83 (Zp (some ⟨g,1,none⟩)) rfl ?_;refine aU 24 rfl (λ K hK=>?_);obtain ⟨W8,hW8⟩:∃ W',w6.setCell ⟨g,0,none⟩ (Zs RA6 n6 rc6)=W':=⟨_,rfl⟩
      rw [hW8] at H6S ⊢;obtain ⟨v0,v1,v2⟩:=H6S.out.1.blk.rules;go_simp;refine hK.out _ _ trivial (λ hHeld=>?_);clear hK K
      try simp only [pU]
      refine aX ?_;have HZ:=aW (H6S.out.1.setNum false);have HN9:=aW (show aJ c=false by unfold aJ;rw [HCN.out];simp;try omega);obtain ⟨W9,hW9⟩:∃ W',W8.setCell ⟨g,1,none⟩ (.bool false)=W':=⟨_,rfl⟩
      rw [hW9] at HZ ⊢;clear hW8 hW9 v0 v1 v2 y0 y1 y2;have HST9:=aW (show ((out'++(if gp=true then [32] else []))++(c::sr),false)=(ss.take (i+1)).foldl a6 (out,num) by rw [← HST1.out,HGP.out,← HN9.out,List.append_assoc];rfl);go_wp2;go_roundg (k-(i+1))
      case measure=>have:=HGK.out;omega
      case rel=>exact ⟨i+1,_,_,_,false,by omega,rfl,by go_num,HST9,aW HZ.out.1,aW ((HMG.out.trans HM1.out).trans (H6S.out.2.trans HZ.out.2)),aW (by rw [← HN6.out];exact HLN9.out)⟩
  ·obtain rfl:i=k:=by omega
   rw [List.take_of_length_le (Nat.le_of_eq HK.out)] at HST;go_wp2;go_end0;exact ⟨rfl,_,_,by rw [← HST.out];exact HWP.out,HMG.out⟩
theorem lm {k:Int} (h:5<=k/\k<=15):∃ t,ofJ k=(t,k,(bt k:Int))/\t≠[]/\bF (opK k)=t:=by
 obtain rfl | rfl | rfl | rfl | rfl | rfl | rfl | rfl | rfl | rfl | rfl:k=5∨k=6∨k=7∨k=8∨k=9∨k=10∨k=11∨k=12∨k=13∨k=14∨k=15:=by omega
 all_goals exact ⟨_,by rfl,by decide,by rfl⟩
def oG (n:Nat) (w:World) (e:Ending) (w':World):Prop:=e=.returned (Zi Zq n)/\Below w.heap.size w w'
theorem ij (k k1 n1:Int) (s1:ByteArray) (A1:Option Addr) (na1 ca1:Nat) (B1:Option Addr) (nb1 cb1:Nat) (s:ByteArray) (A:Option Addr) (nk ca:Nat) (w:World) (hG:GOE w) :
  Calls Tryz.prog 112 #[.agg #[Zi Zq k,Zi Zq k1,Zi Zq n1,Zt s1,Zs A1 na1 ca1,Zs B1 nb1 cb1,Zt s,Zs A nk ca]] w (oG (bt k) w):=by
 have HH0:=aW ((az.nil w).push 45 #[Zi Zq k,Zi Zq k1,Zi Zq n1,Zt s1,Zs A1 na1 ca1,Zs B1 nb1 cb1,Zt s,Zs A nk ca] (g:=w.heap.size) rfl);have HOF:=aW (λ W (h:Below w.heap.size w W)=>eOf k W (hG.keep h));have HG:=aW (λ W (h:Below w.heap.size w W)=>hG.keep h);unfold OfP at HOF;clear hG;by_cases h3:k=3
 ·have HL:=aW (show bt k=8 by subst h3;rfl);subst h3;obtain ⟨c0,f0,l0⟩:=HH0.out.b0.rules;go_enter Tryz.func112,Tryz.ntmps112;go_wp2;go_ret;exact ⟨by rw [HL.out];rfl,HH0.out.1⟩
 have e3:(k == 3)=false:=by simpa using h3
 by_cases hop:5<=k/\k<=15
 ·obtain ⟨t,hof,hne,_⟩:=lm hop;rw [hof] at HOF;unfold cL at HOF;simp only at HOF;obtain ⟨T,hT⟩:∃ T:ByteArray,⟨t.toArray⟩=T:=⟨_,rfl⟩
  obtain ⟨L,hL⟩:∃ L,bt k=L:=⟨_,rfl⟩
  rw [hL,hT] at HOF;rw [hL];have hk0:(k == 0)=false:=by rw [beq_eq_false_iff_ne];omega
  have HOP:=aW hop;clear hop hof hne hL hT h3;obtain ⟨c0,f0,l0⟩:=HH0.out.b0.rules;go_enter Tryz.func112,Tryz.ntmps112;go_upto_region 3 with fail;have HGD:=aW (HG.out _ HH0.out.drew.1);have gl:=HGD.out.lt;have d0:=HH0.out.drew.b0.cell 0;simp at d0;have z0:=HGD.out.c0;have z1:=HGD.out.c1;have z2:=HGD.out.c2;go_region_held3 (λ w'=>w'.cell? ⟨w.heap.size,0,none⟩=some (Zi Zq k)/\w'.cell? ⟨0,0,none⟩=some (Zt ⟨#[]⟩)/\w'.cell? ⟨0,1,none⟩=some (Zi Zq 0)/\w'.cell? ⟨0,2,none⟩=some (Zi Zq 0)) (go_keep) ((go_at_call 113;refine (HOF.out _ HH0.out.drew.1).mono ?_;rintro e w3 ⟨rfl,hb3⟩;have hx3:=HH0.out.drew.keep hb3;have e0:=hx3.b0.cell 0;simp at e0;have hg3:=HGD.out.keep hb3;have y0:=hg3.c0;have y1:=hg3.c1;have y2:=hg3.c2));obtain ⟨c1,f1,l1⟩:=hx3.b0.rules;go_wp2_with (go_at_call 113;refine (HOF.out _ hx3.1).mono ?_;rintro e w4 ⟨rfl,hb4⟩);go_ret;exact ⟨rfl,hx3.1.trans (hb4.mono hx3.1.size)⟩
 ·have HL:=aW (show bt k=9 by unfold bt;simp only [h3,if_false];repeat rw [if_neg (by omega)]);rw [HL.out];rw [ki hop] at HOF;unfold cL fB at HOF;simp only at HOF;clear hop h3;obtain ⟨c0,f0,l0⟩:=HH0.out.b0.rules;go_enter Tryz.func112,Tryz.ntmps112;go_upto_region 3 with fail;have HGD:=aW (HG.out _ HH0.out.drew.1);have gl:=HGD.out.lt;have d0:=HH0.out.drew.b0.cell 0;simp at d0;have z0:=HGD.out.c0;have z1:=HGD.out.c1;have z2:=HGD.out.c2;go_region_held3 (λ w'=>w'.cell? ⟨w.heap.size,0,none⟩=some (Zi Zq k)/\w'.cell? ⟨0,0,none⟩=some (Zt ⟨#[]⟩)/\w'.cell? ⟨0,1,none⟩=some (Zi Zq 0)/\w'.cell? ⟨0,2,none⟩=some (Zi Zq 0)) (go_keep) ((go_at_call 113;refine (HOF.out _ HH0.out.drew.1).mono ?_;rintro e w3 ⟨rfl,hb3⟩;have hx3:=HH0.out.drew.keep hb3;have e0:=hx3.b0.cell 0;simp at e0;have hg3:=HGD.out.keep hb3;have y0:=hg3.c0;have y1:=hg3.c1;have y2:=hg3.c2));go_wp2;go_ret;exact ⟨rfl,hx3.1⟩
theorem RdF.of_blkP {W:World} {F:Nat->Prop} {b:Nat} {t:TypeId} {xs:List Value} (h:Blk W b t xs.toArray) (hF:F b):RdF W F (some ⟨b,0,none⟩) xs :=
 λ _=>⟨b,0,rfl,h.lt,hF,λ i hi=>by rw [h.cell,Nat.zero_add,List.getElem?_toArray,List.getElem?_eq_getElem hi]⟩
theorem o5 {W:World} {g n:Nat} {row:Value} {out:List UInt8} {num:Bool} (hW:WP W g row n out num) (o:Obj):PbM g row (W.alloc o) W.heap.size :=
 ⟨by rw [World.size_alloc];omega,by have:=hW.blk.lt;omega,λ e=>by have:=(hW.ge _ e.symm).2;omega⟩
theorem iC (s:List UInt8) (W:World) (p g:Nat) (row:Value) (n:Nat) (out:List UInt8) (num:Bool) (hW:WP W g row n out num) (hp:p=W.heap.size) (hs:s≠[]) (hl:n+(s.length+1)<=100000000000) :
  Calls Tryz.prog 73 #[Zp (some ⟨g,0,none⟩),Zs (some ⟨p,0,none⟩) 1 1] (W.alloc (.cells #[Zt ⟨s.toArray⟩] 9)) (gJ g row (a6 (out,num) s) W):=by
 subst hp;have hb:=(Below.refl W.heap.size W).alloc (Nat.le_refl _) (.cells #[Zt ⟨s.toArray⟩] 9);refine (vV [s] (some ⟨W.heap.size,0,none⟩) 1 1 _ g row n out num (hW.keep hb) (RdF.of_blkP (Blk.new W 9 #[Zt ⟨s.toArray⟩]) (o5 hW _)) rfl (by decide) (by simpa using hs) (by simpa using hl)).mono ?_;rintro e w' ⟨rfl,row',n',h1,h2⟩;exact ⟨rfl,row',n',h1,(MG.bel hb).trans h2⟩
theorem yZ (s t:List UInt8) (W:World) (p g:Nat) (row:Value) (n:Nat) (out:List UInt8) (num:Bool) (hW:WP W g row n out num) (hp:p=W.heap.size) (hs:s≠[]) (ht:t≠[]) (hl:n+((s.length+1)+(t.length+1))<=100000000000) :
  Calls Tryz.prog 73 #[Zp (some ⟨g,0,none⟩),Zs (some ⟨p,0,none⟩) 2 2] (W.alloc (.cells #[Zt ⟨s.toArray⟩,Zt ⟨t.toArray⟩] 9)) (gJ g row (a6 (a6 (out,num) s) t) W):=by
 subst hp;have hb:=(Below.refl W.heap.size W).alloc (Nat.le_refl _) (.cells #[Zt ⟨s.toArray⟩,Zt ⟨t.toArray⟩] 9);refine (vV [s,t] (some ⟨W.heap.size,0,none⟩) 2 2 _ g row n out num (hW.keep hb) (RdF.of_blkP (Blk.new W 9 #[Zt ⟨s.toArray⟩,Zt ⟨t.toArray⟩]) (o5 hW _)) rfl (by decide) (by simp [hs,ht]) (by simpa using hl)).mono ?_;rintro e w' ⟨rfl,row',n',h1,h2⟩;exact ⟨rfl,row',n',h1,(MG.bel hb).trans h2⟩
theorem gJ.bel {g:Nat} {row:Value} {st:List UInt8 × Bool} {w W w':World} {e:Ending} (h:gJ g row st W e w') (hb:Below w.heap.size w W):gJ g row st w e w':=by
 obtain ⟨rfl,row',n',h1,h2⟩:=h;exact ⟨rfl,row',n',h1,(MG.bel hb).trans h2⟩
theorem wJ (n:Int):iZ n≠[]:=by
 unfold iZ;split
 ·simp
 ·exact iJ _
theorem tv {k n:Int} {s:List UInt8} {kids:List JV} {keys:List (List UInt8)} (h:ee (.mk k n s kids keys)=true):k=3∨(k=4/\cA s=true)∨k=1∨(k=2/\(n=0∨n=1)):=by
 unfold ee at h;simp only [Bool.and_eq_true,Bool.or_eq_true,decide_eq_true_eq] at h;obtain ⟨hg,h1⟩:=h;have h1:(k=3/\0<=n)∨(k=1∨k=2∨k=4):=h1;have h2:=(fl (rg hg).1).1;rcases h1 with ⟨h1,_⟩ | h1 | h1 | h1
 ·exact .inl h1
 ·exact .inr (.inr (.inl h1))
 ·subst h1;refine .inr (.inr (.inr ⟨rfl,?_⟩));unfold cz at h2;simp at h2;exact h2.1.1.1
 ·subst h1;unfold cz at h2;simp at h2;exact .inr (.inl ⟨rfl,h2.1.1.2⟩)
theorem zC (v:JV) (cs:List Value) (F:Nat->Prop) (w:World) (g:Nat) (row:Value) (n:Nat) (out:List UInt8) (num:Bool) (hW:WP w g row n out num) (hv:VR w F cs v) (hc:dc v) (hl:ee v=true)
  (hlen:n+((bF (lW v)).length+1)<=100000000000) :
  Calls Tryz.prog 114 #[Zp (some ⟨g,0,none⟩),.agg cs.toArray] w (gJ g row (a6 (out,num) (bF (lW v))) w):=by
 obtain ⟨k,m,s,kids,keys⟩:=v;obtain ⟨A,B,ca,cb,css,rfl,_⟩:=VR.out hv;obtain ⟨_,him,hsl,_⟩:=hc.out;have hp:=tv hl;obtain ⟨nk,hnk⟩:∃ q,kids.length=q:=⟨_,rfl⟩
 obtain ⟨nq,hnq⟩:∃ q,keys.length=q:=⟨_,rfl⟩
 rw [hnk,hnq];have HH0:=aW ((az.nil w).push 42 #[Zi Zq k,Zi Zq m,Zt ⟨s.toArray⟩,Zs A nk ca,Zs B nq cb] (g:=w.heap.size) rfl);have HG:=aW (λ W (h:Below w.heap.size w W)=>(hW.goe.keep h).gok);have HP:=aW (λ W (h:Below w.heap.size w W) (t:List UInt8) (p:Nat) (hp:p=W.heap.size) (ht:t≠[]) (hl:n+(t.length+1)<=100000000000)=>(iC t W p g row n out num (hW.keep h) hp ht hl).mono λ e w' h1=>gJ.bel h1 h);clear hW hv hc hl hnk hnq;rcases hp with rfl | ⟨rfl,htx⟩ | rfl | ⟨rfl,hn⟩
 ·have HT:=aW (show bF (lW (.mk 3 m s kids keys))=iZ m from rfl);rw [HT.out] at hlen ⊢;have HLEN:=aW hlen;have HIM:=aW him;clear hlen him;unfold iw at HIM;obtain ⟨c0,f0,l0⟩:=HH0.out.b0.rules;go_enter Tryz.func114,Tryz.ntmps114;go_wp2_with (first
   | (go_at_call 158;refine (oX m _ HIM.out).mono ?_;unfold zh;rintro e w2 ⟨rfl,hb2⟩)
   | (go_at_call 73;refine (HP.out _ (HH0.out.1.trans (hb2.mono HH0.out.1.size)) _ _ (by first | rfl | simp) (wJ m) HLEN.out).mono ?_;rintro e w3 ⟨rfl,hp3⟩))
  go_end0;exact ⟨rfl,hp3⟩
 ·have HT:=aW (show bF (lW (.mk 4 m s kids keys))=mX s from rfl);rw [HT.out] at hlen ⊢;have HLEN:=aW hlen;have HTX:=aW (And.intro htx hsl);clear hlen htx;obtain ⟨c0,f0,l0⟩:=HH0.out.b0.rules;go_enter Tryz.func114,Tryz.ntmps114;go_wp2_with (first
   | (go_at_call 159;refine (rD s _ (HG.out _ HH0.out.1) HTX.out.1 HTX.out.2).mono ?_;unfold rZ;rintro e w2 ⟨rfl,hb2⟩)
   | (go_at_call 73;refine (HP.out _ (HH0.out.1.trans (hb2.mono HH0.out.1.size)) _ _ (by first | rfl | simp) (by unfold mX;simp) HLEN.out).mono ?_;rintro e w3 ⟨rfl,hp3⟩))
  go_end0;exact ⟨rfl,hp3⟩
 ·have HT:=aW (show bF (lW (.mk 1 m s kids keys))=[110,117,108,108] from rfl);rw [HT.out] at hlen ⊢;have HLEN:=aW hlen;clear hlen;obtain ⟨c0,f0,l0⟩:=HH0.out.b0.rules;go_enter Tryz.func114,Tryz.ntmps114;go_wp2_with (go_at_call 73;refine (HP.out _ HH0.out.1 [110,117,108,108] _ (by first | rfl | simp) (by simp) HLEN.out).mono ?_;rintro e w3 ⟨rfl,hp3⟩);go_end0;exact ⟨rfl,hp3⟩
 ·rcases hn with rfl | rfl
  ·have HT:=aW (show bF (lW (.mk 2 0 s kids keys))=[102,97,108,115,101] from rfl);rw [HT.out] at hlen ⊢;have HLEN:=aW hlen;clear hlen;obtain ⟨c0,f0,l0⟩:=HH0.out.b0.rules;go_enter Tryz.func114,Tryz.ntmps114;go_wp2_with (go_at_call 73;refine (HP.out _ (HH0.out.1.alloc (by simp) _) [102,97,108,115,101] _ (by first | rfl | simp) (by simp) HLEN.out).mono ?_;rintro e w3 ⟨rfl,hp3⟩);go_end0;exact ⟨rfl,hp3⟩
  ·have HT:=aW (show bF (lW (.mk 2 1 s kids keys))=[116,114,117,101] from rfl);rw [HT.out] at hlen ⊢;have HLEN:=aW hlen;clear hlen;obtain ⟨c0,f0,l0⟩:=HH0.out.b0.rules;go_enter Tryz.func114,Tryz.ntmps114;go_wp2_with (go_at_call 73;refine (HP.out _ (HH0.out.1.alloc (by simp) _) [116,114,117,101] _ (by first | rfl | simp) (by simp) HLEN.out).mono ?_;rintro e w3 ⟨rfl,hp3⟩);go_end0;exact ⟨rfl,hp3⟩
def aE (l:List LX) (st:List UInt8 × Bool):List UInt8 × Bool:=(l.map bF).foldl a6 st
theorem ck (l m:List LX) (st:List UInt8 × Bool):aE (l++m) st=aE m (aE l st):=by unfold aE;rw [List.map_append,List.foldl_append]
theorem cI (x:LX) (l:List LX) (st:List UInt8 × Bool):aE (x::l) st=aE l (a6 st (bF x)):=rfl
theorem a9 (l:List LX) (st:List UInt8 × Bool):(aE l st).1.length<=st.1.length+dY l:=qk l st
def PB (w:World) (g:Nat) (row:Value) (b:Nat) (t:TypeId) (cs:Array Value):Prop:=Blk w b t cs/\PbM g row w b
theorem PB.mg {w w':World} {g b:Nat} {row row':Value} {t:TypeId} {cs:Array Value} (h:PB w g row b t cs) (hg:MG g row w row' w'):PB w' g row' b t cs:=⟨hg.blk h.1 h.2.2.1 h.2.2.2,hg.pb h.2⟩
theorem PB.new {W:World} {g n:Nat} {row:Value} {out:List UInt8} {num:Bool} (hW:WP W g row n out num) (cs:Array Value) (t:TypeId):PB (W.alloc (.cells cs t)) g row W.heap.size t cs:=⟨Blk.new W t cs,o5 hW _⟩
structure PS (w W:World) (g:Nat) (row0 row:Value) (st:List UInt8 × Bool) (bx bo:Nat) (X O:Array Value) (A:Option Addr) (css:List (List Value)) (kids:List EJ):Prop where
 wp:WP W g row st.1.length st.1 st.2
 mg:MG g row0 w row W
 x:PB W g row bx 45 X
 o:PB W g row bo 154 O
 ks:ERs W (PbM g row W) css kids
 rd:RdF W (PbM g row W) A css.flatten
section
variable {w W W':World} {g:Nat} {row0 row row':Value} {st st':List UInt8 × Bool} {bx bo:Nat} {X O:Array Value} {A:Option Addr} {css:List (List Value)} {kids:List EJ}
theorem PS.step (h:PS w W g row0 row st bx bo X O A css kids) (hg:MG g row W row' W') (hw:WP W' g row' st'.1.length st'.1 st'.2):PS w W' g row0 row' st' bx bo X O A css kids :=
 ⟨hw,h.mg.trans hg,h.x.mg hg,h.o.mg hg,RR.imp h.ks λ c y hc=>hc.mg hg,h.rd.mg hg⟩
theorem PS.bel (h:PS w W g row0 row st bx bo X O A css kids) (hb:Below W.heap.size W W'):PS w W' g row0 row st bx bo X O A css kids:=h.step (MG.bel hb) (h.wp.keep hb)
theorem PS.put (h:PS w W g row0 row st bx bo X O A css kids) {e:Ending} (hp:gJ g row st' W e W'):e=.returned (.tuple #[])/\∃ row',PS w W' g row0 row' st' bx bo X O A css kids:=by
 obtain ⟨rfl,row',n',h1,h2⟩:=hp;have hn:=h1.own.1;subst hn;exact ⟨rfl,row',h.step h2 h1⟩
theorem PS.fin (h:PS w W g row0 row st bx bo X O A css kids):gJ g row0 st w (.returned (.tuple #[])) W:=⟨rfl,row,_,h.wp,h.mg⟩
theorem PS.put1 (h:PS w W g row0 row st bx bo X O A css kids) (s:List UInt8) (p:Nat) (hp:p=W.heap.size) (hs:s≠[]) (hl:st.1.length+(s.length+1)<=100000000000) :
  Calls Tryz.prog 73 #[Zp (some ⟨g,0,none⟩),Zs (some ⟨p,0,none⟩) 1 1] (W.alloc (.cells #[Zt ⟨s.toArray⟩] 9)) (λ e W'=>e=.returned (.tuple #[])/\∃ row',PS w W' g row0 row' (a6 st s) bx bo X O A css kids) :=
 (iC s W p g row _ st.1 st.2 h.wp hp hs hl).mono λ e W' hq=>h.put hq
theorem PS.put2 (h:PS w W g row0 row st bx bo X O A css kids) (s t:List UInt8) (p:Nat) (hp:p=W.heap.size) (hs:s≠[]) (ht:t≠[]) (hl:st.1.length+((s.length+1)+(t.length+1))<=100000000000) :
  Calls Tryz.prog 73 #[Zp (some ⟨g,0,none⟩),Zs (some ⟨p,0,none⟩) 2 2] (W.alloc (.cells #[Zt ⟨s.toArray⟩,Zt ⟨t.toArray⟩] 9)) (λ e W'=>e=.returned (.tuple #[])/\∃ row',PS w W' g row0 row' (a6 (a6 st s) t) bx bo X O A css kids) :=
 (yZ s t W p g row _ st.1 st.2 h.wp hp hs ht hl).mono λ e W' hq=>h.put hq
end
theorem dp {W:World} {g:Nat} {row:Value} {css:List (List Value)} {xs:List EJ} {A:Option Addr} (h:ERs W (PbM g row W) css xs) (hr:RdF W (PbM g row W) A css.flatten) {i:Nat} {x:EJ} (hx:xs[i]? = some x) :
  ∃ (b o:Nat) (k k1 n1:Int) (s1:ByteArray) (A1:Option Addr) (na1 ca1:Nat) (B1:Option Addr) (nb1 cb1:Nat) (s:ByteArray) (A2:Option Addr) (n2 ca2:Nat),A=some ⟨b,o,none⟩/\b<W.heap.size /\
   ER W (PbM g row W) [Zi Zq k,Zi Zq k1,Zi Zq n1,Zt s1,Zs A1 na1 ca1,Zs B1 nb1 cb1,Zt s,Zs A2 n2 ca2] x /\
   ∀ W',af (PbM g row W) W W'->W'.cell? ⟨b,o+i*8,none⟩=some (Zi Zq k)/\W'.cell? ⟨b,o+i*8+1,none⟩=some (Zi Zq k1)/\W'.cell? ⟨b,o+i*8+2,none⟩=some (Zi Zq n1)/\W'.cell? ⟨b,o+i*8+3,none⟩=some (Zt s1) /\
    W'.cell? ⟨b,o+i*8+4,none⟩=some (Zs A1 na1 ca1)/\W'.cell? ⟨b,o+i*8+5,none⟩=some (Zs B1 nb1 cb1)/\W'.cell? ⟨b,o+i*8+6,none⟩=some (Zt s)/\W'.cell? ⟨b,o+i*8+7,none⟩=some (Zs A2 n2 ca2):=by
 obtain ⟨b,o,c,rfl,hb,hF,hc,hv,hz⟩:=h.cell (λ c x h=>h.len) (by decide) hr hx;obtain ⟨k,k1,n1,s1,A1,na1,ca1,B1,nb1,cb1,s,A2,n2,ca2,rfl⟩:=hv.form;refine ⟨b,o,k,k1,n1,s1,A1,na1,ca1,B1,nb1,cb1,s,A2,n2,ca2,rfl,hb,hv,λ W' hW=>?_⟩;have z:=λ (j:Nat) u (hj:j<8) hu=>(show W'.cell? ⟨b,o+(i*8+j),none⟩=W.cell? ⟨b,o+(i*8+j),none⟩ from World.cell?_of_block (hW.2 b hF hb)).trans (hz j u hj hu)
 exact ⟨z 0 _ (by decide) rfl,z 1 _ (by decide) rfl,z 2 _ (by decide) rfl,z 3 _ (by decide) rfl,z 4 _ (by decide) rfl,z 5 _ (by decide) rfl,z 6 _ (by decide) rfl,z 7 _ (by decide) rfl⟩
theorem PS.putM {w W W':World} {g:Nat} {row0 row:Value} {st st':List UInt8 × Bool} {bx bo:Nat} {X O:Array Value} {A:Option Addr} {css:List (List Value)} {kids:List EJ} (h:PS w W g row0 row st bx bo X O A css kids) {e:Ending} (hp:gJ g row st' W e W'):e=.returned (.tuple #[])/\∃ row',PS w W' g row0 row' st' bx bo X O A css kids/\af (PbM g row W) W W':=by
 obtain ⟨rfl,row',n',h1,h2⟩:=hp;have hn:=h1.own.1;subst hn;exact ⟨rfl,row',h.step h2 h1,h2.keepF⟩
def jy (r:Nat):Prop:=∀ (x:EJ) (cs:List Value) (f:Nat) (w:World) (g:Nat) (row:Value) (n:Nat) (st:List UInt8 × Bool),WP w g row n st.1 st.2->ER w (PbM g row w) cs x->cj x->bM r x≠0->f<=9->st.1.length+dY (bI f x)<=100000000000 ->
 Calls Tryz.prog 74 #[Zp (some ⟨g,0,none⟩),.agg cs.toArray,Zi Zq (f:Int)] w (gJ g row (aE (bI f x) st) w)
def kD (r:Nat) (P:Int->Prop):Prop:=∀ (k:Int) (v:JV) (s:List UInt8) (kids:List EJ) (cs:List Value) (f:Nat) (w:World) (g:Nat) (row:Value) (n:Nat) (st:List UInt8 × Bool),P k->WP w g row n st.1 st.2->ER w (PbM g row w) cs (.mk k v s kids)->cj (.mk k v s kids)->bM (r+1) (.mk k v s kids)≠0->f<=bt k->st.1.length+dY (dE k v s (dW kids))<=100000000000 ->
 Calls Tryz.prog 74 #[Zp (some ⟨g,0,none⟩),.agg cs.toArray,Zi Zq (f:Int)] w (gJ g row (aE (dE k v s (dW kids)) st) w)
theorem eH {w W1 W3:World} {g:Nat} {row:Value} {n:Nat} {st:List UInt8 × Bool} {X O:Array Value} {A:Option Addr} {css:List (List Value)} {kids:List EJ} (hW:WP w g row n st.1 st.2) (h1:ERs w (PbM g row w) css kids) (h4:RdF w (PbM g row w) A css.flatten)
  (hb:Below (w.alloc (.cells X 45)).heap.size (w.alloc (.cells X 45)) W3):PS w (W3.alloc (.cells O 154)) g row row st w.heap.size W3.heap.size X O A css kids:=by
 have hn:=hW.own.1;subst hn;have ha:=(Below.refl w.heap.size w).alloc (Nat.le_refl _) (.cells X 45);have hm:=MG.bel (mb:=g) (a:=row) ha;have hm3:=MG.bel (mb:=g) (a:=row) hb;have hw3:=(hW.keep ha).keep hb;have hm4:=MG.bel (mb:=g) (a:=row) ((Below.refl W3.heap.size W3).alloc (Nat.le_refl _) (.cells O 154));have hmm:=(hm.trans hm3).trans hm4;exact ⟨hw3.keep ((Below.refl W3.heap.size W3).alloc (Nat.le_refl _) _),hmm,((PB.new hW X _).mg hm3).mg hm4,PB.new hw3 O _,RR.imp h1 λ c y hc=>hc.mg hmm,h4.mg hmm⟩
theorem zt (r:Nat):kD r (λ k=>k=1):=by
 intro k v s kids cs f w g row n st hk hW hx hc hd hf hlen;subst hk;obtain ⟨k1,n1,s1,A1,na1,ca1,B1,nb1,cb1,A,ca,css,rfl,hv,h1,h2,h3,h4⟩:=hx.out;have hc':=hc;unfold cj at hc';obtain ⟨_,hcv,hsl,hck,hcl⟩:=hc';have hok:=(cD hd).2.1;have hlit:ee v=true:=by
  unfold okX at hok;rw [if_pos rfl] at hok;simp only [Bool.and_eq_true] at hok;exact hok.1
 have hbody:dE 1 v s (dW kids)=[lW v]:=if_pos rfl;rw [hbody] at hlen ⊢;obtain ⟨nk,hnk⟩:∃ q,kids.length=q:=⟨_,rfl⟩
 rw [hnk];have HH0:=aW ((az.nil w).push 45 #[Zi Zq 1,Zi Zq k1,Zi Zq n1,Zt s1,Zs A1 na1 ca1,Zs B1 nb1 cb1,Zt ⟨s.toArray⟩,Zs A nk ca] (g:=w.heap.size) rfl);have HLV:=aW (λ W (h:Below w.heap.size w W)=>ij 1 k1 n1 s1 A1 na1 ca1 B1 nb1 cb1 ⟨s.toArray⟩ A nk ca W (hW.goe.keep h));have HOF:=aW (λ W (h:Below w.heap.size w W)=>eOf 1 W (hW.goe.keep h));unfold OfP at HOF;rw [ki (by omega)] at HOF;unfold cL fB at HOF;simp only at HOF;unfold oG at HLV;have HST:=aW (λ (W3:World) hb=>eH (W1:=w) (W3:=W3) (X:=#[Zi Zq 1,Zi Zq k1,Zi Zq n1,Zt s1,Zs A1 na1 ca1,Zs B1 nb1 cb1,Zt ⟨s.toArray⟩,Zs A nk ca]) (O:=#[Zt ⟨#[]⟩,Zi Zq 0,Zi Zq 0]) hW h1 h4 hb);have HVL:=aW (And.intro hv (And.intro hcv hlit));have HLEN:=aW hlen;obtain ⟨L,hL⟩:∃ L,bt 1=L:=⟨_,rfl⟩
 rw [hL] at hf HLV;have hlt:¬ (L:Int)<(f:Int):=by omega
 clear hW hx hc hd hok hlit hv h1 h4 hcv hcl hnk hL hlen hbody hck hsl h2 h3;obtain ⟨c0,f0,l0⟩:=HH0.out.b0.rules;go_enter Tryz.func74,Tryz.ntmps74;go_upto_block 0 with (first
  | (go_at_call 112;refine (HLV.out _ HH0.out.1).mono ?_;rintro e w1 ⟨rfl,hb1⟩;obtain ⟨c1,f1,l1⟩:=(HH0.out.keep hb1).b0.rules)
  | (go_at_call 113;refine (HOF.out _ (HH0.out.1.trans (hb1.mono HH0.out.1.size))).mono ?_;rintro e w3 ⟨rfl,hb3⟩))
 have HS:=aW (HST.out _ (hb1.trans (hb3.mono hb1.size)));obtain ⟨W4,hW4⟩:∃ W',w3.alloc (.cells #[Zt ⟨#[]⟩,Zi Zq 0,Zi Zq 0] 154)=W':=⟨_,rfl⟩
 rw [hW4] at HS;have HL2:=aW (zC v _ _ W4 g row _ st.1 st.2 HS.out.wp (HVL.out.1.mg HS.out.mg) HVL.out.2.1 HVL.out.2.2 (by have:=HLEN.out;rw [aI,dH] at this;omega));obtain ⟨x0,x1,x2⟩:=HS.out.x.1.rules;clear c0 f0 l0 c1 f1 l1 hb1 hb3 HH0;go_wp2_with (go_at_call 114;refine HL2.out.mono ?_;intro e w5 hp;obtain ⟨rfl,row5,hs5⟩:=HS.out.put hp);go_end0;exact hs5.fin
end
end Go.Proofs.YtgmnmnnoahdjnaaGreatDoor
