import Derived.Test.YtgmnmnnoahdjnaaGreatDoorY17
import Derived.Test.YtgmnmnnoahdjnaaGreatDoorY18
import Derived.Test.YtgmnmnnoahdjnaaGreatDoorY14
open Go.Value renaming int → Zi, slice → Zs, string → Zt, pointer → Zp
open Go.IntKind renaming i64 → Zq
set_option maxRecDepth 100000
set_option maxHeartbeats 16000000
set_option linter.unusedVariables false
set_option linter.unusedSimpArgs false
namespace Go.Proofs.YtgmnmnnoahdjnaaGreatDoor
section
section
variable {T:List ap}
theorem jt (hT:WT T):∀ (n:Nat),(∀ lvl p,lvl<=8->p<T.length->12*(T.length-p)+(10-lvl)<=n->aS T (n+1) lvl p=aS T n lvl p)/\(∀ lvl x p,lvl<=7->p<T.length->12*(T.length-p)+11<=n->js T (n+1) lvl x p=js T n lvl x p) /\
  (∀ x p,p<T.length->12*(T.length-p)+1<=n->fx T (n+1) x p=fx T n x p)/\(∀ p,p<T.length->12*(T.length-p)+1<=n->dr T (n+1) p=dr T n p)/\(∀ acc p,p<T.length->12*(T.length-p)+11<=n->fv T (n+1) acc p=fv T n acc p)
 | 0=>⟨λ lvl p h1 hp h=>by omega,λ lvl x p h1 hp h=>by omega,λ x p hp h=>by omega,λ p hp h=>by omega,λ acc p hp h=>by omega⟩
 |n+1=>by
  obtain ⟨hE,hB,hP,hA,hL⟩:=jt hT n;refine ⟨λ lvl p hl hp h=>?_,λ lvl x p hl hp h=>?_,λ x p hp h=>?_,λ p hp h=>?_,λ acc p hp h=>?_⟩
  ·conv=>lhs;unfold aS
   conv=>rhs;unfold aS
   by_cases h37:lvl=3∨lvl=7
   ·rw [if_pos h37,if_pos h37];cases ho:eo T lvl p with
    | none=>exact hE (lvl+1) p (by omega) hp (by omega)
    | some k=>simp only;rw [hE lvl (p+1) hl (hT.next hp (fu ho)) (by omega)]
   ·rw [if_neg h37,if_neg h37];by_cases h8:8<=lvl
    ·rw [if_pos h8,if_pos h8,hA p hp (by omega)];have h1:=(mW hT n).2.2.2.1 p hp;cases hx:dr T n p with
     | bad q=>rfl
     | ok x q=>rw [hx] at h1;exact hP x q h1.2 (by have:=h1.1;omega)
    ·rw [if_neg h8,if_neg h8,hE (lvl+1) p (by omega) hp (by omega)];have h1:=(mW hT n).1 (lvl+1) p hp;cases hx:aS T n (lvl+1) p with
     | bad q=>rfl
     | ok x q=>rw [hx] at h1;exact hB lvl x q (by omega) h1.2 (by have:=h1.1;omega)
  ·conv=>lhs;unfold js
   conv=>rhs;unfold js
   cases ho:eo T lvl p with
   | none=>rfl
   |some k =>
    have h0:=hT.next hp (fu ho);simp only;rw [hE (lvl+1) (p+1) (by omega) h0 (by omega)];have h1:=(mW hT n).1 (lvl+1) (p+1) h0;cases hx:aS T n (lvl+1) (p+1) with
    | bad q=>rfl
    |ok y q =>
     rw [hx] at h1;simp only;split
     ·rfl
     ·exact hB lvl _ q hl h1.2 (by have:=h1.1;omega)
  ·conv=>lhs;unfold fx
   conv=>rhs;unfold fx
   by_cases hs:al T p [46]=true
   ·rw [if_pos hs,if_pos hs];have h0:=hT.next hp (ar hs);by_cases hk:tkK T (p+1)=1
    ·rw [if_pos hk,if_pos hk];exact hP _ (p+2) (hT.next h0 (by omega)) (by omega)
    ·rw [if_neg hk,if_neg hk]
   ·rw [if_neg hs,if_neg hs]
  ·conv=>lhs;unfold dr
   conv=>rhs;unfold dr
   split
   ·rfl
   split
   ·rfl
   split
   ·rfl
   split
   ·rfl
   split
   ·rfl
   split
   ·rfl
   split
   ·rename_i hs
    have h0:=hT.next hp (ar hs);rw [hE 1 (p+1) (by omega) h0 (by omega)]
   split
   ·rename_i hs
    have h0:=hT.next hp (ar hs);split
    ·rfl
    ·exact hL [] (p+1) h0 (by omega)
   ·rfl
  ·conv=>lhs;unfold fv
   conv=>rhs;unfold fv
   rw [hE 1 p (by omega) hp (by omega)];have h1:=(mW hT n).1 1 p hp;cases hx:aS T n 1 p with
   | bad q=>rfl
   |ok y q =>
    rw [hx] at h1;simp only;split
    ·rename_i hs;exact hL _ (q+1) (hT.next h1.2 (ar hs)) (by have:=h1.1;omega)
    ·rfl
theorem yt {p:Nat} {k:Int} (hk:5<=k/\k<=15) (h:rdT T p=opK k):eo T (bt k) p=some k/\(∀ l,l≠bt k->eo T l p=none)/\al T p [46]=false:=by
 have h11:k=5∨k=6∨k=7∨k=8∨k=9∨k=10∨k=11∨k=12∨k=13∨k=14∨k=15:=by omega
 rcases h11 with rfl | rfl | rfl | rfl | rfl | rfl | rfl | rfl | rfl | rfl | rfl
 all_goals
  refine ⟨?_,λ l hl=>?_,?_⟩
  ·show fs T p (eZ _)=_
   rw [oZ h (by decide)];rfl
  ·show fs T p (eZ l)=_
   rw [oZ h (by decide)];rcases l with _ | _ | _ | _ | _ | _ | _ | _ | l
   all_goals first | rfl | exact absurd rfl hl
  ·rw [sH h];decide
def o4:List (List UInt8):=[[111,114],[97,110,100],[110,111,116],[61,61],[60],[60,61],[43],[45],[42],[115,105,122,101],[107,105,110,100]]
theorem uW:∀ (l:Nat) (x:List UInt8 × Int),x ∈ eZ l->x.1 ∈ o4
 | 0,x,h=>by cases h
 | 1,x,h=>by simp [eZ] at h;subst h;decide
 | 2,x,h=>by simp [eZ] at h;subst h;decide
 | 3,x,h=>by simp [eZ] at h;subst h;decide
 | 4,x,h=>by simp [eZ] at h;rcases h with rfl | rfl | rfl<;>decide
 | 5,x,h=>by simp [eZ] at h;rcases h with rfl | rfl<;>decide
 | 6,x,h=>by simp [eZ] at h;subst h;decide
 | 7,x,h=>by simp [eZ] at h;rcases h with rfl | rfl<;>decide
 | _+8,x,h=>by cases h
theorem nN {p:Nat}:∀ {l:List (List UInt8 × Int)},(∀ x ∈ l,al T p x.1=false)->fs T p l=none
 | [],_=>rfl
 |x::r,h=>by
  unfold fs;rw [if_neg (by rw [h x List.mem_cons_self];decide)];exact nN λ y hy=>h y (List.mem_cons_of_mem _ hy)
theorem wP {p:Nat} {k:Int} {t:List UInt8} {n:Int} (h:rdT T p=(k,t,n)) (ht:¬ (k=5∨k=2)∨t ∉ o4) (l:Nat):eo T l p=none:=by
 refine nN λ x hx=>?_
 rw [sH h,decide_eq_false_iff_not];rintro ⟨h1,h2⟩;rcases ht with ht | ht
 ·exact ht h1
 ·exact ht (h2 ▸ uW l x hx)
def fY (T:List ap) (lvl q:Nat):Prop:=(∀ l,lvl<=l->l≠3->l≠7->eo T l q=none)/\al T q [46]=false
theorem fY.mono {l l' q:Nat} (h:fY T l q) (hl:l<=l'):fY T l' q:=⟨λ m hm=>h.1 m (by omega),h.2⟩
theorem fY.of {q:Nat} {k:Int} {t:List UInt8} {n:Int} (h:rdT T q=(k,t,n)) (ht:t ∉ o4) (h46:t≠[46]) (l:Nat):fY T l q :=
 ⟨λ m _ _ _=>wP h (.inr ht) m,by rw [sH h,decide_eq_false_iff_not];exact λ h=>h46 h.2⟩
theorem fY.op {q:Nat} {k:Int} (hk:5<=k/\k<=15) (h:rdT T q=opK k) {l:Nat} (hl:bt k<l):fY T l q:=by
 obtain ⟨_,h2,h3⟩:=yt hk h;exact ⟨λ m hm _ _=>h2 m (by omega),h3⟩
end
theorem vW {v:JV} (h:dj v=true):v=cS:=by
 obtain ⟨k,n,s,kids,keys⟩:=v;unfold dj at h;rw [decide_eq_true_eq] at h;obtain ⟨rfl,rfl,rfl,h4⟩:=h;have h5:kids=[]:=List.length_eq_zero_iff.1 (by omega);have h6:keys=[]:=List.length_eq_zero_iff.1 (by omega);subst h5 h6;rfl
theorem tx {k:Int} {v:JV} {s:List UInt8} {nk:Nat} (h:okX k v s nk=true) :
  (k=1/\ee v=true/\s=[]/\nk=0)∨(v=cS/\((k=2/\dB s=true/\nk=0)∨(k=3/\dB s=true/\nk=1)∨(k=4/\s=[])∨(5<=k/\k<=7/\s=[]/\nk=1)∨(8<=k/\k<=15/\s=[]/\nk=2))):=by
 unfold okX at h;split at h
 ·rename_i h1;rw [Bool.and_eq_true,decide_eq_true_eq] at h;exact .inl ⟨h1,h.1,h.2.1,h.2.2⟩
 split at h
 ·cases h
 rename_i hz
 refine .inr ⟨vW (by simpa using hz),?_⟩;split at h
 ·rename_i h1;rw [Bool.and_eq_true,decide_eq_true_eq] at h;exact .inl ⟨h1,h.1,h.2⟩
 split at h
 ·rename_i h1;rw [Bool.and_eq_true,decide_eq_true_eq] at h;exact .inr (.inl ⟨h1,h.1,h.2⟩)
 split at h
 ·rename_i h1;rw [decide_eq_true_eq] at h;exact .inr (.inr (.inl ⟨h1,h⟩))
 split at h
 ·rename_i h1;rw [decide_eq_true_eq] at h;exact .inr (.inr (.inr (.inl ⟨h1.1,h1.2,h.1,h.2⟩)))
 split at h
 ·rename_i h1;rw [decide_eq_true_eq] at h;exact .inr (.inr (.inr (.inr ⟨h1.1,h1.2,h.1,h.2⟩)))
 ·cases h
theorem tu {v:JV} (h:ee v=true):(∃ n,0<=n/\v=lQ n)∨(∃ s,cA s=true/\v=je s)∨v=.mk 1 0 [] [] []∨∃ b,v=eY b:=by
 obtain ⟨k,n,s,kids,keys⟩:=v;unfold ee at h;rw [Bool.and_eq_true,Bool.or_eq_true,decide_eq_true_eq,decide_eq_true_eq] at h;obtain ⟨hg,hk⟩:=h;have ha:=(fl (rg hg).1).1;unfold cz at ha;simp only [JV.kind,JV.num] at hk;rcases hk with ⟨rfl,hn⟩ | rfl | rfl | rfl
 ·rw [if_neg (by decide),if_neg (by decide),if_pos rfl] at ha;simp only [Bool.and_eq_true,beq_iff_eq,List.length_eq_zero_iff] at ha;obtain ⟨⟨rfl,rfl⟩,rfl⟩:=ha;exact .inl ⟨n,hn,rfl⟩
 ·rw [if_pos rfl] at ha;simp only [Bool.and_eq_true,beq_iff_eq,List.length_eq_zero_iff] at ha;obtain ⟨⟨⟨rfl,rfl⟩,rfl⟩,rfl⟩:=ha;exact .inr (.inr (.inl rfl))
 ·rw [if_neg (by decide),if_pos rfl] at ha;simp only [Bool.and_eq_true,Bool.or_eq_true,beq_iff_eq,List.length_eq_zero_iff] at ha;obtain ⟨⟨⟨h0,rfl⟩,rfl⟩,rfl⟩:=ha;refine .inr (.inr (.inr ?_));rcases h0 with rfl | rfl
  ·exact ⟨false,rfl⟩
  ·exact ⟨true,rfl⟩
 ·rw [if_neg (by decide),if_neg (by decide),if_neg (by decide),if_pos rfl] at ha;simp only [Bool.and_eq_true,beq_iff_eq,List.length_eq_zero_iff] at ha;obtain ⟨⟨⟨rfl,ht⟩,rfl⟩,rfl⟩:=ha;exact .inr (.inl ⟨s,ht,rfl⟩)
section
variable {T:List ap} {x:EJ}
end
theorem xi (k:Int) (v:JV) (s:List UInt8) (kids:List EJ):jb (.mk k v s kids)=(bt k,dE k v s (kids.map jb)):=by rw [jb,kA]
end
section
open Go.RowKit
attribute [local go_sem] aa ac ae ab
theorem rk {W:World} {F:Nat->Prop} {css:List (List Value)} {xs:List JV} {A:Option Addr} (h:VRs W F css xs) (hr:RdF W F A css.flatten) {i:Nat} {x:JV} (hx:xs[i]? = some x) :
  ∃ (b o:Nat) (k n:Int) (s:ByteArray) (A':Option Addr) (na ca:Nat) (B':Option Addr) (nb cb:Nat),A=some ⟨b,o,none⟩/\b<W.heap.size/\VR W F [Zi Zq k,Zi Zq n,Zt s,Zs A' na ca,Zs B' nb cb] x /\
   ∀ W',Below W.heap.size W W'->W'.cell? ⟨b,o+i*5,none⟩=some (Zi Zq k)/\W'.cell? ⟨b,o+i*5+1,none⟩=some (Zi Zq n)/\W'.cell? ⟨b,o+i*5+2,none⟩=some (Zt s)/\W'.cell? ⟨b,o+i*5+3,none⟩=some (Zs A' na ca)/\W'.cell? ⟨b,o+i*5+4,none⟩=some (Zs B' nb cb):=by
 obtain ⟨b,o,c,rfl,hb,_,hv,hc⟩:=h.cell hr hx;obtain ⟨k,n,s,A',na,ca,B',nb,cb,rfl⟩:=hv.form;refine ⟨b,o,k,n,s,A',na,ca,B',nb,cb,rfl,hb,hv,λ W' hW=>?_⟩;have z:=λ (j:Nat) u (hj:j<5) hu=>(hW.cell (p:=⟨b,o+(i*5+j),none⟩) hb).trans (hc j u hj hu)
 exact ⟨z 0 _ (by decide) rfl,z 1 _ (by decide) rfl,z 2 _ (by decide) rfl,z 3 _ (by decide) rfl,z 4 _ (by decide) rfl⟩
def cg (d most:Nat) (v:JV):Nat:=if eG d v=true/\a7 v<=most then a7 v else 0
theorem qH {d most:Nat} {k n:Int} {s:List UInt8} {kids:List JV} {keys:List (List UInt8)} (h:cz k n s kids.length keys=false):cg d most (.mk k n s kids keys)=0:=by
 unfold cg;rw [if_neg];rintro ⟨h1,_⟩;rw [(fl h1).1] at h;cases h
theorem pj {most:Nat} {k n:Int} {s:List UInt8} {kids:List JV} {keys:List (List UInt8)} (h:5<=k):cg 0 most (.mk k n s kids keys)=0:=by
 unfold cg;rw [if_neg];rintro ⟨h1,_⟩;exact (fl h1).2.1 h rfl
theorem qI {d most i:Nat} {k n:Int} {s:List UInt8} {kids:List JV} {keys:List (List UInt8)} {x:JV} (hx:kids[i]? = some x) (h:cg (d-1) (most-(1+bd (kids.take i))) x=0):cg d most (.mk k n s kids keys)=0:=by
 unfold cg;rw [if_neg];rintro ⟨h1,h2⟩;obtain ⟨_,_,h3⟩:=fl h1;obtain ⟨hn1,hn2⟩:=iK hx;unfold a7 at h2;have hp:=dO x;unfold cg at h;rw [if_pos ⟨j9.1 h3 x (List.mem_of_getElem? hx),by omega⟩] at h;omega
theorem pm {d m:Nat} {x:JV} {r:Nat} (h:cg d m x=r) (hr:r≠0):eG d x=true/\a7 x=r/\r<=m:=by
 unfold cg at h;split at h
 ·rename_i hh;exact ⟨hh.1,h,by omega⟩
 ·exact absurd h.symm hr
theorem qG {d most:Nat} {k n:Int} {s:List UInt8} {kids:List JV} {keys:List (List UInt8)} (ha:cz k n s kids.length keys=true) (hd:5<=k->d≠0) (hk:∀ x ∈ kids,eG (d-1) x=true) (hm:1+bd kids<=most):cg d most (.mk k n s kids keys)=1+bd kids:=by
 unfold cg;have:eG d (.mk k n s kids keys)=true:=by
  unfold eG;rw [ha,decide_eq_true hd,j9.2 hk];rfl
 rw [if_pos ⟨this,by unfold a7;exact hm⟩];unfold a7;rfl
theorem qq:∀ (N:Nat) (v:JV),a7 v<=N->∀ (d most:Nat) (cs:List Value) (F:Nat->Prop) (w:World),VR w F cs v->dc v->most<=256->d<=8 ->
  Calls Tryz.prog 202 #[.agg cs.toArray,Zi Zq d,Zi Zq most] w λ e w'=>e=.returned (Zi Zq (cg d most v))/\Below w.heap.size w w'
 | 0,v,h,_,_,_,_,_,_,_,_,_=>by have:=dO v;omega
 |N+1,.mk k n s kids keys,hN,d,most,cs,F,w,hv,hR,hm,hd=>by
  have ih:=qq N;unfold a7 at hN;have hAL:=λ W (h:Below w.heap.size w W)=>wU cs k n s kids keys F W (hv.bel h) hR
  obtain ⟨b1,b2,b3,hkl,b5,b6,hck⟩:=hR.out;obtain ⟨A,B,ca,cb,css,rfl,h1,h2,h3,h4,h5,h6,h7⟩:=hv.out;have HIH:=aW (λ (i:Nat) (x:JV) (hx:kids[i]? = some x)=>rk h1 h6 hx);have HCK:=aW hck;have HI:=aW ih;have HAL:=aW hAL;obtain ⟨rr,hrr⟩:∃ rr,cg d most (.mk k n s kids keys)=rr:=⟨_,rfl⟩
  rw [hrr];have HRR:=aW hrr;have HKID:=aW (λ (i:Nat) (x:JV) (hx:kids[i]? = some x)=>qI (d:=d) (most:=most) (k:=k) (n:=n) (s:=s) (keys:=keys) hx);have HALL:=aW (qG (d:=d) (most:=most) (k:=k) (n:=n) (s:=s) (kids:=kids) (keys:=keys));have HBAD:=aW (qH (d:=d) (most:=most) (k:=k) (n:=n) (s:=s) (kids:=kids) (keys:=keys));have HDEEP:=aW (pj (most:=most) (k:=k) (n:=n) (s:=s) (kids:=kids) (keys:=keys));have HLEAF:=aW (λ (h:cz k n s kids.length keys=true) (h5:k<5)=>(lK h h5).1);have hz0:most=0->rr=0:=λ h=>by
   rw [← hrr];unfold cg;rw [if_neg];rintro ⟨_,h2⟩;have:=dO (.mk k n s kids keys);omega
  obtain ⟨g,hg⟩:∃ g,cz k n s kids.length keys=g:=⟨_,rfl⟩
  rw [hg] at HAL HALL HBAD HLEAF;obtain ⟨nk,hnk⟩:∃ nk,kids.length=nk:=⟨_,rfl⟩
  obtain ⟨ny,hny⟩:∃ ny,keys.length=ny:=⟨_,rfl⟩
  rw [hnk,hny] at HAL;rw [hnk] at h2 hkl HLEAF ⊢;rw [hny] at h3 ⊢;have HNK:=aW hnk;have HBW:=aW ((Below.refl w.heap.size w).alloc (Nat.le_refl _) (.cells #[Zi Zq k,Zi Zq n,Zt ⟨s.toArray⟩,Zs A nk ca,Zs B ny cb] 42));clear hv hR h1 h4 h5 h6 h7 hnk hny ih hAL hrr hg hck b1 b2 b3 b5 b6;by_cases hm0:most=0
  ·obtain rfl:=hz0 hm0;subst hm0;clear hz0;go_enter Tryz.func202,Tryz.ntmps202;go_wp2;go_ret;exact ⟨rfl,HBW.out⟩
  have hm1:¬ (most:Int)<1:=by omega
  clear hz0;cases g with
  |false =>
   have h0:=HBAD.out rfl;rw [HRR.out] at h0;subst h0;go_enter Tryz.func202,Tryz.ntmps202;go_wp2_with fail;refine (HAL.out _ HBW.out).mono ?_;rintro e w1 ⟨rfl,hb1⟩;have HB1:=aW (HBW.out.trans (hb1.mono HBW.out.size));clear hb1;go_wp2;go_ret;exact ⟨rfl,HB1.out⟩
  | true =>
  by_cases hdeep:5<=k/\d=0
  ·obtain ⟨h5,rfl⟩:=hdeep;have h0:=HDEEP.out h5;rw [HRR.out] at h0;subst h0;go_enter Tryz.func202,Tryz.ntmps202;go_wp2_with fail;refine (HAL.out _ HBW.out).mono ?_;rintro e w1 ⟨rfl,hb1⟩;have hbk:=(Blk.new w 42 #[Zi Zq k,Zi Zq n,Zt ⟨s.toArray⟩,Zs A nk ca,Zs B ny cb]).keep hb1;have HB1:=aW (HBW.out.trans (hb1.mono HBW.out.size));obtain ⟨c1,f1,l1⟩:=hbk.rules;clear hb1 hbk;have z0:=c1 0;simp at z0;go_wp2;go_ret;exact ⟨rfl,HB1.out⟩
  have hcs:(5<=k/\((d:Int) == 0)=false)∨¬ 5<=k:=by
   by_cases h:5<=k
   ·exact .inl ⟨h,by simp;omega⟩
   ·exact .inr h
  rcases hcs with ⟨h5,hdi⟩ | h5
  all_goals
   go_enter Tryz.func202,Tryz.ntmps202;go_wp2_with fail;refine (HAL.out _ HBW.out).mono ?_;rintro e w1 ⟨rfl,hb1⟩;have hbk:=(Blk.new w 42 #[Zi Zq k,Zi Zq n,Zt ⟨s.toArray⟩,Zs A nk ca,Zs B ny cb]).keep hb1;have HB1:=aW (HBW.out.trans (hb1.mono HBW.out.size));obtain ⟨c1,f1,l1⟩:=hbk.rules;have HBK:=aW hbk;clear hb1 hbk;have z0:=c1 0;simp at z0;go_wp2;clear c1 f1 l1 z0;go_loopg [7,8] nk (λ gk s7 s8 wr => ∃ i m1:Nat,i<=nk/\gk=nk-i/\s7=Zi Zq m1/\s8=Zi Zq i/\1<=m1/\m1<=most/\Hid (m1=1+bd (kids.take i))/\Hid (∀ y ∈ kids.take i,eG (d-1) y=true)/\Hid (Blk wr w.heap.size 42 #[Zi Zq k,Zi Zq n,Zt ⟨s.toArray⟩,Zs A nk ca,Zs B ny cb])/\Hid (Below w.heap.size w wr))
   case atStart=>exact ⟨0,1,Nat.zero_le _,rfl,by go_num,by go_num,Nat.le_refl _,by omega,aW rfl,aW (λ y hy=>by simp at hy),HBK,HB1⟩
   case round =>
    obtain ⟨i,m1,hi,hgk,rfl,rfl,hm0,hm9,HM,HGD,HBK,HB1⟩:=hrel;have HG:=aW hgk;clear hgk;obtain ⟨c1,f1,l1⟩:=HBK.out.rules;have z3:=c1 3;simp at z3;by_cases hlt:i<nk
    ·obtain ⟨x,hx⟩:∃ x,kids[i]? = some x:=⟨_,List.getElem?_eq_getElem (by rw [HNK.out];exact hlt)⟩
     obtain ⟨b,o,k',n',s',A',na,ca',B',nb,cb',rfl,hb,hvx,hz⟩:=HIH.out i x hx;obtain ⟨q0,q1,q2,q3,q4⟩:=hz _ HB1.out;have hd1:1<=d:=by
      rcases (show 5<=k∨k<5 by omega) with h | h
      ·omega
      ·have:=HLEAF.out (by trivial) h;omega
     obtain ⟨hn1,hn2⟩:=iK hx;have hn3:=HM.out;have hcl:=HI.out x (by omega) (d-1) (most-m1) _ F _ (hvx.bel HB1.out) (HCK.out x (List.mem_of_getElem? hx)) (by omega) (by omega);obtain ⟨r,hr⟩:∃ r,cg (d-1) (most-m1) x=r:=⟨_,rfl⟩
     rw [hr,show (((d-1:Nat)):Int)=(d:Int)-1 by omega,show (((most-m1:Nat)):Int)=(most:Int)-(m1:Int) by omega] at hcl;have HCL:=aW hcl;by_cases hr0:r=0
     ·have h0:=HKID.out i x hx (by rw [← hn3,hr];exact hr0);rw [HRR.out] at h0;subst h0;subst hr0;clear hz hvx hx hcl hr hn1 hn2 hn3 HM;go_wp2_with fail;refine HCL.out.mono ?_;rintro e w2 ⟨rfl,hb2⟩;have HB2:=aW (HB1.out.trans (hb2.mono HB1.out.size));clear hb2;go_wp2;go_ret;exact ⟨rfl,HB2.out⟩
     obtain ⟨hgx,hnx,hrm⟩:=pm hr hr0;rw [hnx] at hn1 hn2;have HM2:=aW (show m1+r=1+bd (kids.take (i+1)) by omega);have HGD2:=aW (show ∀ y ∈ kids.take (i+1),eG (d-1) y=true from λ y hy=>by
      rw [List.take_add_one,hx] at hy;rcases List.mem_append.1 hy with hy | hy
      ·exact HGD.out y hy
      ·obtain rfl:y=x:=by simpa using hy
       exact hgx)
     have hmr:m1+r<=most:=by omega
     have hrb:((r:Int) == 0)=false:=by simp;omega
     clear hz hvx hx hcl hr hn1 hn2 hn3 HM hgx hnx;go_wp2_with fail;refine HCL.out.mono ?_;rintro e w2 ⟨rfl,hb2⟩;have HBK2:=aW (HBK.out.keep hb2);have HB2:=aW (HB1.out.trans (hb2.mono HB1.out.size));clear hb2;go_wp2;go_roundg (nk-(i+1))
     case measure=>rw [HG.out];omega
     case rel=>exact ⟨i+1,m1+r,hlt,rfl,by go_num,by go_num,by omega,hmr,HM2,HGD2,HBK2,HB2⟩
    ·obtain rfl:i=nk:=by omega
     have hn3:=HM.out;have hgd:=HGD.out;rw [List.take_of_length_le (by rw [HNK.out];exact Nat.le_refl _)] at hn3 hgd;have h0:=HALL.out (by trivial) (λ h e=>hdeep ⟨h,e⟩) hgd (by omega);rw [HRR.out,← hn3] at h0;subst h0;go_wp2;go_ret;exact ⟨rfl,HB1.out⟩
theorem pk (v:JV):dX v=decide (0<cg 8 256 v):=by
 unfold dX cg;have:=dO v;by_cases h:eG 8 v=true/\a7 v<=256
 ·rw [if_pos h,h.1,decide_eq_true h.2,decide_eq_true (by omega)];rfl
 ·rw [if_neg h];rw [Bool.eq_iff_iff];simp only [Bool.and_eq_true,decide_eq_true_eq];exact ⟨λ h'=>absurd h' h,λ h'=>absurd h' (by omega)⟩
theorem wW (v:JV) (cs:List Value) (F:Nat->Prop) (w:World) (hv:VR w F cs v) (hc:dc v) :
  Calls Tryz.prog 188 #[.agg cs.toArray] w (dl (dX v) w):=by
 have hW:=λ W (h:Below w.heap.size w W)=>qq _ v (Nat.le_refl _) 8 256 cs F W (hv.bel h) hc (Nat.le_refl _) (Nat.le_refl _)
 obtain ⟨k0,n0,s0,A0,na0,ca0,B0,nb0,cb0,rfl⟩:=hv.form;have hp:=pk v;obtain ⟨r,hr⟩:∃ r,cg 8 256 v=r:=⟨_,rfl⟩
 rw [hr,show ((8:Nat):Int)=8 from rfl,show ((256:Nat):Int)=256 from rfl] at hW;rw [hr] at hp;rw [hp];have HW:=aW hW;have HBW:=aW ((Below.refl w.heap.size w).alloc (Nat.le_refl _) (.cells #[Zi Zq k0,Zi Zq n0,Zt s0,Zs A0 na0 ca0,Zs B0 nb0 cb0] 42));clear hW hr hv hc hp;by_cases hr0:r=0
 ·subst hr0;go_enter Tryz.func188,Tryz.ntmps188;go_wp2_with fail;refine (HW.out _ HBW.out).mono ?_;rintro e w1 ⟨rfl,hb1⟩;have HB1:=aW (HBW.out.trans (hb1.mono HBW.out.size));clear hb1;go_wp2;go_ret;exact ⟨rfl,HB1.out⟩
 ·have hr1:(0:Int)<(r:Int):=by omega
  rw [decide_eq_true (show 0<r by omega)];go_enter Tryz.func188,Tryz.ntmps188;go_wp2_with fail;refine (HW.out _ HBW.out).mono ?_;rintro e w1 ⟨rfl,hb1⟩;have HB1:=aW (HBW.out.trans (hb1.mono HBW.out.size));clear hb1;go_wp2;go_ret;refine ⟨am ?_,HB1.out⟩;simp;omega
end
end Go.Proofs.YtgmnmnnoahdjnaaGreatDoor
