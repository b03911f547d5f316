import Derived.Test.YtgolomgmnanbpaaGreatDoorV18
open Go.Value renaming int → Zi, slice → Zs, string → Zt, pointer → Zp
open Go.IntKind renaming i64 → Zq
set_option maxRecDepth 100000
set_option maxHeartbeats 16000000
set_option linter.unusedVariables false
set_option linter.unusedSimpArgs false
namespace Go.Proofs.YtgolomgmnanbpaaGreatDoor
section
open Go.RowKit
attribute [local go_sem] aa ac ae ab
theorem Blk.farC {g b:Nat} {t:TypeId} {cs:Array Value} (hb:g≠b):∀ (l:List Value) (o:Nat) {w:World},Blk w g t cs->Blk (w.setCells b o l) g t cs
 | [],_,_,h=>h
 | v::r,o,w,h=>Blk.farC hb r (o+1) (h.far hb v)
theorem cx {B:Nat} {a:World} {b:Nat} (hb:B<=b):∀ (l:List Value) (o:Nat) {w:World},Below B a w->Below B a (w.setCells b o l)
 | [],_,_,h=>h
 | v::r,o,w,h=>cx hb r (o+1) (h.setCell (p:=⟨b,o,none⟩) hb v)
theorem af.setC {F:Nat->Prop} {a:World} {b:Nat} (hb:∀ k,F k->k≠b):∀ (l:List Value) (o:Nat) {w:World},af F a w->af F a (w.setCells b o l)
 | [],_,_,h=>h
 | v::r,o,w,h=>af.setC hb r (o+1) (h.set hb o v)
theorem Blk.set5C {w:World} {g:Nat} {t:TypeId} {c0 c1 c2 c3 c4:Value} (h:Blk w g t #[c0,c1,c2,c3,c4]) (a b c d e:Value):Blk (w.setCells g 0 [a,b,c,d,e]) g t #[a,b,c,d,e] :=
 ((((h.set_ 0 a).set_ 1 b).set_ 2 c).set_ 3 d).set_ 4 e
theorem Blk.there {w:World} {g:Nat} {t:TypeId} {cs:Array Value} (h:Blk w g t cs):World.there w g 0 cs.size :=
 λ j hj=>⟨by rw [Nat.zero_add,h.cell];simp [hj],h.frozen _⟩
theorem bW.mono {pv:Value} {F:Nat->Prop} {env:List (List UInt8 × JV)} {w W:World} {y:EJ} (h:bW pv F env w y) (hW:Below w.heap.size w W):bW pv F env W y :=
 λ W' cs h1 h2=>h W' cs (hW.trans (h1.mono hW.size)) h2
def mR (pv:Value) (F:Nat->Prop) (env:List (List UInt8 × JV)) (w:World) (y:EJ):Prop :=
 ∀ W (cs:List Value),Below w.heap.size w W->ER W F cs y->Calls Tryz.prog 94 #[pv,.agg cs.toArray] W (BoP (isB (evE env y)) W)
theorem bW.bool {pv:Value} {F:Nat->Prop} {env:List (List UInt8 × JV)} {w:World} {y:EJ} (h:bW pv F env w y):mR pv F env w y :=
 λ W cs h1 h2=>np h W cs h1 h2
theorem yr {pv:Value} {F:Nat->Prop} {env:List (List UInt8 × JV)} {w:World} {k:Int} {v:JV} {s:List UInt8} {y:EJ} {r:List EJ} {cs:List Value}  (hk:mR pv F env w y) (hx:ER w F cs (.mk k v s (y::r))) :
  Calls Tryz.prog 75 #[pv,.agg cs.toArray] w (ExP ((isB (evE env y)).map λ b=>aG (!b)) F w):=by
 obtain ⟨k1,n1,s1,A1,na1,ca1,B1,nb1,cb1,A,ca,css,rfl,hv,h1,h2,h3,h4⟩:=hx.out;obtain ⟨b,o,kx,px,nx,sx,Ax,nax,cax,Bx,nbx,cbx,tx,Cx,ncx,ccx,rfl,hb,hER,hz⟩:=aq h1 h4 (i:=0) (x:=y) rfl;have HKC:=aW (λ (W:World) (h:Below w.heap.size w W)=>hk W _ h (hER.bel h));have HZZ:=aW (λ (W:World) (h:Below w.heap.size w W)=>hz W h);obtain ⟨nr,hnr⟩:∃ q,(y::r).length=q:=⟨_,rfl⟩
 have hnr1:1<=nr:=by rw [← hnr];simp
 rw [hnr] at h2 ⊢;have HLB:=aW hb;obtain ⟨o0,ho0⟩:∃ o,isB (evE env y)=o:=⟨_,rfl⟩
 rw [ho0] at HKC ⊢;have HH0:=aW (((aj.nil w).push 28 #[Zi Zq k,Zi Zq k1,Zi Zq n1,Zt s1,Zs A1 na1 ca1,Zs B1 nb1 cb1,Zt ⟨s.toArray⟩,Zs (some ⟨b,o,none⟩) nr ca] (g:=w.heap.size) rfl).push 25 #[Zi Zq 0,Zi Zq 0,Zt ⟨#[]⟩,Zs none 0 0,Zs none 0 0] (g:=w.heap.size+1) (by simp));clear hk hx hv h1 h2 h3 h4 hER hz hb hnr ho0;obtain ⟨op,hop⟩:∃ p,(o0.map λ b=>aG (!b))=p:=⟨_,rfl⟩
 have HOP:=aW hop;rw [hop];clear hop;obtain ⟨c0,f0,l0⟩:=HH0.out.b1.rules;obtain ⟨z0,z1,z2,z3,z4,z5,z6,z7⟩:=HZZ.out _ (Below.refl _ _);simp only [Nat.zero_mul,Nat.add_zero] at z0 z1 z2 z3 z4 z5 z6 z7;have lb:=HLB.out;go_enter Tryz.func75,Tryz.ntmps75;go_wp2_with fail;refine (HKC.out _ HH0.out.1).mono ?_;rintro e w1 ⟨t,b1,rfl,ho,hb1⟩;have HH1:=aW (HH0.out.keep hb1);have HO:=aW ho;clear hb1 c0 f0 l0 ho z0 z1 z2 z3 z4 z5 z6 z7 lb;cases b1
 ·go_wp2_with fail;refine (bM _).mono ?_;rintro e wn ⟨rfl,hbn⟩;have HHN:=aW (HH1.out.keep hbn);clear hbn;obtain ⟨c1,f1,l1⟩:=HHN.out.b0.rules;go_wp2;refine bodyPost_ret (v:=.tuple #[.agg #[Zi Zq 0,Zi Zq 0,Zt ⟨#[]⟩,Zs none 0 0,Zs none 0 0],.bool false]) (by simp only [results,Tryz.results75];go_simp) rfl ?_;exact ExP.none_ (w1:=w) (by rw [← HOP.out,HO.out];rfl) (ah HHN.out.1 (by omega) _ _ _ _ _)
 ·have HT:=aW (λ W=>fk (!t) W);obtain ⟨z,hz⟩:∃ z:Int,(if (!t)=true then 1 else 0)=z:=⟨_,rfl⟩
  unfold kL at HT;rw [hz] at HT;have HZ:=aW hz;clear hz;go_wp2_with fail;refine (HT.out _).mono ?_;rintro e w2 ⟨rfl,hb2⟩;have HH2:=aW (HH1.out.keep hb2);clear hb2;obtain ⟨c1,f1,l1⟩:=HH2.out.b0.rules;go_wp2;refine bodyPost_ret (v:=.tuple #[.agg #[Zi Zq 2,Zi Zq z,Zt ⟨#[]⟩,Zs none 0 0,Zs none 0 0],.bool true]) (by simp only [results,Tryz.results75];go_simp) rfl ?_;exact ExP.bool_ (b:=!t) (by rw [← HZ.out]) (by rw [← HOP.out,HO.out];rfl) (ah HH2.out.1 (by omega) _ _ _ _ _)
def kI (d:Bool) (o0 o1:Option Bool):Option JV:=match o0 with | none=>none | some t=>if t=d then some (aG t) else o1.map aG
theorem qc {pv:Value} {F:Nat->Prop} {env:List (List UInt8 × JV)} {w:World} {k:Int} {v:JV} {s:List UInt8} {y:EJ} {r:List EJ} {cs:List Value} (d:Bool) (hk:mR pv F env w y) {y':EJ} (hk':mR pv F env w y') (hx:ER w F cs (.mk k v s (y::y'::r))) :
  Calls Tryz.prog 134 #[pv,.agg cs.toArray,.bool d] w (ExP (kI d (isB (evE env y)) (isB (evE env y'))) F w):=by
 obtain ⟨k1,n1,s1,A1,na1,ca1,B1,nb1,cb1,A,ca,css,rfl,hv,h1,h2,h3,h4⟩:=hx.out;obtain ⟨b,o,kx,px,nx,sx,Ax,nax,cax,Bx,nbx,cbx,tx,Cx,ncx,ccx,rfl,hb,hER,hz⟩:=aq h1 h4 (i:=0) (x:=y) rfl;have HKC:=aW (λ (W:World) (h:Below w.heap.size w W)=>hk W _ h (hER.bel h));obtain ⟨b',o',kz,pz,nz,sz,Az,naz,caz,Bz,nbz,cbz,tz,Cz,ncz,ccz,hA',hb',hER',hz'⟩:=aq h1 h4 (i:=1) (x:=y') rfl;injection hA' with hA';injection hA' with hA1 hA2;subst hA1 hA2
 have HKC':=aW (λ (W:World) (h:Below w.heap.size w W)=>hk' W _ h (hER'.bel h));have HZZ':=aW (λ (W:World) (h:Below w.heap.size w W)=>hz' W h);have HZZ:=aW (λ (W:World) (h:Below w.heap.size w W)=>hz W h);obtain ⟨nr,hnr⟩:∃ q,(y::y'::r).length=q:=⟨_,rfl⟩
 have hnr1:2<=nr:=by rw [← hnr];simp
 rw [hnr] at h2 ⊢;have HLB:=aW hb;obtain ⟨o0,ho0⟩:∃ o,isB (evE env y)=o:=⟨_,rfl⟩
 rw [ho0] at HKC ⊢;have HH0:=aW (((aj.nil w).push 28 #[Zi Zq k,Zi Zq k1,Zi Zq n1,Zt s1,Zs A1 na1 ca1,Zs B1 nb1 cb1,Zt ⟨s.toArray⟩,Zs (some ⟨b,o,none⟩) nr ca] (g:=w.heap.size) rfl).push 25 #[Zi Zq 0,Zi Zq 0,Zt ⟨#[]⟩,Zs none 0 0,Zs none 0 0] (g:=w.heap.size+1) (by simp));obtain ⟨o1,ho1⟩:∃ o,isB (evE env y')=o:=⟨_,rfl⟩
 rw [ho1] at HKC' ⊢;clear hk hk' hx hv h1 h2 h3 h4 hER hz hb hnr ho0 ho1 hER' hz' hb';obtain ⟨op,hop⟩:∃ p,kI d o0 o1=p:=⟨_,rfl⟩
 have HOP:=aW hop;rw [hop];clear hop;obtain ⟨c0,f0,l0⟩:=HH0.out.b1.rules;obtain ⟨z0,z1,z2,z3,z4,z5,z6,z7⟩:=HZZ.out _ (Below.refl _ _);simp only [Nat.zero_mul,Nat.add_zero] at z0 z1 z2 z3 z4 z5 z6 z7;have lb:=HLB.out;go_enter Tryz.func134,Tryz.ntmps134;go_wp2_with fail;refine (HKC.out _ HH0.out.1).mono ?_;rintro e w1 ⟨t,b1,rfl,ho,hb1⟩;have HH1:=aW (HH0.out.keep hb1);have HO:=aW ho;have HB1:=aW HH1.out.1;clear hb1 c0 f0 l0 ho z0 z1 z2 z3 z4 z5 z6 z7 lb;cases b1
 ·go_wp2_with fail;refine (bM _).mono ?_;rintro e wn ⟨rfl,hbn⟩;have HHN:=aW (HH1.out.keep hbn);clear hbn;obtain ⟨c1,f1,l1⟩:=HHN.out.b0.rules;go_wp2;refine bodyPost_ret (v:=.tuple #[.agg #[Zi Zq 0,Zi Zq 0,Zt ⟨#[]⟩,Zs none 0 0,Zs none 0 0],.bool false]) (by simp only [results,Tryz.results134];go_simp) rfl ?_;exact ExP.none_ (w1:=w) (by rw [← HOP.out,HO.out];rfl) (ah HHN.out.1 (by omega) _ _ _ _ _)
 ·cases t
  ·cases d
   ·have HT:=aW (λ W=>fk false W);obtain ⟨z,hz⟩:∃ z:Int,(if false=true then 1 else 0)=z:=⟨_,rfl⟩
    unfold kL at HT;rw [hz] at HT;have HZ:=aW hz;clear hz;go_wp2_with fail;refine (HT.out _).mono ?_;rintro e wt ⟨rfl,hbt⟩;have HHT:=aW (HH1.out.keep hbt);clear hbt;obtain ⟨c1,f1,l1⟩:=HHT.out.b0.rules;go_wp2;refine bodyPost_ret (v:=.tuple #[.agg #[Zi Zq 2,Zi Zq z,Zt ⟨#[]⟩,Zs none 0 0,Zs none 0 0],.bool true]) (by simp only [results,Tryz.results134];go_simp) rfl ?_;exact ExP.bool_ (b:=false) (by first | (rw [← HZ.out];done) | (rw [← HZ.out];rfl) | (rw [← HZ.out];simp)) (by rw [← HOP.out,HO.out];rfl) (ah HHT.out.1 (by omega) _ _ _ _ _)
   ·obtain ⟨c0,f0,l0⟩:=HH1.out.b1.rules;obtain ⟨y0,y1,y2,y3,y4,y5,y6,y7⟩:=HZZ'.out _ HB1.out;simp only [Nat.one_mul,Nat.add_assoc,Nat.reduceAdd] at y0 y1 y2 y3 y4 y5 y6 y7;have lb:=HLB.out;go_wp2_with fail;refine (HKC'.out _ HB1.out).mono ?_;rintro e w2 ⟨t2,b2,rfl,ho2,hb2⟩;have HH2:=aW (HH1.out.keep hb2);have HO2:=aW ho2;clear hb2 c0 f0 l0 ho2 y0 y1 y2 y3 y4 y5 y6 y7 lb;cases b2
    ·go_wp2_with fail;refine (bM _).mono ?_;rintro e wn ⟨rfl,hbn⟩;have HHN:=aW (HH2.out.keep hbn);clear hbn;obtain ⟨c1,f1,l1⟩:=HHN.out.b0.rules;go_wp2;refine bodyPost_ret (v:=.tuple #[.agg #[Zi Zq 0,Zi Zq 0,Zt ⟨#[]⟩,Zs none 0 0,Zs none 0 0],.bool false]) (by simp only [results,Tryz.results134];go_simp) rfl ?_;exact ExP.none_ (w1:=w) (by rw [← HOP.out,HO.out,HO2.out];rfl) (ah HHN.out.1 (by omega) _ _ _ _ _)
    ·have HT:=aW (λ W=>fk t2 W);obtain ⟨z,hz⟩:∃ z:Int,(if t2=true then 1 else 0)=z:=⟨_,rfl⟩
     unfold kL at HT;rw [hz] at HT;have HZ:=aW hz;clear hz;go_wp2_with fail;refine (HT.out _).mono ?_;rintro e wt ⟨rfl,hbt⟩;have HHT:=aW (HH2.out.keep hbt);clear hbt;obtain ⟨c1,f1,l1⟩:=HHT.out.b0.rules;go_wp2;refine bodyPost_ret (v:=.tuple #[.agg #[Zi Zq 2,Zi Zq z,Zt ⟨#[]⟩,Zs none 0 0,Zs none 0 0],.bool true]) (by simp only [results,Tryz.results134];go_simp) rfl ?_;exact ExP.bool_ (b:=t2) (by first | (rw [← HZ.out];done) | (rw [← HZ.out];rfl) | (rw [← HZ.out];simp)) (by rw [← HOP.out,HO.out,HO2.out];rfl) (ah HHT.out.1 (by omega) _ _ _ _ _)
  ·cases d
   ·obtain ⟨c0,f0,l0⟩:=HH1.out.b1.rules;obtain ⟨y0,y1,y2,y3,y4,y5,y6,y7⟩:=HZZ'.out _ HB1.out;simp only [Nat.one_mul,Nat.add_assoc,Nat.reduceAdd] at y0 y1 y2 y3 y4 y5 y6 y7;have lb:=HLB.out;go_wp2_with fail;refine (HKC'.out _ HB1.out).mono ?_;rintro e w2 ⟨t2,b2,rfl,ho2,hb2⟩;have HH2:=aW (HH1.out.keep hb2);have HO2:=aW ho2;clear hb2 c0 f0 l0 ho2 y0 y1 y2 y3 y4 y5 y6 y7 lb;cases b2
    ·go_wp2_with fail;refine (bM _).mono ?_;rintro e wn ⟨rfl,hbn⟩;have HHN:=aW (HH2.out.keep hbn);clear hbn;obtain ⟨c1,f1,l1⟩:=HHN.out.b0.rules;go_wp2;refine bodyPost_ret (v:=.tuple #[.agg #[Zi Zq 0,Zi Zq 0,Zt ⟨#[]⟩,Zs none 0 0,Zs none 0 0],.bool false]) (by simp only [results,Tryz.results134];go_simp) rfl ?_;exact ExP.none_ (w1:=w) (by rw [← HOP.out,HO.out,HO2.out];rfl) (ah HHN.out.1 (by omega) _ _ _ _ _)
    ·have HT:=aW (λ W=>fk t2 W);obtain ⟨z,hz⟩:∃ z:Int,(if t2=true then 1 else 0)=z:=⟨_,rfl⟩
     unfold kL at HT;rw [hz] at HT;have HZ:=aW hz;clear hz;go_wp2_with fail;refine (HT.out _).mono ?_;rintro e wt ⟨rfl,hbt⟩;have HHT:=aW (HH2.out.keep hbt);clear hbt;obtain ⟨c1,f1,l1⟩:=HHT.out.b0.rules;go_wp2;refine bodyPost_ret (v:=.tuple #[.agg #[Zi Zq 2,Zi Zq z,Zt ⟨#[]⟩,Zs none 0 0,Zs none 0 0],.bool true]) (by simp only [results,Tryz.results134];go_simp) rfl ?_;exact ExP.bool_ (b:=t2) (by first | (rw [← HZ.out];done) | (rw [← HZ.out];rfl) | (rw [← HZ.out];simp)) (by rw [← HOP.out,HO.out,HO2.out];rfl) (ah HHT.out.1 (by omega) _ _ _ _ _)
   ·have HT:=aW (λ W=>fk true W);obtain ⟨z,hz⟩:∃ z:Int,(if true=true then 1 else 0)=z:=⟨_,rfl⟩
    unfold kL at HT;rw [hz] at HT;have HZ:=aW hz;clear hz;go_wp2_with fail;refine (HT.out _).mono ?_;rintro e wt ⟨rfl,hbt⟩;have HHT:=aW (HH1.out.keep hbt);clear hbt;obtain ⟨c1,f1,l1⟩:=HHT.out.b0.rules;go_wp2;refine bodyPost_ret (v:=.tuple #[.agg #[Zi Zq 2,Zi Zq z,Zt ⟨#[]⟩,Zs none 0 0,Zs none 0 0],.bool true]) (by simp only [results,Tryz.results134];go_simp) rfl ?_;exact ExP.bool_ (b:=true) (by first | (rw [← HZ.out];done) | (rw [← HZ.out];rfl) | (rw [← HZ.out];simp)) (by rw [← HOP.out,HO.out];rfl) (ah HHT.out.1 (by omega) _ _ _ _ _)
theorem xZ {pv:Value} {F:Nat->Prop} {env:List (List UInt8 × JV)} {w:World} {k:Int} {v:JV} {s:List UInt8} {y:EJ} {r:List EJ} {cs:List Value} {y':EJ} (hk:mR pv F env w y) (hk':mR pv F env w y') (hF:∀ b,F b->b<w.heap.size) (hx:ER w F cs (.mk k v s (y::y'::r))) :
  Calls Tryz.prog 84 #[pv,.agg cs.toArray] w (ExP (kI false (isB (evE env y)) (isB (evE env y'))) F w):=by
 have HE:=aW (λ (W:World) (h:Below w.heap.size w W)=>qc false (hk:=λ W' c a b=>hk W' c (h.trans (a.mono h.size)) b) (λ W' c a b=>hk' W' c (h.trans (a.mono h.size)) b) (hx.bel h));obtain ⟨o,ho⟩:∃ o,kI false (isB (evE env y)) (isB (evE env y'))=o:=⟨_,rfl⟩
 rw [ho] at HE ⊢;obtain ⟨k1,n1,s1,A1,na1,ca1,B1,nb1,cb1,A,ca,css,rfl,_⟩:=hx.out;obtain ⟨nr,hnr⟩:∃ q,(y::y'::r).length=q:=⟨_,rfl⟩
 rw [hnr] at HE ⊢;have HH0:=aW (((aj.nil w).push 28 #[Zi Zq k,Zi Zq k1,Zi Zq n1,Zt s1,Zs A1 na1 ca1,Zs B1 nb1 cb1,Zt ⟨s.toArray⟩,Zs A nr ca] (g:=w.heap.size) rfl).push 25 #[Zi Zq 0,Zi Zq 0,Zt ⟨#[]⟩,Zs none 0 0,Zs none 0 0] (g:=w.heap.size+1) (by simp));clear hk hk' hx ho hnr;obtain ⟨c0,f0,l0⟩:=HH0.out.b1.rules;go_enter Tryz.func84,Tryz.ntmps84;go_wp2_with fail;refine (HE.out _ HH0.out.1).mono ?_;rintro e w1 ⟨cs1,v1,b1,rfl,hv1,hc1,ho1,hg1,hb1⟩;have HR:=aW hv1;obtain ⟨k5,n5,s5,A5,na5,ca5,B5,nb5,cb5,rfl⟩:=hv1.form;have HH1:=aW (HH0.out.keep hb1);have HQ:=aW (And.intro hc1 (And.intro ho1 hg1));have HFF:=aW hF;clear hF;clear hb1 c0 f0 l0 hv1 hc1 ho1 hg1 HE;obtain ⟨c1,f1,l1⟩:=HH1.out.b0.rules;go_wp2;refine bodyPost_ret (v:=.tuple #[.agg #[Zi Zq k5,Zi Zq n5,Zt s5,Zs A5 na5 ca5,Zs B5 nb5 cb5],.bool b1]) (by simp only [results,Tryz.results84];go_simp) rfl ?_;exact ⟨_,v1,b1,rfl,HR.out.out5 HFF.out (by simp;omega) (by omega) (by simp) _ _ _ _ _,HQ.out.1,HQ.out.2.1,HQ.out.2.2,ah HH1.out.1 (by omega) _ _ _ _ _⟩
theorem mOr {pv:Value} {F:Nat->Prop} {env:List (List UInt8 × JV)} {w:World} {k:Int} {v:JV} {s:List UInt8} {y:EJ} {r:List EJ} {cs:List Value} {y':EJ} (hk:mR pv F env w y) (hk':mR pv F env w y') (hF:∀ b,F b->b<w.heap.size) (hx:ER w F cs (.mk k v s (y::y'::r))) :
  Calls Tryz.prog 85 #[pv,.agg cs.toArray] w (ExP (kI true (isB (evE env y)) (isB (evE env y'))) F w):=by
 have HE:=aW (λ (W:World) (h:Below w.heap.size w W)=>qc true (hk:=λ W' c a b=>hk W' c (h.trans (a.mono h.size)) b) (λ W' c a b=>hk' W' c (h.trans (a.mono h.size)) b) (hx.bel h));obtain ⟨o,ho⟩:∃ o,kI true (isB (evE env y)) (isB (evE env y'))=o:=⟨_,rfl⟩
 rw [ho] at HE ⊢;obtain ⟨k1,n1,s1,A1,na1,ca1,B1,nb1,cb1,A,ca,css,rfl,_⟩:=hx.out;obtain ⟨nr,hnr⟩:∃ q,(y::y'::r).length=q:=⟨_,rfl⟩
 rw [hnr] at HE ⊢;have HH0:=aW (((aj.nil w).push 28 #[Zi Zq k,Zi Zq k1,Zi Zq n1,Zt s1,Zs A1 na1 ca1,Zs B1 nb1 cb1,Zt ⟨s.toArray⟩,Zs A nr ca] (g:=w.heap.size) rfl).push 25 #[Zi Zq 0,Zi Zq 0,Zt ⟨#[]⟩,Zs none 0 0,Zs none 0 0] (g:=w.heap.size+1) (by simp));clear hk hk' hx ho hnr;obtain ⟨c0,f0,l0⟩:=HH0.out.b1.rules;go_enter Tryz.func85,Tryz.ntmps85;go_wp2_with fail;refine (HE.out _ HH0.out.1).mono ?_;rintro e w1 ⟨cs1,v1,b1,rfl,hv1,hc1,ho1,hg1,hb1⟩;have HR:=aW hv1;obtain ⟨k5,n5,s5,A5,na5,ca5,B5,nb5,cb5,rfl⟩:=hv1.form;have HH1:=aW (HH0.out.keep hb1);have HQ:=aW (And.intro hc1 (And.intro ho1 hg1));have HFF:=aW hF;clear hF;clear hb1 c0 f0 l0 hv1 hc1 ho1 hg1 HE;obtain ⟨c1,f1,l1⟩:=HH1.out.b0.rules;go_wp2;refine bodyPost_ret (v:=.tuple #[.agg #[Zi Zq k5,Zi Zq n5,Zt s5,Zs A5 na5 ca5,Zs B5 nb5 cb5],.bool b1]) (by simp only [results,Tryz.results85];go_simp) rfl ?_;exact ⟨_,v1,b1,rfl,HR.out.out5 HFF.out (by simp;omega) (by omega) (by simp) _ _ _ _ _,HQ.out.1,HQ.out.2.1,HQ.out.2.2,ah HH1.out.1 (by omega) _ _ _ _ _⟩
theorem VR.outK {w Wc W0 Wf:World} {F:Nat->Prop} {cs:List Value} {v:JV} (h:VR W0 (FN F Wc) cs v) (hF:∀ b,F b->b<w.heap.size) (hc:w.heap.size+3<=Wc.heap.size)
  (hK:∀ G:Nat->Prop,(∀ k,G k->k≠w.heap.size+1)->(∀ k,G k->k≠w.heap.size+2)->af G W0 Wf):VR Wf (FN F w) cs v:=by
 have ne:∀ (q:Nat),q<3->∀ k,FN F Wc k->k≠w.heap.size+q:=λ q hq k hk=>by
  rcases hk with hk | hk
  ·have:=hF k hk;omega
  ·omega
 refine (h.keep (hK _ (ne 1 (by omega)) (ne 2 (by omega)))).mono λ b _ hb=>?_
 rcases hb with hb | hb
 ·exact .inl hb
 ·exact .inr (by omega)
def wa (o0 o1:Option JV) (F:Nat->Prop) (w:World) (e:Ending) (w':World):Prop:=∃ (ca cb:List Value) (va vb:JV) (b:Bool),e=.returned (.tuple #[.agg ca.toArray,.agg cb.toArray,.bool b])/\VR w' (FN F w) ca va/\VR w' (FN F w) cb vb/\au va/\au vb /\
 (b=true->o0=some va/\o1=some vb/\good va=true/\good vb=true)/\(b=false->o0=none∨o1=none)/\Below w.heap.size w w'
theorem kX {pv:Value} {F:Nat->Prop} {env:List (List UInt8 × JV)} {w:World} {k:Int} {v:JV} {s:List UInt8} {y:EJ} {r:List EJ} {cs:List Value} {y':EJ} (hk:bW pv F env w y) (hk':bW pv F env w y') (hF:∀ b,F b->b<w.heap.size) (hx:ER w F cs (.mk k v s (y::y'::r))) :
  Calls Tryz.prog 171 #[pv,.agg cs.toArray] w (wa (evE env y) (evE env y') F w):=by
 obtain ⟨k1,n1,s1,A1,na1,ca1,B1,nb1,cb1,A,ca,css,rfl,hv,h1,h2,h3,h4⟩:=hx.out;obtain ⟨b,o,kx,px,nx,sx,Ax,nax,cax,Bx,nbx,cbx,tx,Cx,ncx,ccx,rfl,hb,hER,hz⟩:=aq h1 h4 (i:=0) (x:=y) rfl;have HKC:=aW (λ (W:World) (h:Below w.heap.size w W)=>hk W _ h (hER.bel h));obtain ⟨b',o',kz,pz,nz,sz,Az,naz,caz,Bz,nbz,cbz,tz,Cz,ncz,ccz,hA',hb',hER',hz'⟩:=aq h1 h4 (i:=1) (x:=y') rfl;injection hA' with hA';injection hA' with hA1 hA2;subst hA1 hA2
 have HKC':=aW (λ (W:World) (h:Below w.heap.size w W)=>hk' W _ h (hER'.bel h));have HZZ':=aW (λ (W:World) (h:Below w.heap.size w W)=>hz' W h);have HZZ:=aW (λ (W:World) (h:Below w.heap.size w W)=>hz W h);obtain ⟨nr,hnr⟩:∃ q,(y::y'::r).length=q:=⟨_,rfl⟩
 have hnr1:2<=nr:=by rw [← hnr];simp
 rw [hnr] at h2 ⊢;have HLB:=aW hb;obtain ⟨o0,ho0⟩:∃ o,evE env y=o:=⟨_,rfl⟩
 rw [ho0] at HKC ⊢;have HH0:=aW ((((aj.nil w).push 28 #[Zi Zq k,Zi Zq k1,Zi Zq n1,Zt s1,Zs A1 na1 ca1,Zs B1 nb1 cb1,Zt ⟨s.toArray⟩,Zs (some ⟨b,o,none⟩) nr ca] (g:=w.heap.size) rfl).push 25 #[Zi Zq 0,Zi Zq 0,Zt ⟨#[]⟩,Zs none 0 0,Zs none 0 0] (g:=w.heap.size+1) (by simp)).push 25 #[Zi Zq 0,Zi Zq 0,Zt ⟨#[]⟩,Zs none 0 0,Zs none 0 0] (g:=w.heap.size+2) (by simp));obtain ⟨o1,ho1⟩:∃ o,evE env y'=o:=⟨_,rfl⟩
 rw [ho1] at HKC' ⊢;have HFF:=aW hF;clear hk hk' hx hv h1 h2 h3 h4 hER hz hb hnr ho0 ho1 hER' hz' hb' hF;obtain ⟨c0,f0,l0⟩:=HH0.out.b2.rules;have ne1:b≠w.heap.size:=Nat.ne_of_lt HLB.out;have ne2:b≠w.heap.size+1:=by have:=HLB.out;omega
 have ne3:b≠w.heap.size+1+1:=by have:=HLB.out;omega
 have ne4:b<w.heap.size+1:=by have:=HLB.out;omega
 have ne5:b<w.heap.size+1+1:=by have:=HLB.out;omega
 have ne6:b<w.heap.size+2:=by have:=HLB.out;omega
 obtain ⟨z0,z1,z2,z3,z4,z5,z6,z7⟩:=HZZ.out _ (Below.refl _ _);simp only [Nat.zero_mul,Nat.add_zero] at z0 z1 z2 z3 z4 z5 z6 z7;have lb:=HLB.out;go_enter Tryz.func171,Tryz.ntmps171;go_wp2_with fail;refine (HKC.out _ HH0.out.1).mono ?_;rintro e w1 ⟨cs1,v1,b1,rfl,hv1,hc1,ho,hg1,hb1⟩;obtain ⟨k5,n5,s5,A5,na5,ca5,B5,nb5,cb5,rfl⟩:=hv1.form;have HH1:=aW ((HH0.out.keep hb1).push 25 #[Zi Zq k5,Zi Zq n5,Zt s5,Zs A5 na5 ca5,Zs B5 nb5 cb5] (g:=w1.heap.size) rfl);have HV1:=aW (λ (W:World) (h:Below w1.heap.size w1 W)=>hv1.bel h);have HQ:=aW (And.intro hc1 (And.intro ho hg1));have HB1:=aW HH1.out.1;have HBK:=aW hb1;obtain ⟨c0,f0,l0⟩:=(HH0.out.keep hb1).b2.rules;clear hb1 ho hv1 hc1 hg1 z0 z1 z2 z3 z4 z5 z6 z7 lb;cases b1
 ·have HX:=aW HH1.out.drew;have HL:=aW (show w.heap.size+3<=w1.heap.size from by have:=HBK.out.size;simpa using this);go_wp2;refine wp_region_held_drew (S:=(λ w'=>Blk w' w1.heap.size 25 #[Zi Zq k5,Zi Zq n5,Zt s5,Zs A5 na5 ca5,Zs B5 nb5 cb5])) (by kernel_rfl) (by exact HX.out.b0) (λ hHeld=>?_);refine aY 0 21 (.agg #[Zi Zq k5,Zi Zq n5,Zt s5,Zs A5 na5 ca5,Zs B5 nb5 cb5]) rfl ?_ ?_
  ·intro W hSw;obtain ⟨hc,hf,hl⟩:=hSw.rules;go_simp
  refine aY 1 22 (.agg #[Zi Zq k5,Zi Zq n5,Zt s5,Zs A5 na5 ca5,Zs B5 nb5 cb5]) rfl ?_ ?_
  ·intro W hSw;obtain ⟨hc,hf,hl⟩:=hSw.rules;go_simp
  refine aU 2 rfl (λ K hK=>?_);rw [if_pos (by kernel_rfl)];refine wp_store_mid 25 (.tmp 4) (.tmp 21) rfl (w.heap.size+1) 0 #[Zi Zq k5,Zi Zq n5,Zt s5,Zs A5 na5 ca5,Zs B5 nb5 cb5] rfl rfl HX.out.b2.there (by kernel_rfl) (by kernel_rfl) ?_;refine hK.out _ _ (by exact Blk.farC (by have:=HL.out;omega) _ _ HX.out.b0) (λ hHeld2=>?_);clear hK K hHeld;have hHeld:=hHeld2;clear hHeld2
  try simp only [pU]
  refine aU 3 rfl (λ K hK=>?_);rw [if_pos (by kernel_rfl)];refine wp_store_mid 25 (.tmp 5) (.tmp 22) rfl (w.heap.size+2) 0 #[Zi Zq k5,Zi Zq n5,Zt s5,Zs A5 na5 ca5,Zs B5 nb5 cb5] rfl rfl (Blk.farC (by omega) _ _ HX.out.b1).there (by kernel_rfl) (by kernel_rfl) ?_;refine hK.out _ _ (by exact Blk.farC (by have:=HL.out;omega) _ _ hHeld) (λ hHeld2=>?_);clear hK K hHeld;have hHeld:=hHeld2;clear hHeld2
  try simp only [pU]
  refine tA 4 6 (.bool false) rfl ?_;refine aX ?_;have HB4:=aW (Blk.farC (g:=w.heap.size+1) (b:=w.heap.size+2) (by omega) [Zi Zq k5,Zi Zq n5,Zt s5,Zs A5 na5 ca5,Zs B5 nb5 cb5] 0 (HX.out.b2.set5C (Zi Zq k5) (Zi Zq n5) (Zt s5) (Zs A5 na5 ca5) (Zs B5 nb5 cb5)));have HB5:=aW ((Blk.farC (g:=w.heap.size+2) (b:=w.heap.size+1) (by omega) [Zi Zq k5,Zi Zq n5,Zt s5,Zs A5 na5 ca5,Zs B5 nb5 cb5] 0 HX.out.b1).set5C (Zi Zq k5) (Zi Zq n5) (Zt s5) (Zs A5 na5 ca5) (Zs B5 nb5 cb5));have HBF:=aW (cx (B:=w.heap.size) (b:=w.heap.size+2) (by omega) [Zi Zq k5,Zi Zq n5,Zt s5,Zs A5 na5 ca5,Zs B5 nb5 cb5] 0 (cx (B:=w.heap.size) (b:=w.heap.size+1) (by omega) [Zi Zq k5,Zi Zq n5,Zt s5,Zs A5 na5 ca5,Zs B5 nb5 cb5] 0 HX.out.1));have HKF:=aW (λ (G:Nat->Prop) (g1:∀ k,G k->k≠w.heap.size+1) (g2:∀ k,G k->k≠w.heap.size+2)=>af.setC (F:=G) g2 [Zi Zq k5,Zi Zq n5,Zt s5,Zs A5 na5 ca5,Zs B5 nb5 cb5] 0 (af.setC (F:=G) g1 [Zi Zq k5,Zi Zq n5,Zt s5,Zs A5 na5 ca5,Zs B5 nb5 cb5] 0 (af.refl (F:=G) (W:=(w1.alloc (.cells #[Zi Zq k5,Zi Zq n5,Zt s5,Zs A5 na5 ca5,Zs B5 nb5 cb5] 25)).drew))));obtain ⟨Wf,hWf⟩:∃ Wf,Wf=(((w1.alloc (.cells #[Zi Zq k5,Zi Zq n5,Zt s5,Zs A5 na5 ca5,Zs B5 nb5 cb5] 25)).drew.setCells (w.heap.size+1) 0 [Zi Zq k5,Zi Zq n5,Zt s5,Zs A5 na5 ca5,Zs B5 nb5 cb5]).setCells (w.heap.size+2) 0 [Zi Zq k5,Zi Zq n5,Zt s5,Zs A5 na5 ca5,Zs B5 nb5 cb5]):=⟨_,rfl⟩
  rw [← hWf] at HB4 HB5 HBF HKF ⊢;clear hWf hHeld;obtain ⟨c4,f4,l4⟩:=HB4.out.rules;obtain ⟨c5,f5,l5⟩:=HB5.out.rules;go_wp2;refine bodyPost_ret (v:=.tuple #[.agg #[Zi Zq k5,Zi Zq n5,Zt s5,Zs A5 na5 ca5,Zs B5 nb5 cb5],.agg #[Zi Zq k5,Zi Zq n5,Zt s5,Zs A5 na5 ca5,Zs B5 nb5 cb5],.bool false]) (by simp only [results,Tryz.results171];go_simp) rfl ?_;have hv0:=HV1.out _ (((Below.refl _ w1).alloc (Nat.le_refl _) (.cells #[Zi Zq k5,Zi Zq n5,Zt s5,Zs A5 na5 ca5,Zs B5 nb5 cb5] 25)).drew);exact ⟨_,_,v1,v1,false,rfl,hv0.outK HFF.out (by simp) HKF.out,hv0.outK HFF.out (by simp) HKF.out,HQ.out.1,HQ.out.1,(λ h=>by cases h),(λ _=>.inl (by have h:=HQ.out.2.1;simpa using h)),HBF.out⟩
 ·have HL:=aW (show w.heap.size+3<=w1.heap.size from by have:=HBK.out.size;simpa using this);have HB0:=aW (HH0.out.keep HBK.out).1;obtain ⟨y0,y1,y2,y3,y4,y5,y6,y7⟩:=HZZ'.out _ HB0.out;simp only [Nat.one_mul,Nat.add_assoc,Nat.reduceAdd] at y0 y1 y2 y3 y4 y5 y6 y7;have lb:=HLB.out;have lb1:b<w1.heap.size:=by have:=HL.out;omega
  have ne7:b≠w1.heap.size:=by omega
  clear ne1 ne2 ne3 ne4 ne5 ne6;go_wp2_with fail;refine (HKC'.out _ HB1.out).mono ?_;rintro e w2 ⟨cs2,v2,b2,rfl,hv2,hc2,ho2,hg2,hb2⟩;obtain ⟨k6,n6,s6,A6,na6,ca6,B6,nb6,cb6,rfl⟩:=hv2.form;have HL2:=aW (show w1.heap.size+1<=w2.heap.size from by have:=hb2.size;simpa using this);have HH2:=aW ((HH1.out.keep hb2).push 25 #[Zi Zq k6,Zi Zq n6,Zt s6,Zs A6 na6 ca6,Zs B6 nb6 cb6] (g:=w2.heap.size) rfl);have HX:=aW HH2.out.drew;have HV2:=aW (λ (W:World) (h:Below w2.heap.size w2 W)=>hv2.bel h);have HQ2:=aW (And.intro hc2 (And.intro ho2 hg2));have HB2:=aW hb2;clear hb2 hv2 hc2 ho2 hg2 y0 y1 y2 y3 y4 y5 y6 y7 lb lb1 ne7 c0 f0 l0;obtain ⟨c1,f1,l1⟩:=HH2.out.b1.rules;go_wp2;clear c1 f1 l1;refine wp_region_held_drew (S:=(λ w'=>Blk w' w1.heap.size 25 #[Zi Zq k5,Zi Zq n5,Zt s5,Zs A5 na5 ca5,Zs B5 nb5 cb5]/\Blk w' w2.heap.size 25 #[Zi Zq k6,Zi Zq n6,Zt s6,Zs A6 na6 ca6,Zs B6 nb6 cb6])) (by kernel_rfl) (by exact ⟨HX.out.b1,HX.out.b0⟩) (λ hHeld=>?_);refine aY 0 32 (.agg #[Zi Zq k5,Zi Zq n5,Zt s5,Zs A5 na5 ca5,Zs B5 nb5 cb5]) rfl ?_ ?_
  ·intro W hSw;obtain ⟨hc,hf,hl⟩:=hSw.1.rules;go_simp
  refine aY 1 33 (.agg #[Zi Zq k6,Zi Zq n6,Zt s6,Zs A6 na6 ca6,Zs B6 nb6 cb6]) rfl ?_ ?_
  ·intro W hSw;obtain ⟨hc,hf,hl⟩:=hSw.2.rules;go_simp
  refine tA 2 34 (.bool b2) rfl ?_;refine aU 3 rfl (λ K hK=>?_);rw [if_pos (by kernel_rfl)];refine wp_store_mid 25 (.tmp 4) (.tmp 32) rfl (w.heap.size+1) 0 #[Zi Zq k5,Zi Zq n5,Zt s5,Zs A5 na5 ca5,Zs B5 nb5 cb5] rfl rfl HX.out.b3.there (by kernel_rfl) (by kernel_rfl) ?_;refine hK.out _ _ (by exact ⟨Blk.farC (by have:=HL.out;omega) _ _ HX.out.b1,Blk.farC (by have:=HL.out;have:=HL2.out;omega) _ _ HX.out.b0⟩) (λ hHeld2=>?_);clear hK K hHeld;have hHeld:=hHeld2;clear hHeld2
  try simp only [pU]
  refine aU 4 rfl (λ K hK=>?_);rw [if_pos (by kernel_rfl)];refine wp_store_mid 25 (.tmp 5) (.tmp 33) rfl (w.heap.size+2) 0 #[Zi Zq k6,Zi Zq n6,Zt s6,Zs A6 na6 ca6,Zs B6 nb6 cb6] rfl rfl (Blk.farC (by omega) _ _ HX.out.b2).there (by kernel_rfl) (by kernel_rfl) ?_;refine hK.out _ _ (by exact ⟨Blk.farC (by have:=HL.out;omega) _ _ hHeld.1,Blk.farC (by have:=HL.out;have:=HL2.out;omega) _ _ hHeld.2⟩) (λ hHeld2=>?_);clear hK K hHeld;have hHeld:=hHeld2;clear hHeld2
  try simp only [pU]
  refine tA 5 6 (.bool b2) rfl ?_;refine aX ?_;have HB4:=aW (Blk.farC (g:=w.heap.size+1) (b:=w.heap.size+2) (by omega) [Zi Zq k6,Zi Zq n6,Zt s6,Zs A6 na6 ca6,Zs B6 nb6 cb6] 0 (HX.out.b3.set5C (Zi Zq k5) (Zi Zq n5) (Zt s5) (Zs A5 na5 ca5) (Zs B5 nb5 cb5)));have HB5:=aW ((Blk.farC (g:=w.heap.size+2) (b:=w.heap.size+1) (by omega) [Zi Zq k5,Zi Zq n5,Zt s5,Zs A5 na5 ca5,Zs B5 nb5 cb5] 0 HX.out.b2).set5C (Zi Zq k6) (Zi Zq n6) (Zt s6) (Zs A6 na6 ca6) (Zs B6 nb6 cb6));have HBF:=aW (cx (B:=w.heap.size) (b:=w.heap.size+2) (by omega) [Zi Zq k6,Zi Zq n6,Zt s6,Zs A6 na6 ca6,Zs B6 nb6 cb6] 0 (cx (B:=w.heap.size) (b:=w.heap.size+1) (by omega) [Zi Zq k5,Zi Zq n5,Zt s5,Zs A5 na5 ca5,Zs B5 nb5 cb5] 0 HX.out.1));have HKF:=aW (λ (G:Nat->Prop) (g1:∀ k,G k->k≠w.heap.size+1) (g2:∀ k,G k->k≠w.heap.size+2)=>af.setC (F:=G) g2 [Zi Zq k6,Zi Zq n6,Zt s6,Zs A6 na6 ca6,Zs B6 nb6 cb6] 0 (af.setC (F:=G) g1 [Zi Zq k5,Zi Zq n5,Zt s5,Zs A5 na5 ca5,Zs B5 nb5 cb5] 0 (af.refl (F:=G) (W:=(w2.alloc (.cells #[Zi Zq k6,Zi Zq n6,Zt s6,Zs A6 na6 ca6,Zs B6 nb6 cb6] 25)).drew))));obtain ⟨Wf,hWf⟩:∃ Wf,Wf=(((w2.alloc (.cells #[Zi Zq k6,Zi Zq n6,Zt s6,Zs A6 na6 ca6,Zs B6 nb6 cb6] 25)).drew.setCells (w.heap.size+1) 0 [Zi Zq k5,Zi Zq n5,Zt s5,Zs A5 na5 ca5,Zs B5 nb5 cb5]).setCells (w.heap.size+2) 0 [Zi Zq k6,Zi Zq n6,Zt s6,Zs A6 na6 ca6,Zs B6 nb6 cb6]):=⟨_,rfl⟩
  rw [← hWf] at HB4 HB5 HBF HKF ⊢;clear hWf hHeld;obtain ⟨c4,f4,l4⟩:=HB4.out.rules;obtain ⟨c5,f5,l5⟩:=HB5.out.rules;go_wp2;refine bodyPost_ret (v:=.tuple #[.agg #[Zi Zq k5,Zi Zq n5,Zt s5,Zs A5 na5 ca5,Zs B5 nb5 cb5],.agg #[Zi Zq k6,Zi Zq n6,Zt s6,Zs A6 na6 ca6,Zs B6 nb6 cb6],.bool b2]) (by simp only [results,Tryz.results171];go_simp) rfl ?_;have hv0:=HV1.out _ ((((Below.refl w1.heap.size w1).alloc (Nat.le_refl _) (.cells #[Zi Zq k5,Zi Zq n5,Zt s5,Zs A5 na5 ca5,Zs B5 nb5 cb5] 25)).trans (HB2.out.mono (by simp))).alloc (by have:=HL2.out;omega) (.cells #[Zi Zq k6,Zi Zq n6,Zt s6,Zs A6 na6 ca6,Zs B6 nb6 cb6] 25)).drew;have hv9:=HV2.out _ (((Below.refl _ w2).alloc (Nat.le_refl _) (.cells #[Zi Zq k6,Zi Zq n6,Zt s6,Zs A6 na6 ca6,Zs B6 nb6 cb6] 25)).drew);refine ⟨_,_,v1,v2,b2,rfl,hv0.outK HFF.out (by simp) HKF.out,hv9.outK HFF.out (by have:=HL.out;simp;omega) HKF.out,HQ.out.1,HQ2.out.1,(λ h=>?_),(λ h=>.inr ?_),HBF.out⟩
  ·have h1:=HQ.out.2.1;have h2:=HQ2.out.2.1;rw [h] at h2;exact ⟨by simpa using h1,by simpa using h2,HQ.out.2.2 trivial,HQ2.out.2.2 h⟩
  ·have h2:=HQ2.out.2.1;rw [h] at h2;simpa using h2
theorem fq {n m:Int} (h:m=IntKind.i64.wrap n) (hf:iw n):dT n=some (cC m):=by
 unfold dT iw at *;rw [if_pos hf,h,IntWalk.i64_in _ (by omega)]
theorem jj {n:Int} (hf:¬ iw n):dT n=none:=by unfold dT;rw [if_neg (by unfold iw at hf;exact hf)]
def uN (n:Int) (w:World) (e:Ending) (w':World):Prop:=∃ (m:Int) (t:Bool),e=.returned (.tuple #[Zi Zq m,.bool t])/\w'=w/\iw m/\dT n=(if t=true then some (cC m) else none)
theorem mq (n:Int):iw (IntKind.i64.wrap n):=by unfold iw;rw [IntKind.wrap_i64];omega
theorem v9 (a b:Int) (ha:iw a) (hb:iw b) (w:World):Calls Tryz.prog 128 #[Zi Zq a,Zi Zq b] w (uN (a+b) w):=by
 obtain ⟨m,hm⟩:∃ m,IntKind.i64.wrap (a+b)=m:=⟨_,rfl⟩
 have HM:=aW hm;have HA:=aW ha;have HB:=aW hb;clear ha hb;go_enter Tryz.func128,Tryz.ntmps128;go_wp2;refine bodyPost_ret (v:=.tuple #[Zi Zq m,.bool (decide (a<m) == decide (0<b))]) (by simp only [results,Tryz.results128];go_simp) rfl ?_;refine ⟨m,_,rfl,rfl,by rw [← HM.out];exact mq _,?_⟩;have ha:=HA.out;have hb:=HB.out;have hm:=HM.out;by_cases hf:iw (a+b)
 ·rw [fq hm.symm hf,if_pos];rw [IntKind.wrap_i64] at hm;unfold iw at ha hb hf;by_cases h0:0<b
  ·rw [decide_eq_true (p:=0<b) h0,decide_eq_true (p:=a<m) (by omega)];rfl
  ·rw [decide_eq_false (p:=0<b) h0,decide_eq_false (p:=a<m) (by omega)];rfl
 ·rw [jj hf,if_neg];rw [IntKind.wrap_i64] at hm;unfold iw at ha hb hf;by_cases h0:0<b
  ·rw [decide_eq_true (p:=0<b) h0,decide_eq_false (p:=a<m) (by omega)];simp
  ·rw [decide_eq_false (p:=0<b) h0,decide_eq_true (p:=a<m) (by omega)];simp
theorem wC (a b:Int) (ha:iw a) (hb:iw b) (w:World):Calls Tryz.prog 129 #[Zi Zq a,Zi Zq b] w (uN (a-b) w):=by
 obtain ⟨m,hm⟩:∃ m,IntKind.i64.wrap (a-b)=m:=⟨_,rfl⟩
 have HM:=aW hm;have HA:=aW ha;have HB:=aW hb;clear ha hb;go_enter Tryz.func129,Tryz.ntmps129;go_wp2;refine bodyPost_ret (v:=.tuple #[Zi Zq m,.bool (decide (m<a) == decide (0<b))]) (by simp only [results,Tryz.results129];go_simp) rfl ?_;refine ⟨m,_,rfl,rfl,by rw [← HM.out];exact mq _,?_⟩;have ha:=HA.out;have hb:=HB.out;have hm:=HM.out;by_cases hf:iw (a-b)
 ·rw [fq hm.symm hf,if_pos];rw [IntKind.wrap_i64] at hm;unfold iw at ha hb hf;by_cases h0:0<b
  ·rw [decide_eq_true (p:=0<b) h0,decide_eq_true (p:=m<a) (by omega)];rfl
  ·rw [decide_eq_false (p:=0<b) h0,decide_eq_false (p:=m<a) (by omega)];rfl
 ·rw [jj hf,if_neg];rw [IntKind.wrap_i64] at hm;unfold iw at ha hb hf;by_cases h0:0<b
  ·rw [decide_eq_true (p:=0<b) h0,decide_eq_false (p:=m<a) (by omega)];simp
  ·rw [decide_eq_false (p:=0<b) h0,decide_eq_true (p:=m<a) (by omega)];simp
theorem wu (a b:Int) (ha:iw a) (hb:iw b) (w:World):Calls Tryz.prog 127 #[Zi Zq a,Zi Zq b] w (uN (a*b) w):=by
 obtain ⟨m,hm⟩:∃ m,IntKind.i64.wrap (a*b)=m:=⟨_,rfl⟩
 obtain ⟨q,hq⟩:∃ q,IntKind.i64.wrap (m.tdiv a)=q:=⟨_,rfl⟩
 have HM:=aW hm;have HMI:=aW (show iw m by rw [← hm];exact mq _);have HF:=aW (r9 a b m ha hb hm.symm);rw [hq] at HF;by_cases h0:a=0
 ·have HN:=aW (show dT (a*b)=some (cC m) from fq hm.symm (HF.out.1 (.inl h0)));have hm0:m=0:=by rw [← hm,h0,Int.zero_mul];rfl
  subst hm0;subst h0;clear ha hb hm hq HM HF;go_enter Tryz.func127,Tryz.ntmps127;go_wp2;refine bodyPost_ret (v:=.tuple #[Zi Zq 0,.bool true]) (by simp only [results,Tryz.results127];go_simp) rfl ?_;exact ⟨0,true,rfl,rfl,HMI.out,by rw [HN.out];rfl⟩
 ·have e0:(a == 0)=false:=by simp [h0]
  have H0:=aW h0;by_cases h1:q=b
  ·have e1:(q == b)=true:=by simp [h1]
   have H1:=aW h1;by_cases h2:a = -1
   ·have e2:(a == -1)=true:=by simp [h2]
    have H2:=aW h2;by_cases h3:b = -9223372036854775808
    ·have HN:=aW (show dT (a*b)=none from jj (λ hf=>by
      rcases HF.out.2 hf with h | ⟨_,h⟩
      ·exact h0 h
      ·exact h ⟨h2,h3⟩))
     have e3:(b == -9223372036854775808)=true:=by simp [h3]
     clear h0 h1 h2 h3 ha hb;go_enter Tryz.func127,Tryz.ntmps127;go_wp2;refine bodyPost_ret (v:=.tuple #[Zi Zq m,.bool false]) (by simp only [results,Tryz.results127];go_simp) rfl ?_;exact ⟨m,false,rfl,rfl,HMI.out,by rw [HN.out];rfl⟩
    ·have HN:=aW (show dT (a*b)=some (cC m) from fq hm.symm (HF.out.1 (.inr ⟨h1,λ h=>h3 h.2⟩)));have e3:(b == -9223372036854775808)=false:=by simp [h3]
     clear h0 h1 h2 h3 ha hb;go_enter Tryz.func127,Tryz.ntmps127;go_wp2;refine bodyPost_ret (v:=.tuple #[Zi Zq m,.bool true]) (by simp only [results,Tryz.results127];go_simp) rfl ?_;exact ⟨m,true,rfl,rfl,HMI.out,by rw [HN.out];rfl⟩
   ·have HN:=aW (show dT (a*b)=some (cC m) from fq hm.symm (HF.out.1 (.inr ⟨h1,λ h=>h2 h.1⟩)));have e2:(a == -1)=false:=by simp [h2]
    clear h0 h1 h2 ha hb;go_enter Tryz.func127,Tryz.ntmps127;go_wp2;refine bodyPost_ret (v:=.tuple #[Zi Zq m,.bool true]) (by simp only [results,Tryz.results127];go_simp) rfl ?_;exact ⟨m,true,rfl,rfl,HMI.out,by rw [HN.out];rfl⟩
  ·have HN:=aW (show dT (a*b)=none from jj (λ hf=>by
    rcases HF.out.2 hf with h | ⟨h,_⟩
    ·exact h0 h
    ·exact h1 h))
   have e1:(q == b)=false:=by simp [h1]
   clear h0 h1 ha hb;go_enter Tryz.func127,Tryz.ntmps127;go_wp2;refine bodyPost_ret (v:=.tuple #[Zi Zq m,.bool false]) (by simp only [results,Tryz.results127];go_simp) rfl ?_;exact ⟨m,false,rfl,rfl,HMI.out,by rw [HN.out];rfl⟩
theorem vg (n:Int) (w:World):Calls Tryz.prog 131 #[Zi Zq n] w λ e w'=>e=.returned (.bool (n == 0))/\w=w':=by
 go_enter Tryz.func131,Tryz.ntmps131;go_wp2;go_ret;exact ⟨rfl,rfl⟩
theorem uc (n:Int) (w:World):Calls Tryz.prog 132 #[Zi Zq n] w λ e w'=>e=.returned (.bool (decide (n<0)))/\w=w':=by
 go_enter Tryz.func132,Tryz.ntmps132;go_wp2;go_ret;exact ⟨rfl,rfl⟩
theorem vr (n:Int) (w:World):Calls Tryz.prog 133 #[Zi Zq n] w λ e w'=>e=.returned (.bool (decide (n<=0)))/\w=w':=by
 go_enter Tryz.func133,Tryz.ntmps133;go_wp2;go_ret;exact ⟨rfl,rfl⟩
end
end Go.Proofs.YtgolomgmnanbpaaGreatDoor
