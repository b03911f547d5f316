import Derived.Test.YtgmnmnnoahdjnaaGreatDoorH34
open Go.Value renaming int → Zi, slice → Zs, string → Zt, pointer → Zp
open Go.IntKind renaming i64 → Zq
set_option maxRecDepth 100000
set_option maxHeartbeats 16000000
set_option linter.unusedVariables false
set_option linter.unusedSimpArgs false
namespace Go.Proofs.YtgmnmnnoahdjnaaGreatDoor
section
open Go.RowKit
attribute [local go_sem] ab ae af ac
def ik (r:PR SJ) (g:Nat) (A:Option Addr) (nT cap:Nat) (T:List al) (W:World) (e:Ending) (W':World):Prop:=match r with
 | .ok x q => ∃ cs,e=.returned (.agg cs.toArray)/\SR W' (NW W) cs x/\VP W' g A nT cap T q/\W.grownBy W' (some g)
 | .bad q=>e=aG (tkA T q)/\W.grownBy W' (some g)
def gR (r:PR (List SJ)) (g:Nat) (A:Option Addr) (nT cap:Nat) (T:List al) (W:World) (e:Ending) (W':World):Prop:=match r with
 | .ok l q => ∃ (A':Option Addr) (n ca:Nat) (css:List (List Value)),e=.returned (Zs A' n ca)/\n=l.length/\n<=ca/\(A'=none->ca=0)/\SRs W' (NW W) css l/\RdF W' (NW W) A' css.flatten/\VP W' g A nT cap T q/\W.grownBy W' (some g)
 | .bad q=>e=aG (tkA T q)/\W.grownBy W' (some g)
def nf (g:Nat) (A:Option Addr) (nT cap:Nat) (T:List al) (M:Nat):Prop:=∀ (p:Nat) (W:World),VP W g A nT cap T p->p<nT->nT-p<=M ->
 Calls Tryz.prog 173 #[Zp (some ⟨g,0,none⟩)] W (gR (eK T p) g A nT cap T W)
structure SP (w W:World) (g:Nat) (A:Option Addr) (nT cap:Nat) (T:List al) (p0 q:Nat) (cs:Array Value):Prop where
 vp0:VP w g A nT cap T p0
 vp:VP W g A nT cap T q
 blk:Blk W w.heap.size 48 cs
 gb:w.grownBy W (some g)
section
variable {w W W':World} {g:Nat} {A:Option Addr} {nT cap:Nat} {T:List al} {p0 q q':Nat} {cs:Array Value}
theorem SP.gx (h:SP w W g A nT cap T p0 q cs):w.heap.size≠g:=by have:=h.vp0.blk.lt;omega
theorem SP.call (h:SP w W g A nT cap T p0 q cs) (hv:VP W' g A nT cap T q') (hg:W.grownBy W' (some g)):SP w W' g A nT cap T p0 q' cs :=
 ⟨h.vp0,hv,h.blk.grown hg (by have:=h.gx;simpa using this),ag h.gb hg⟩
theorem SP.bel (h:SP w W g A nT cap T p0 q cs) (hb:Below W.heap.size W W'):SP w W' g A nT cap T p0 q cs:=h.call (h.vp.keep hb) (aw hb _)
theorem SP.setC (h:SP w W g A nT cap T p0 q cs) (l:List Value) (o:Nat) {cs':Array Value} (hb:Blk (W.setCells w.heap.size o l) w.heap.size 48 cs'):SP w (W.setCells w.heap.size o l) g A nT cap T p0 q cs':=by
 have hg:=jT (Nat.le_refl w.heap.size) l o h.gb;exact ⟨h.vp0,h.vp0.step hg (Blk.farC (Ne.symm h.gx) l o h.vp.blk),hb,hg⟩
theorem SP.lt (h:SP w W g A nT cap T p0 q cs):w.heap.size<W.heap.size:=h.blk.lt
theorem SP.erk {x:EJ} {c:List Value} (h:SP w W g A nT cap T p0 q cs) (hE:ER W (λ b=>w.heap.size<b) c x) (hg:W.grownBy W' (some g)):ER W' (λ b=>w.heap.size<b) c x :=
 hE.keep (aj.of_grown hg λ k hk e=>by injection e with e;have:=h.vp0.blk.lt;omega)
theorem SP.ern {x:EJ} {c:List Value} (h:SP w W g A nT cap T p0 q cs) (hE:ER W' (NW W) c x):ER W' (λ b=>w.heap.size<b) c x :=
 hE.mono λ b _ hb=>Nat.lt_of_lt_of_le h.lt hb
end
theorem eC {w W:World} {x:EJ} {c:List Value} (hE:ER W (λ b=>w.heap.size<b) c x) (l:List Value) (o:Nat):ER (W.setCells w.heap.size o l) (λ b=>w.heap.size<b) c x :=
 hE.keep (aj.setC (λ k hk=>Nat.ne_of_gt hk) l o aj.refl)
theorem iL {w W:World} {g:Nat} {A:Option Addr} {nT cap:Nat} {T:List al} {p0 q:Nat} {cs:Array Value} (h:SP w W g A nT cap T p0 q cs) {cells:List Value} {s:SJ} (hS:SR W (λ b=>w.heap.size<b) cells s) :
  ik (.ok s q) g A nT cap T w (.returned (.agg cells.toArray)) (W.setCells w.heap.size 0 cells):=by
 have hg:=jT (Nat.le_refl w.heap.size) cells 0 h.gb;exact ⟨cells,rfl,(hS.keep (aj.setC (λ k hk=>Nat.ne_of_gt hk) cells 0 aj.refl)).mono λ b _ hb=>Nat.le_of_lt hb,h.vp0.step hg (Blk.farC (Ne.symm h.gx) cells 0 h.vp.blk),hg⟩
theorem pN {w:World} {g:Nat} {A:Option Addr} {nT cap:Nat} {T:List al} {p:Nat} (hV:VP w g A nT cap T p) (cs:Array Value):SP w (w.alloc (.cells cs 48)) g A nT cap T p p cs :=
 ⟨hV,hV.keep ((Below.refl _ w).alloc (Nat.le_refl _) _),Blk.new _ _ _,aw ((Below.refl _ w).alloc (Nat.le_refl _) _) _⟩
def il (w W:World) (A:Option Addr) (n ca:Nat) (l:List SJ):Prop:=n=l.length/\n<=ca/\(A=none->ca=0)/\∃ css,SRs W (λ b=>w.heap.size<b) css l/\RdF W (λ b=>w.heap.size<b) A css.flatten
theorem il.nil {w W:World}:il w W none 0 0 []:=⟨rfl,Nat.le_refl _,λ _=>rfl,[],RR.nil,RdF.nil⟩
theorem il.kp {w W W':World} {A:Option Addr} {n ca:Nat} {l:List SJ} (h:il w W A n ca l) (hk:aj (λ b=>w.heap.size<b) W W'):il w W' A n ca l:=by
 obtain ⟨h1,h2,h3,css,h4,h5⟩:=h;exact ⟨h1,h2,h3,css,RR.imp h4 λ c x hc=>SR.keep hc hk,h5.keep hk⟩
theorem il.setC {w W:World} {A:Option Addr} {n ca:Nat} {l:List SJ} (h:il w W A n ca l) (v:List Value) (o:Nat):il w (W.setCells w.heap.size o v) A n ca l :=
 h.kp (aj.setC (λ k hk=>Nat.ne_of_gt hk) v o aj.refl)
theorem SP.kpg {w W W':World} {g:Nat} {A:Option Addr} {nT cap:Nat} {T:List al} {p0 q:Nat} {cs:Array Value} (h:SP w W g A nT cap T p0 q cs) (hg:W.grownBy W' (some g)):aj (λ b=>w.heap.size<b) W W' :=
 aj.of_grown hg λ k hk e=>by injection e with e;have:=h.vp0.blk.lt;omega
theorem SP.rown {w W W':World} {g:Nat} {A:Option Addr} {nT cap:Nat} {T:List al} {p0 q:Nat} {cs:Array Value} (h:SP w W g A nT cap T p0 q cs) {A':Option Addr} {n ca:Nat} {css:List (List Value)} {l:List SJ} (h1:n=l.length) (h2:n<=ca) (h3:A'=none->ca=0) (h4:SRs W' (NW W) css l) (h5:RdF W' (NW W) A' css.flatten):il w W' A' n ca l :=
 ⟨h1,h2,h3,css,RR.imp h4 λ c x hc=>SR.mono hc λ b _ hb=>Nat.lt_of_lt_of_le h.lt hb,h5.mono λ b _ hb=>Nat.lt_of_lt_of_le h.lt hb⟩
theorem pO {w W:World} {k:Int} {s:List UInt8} {a b:EJ} {acs bcs:List Value} {body els:List SJ} {A B:Option Addr} {n ca m cb:Nat} (ha:ER W (λ b=>w.heap.size<b) acs a) (hb:ER W (λ b=>w.heap.size<b) bcs b) (h1:il w W A n ca body) (h2:il w W B m cb els) :
  SR W (λ b=>w.heap.size<b) ([Zi Zq k,Zt ⟨s.toArray⟩]++acs++bcs++[Zs A n ca,Zs B m cb]) (.mk k s a b body els):=by
 obtain ⟨rfl,g1,g2,css,g3,g4⟩:=h1;obtain ⟨rfl,f1,f2,dss,f3,f4⟩:=h2;exact SR.into ha hb g3 rfl g1 g2 g4 f3 rfl f1 f2 f4
theorem Blk.range {W:World} {b:Nat} {t:TypeId} {l:List Value} (h:Blk W b t l.toArray):W.rangeAt b 0 l:=λ j v hv=>by rw [Nat.zero_add,h.cell];simpa using hv
set_option maxHeartbeats 32000000 in
theorem xg (g:Nat) (A:Option Addr) (nT cap:Nat) (T:List al) (hT:WT T) (hn:nT<=1000) (p:Nat) (w:World) (hV:VP w g A nT cap T p) (hp:p<nT) :
  Calls Tryz.prog 136 #[Zp (some ⟨g,0,none⟩)] w (ik (jv T p) g A nT cap T w):=by
 obtain ⟨r,hr⟩:∃ r,jv T p=r:=⟨_,rfl⟩
 have HR0:=aW (show r=(match eE T 1 p with
  | .bad q=>.bad q
  | .ok a q=>if ao T q [44]=true then (match eE T 1 (q+1) with
    | .bad r=>.bad r
    | .ok b r=>if ao T r [59]=true then .ok (.mk 1 [] a b [] []) (r+1) else .bad r)
   else .bad q) from hr ▸ rfl)
 rw [hr];have HN:=aW hn;have HL:=aW hV.len;have hgl:=hV.blk.lt;have HV:=aW hV;have HX:=aW (λ p' W (h:VP W g A nT cap T p') (h1:p'<nT)=>mZ g A nT cap T hT hn _ 1 p' 1 W h (Nat.le_refl _) (by omega) h1 rfl (Nat.le_refl _));have HNX:=aW (λ q s (h:q<nT) (hs:ao T q s=true)=>(show q+1<nT by have h9:=hT.next (p:=q) (by rw [HL.out];exact h) (am hs);rw [HL.out] at h9;exact h9));clear hV hr;obtain ⟨W1,hW1⟩:∃ W',(w.alloc (.cells #[Zi Zq 1,Zt ⟨#[]⟩,Zi Zq 0,Zi Zq 0,Zi Zq 0,Zt ⟨#[]⟩,Zs none 0 0,Zs none 0 0,Zt ⟨#[]⟩,Zs none 0 0,Zi Zq 0,Zi Zq 0,Zi Zq 0,Zt ⟨#[]⟩,Zs none 0 0,Zs none 0 0,Zt ⟨#[]⟩,Zs none 0 0,Zs none 0 0,Zs none 0 0] 48))=W':=⟨_,rfl⟩
 go_enter Tryz.func136,Tryz.ntmps136;go_upto_region 2 with fail;have HS:=aW (show SP w W1 g A nT cap T p p #[Zi Zq 1,Zt ⟨#[]⟩,Zi Zq 0,Zi Zq 0,Zi Zq 0,Zt ⟨#[]⟩,Zs none 0 0,Zs none 0 0,Zt ⟨#[]⟩,Zs none 0 0,Zi Zq 0,Zi Zq 0,Zi Zq 0,Zt ⟨#[]⟩,Zs none 0 0,Zs none 0 0,Zt ⟨#[]⟩,Zs none 0 0,Zs none 0 0,Zs none 0 0] by rw [← hW1];exact pN HV.out _);clear hW1;have hca:=HX.out p W1 HS.out.vp hp;cases hra:eE T 1 p with
 |bad qa =>
  rw [hra] at hca;have HR:=aW (show r=.bad qa by rw [HR0.out,hra]);unfold cU aG at hca;have HC:=aW hca;clear hca hra;rw [HR.out];go_wp2_with (go_at_call 171;refine HC.out.mono ?_;rintro e w9 ⟨rfl,hg9⟩);exact ⟨rfl,rfl,ag HS.out.gb hg9⟩
 |ok xa qa =>
  rw [hra] at hca;have hqa:=dl hT (by rw [HL.out];exact hp) hra;rw [HL.out] at hqa;have HR1:=aW (show r=(if ao T qa [44]=true then (match eE T 1 (qa+1) with
    | .bad r=>.bad r
    | .ok b r=>if ao T r [59]=true then .ok (.mk 1 [] xa b [] []) (r+1) else .bad r)
   else .bad qa) by rw [HR0.out,hra])
  unfold cU at hca;have HC:=aW hca;clear hca hra;go_wp2_with fail;refine HC.out.mono ?_;rintro e w2 ⟨cs,rfl,he2,hv2,hg2⟩;obtain ⟨ka,k1a,n1a,s1a,A1a,na1a,ca1a,B1a,nb1a,cb1a,sa,A2a,n2a,ca2a,rfl⟩:=he2.form;have HS2:=aW (HS.out.call hv2 hg2);have HE2:=aW (HS.out.ern he2);obtain ⟨y0,y1,y2⟩:=HS2.out.blk.rules;clear he2 hv2 hg2 HS HC;go_upto_region 3 with fail;obtain ⟨W3,hW3⟩:∃ W',((((((((w2.setCell ⟨w.heap.size,2,none⟩ (Zi Zq ka)).setCell ⟨w.heap.size,3,none⟩ (Zi Zq k1a)).setCell ⟨w.heap.size,4,none⟩ (Zi Zq n1a)).setCell ⟨w.heap.size,5,none⟩ (Zt s1a)).setCell ⟨w.heap.size,6,none⟩ (Zs A1a na1a ca1a)).setCell ⟨w.heap.size,7,none⟩ (Zs B1a nb1a cb1a)).setCell ⟨w.heap.size,8,none⟩ (Zt sa)).setCell ⟨w.heap.size,9,none⟩ (Zs A2a n2a ca2a))=W':=⟨_,rfl⟩
  rw [hW3];have HS:=aW (show SP w W3 g A nT cap T p qa #[Zi Zq 1,Zt ⟨#[]⟩,Zi Zq ka,Zi Zq k1a,Zi Zq n1a,Zt s1a,Zs A1a na1a ca1a,Zs B1a nb1a cb1a,Zt sa,Zs A2a n2a ca2a,Zi Zq 0,Zi Zq 0,Zi Zq 0,Zt ⟨#[]⟩,Zs none 0 0,Zs none 0 0,Zt ⟨#[]⟩,Zs none 0 0,Zs none 0 0,Zs none 0 0] by rw [← hW3];exact HS2.out.setC [Zi Zq ka,Zi Zq k1a,Zi Zq n1a,Zt s1a,Zs A1a na1a ca1a,Zs B1a nb1a cb1a,Zt sa,Zs A2a n2a ca2a] 2 (HS2.out.blk.setSA _ _ _ _ _ _ _ _));have HEA:=aW (show ER W3 (λ b=>w.heap.size<b) [Zi Zq ka,Zi Zq k1a,Zi Zq n1a,Zt s1a,Zs A1a na1a ca1a,Zs B1a nb1a cb1a,Zt sa,Zs A2a n2a ca2a] xa by rw [← hW3];exact eC HE2.out [Zi Zq ka,Zi Zq k1a,Zi Zq n1a,Zt s1a,Zs A1a na1a ca1a,Zs B1a nb1a cb1a,Zt sa,Zs A2a n2a ca2a] 2);clear hW3 y0 y1 y2 HS2 HE2;by_cases hs1:ao T qa [44]=true;rotate_left
  ·have hs':ao T qa [44]=false:=by simpa using hs1
   have HR:=aW (show r=.bad qa by rw [HR1.out,if_neg hs1]);have hw:=fy [44] W3 g A nT cap T qa HS.out.vp hqa.2 HN.out hs';unfold aG at hw;have HW:=aW hw;clear hs1 hs' hw;rw [HR.out];go_wp2_with (go_at_call 172;refine HW.out.mono ?_;rintro e w9 ⟨rfl,hb9⟩);exact ⟨rfl,rfl,ag HS.out.gb (aw hb9 _)⟩
  have hq1:=HNX.out qa [44] hqa.2 hs1;have HW:=aW (fz [44] W3 g A nT cap T qa HS.out.vp hqa.2 HN.out hs1);have HR2:=aW (show r=(match eE T 1 (qa+1) with
    | .bad r=>.bad r
    | .ok b r=>if ao T r [59]=true then .ok (.mk 1 [] xa b [] []) (r+1) else .bad r) by rw [HR1.out,if_pos hs1])
  clear hs1;go_upto_region 4 with (go_at_call 172;refine HW.out.mono ?_;rintro e w4 ⟨rfl,hv4,hg4⟩);have HS4:=aW (HS.out.call hv4 hg4);have HEA4:=aW (HS.out.erk HEA.out hg4);clear hv4 hg4 HS HEA HW;have hcb:=HX.out (qa+1) w4 HS4.out.vp hq1;cases hrb:eE T 1 (qa+1) with
  |bad qb =>
   rw [hrb] at hcb;have HR:=aW (show r=.bad qb by rw [HR2.out,hrb]);unfold cU aG at hcb;have HC:=aW hcb;clear hcb hrb;rw [HR.out];go_wp2_with (go_at_call 171;refine HC.out.mono ?_;rintro e w9 ⟨rfl,hg9⟩);exact ⟨rfl,rfl,ag HS4.out.gb hg9⟩
  |ok xb qb =>
   rw [hrb] at hcb;have hqb:=dl hT (by rw [HL.out];exact hq1) hrb;rw [HL.out] at hqb;have HR3:=aW (show r=(if ao T qb [59]=true then .ok (.mk 1 [] xa xb [] []) (qb+1) else .bad qb) by rw [HR2.out,hrb]);unfold cU at hcb;have HC:=aW hcb;clear hcb hrb;go_wp2_with fail;refine HC.out.mono ?_;rintro e w5 ⟨cs,rfl,he5,hv5,hg5⟩;obtain ⟨kb,k1b,n1b,s1b,A1b,na1b,ca1b,B1b,nb1b,cb1b,sb,A2b,n2b,ca2b,rfl⟩:=he5.form;have HS5:=aW (HS4.out.call hv5 hg5);have HE5:=aW (HS4.out.ern he5);have HEA5:=aW (HS4.out.erk HEA4.out hg5);obtain ⟨y0,y1,y2⟩:=HS5.out.blk.rules;clear he5 hv5 hg5 HS4 HEA4 HC;go_upto_region 5 with fail;obtain ⟨W6,hW6⟩:∃ W',((((((((w5.setCell ⟨w.heap.size,10,none⟩ (Zi Zq kb)).setCell ⟨w.heap.size,11,none⟩ (Zi Zq k1b)).setCell ⟨w.heap.size,12,none⟩ (Zi Zq n1b)).setCell ⟨w.heap.size,13,none⟩ (Zt s1b)).setCell ⟨w.heap.size,14,none⟩ (Zs A1b na1b ca1b)).setCell ⟨w.heap.size,15,none⟩ (Zs B1b nb1b cb1b)).setCell ⟨w.heap.size,16,none⟩ (Zt sb)).setCell ⟨w.heap.size,17,none⟩ (Zs A2b n2b ca2b))=W':=⟨_,rfl⟩
   rw [hW6];have HS:=aW (show SP w W6 g A nT cap T p qb #[Zi Zq 1,Zt ⟨#[]⟩,Zi Zq ka,Zi Zq k1a,Zi Zq n1a,Zt s1a,Zs A1a na1a ca1a,Zs B1a nb1a cb1a,Zt sa,Zs A2a n2a ca2a,Zi Zq kb,Zi Zq k1b,Zi Zq n1b,Zt s1b,Zs A1b na1b ca1b,Zs B1b nb1b cb1b,Zt sb,Zs A2b n2b ca2b,Zs none 0 0,Zs none 0 0] by rw [← hW6];exact HS5.out.setC [Zi Zq kb,Zi Zq k1b,Zi Zq n1b,Zt s1b,Zs A1b na1b ca1b,Zs B1b nb1b cb1b,Zt sb,Zs A2b n2b ca2b] 10 (HS5.out.blk.setSB _ _ _ _ _ _ _ _));have HEA:=aW (show ER W6 (λ b=>w.heap.size<b) [Zi Zq ka,Zi Zq k1a,Zi Zq n1a,Zt s1a,Zs A1a na1a ca1a,Zs B1a nb1a cb1a,Zt sa,Zs A2a n2a ca2a] xa by rw [← hW6];exact eC HEA5.out [Zi Zq kb,Zi Zq k1b,Zi Zq n1b,Zt s1b,Zs A1b na1b ca1b,Zs B1b nb1b cb1b,Zt sb,Zs A2b n2b ca2b] 10);have HEB:=aW (show ER W6 (λ b=>w.heap.size<b) [Zi Zq kb,Zi Zq k1b,Zi Zq n1b,Zt s1b,Zs A1b na1b ca1b,Zs B1b nb1b cb1b,Zt sb,Zs A2b n2b ca2b] xb by rw [← hW6];exact eC HE5.out [Zi Zq kb,Zi Zq k1b,Zi Zq n1b,Zt s1b,Zs A1b na1b ca1b,Zs B1b nb1b cb1b,Zt sb,Zs A2b n2b ca2b] 10);clear hW6 y0 y1 y2 HS5 HE5 HEA5;by_cases hs2:ao T qb [59]=true;rotate_left
   ·have hs':ao T qb [59]=false:=by simpa using hs2
    have HR:=aW (show r=.bad qb by rw [HR3.out,if_neg hs2]);have hw:=fy [59] W6 g A nT cap T qb HS.out.vp hqb.2 HN.out hs';unfold aG at hw;have HW:=aW hw;clear hs2 hs' hw;rw [HR.out];go_wp2_with (go_at_call 172;refine HW.out.mono ?_;rintro e w9 ⟨rfl,hb9⟩);exact ⟨rfl,rfl,ag HS.out.gb (aw hb9 _)⟩
   have HW:=aW (fz [59] W6 g A nT cap T qb HS.out.vp hqb.2 HN.out hs2);have HR:=aW (show r=.ok (.mk 1 [] xa xb [] []) (qb+1) by rw [HR3.out,if_pos hs2]);clear hs2;go_upto_region 6 with (go_at_call 172;refine HW.out.mono ?_;rintro e w7 ⟨rfl,hv7,hg7⟩);have HS7:=aW (HS.out.call hv7 hg7);have HEA7:=aW (HS.out.erk HEA.out hg7);have HEB7:=aW (HS.out.erk HEB.out hg7);have HSS:=aW (show SR w7 (λ b=>w.heap.size<b) [Zi Zq 1,Zt ⟨#[]⟩,Zi Zq ka,Zi Zq k1a,Zi Zq n1a,Zt s1a,Zs A1a na1a ca1a,Zs B1a nb1a cb1a,Zt sa,Zs A2a n2a ca2a,Zi Zq kb,Zi Zq k1b,Zi Zq n1b,Zt s1b,Zs A1b na1b ca1b,Zs B1b nb1b cb1b,Zt sb,Zs A2b n2b ca2b,Zs none 0 0,Zs none 0 0] (.mk 1 [] xa xb [] []) from SR.into (s:=[]) HEA7.out HEB7.out RR.nil rfl (Nat.le_refl _) (λ _=>rfl) RdF.nil RR.nil rfl (Nat.le_refl _) (λ _=>rfl) RdF.nil);clear hv7 hg7 HS HEA HEB HW HEA7 HEB7;go_step;refine wpList_load_mid rfl 48 (.tmp 2) rfl w.heap.size 0 rfl [Zi Zq 1,Zt ⟨#[]⟩,Zi Zq ka,Zi Zq k1a,Zi Zq n1a,Zt s1a,Zs A1a na1a ca1a,Zs B1a nb1a cb1a,Zt sa,Zs A2a n2a ca2a,Zi Zq kb,Zi Zq k1b,Zi Zq n1b,Zt s1b,Zs A1b na1b ca1b,Zs B1b nb1b cb1b,Zt sb,Zs A2b n2b ca2b,Zs none 0 0,Zs none 0 0] _ (Blk.range HS7.out.blk) Tryz.underlying48 rfl (by kernel_rfl) ?_;refine bS rfl 48 2 14 rfl w.heap.size 0 #[Zi Zq 1,Zt ⟨#[]⟩,Zi Zq ka,Zi Zq k1a,Zi Zq n1a,Zt s1a,Zs A1a na1a ca1a,Zs B1a nb1a cb1a,Zt sa,Zs A2a n2a ca2a,Zi Zq kb,Zi Zq k1b,Zi Zq n1b,Zt s1b,Zs A1b na1b ca1b,Zs B1b nb1b cb1b,Zt sb,Zs A2b n2b ca2b,Zs none 0 0,Zs none 0 0] rfl rfl HS7.out.blk.there ?_;obtain ⟨W8,hW8⟩:∃ W',w7.setCells w.heap.size 0 [Zi Zq 1,Zt ⟨#[]⟩,Zi Zq ka,Zi Zq k1a,Zi Zq n1a,Zt s1a,Zs A1a na1a ca1a,Zs B1a nb1a cb1a,Zt sa,Zs A2a n2a ca2a,Zi Zq kb,Zi Zq k1b,Zi Zq n1b,Zt s1b,Zs A1b na1b ca1b,Zs B1b nb1b cb1b,Zt sb,Zs A2b n2b ca2b,Zs none 0 0,Zs none 0 0]=W':=⟨_,rfl⟩
   have HRS:=aW (show W8.rangeAt w.heap.size 0 [Zi Zq 1,Zt ⟨#[]⟩,Zi Zq ka,Zi Zq k1a,Zi Zq n1a,Zt s1a,Zs A1a na1a ca1a,Zs B1a nb1a cb1a,Zt sa,Zs A2a n2a ca2a,Zi Zq kb,Zi Zq k1b,Zi Zq n1b,Zt s1b,Zs A1b na1b ca1b,Zs B1b nb1b cb1b,Zt sb,Zs A2b n2b ca2b,Zs none 0 0,Zs none 0 0] by rw [← hW8];exact World.rangeAt_setCells_same w7 w.heap.size 0 _ HS7.out.blk.there);have HF:=aW (show ik (.ok (.mk 1 [] xa xb [] []) (qb+1)) g A nT cap T w (.returned (.agg #[Zi Zq 1,Zt ⟨#[]⟩,Zi Zq ka,Zi Zq k1a,Zi Zq n1a,Zt s1a,Zs A1a na1a ca1a,Zs B1a nb1a cb1a,Zt sa,Zs A2a n2a ca2a,Zi Zq kb,Zi Zq k1b,Zi Zq n1b,Zt s1b,Zs A1b na1b ca1b,Zs B1b nb1b cb1b,Zt sb,Zs A2b n2b ca2b,Zs none 0 0,Zs none 0 0])) W8 by rw [← hW8];exact iL HS7.out HSS.out);simp only [];rw [hW8];clear hW8 HS7 HSS;go_wp2_with (refine bodyPost_ret (v:=.agg #[Zi Zq 1,Zt ⟨#[]⟩,Zi Zq ka,Zi Zq k1a,Zi Zq n1a,Zt s1a,Zs A1a na1a ca1a,Zs B1a nb1a cb1a,Zt sa,Zs A2a n2a ca2a,Zi Zq kb,Zi Zq k1b,Zi Zq n1b,Zt s1b,Zs A1b na1b ca1b,Zs B1b nb1b cb1b,Zt sb,Zs A2b n2b ca2b,Zs none 0 0,Zs none 0 0]) (bV Tryz.results136 rfl (run_loadVar_mid W8 w.heap.size 0 48 _ _ HRS.out Tryz.underlying48 rfl (by kernel_rfl))) rfl ?_);rw [HR.out];exact HF.out
set_option maxHeartbeats 32000000 in
theorem tU (g:Nat) (A:Option Addr) (nT cap:Nat) (T:List al) (M:Nat) (hT:WT T) (hB:nf g A nT cap T M) (hn:nT<=1000) (p:Nat) (w:World) (hV:VP w g A nT cap T p) (hp:p<nT) (hM:nT-p<=M+1) :
  Calls Tryz.prog 137 #[Zp (some ⟨g,0,none⟩)] w (ik (eIf T p) g A nT cap T w):=by
 obtain ⟨r,hr⟩:∃ r,eIf T p=r:=⟨_,rfl⟩
 have HR0:=aW (show r=(match eE T 1 p with
  | .bad q=>.bad q
  | .ok a q=>match eK T q with
   | .bad r=>.bad r
   | .ok body r=>if ao T r gl=true then (match eK T (r+1) with
     | .bad u=>.bad u
     | .ok els u=>.ok (.mk 2 [] a a8 body els) u)
    else .ok (.mk 2 [] a a8 body []) r) from hr ▸ rfl)
 rw [hr];have HN:=aW hn;have HL:=aW hV.len;have HM:=aW hM;have hgl:=hV.blk.lt;have HV:=aW hV;have HX:=aW (λ p' W (h:VP W g A nT cap T p') (h1:p'<nT)=>mZ g A nT cap T hT hn _ 1 p' 1 W h (Nat.le_refl _) (by omega) h1 rfl (Nat.le_refl _));have HNX:=aW (λ q s (h:q<nT) (hs:ao T q s=true)=>(show q+1<nT by have h9:=hT.next (p:=q) (by rw [HL.out];exact h) (am hs);rw [HL.out] at h9;exact h9));clear hV hr;obtain ⟨W1,hW1⟩:∃ W',(w.alloc (.cells #[Zi Zq 2,Zt ⟨#[]⟩,Zi Zq 0,Zi Zq 0,Zi Zq 0,Zt ⟨#[]⟩,Zs none 0 0,Zs none 0 0,Zt ⟨#[]⟩,Zs none 0 0,Zi Zq 0,Zi Zq 0,Zi Zq 0,Zt ⟨#[]⟩,Zs none 0 0,Zs none 0 0,Zt ⟨#[]⟩,Zs none 0 0,Zs none 0 0,Zs none 0 0] 48))=W':=⟨_,rfl⟩
 go_enter Tryz.func137,Tryz.ntmps137;go_upto_region 2 with fail;have HS:=aW (show SP w W1 g A nT cap T p p #[Zi Zq 2,Zt ⟨#[]⟩,Zi Zq 0,Zi Zq 0,Zi Zq 0,Zt ⟨#[]⟩,Zs none 0 0,Zs none 0 0,Zt ⟨#[]⟩,Zs none 0 0,Zi Zq 0,Zi Zq 0,Zi Zq 0,Zt ⟨#[]⟩,Zs none 0 0,Zs none 0 0,Zt ⟨#[]⟩,Zs none 0 0,Zs none 0 0,Zs none 0 0] by rw [← hW1];exact pN HV.out _);clear hW1;have hca:=HX.out p W1 HS.out.vp hp;cases hra:eE T 1 p with
 |bad qa =>
  rw [hra] at hca;have HR:=aW (show r=.bad qa by rw [HR0.out,hra]);unfold cU aG at hca;have HC:=aW hca;clear hca hra;rw [HR.out];go_wp2_with (go_at_call 171;refine HC.out.mono ?_;rintro e w9 ⟨rfl,hg9⟩);exact ⟨rfl,rfl,ag HS.out.gb hg9⟩
 |ok xa qa =>
  rw [hra] at hca;have hqa:=dl hT (by rw [HL.out];exact hp) hra;rw [HL.out] at hqa;have HR1:=aW (show r=(match eK T qa with
   | .bad r=>.bad r
   | .ok body r=>if ao T r gl=true then (match eK T (r+1) with
     | .bad u=>.bad u
     | .ok els u=>.ok (.mk 2 [] xa a8 body els) u)
    else .ok (.mk 2 [] xa a8 body []) r) by rw [HR0.out,hra])
  unfold cU at hca;have HC:=aW hca;clear hca hra;go_wp2_with fail;refine HC.out.mono ?_;rintro e w2 ⟨cs,rfl,he2,hv2,hg2⟩;obtain ⟨ka,k1a,n1a,s1a,A1a,na1a,ca1a,B1a,nb1a,cb1a,sa,A2a,n2a,ca2a,rfl⟩:=he2.form;have HS2:=aW (HS.out.call hv2 hg2);have HE2:=aW (HS.out.ern he2);obtain ⟨y0,y1,y2⟩:=HS2.out.blk.rules;clear he2 hv2 hg2 HS HC;go_upto_region 3 with fail;obtain ⟨W3,hW3⟩:∃ W',((((((((w2.setCell ⟨w.heap.size,2,none⟩ (Zi Zq ka)).setCell ⟨w.heap.size,3,none⟩ (Zi Zq k1a)).setCell ⟨w.heap.size,4,none⟩ (Zi Zq n1a)).setCell ⟨w.heap.size,5,none⟩ (Zt s1a)).setCell ⟨w.heap.size,6,none⟩ (Zs A1a na1a ca1a)).setCell ⟨w.heap.size,7,none⟩ (Zs B1a nb1a cb1a)).setCell ⟨w.heap.size,8,none⟩ (Zt sa)).setCell ⟨w.heap.size,9,none⟩ (Zs A2a n2a ca2a))=W':=⟨_,rfl⟩
  rw [hW3];have HS:=aW (show SP w W3 g A nT cap T p qa #[Zi Zq 2,Zt ⟨#[]⟩,Zi Zq ka,Zi Zq k1a,Zi Zq n1a,Zt s1a,Zs A1a na1a ca1a,Zs B1a nb1a cb1a,Zt sa,Zs A2a n2a ca2a,Zi Zq 0,Zi Zq 0,Zi Zq 0,Zt ⟨#[]⟩,Zs none 0 0,Zs none 0 0,Zt ⟨#[]⟩,Zs none 0 0,Zs none 0 0,Zs none 0 0] by rw [← hW3];exact HS2.out.setC [Zi Zq ka,Zi Zq k1a,Zi Zq n1a,Zt s1a,Zs A1a na1a ca1a,Zs B1a nb1a cb1a,Zt sa,Zs A2a n2a ca2a] 2 (HS2.out.blk.setSA _ _ _ _ _ _ _ _));have HEA:=aW (show ER W3 (λ b=>w.heap.size<b) [Zi Zq ka,Zi Zq k1a,Zi Zq n1a,Zt s1a,Zs A1a na1a ca1a,Zs B1a nb1a cb1a,Zt sa,Zs A2a n2a ca2a] xa by rw [← hW3];exact eC HE2.out [Zi Zq ka,Zi Zq k1a,Zi Zq n1a,Zt s1a,Zs A1a na1a ca1a,Zs B1a nb1a cb1a,Zt sa,Zs A2a n2a ca2a] 2);clear hW3 y0 y1 y2 HS2 HE2;have hcb:=hB qa W3 HS.out.vp hqa.2 (by have:=HM.out;omega);cases hrb:eK T qa with
  |bad qb =>
   rw [hrb] at hcb;have HR:=aW (show r=.bad qb by rw [HR1.out,hrb]);unfold gR aG at hcb;have HC:=aW hcb;clear hcb hrb;rw [HR.out];go_wp2_with (go_at_call 173;refine HC.out.mono ?_;rintro e w9 ⟨rfl,hg9⟩);exact ⟨rfl,rfl,ag HS.out.gb hg9⟩
  |ok body qb =>
   rw [hrb] at hcb;have hqb:=kf hT (by rw [HL.out];exact hqa.2) hrb;rw [HL.out] at hqb;have HR2:=aW (show r=(if ao T qb gl=true then (match eK T (qb+1) with
     | .bad u=>.bad u
     | .ok els u=>.ok (.mk 2 [] xa a8 body els) u)
    else .ok (.mk 2 [] xa a8 body []) qb) by rw [HR1.out,hrb])
   unfold gR at hcb;have HC:=aW hcb;clear hcb hrb;go_wp2_with fail;refine HC.out.mono ?_;rintro e w4 ⟨BA,nb,cb,css,rfl,hl1,hl2,hl3,hl4,hl5,hv4,hg4⟩;have HS4:=aW (HS.out.call hv4 hg4);have HE4:=aW (HS.out.erk HEA.out hg4);have HB4:=aW (HS.out.rown hl1 hl2 hl3 hl4 hl5);obtain ⟨y0,y1,y2⟩:=HS4.out.blk.rules;clear hl1 hl2 hl3 hl4 hl5 hv4 hg4 HS HEA HC;go_upto_region 4 with fail;obtain ⟨W5,hW5⟩:∃ W',w4.setCell ⟨w.heap.size,18,none⟩ (Zs BA nb cb)=W':=⟨_,rfl⟩
   rw [hW5];have HS:=aW (show SP w W5 g A nT cap T p qb #[Zi Zq 2,Zt ⟨#[]⟩,Zi Zq ka,Zi Zq k1a,Zi Zq n1a,Zt s1a,Zs A1a na1a ca1a,Zs B1a nb1a cb1a,Zt sa,Zs A2a n2a ca2a,Zi Zq 0,Zi Zq 0,Zi Zq 0,Zt ⟨#[]⟩,Zs none 0 0,Zs none 0 0,Zt ⟨#[]⟩,Zs none 0 0,Zs BA nb cb,Zs none 0 0] by
    have h:=HS4.out.blk.set_ 18 (Zs BA nb cb);simp only [List.setIfInBounds_toArray,List.set_cons_succ,List.set_cons_zero] at h;rw [← hW5];exact HS4.out.setC [Zs BA nb cb] 18 h)
   have HEA:=aW (show ER W5 (λ b=>w.heap.size<b) [Zi Zq ka,Zi Zq k1a,Zi Zq n1a,Zt s1a,Zs A1a na1a ca1a,Zs B1a nb1a cb1a,Zt sa,Zs A2a n2a ca2a] xa by rw [← hW5];exact eC HE4.out [Zs BA nb cb] 18);have HBO:=aW (show il w W5 BA nb cb body by rw [← hW5];exact HB4.out.setC [Zs BA nb cb] 18);clear hW5 y0 y1 y2 HS4 HE4 HB4;by_cases hs1:ao T qb gl=true
   ·have hq1:=HNX.out qb gl hqb.2 hs1;have HW:=aW (eh gl W5 g A nT cap T qb HS.out.vp hqb.2 HN.out hs1);have HR3:=aW (show r=(match eK T (qb+1) with
     | .bad u=>.bad u
     | .ok els u=>.ok (.mk 2 [] xa a8 body els) u) by rw [HR2.out,if_pos hs1])
    clear hs1;go_upto_region 5 with (go_at_call 139;refine HW.out.mono ?_;rintro e w6 ⟨rfl,hv6,hg6⟩);have HS6:=aW (HS.out.call hv6 hg6);have HE6:=aW (HS.out.erk HEA.out hg6);have HB6:=aW (HBO.out.kp (HS.out.kpg hg6));clear hv6 hg6 HS HEA HBO HW;have hce:=hB (qb+1) w6 HS6.out.vp hq1 (by have:=HM.out;omega);cases hre:eK T (qb+1) with
    |bad qe =>
     rw [hre] at hce;have HR:=aW (show r=.bad qe by rw [HR3.out,hre]);unfold gR aG at hce;have HC:=aW hce;clear hce hre;rw [HR.out];go_wp2_with (go_at_call 173;refine HC.out.mono ?_;rintro e w9 ⟨rfl,hg9⟩);exact ⟨rfl,rfl,ag HS6.out.gb hg9⟩
    |ok els qe =>
     rw [hre] at hce;have HR:=aW (show r=.ok (.mk 2 [] xa a8 body els) qe by rw [HR3.out,hre]);unfold gR at hce;have HC:=aW hce;clear hce hre;go_wp2_with fail;refine HC.out.mono ?_;rintro e w7 ⟨LA,nl,cl,dss,rfl,hl1,hl2,hl3,hl4,hl5,hv7,hg7⟩;have HS7:=aW (HS6.out.call hv7 hg7);have HE7:=aW (HS6.out.erk HE6.out hg7);have HB7:=aW (HB6.out.kp (HS6.out.kpg hg7));have HL7:=aW (HS6.out.rown hl1 hl2 hl3 hl4 hl5);obtain ⟨y0,y1,y2⟩:=HS7.out.blk.rules;clear hl1 hl2 hl3 hl4 hl5 hv7 hg7 HS6 HE6 HB6 HC;go_upto_region 6 with fail;obtain ⟨w8,hW8⟩:∃ W',w7.setCell ⟨w.heap.size,19,none⟩ (Zs LA nl cl)=W':=⟨_,rfl⟩
     rw [hW8];have HS8:=aW (show SP w w8 g A nT cap T p qe #[Zi Zq 2,Zt ⟨#[]⟩,Zi Zq ka,Zi Zq k1a,Zi Zq n1a,Zt s1a,Zs A1a na1a ca1a,Zs B1a nb1a cb1a,Zt sa,Zs A2a n2a ca2a,Zi Zq 0,Zi Zq 0,Zi Zq 0,Zt ⟨#[]⟩,Zs none 0 0,Zs none 0 0,Zt ⟨#[]⟩,Zs none 0 0,Zs BA nb cb,Zs LA nl cl] by
      have h:=HS7.out.blk.set_ 19 (Zs LA nl cl);simp only [List.setIfInBounds_toArray,List.set_cons_succ,List.set_cons_zero] at h;rw [← hW8];exact HS7.out.setC [Zs LA nl cl] 19 h)
     have HSS:=aW (show SR w8 (λ b=>w.heap.size<b) [Zi Zq 2,Zt ⟨#[]⟩,Zi Zq ka,Zi Zq k1a,Zi Zq n1a,Zt s1a,Zs A1a na1a ca1a,Zs B1a nb1a cb1a,Zt sa,Zs A2a n2a ca2a,Zi Zq 0,Zi Zq 0,Zi Zq 0,Zt ⟨#[]⟩,Zs none 0 0,Zs none 0 0,Zt ⟨#[]⟩,Zs none 0 0,Zs BA nb cb,Zs LA nl cl] (.mk 2 [] xa a8 body els) by
      rw [← hW8];exact pO (eC HE7.out [Zs LA nl cl] 19) ER.zero (HB7.out.setC [Zs LA nl cl] 19) (HL7.out.setC [Zs LA nl cl] 19))
     clear hW8 y0 y1 y2 HS7 HE7 HB7 HL7;go_step;refine wpList_load_mid rfl 48 (.tmp 2) rfl w.heap.size 0 rfl [Zi Zq 2,Zt ⟨#[]⟩,Zi Zq ka,Zi Zq k1a,Zi Zq n1a,Zt s1a,Zs A1a na1a ca1a,Zs B1a nb1a cb1a,Zt sa,Zs A2a n2a ca2a,Zi Zq 0,Zi Zq 0,Zi Zq 0,Zt ⟨#[]⟩,Zs none 0 0,Zs none 0 0,Zt ⟨#[]⟩,Zs none 0 0,Zs BA nb cb,Zs LA nl cl] _ (Blk.range HS8.out.blk) Tryz.underlying48 rfl (by kernel_rfl) ?_;refine bS rfl 48 2 15 rfl w.heap.size 0 #[Zi Zq 2,Zt ⟨#[]⟩,Zi Zq ka,Zi Zq k1a,Zi Zq n1a,Zt s1a,Zs A1a na1a ca1a,Zs B1a nb1a cb1a,Zt sa,Zs A2a n2a ca2a,Zi Zq 0,Zi Zq 0,Zi Zq 0,Zt ⟨#[]⟩,Zs none 0 0,Zs none 0 0,Zt ⟨#[]⟩,Zs none 0 0,Zs BA nb cb,Zs LA nl cl] rfl rfl HS8.out.blk.there ?_;obtain ⟨WE,hWE⟩:∃ W',w8.setCells w.heap.size 0 [Zi Zq 2,Zt ⟨#[]⟩,Zi Zq ka,Zi Zq k1a,Zi Zq n1a,Zt s1a,Zs A1a na1a ca1a,Zs B1a nb1a cb1a,Zt sa,Zs A2a n2a ca2a,Zi Zq 0,Zi Zq 0,Zi Zq 0,Zt ⟨#[]⟩,Zs none 0 0,Zs none 0 0,Zt ⟨#[]⟩,Zs none 0 0,Zs BA nb cb,Zs LA nl cl]=W':=⟨_,rfl⟩
     have HRS:=aW (show WE.rangeAt w.heap.size 0 [Zi Zq 2,Zt ⟨#[]⟩,Zi Zq ka,Zi Zq k1a,Zi Zq n1a,Zt s1a,Zs A1a na1a ca1a,Zs B1a nb1a cb1a,Zt sa,Zs A2a n2a ca2a,Zi Zq 0,Zi Zq 0,Zi Zq 0,Zt ⟨#[]⟩,Zs none 0 0,Zs none 0 0,Zt ⟨#[]⟩,Zs none 0 0,Zs BA nb cb,Zs LA nl cl] by rw [← hWE];exact World.rangeAt_setCells_same w8 w.heap.size 0 _ HS8.out.blk.there);have HF:=aW (show ik (.ok (.mk 2 [] xa a8 body els) qe) g A nT cap T w (.returned (.agg #[Zi Zq 2,Zt ⟨#[]⟩,Zi Zq ka,Zi Zq k1a,Zi Zq n1a,Zt s1a,Zs A1a na1a ca1a,Zs B1a nb1a cb1a,Zt sa,Zs A2a n2a ca2a,Zi Zq 0,Zi Zq 0,Zi Zq 0,Zt ⟨#[]⟩,Zs none 0 0,Zs none 0 0,Zt ⟨#[]⟩,Zs none 0 0,Zs BA nb cb,Zs LA nl cl])) WE by rw [← hWE];exact iL HS8.out HSS.out);simp only [];rw [hWE];clear hWE HS8 HSS;go_wp2_with (refine bodyPost_ret (v:=.agg #[Zi Zq 2,Zt ⟨#[]⟩,Zi Zq ka,Zi Zq k1a,Zi Zq n1a,Zt s1a,Zs A1a na1a ca1a,Zs B1a nb1a cb1a,Zt sa,Zs A2a n2a ca2a,Zi Zq 0,Zi Zq 0,Zi Zq 0,Zt ⟨#[]⟩,Zs none 0 0,Zs none 0 0,Zt ⟨#[]⟩,Zs none 0 0,Zs BA nb cb,Zs LA nl cl]) (bV Tryz.results137 rfl (run_loadVar_mid WE w.heap.size 0 48 _ _ HRS.out Tryz.underlying48 rfl (by kernel_rfl))) rfl ?_);rw [HR.out];exact HF.out
   ·have hs':ao T qb gl=false:=by simpa using hs1
    have HR:=aW (show r=.ok (.mk 2 [] xa a8 body []) qb by rw [HR2.out,if_neg hs1]);have HW:=aW (ef gl W5 g A nT cap T qb HS.out.vp hqb.2 HN.out hs');clear hs1 hs';go_upto_region 6 with (go_at_call 139;refine HW.out.mono ?_;rintro e w8 ⟨rfl,hb8⟩);have HS8:=aW (HS.out.bel hb8);have HSS:=aW (show SR w8 (λ b=>w.heap.size<b) [Zi Zq 2,Zt ⟨#[]⟩,Zi Zq ka,Zi Zq k1a,Zi Zq n1a,Zt s1a,Zs A1a na1a ca1a,Zs B1a nb1a cb1a,Zt sa,Zs A2a n2a ca2a,Zi Zq 0,Zi Zq 0,Zi Zq 0,Zt ⟨#[]⟩,Zs none 0 0,Zs none 0 0,Zt ⟨#[]⟩,Zs none 0 0,Zs BA nb cb,Zs none 0 0] (.mk 2 [] xa a8 body []) from
     pO (HEA.out.bel hb8) ER.zero (HBO.out.kp (aj.of_below hb8)) il.nil)
    clear hb8 HS HEA HBO HW;go_step;refine wpList_load_mid rfl 48 (.tmp 2) rfl w.heap.size 0 rfl [Zi Zq 2,Zt ⟨#[]⟩,Zi Zq ka,Zi Zq k1a,Zi Zq n1a,Zt s1a,Zs A1a na1a ca1a,Zs B1a nb1a cb1a,Zt sa,Zs A2a n2a ca2a,Zi Zq 0,Zi Zq 0,Zi Zq 0,Zt ⟨#[]⟩,Zs none 0 0,Zs none 0 0,Zt ⟨#[]⟩,Zs none 0 0,Zs BA nb cb,Zs none 0 0] _ (Blk.range HS8.out.blk) Tryz.underlying48 rfl (by kernel_rfl) ?_;refine bS rfl 48 2 15 rfl w.heap.size 0 #[Zi Zq 2,Zt ⟨#[]⟩,Zi Zq ka,Zi Zq k1a,Zi Zq n1a,Zt s1a,Zs A1a na1a ca1a,Zs B1a nb1a cb1a,Zt sa,Zs A2a n2a ca2a,Zi Zq 0,Zi Zq 0,Zi Zq 0,Zt ⟨#[]⟩,Zs none 0 0,Zs none 0 0,Zt ⟨#[]⟩,Zs none 0 0,Zs BA nb cb,Zs none 0 0] rfl rfl HS8.out.blk.there ?_;obtain ⟨WE,hWE⟩:∃ W',w8.setCells w.heap.size 0 [Zi Zq 2,Zt ⟨#[]⟩,Zi Zq ka,Zi Zq k1a,Zi Zq n1a,Zt s1a,Zs A1a na1a ca1a,Zs B1a nb1a cb1a,Zt sa,Zs A2a n2a ca2a,Zi Zq 0,Zi Zq 0,Zi Zq 0,Zt ⟨#[]⟩,Zs none 0 0,Zs none 0 0,Zt ⟨#[]⟩,Zs none 0 0,Zs BA nb cb,Zs none 0 0]=W':=⟨_,rfl⟩
    have HRS:=aW (show WE.rangeAt w.heap.size 0 [Zi Zq 2,Zt ⟨#[]⟩,Zi Zq ka,Zi Zq k1a,Zi Zq n1a,Zt s1a,Zs A1a na1a ca1a,Zs B1a nb1a cb1a,Zt sa,Zs A2a n2a ca2a,Zi Zq 0,Zi Zq 0,Zi Zq 0,Zt ⟨#[]⟩,Zs none 0 0,Zs none 0 0,Zt ⟨#[]⟩,Zs none 0 0,Zs BA nb cb,Zs none 0 0] by rw [← hWE];exact World.rangeAt_setCells_same w8 w.heap.size 0 _ HS8.out.blk.there);have HF:=aW (show ik (.ok (.mk 2 [] xa a8 body []) qb) g A nT cap T w (.returned (.agg #[Zi Zq 2,Zt ⟨#[]⟩,Zi Zq ka,Zi Zq k1a,Zi Zq n1a,Zt s1a,Zs A1a na1a ca1a,Zs B1a nb1a cb1a,Zt sa,Zs A2a n2a ca2a,Zi Zq 0,Zi Zq 0,Zi Zq 0,Zt ⟨#[]⟩,Zs none 0 0,Zs none 0 0,Zt ⟨#[]⟩,Zs none 0 0,Zs BA nb cb,Zs none 0 0])) WE by rw [← hWE];exact iL HS8.out HSS.out);simp only [];rw [hWE];clear hWE HS8 HSS;go_wp2_with (refine bodyPost_ret (v:=.agg #[Zi Zq 2,Zt ⟨#[]⟩,Zi Zq ka,Zi Zq k1a,Zi Zq n1a,Zt s1a,Zs A1a na1a ca1a,Zs B1a nb1a cb1a,Zt sa,Zs A2a n2a ca2a,Zi Zq 0,Zi Zq 0,Zi Zq 0,Zt ⟨#[]⟩,Zs none 0 0,Zs none 0 0,Zt ⟨#[]⟩,Zs none 0 0,Zs BA nb cb,Zs none 0 0]) (bV Tryz.results137 rfl (run_loadVar_mid WE w.heap.size 0 48 _ _ HRS.out Tryz.underlying48 rfl (by kernel_rfl))) rfl ?_);rw [HR.out];exact HF.out
set_option maxHeartbeats 32000000 in
theorem xh (g:Nat) (A:Option Addr) (nT cap:Nat) (T:List al) (M:Nat) (hT:WT T) (hB:nf g A nT cap T M) (hn:nT<=1000) (p:Nat) (w:World) (hV:VP w g A nT cap T p) (hp:p<nT) (hM:nT-p<=M+1) :
  Calls Tryz.prog 138 #[Zp (some ⟨g,0,none⟩)] w (ik (nC T p) g A nT cap T w):=by
 obtain ⟨r,hr⟩:∃ r,nC T p=r:=⟨_,rfl⟩
 have HR0:=aW (show r=(if tkK T p=1 then
  (if ao T (p+1) wIn=true then (match eE T 1 (p+2) with
   | .bad q=>.bad q
   | .ok a q=>match eK T q with
    | .bad r=>.bad r
    | .ok body r=>.ok (.mk 3 (tkT T p) a a8 body []) r)
  else .bad (p+1))
 else .bad p) from hr ▸ rfl)
 rw [hr];have HN:=aW hn;have HL:=aW hV.len;have HM:=aW hM;have hgl:=hV.blk.lt;have HV:=aW hV;have HX:=aW (λ p' W (h:VP W g A nT cap T p') (h1:p'<nT)=>mZ g A nT cap T hT hn _ 1 p' 1 W h (Nat.le_refl _) (by omega) h1 rfl (Nat.le_refl _));have HNX:=aW (λ q (h:q<nT) (hs:tkK T q≠6)=>(show q+1<nT by have h9:=hT.next (p:=q) (by rw [HL.out];exact h) hs;rw [HL.out] at h9;exact h9));clear hV hr;obtain ⟨W1,hW1⟩:∃ W',(w.alloc (.cells #[Zi Zq 3,Zt ⟨#[]⟩,Zi Zq 0,Zi Zq 0,Zi Zq 0,Zt ⟨#[]⟩,Zs none 0 0,Zs none 0 0,Zt ⟨#[]⟩,Zs none 0 0,Zi Zq 0,Zi Zq 0,Zi Zq 0,Zt ⟨#[]⟩,Zs none 0 0,Zs none 0 0,Zt ⟨#[]⟩,Zs none 0 0,Zs none 0 0,Zs none 0 0] 48))=W':=⟨_,rfl⟩
 go_enter Tryz.func138,Tryz.ntmps138;go_upto_region 2 with fail;have HS0:=aW (show SP w W1 g A nT cap T p p #[Zi Zq 3,Zt ⟨#[]⟩,Zi Zq 0,Zi Zq 0,Zi Zq 0,Zt ⟨#[]⟩,Zs none 0 0,Zs none 0 0,Zt ⟨#[]⟩,Zs none 0 0,Zi Zq 0,Zi Zq 0,Zi Zq 0,Zt ⟨#[]⟩,Zs none 0 0,Zs none 0 0,Zt ⟨#[]⟩,Zs none 0 0,Zs none 0 0,Zs none 0 0] by rw [← hW1];exact pN HV.out _);clear hW1;by_cases hk:tkK T p=1;rotate_left
 ·have HR:=aW (show r=.bad p by rw [HR0.out,if_neg hk]);have hw:=qE W1 g A nT cap T p HS0.out.vp hp HN.out hk;unfold aG at hw;have HW:=aW hw;clear hk hw;rw [HR.out];go_wp2_with (go_at_call 174;refine HW.out.mono ?_;rintro e w9 ⟨rfl,hb9⟩);exact ⟨rfl,rfl,ag HS0.out.gb (aw hb9 _)⟩
 have hp1:=HNX.out p hp (by omega);have hnm:=qF W1 g A nT cap T p HS0.out.vp hp HN.out hk;have HR1:=aW (show r=(if ao T (p+1) wIn=true then (match eE T 1 (p+2) with
   | .bad q=>.bad q
   | .ok a q=>match eK T q with
    | .bad r=>.bad r
    | .ok body r=>.ok (.mk 3 (tkT T p) a a8 body []) r)
  else .bad (p+1)) by rw [HR0.out,if_pos hk])
 unfold uc at hnm;obtain ⟨nm,hnme⟩:∃ t,tkT T p=t:=⟨_,rfl⟩
 rw [hnme] at hnm HR1;have HNM:=aW hnm;clear hk hnm hnme;go_wp2_with fail;refine HNM.out.mono ?_;rintro e w2 ⟨rfl,hv2,hg2⟩;have HS2:=aW (HS0.out.call hv2 hg2);obtain ⟨y0,y1,y2⟩:=HS2.out.blk.rules;clear hv2 hg2 HS0 HNM;go_upto_region 3 with fail;obtain ⟨W3,hW3⟩:∃ W',w2.setCell ⟨w.heap.size,1,none⟩ (Zt ⟨nm.toArray⟩)=W':=⟨_,rfl⟩
 rw [hW3];have HS3:=aW (show SP w W3 g A nT cap T p (p+1) #[Zi Zq 3,Zt ⟨nm.toArray⟩,Zi Zq 0,Zi Zq 0,Zi Zq 0,Zt ⟨#[]⟩,Zs none 0 0,Zs none 0 0,Zt ⟨#[]⟩,Zs none 0 0,Zi Zq 0,Zi Zq 0,Zi Zq 0,Zt ⟨#[]⟩,Zs none 0 0,Zs none 0 0,Zt ⟨#[]⟩,Zs none 0 0,Zs none 0 0,Zs none 0 0] by
  have h:=HS2.out.blk.set_ 1 (Zt ⟨nm.toArray⟩);simp only [List.setIfInBounds_toArray,List.set_cons_succ,List.set_cons_zero] at h;rw [← hW3];exact HS2.out.setC [Zt ⟨nm.toArray⟩] 1 h)
 clear hW3 y0 y1 y2 HS2;by_cases hs1:ao T (p+1) wIn=true;rotate_left
 ·have hs':ao T (p+1) wIn=false:=by simpa using hs1
  have HR:=aW (show r=.bad (p+1) by rw [HR1.out,if_neg hs1]);have hw:=fy wIn W3 g A nT cap T (p+1) HS3.out.vp hp1 HN.out hs';unfold aG at hw;have HW:=aW hw;clear hs1 hs' hw;rw [HR.out];go_wp2_with (go_at_call 172;refine HW.out.mono ?_;rintro e w9 ⟨rfl,hb9⟩);exact ⟨rfl,rfl,ag HS3.out.gb (aw hb9 _)⟩
 have hp2:=HNX.out (p+1) hp1 (am hs1);have HW:=aW (fz wIn W3 g A nT cap T (p+1) HS3.out.vp hp1 HN.out hs1);have HR2:=aW (show r=(match eE T 1 (p+2) with
   | .bad q=>.bad q
   | .ok a q=>match eK T q with
    | .bad r=>.bad r
    | .ok body r=>.ok (.mk 3 nm a a8 body []) r) by rw [HR1.out,if_pos hs1])
 clear hs1;go_upto_region 4 with (go_at_call 172;refine HW.out.mono ?_;rintro e w4 ⟨rfl,hv4,hg4⟩);have HS:=aW (show SP w w4 g A nT cap T p (p+2) _ from HS3.out.call hv4 hg4);clear hv4 hg4 HS3 HW;have hca:=HX.out (p+2) w4 HS.out.vp hp2;cases hra:eE T 1 (p+2) with
 |bad qa =>
  rw [hra] at hca;have HR:=aW (show r=.bad qa by rw [HR2.out,hra]);unfold cU aG at hca;have HC:=aW hca;clear hca hra;rw [HR.out];go_wp2_with (go_at_call 171;refine HC.out.mono ?_;rintro e w9 ⟨rfl,hg9⟩);exact ⟨rfl,rfl,ag HS.out.gb hg9⟩
 |ok xa qa =>
  rw [hra] at hca;have hqa:=dl hT (by rw [HL.out];exact hp2) hra;rw [HL.out] at hqa;have HR3:=aW (show r=(match eK T qa with
    | .bad r=>.bad r
    | .ok body r=>.ok (.mk 3 nm xa a8 body []) r) by rw [HR2.out,hra])
  unfold cU at hca;have HC:=aW hca;clear hca hra;go_wp2_with fail;refine HC.out.mono ?_;rintro e w5 ⟨cs,rfl,he5,hv5,hg5⟩;obtain ⟨ka,k1a,n1a,s1a,A1a,na1a,ca1a,B1a,nb1a,cb1a,sa,A2a,n2a,ca2a,rfl⟩:=he5.form;have HS5:=aW (HS.out.call hv5 hg5);have HE5:=aW (HS.out.ern he5);obtain ⟨y0,y1,y2⟩:=HS5.out.blk.rules;clear he5 hv5 hg5 HS HC;go_upto_region 5 with fail;obtain ⟨W6,hW6⟩:∃ W',((((((((w5.setCell ⟨w.heap.size,2,none⟩ (Zi Zq ka)).setCell ⟨w.heap.size,3,none⟩ (Zi Zq k1a)).setCell ⟨w.heap.size,4,none⟩ (Zi Zq n1a)).setCell ⟨w.heap.size,5,none⟩ (Zt s1a)).setCell ⟨w.heap.size,6,none⟩ (Zs A1a na1a ca1a)).setCell ⟨w.heap.size,7,none⟩ (Zs B1a nb1a cb1a)).setCell ⟨w.heap.size,8,none⟩ (Zt sa)).setCell ⟨w.heap.size,9,none⟩ (Zs A2a n2a ca2a))=W':=⟨_,rfl⟩
  rw [hW6];have HS:=aW (show SP w W6 g A nT cap T p qa #[Zi Zq 3,Zt ⟨nm.toArray⟩,Zi Zq ka,Zi Zq k1a,Zi Zq n1a,Zt s1a,Zs A1a na1a ca1a,Zs B1a nb1a cb1a,Zt sa,Zs A2a n2a ca2a,Zi Zq 0,Zi Zq 0,Zi Zq 0,Zt ⟨#[]⟩,Zs none 0 0,Zs none 0 0,Zt ⟨#[]⟩,Zs none 0 0,Zs none 0 0,Zs none 0 0] by rw [← hW6];exact HS5.out.setC [Zi Zq ka,Zi Zq k1a,Zi Zq n1a,Zt s1a,Zs A1a na1a ca1a,Zs B1a nb1a cb1a,Zt sa,Zs A2a n2a ca2a] 2 (HS5.out.blk.setSA _ _ _ _ _ _ _ _));have HEA:=aW (show ER W6 (λ b=>w.heap.size<b) [Zi Zq ka,Zi Zq k1a,Zi Zq n1a,Zt s1a,Zs A1a na1a ca1a,Zs B1a nb1a cb1a,Zt sa,Zs A2a n2a ca2a] xa by rw [← hW6];exact eC HE5.out [Zi Zq ka,Zi Zq k1a,Zi Zq n1a,Zt s1a,Zs A1a na1a ca1a,Zs B1a nb1a cb1a,Zt sa,Zs A2a n2a ca2a] 2);clear hW6 y0 y1 y2 HS5 HE5;have hcb:=hB qa W6 HS.out.vp hqa.2 (by have:=HM.out;omega);cases hrb:eK T qa with
  |bad qb =>
   rw [hrb] at hcb;have HR:=aW (show r=.bad qb by rw [HR3.out,hrb]);unfold gR aG at hcb;have HC:=aW hcb;clear hcb hrb;rw [HR.out];go_wp2_with (go_at_call 173;refine HC.out.mono ?_;rintro e w9 ⟨rfl,hg9⟩);exact ⟨rfl,rfl,ag HS.out.gb hg9⟩
  |ok body qb =>
   rw [hrb] at hcb;have HR:=aW (show r=.ok (.mk 3 nm xa a8 body []) qb by rw [HR3.out,hrb]);unfold gR at hcb;have HC:=aW hcb;clear hcb hrb;go_wp2_with fail;refine HC.out.mono ?_;rintro e w7 ⟨BA,nb,cb,css,rfl,hl1,hl2,hl3,hl4,hl5,hv7,hg7⟩;have HS7:=aW (HS.out.call hv7 hg7);have HE7:=aW (HS.out.erk HEA.out hg7);have HB7:=aW (HS.out.rown hl1 hl2 hl3 hl4 hl5);obtain ⟨y0,y1,y2⟩:=HS7.out.blk.rules;clear hl1 hl2 hl3 hl4 hl5 hv7 hg7 HS HEA HC;go_upto_region 6 with fail;obtain ⟨w8,hW8⟩:∃ W',w7.setCell ⟨w.heap.size,18,none⟩ (Zs BA nb cb)=W':=⟨_,rfl⟩
   rw [hW8];have HS8:=aW (show SP w w8 g A nT cap T p qb #[Zi Zq 3,Zt ⟨nm.toArray⟩,Zi Zq ka,Zi Zq k1a,Zi Zq n1a,Zt s1a,Zs A1a na1a ca1a,Zs B1a nb1a cb1a,Zt sa,Zs A2a n2a ca2a,Zi Zq 0,Zi Zq 0,Zi Zq 0,Zt ⟨#[]⟩,Zs none 0 0,Zs none 0 0,Zt ⟨#[]⟩,Zs none 0 0,Zs BA nb cb,Zs none 0 0] by
    have h:=HS7.out.blk.set_ 18 (Zs BA nb cb);simp only [List.setIfInBounds_toArray,List.set_cons_succ,List.set_cons_zero] at h;rw [← hW8];exact HS7.out.setC [Zs BA nb cb] 18 h)
   have HSS:=aW (show SR w8 (λ b=>w.heap.size<b) [Zi Zq 3,Zt ⟨nm.toArray⟩,Zi Zq ka,Zi Zq k1a,Zi Zq n1a,Zt s1a,Zs A1a na1a ca1a,Zs B1a nb1a cb1a,Zt sa,Zs A2a n2a ca2a,Zi Zq 0,Zi Zq 0,Zi Zq 0,Zt ⟨#[]⟩,Zs none 0 0,Zs none 0 0,Zt ⟨#[]⟩,Zs none 0 0,Zs BA nb cb,Zs none 0 0] (.mk 3 nm xa a8 body []) by
    rw [← hW8];exact pO (eC HE7.out [Zs BA nb cb] 18) ER.zero (HB7.out.setC [Zs BA nb cb] 18) il.nil)
   clear hW8 y0 y1 y2 HS7 HE7 HB7;go_step;refine wpList_load_mid rfl 48 (.tmp 2) rfl w.heap.size 0 rfl [Zi Zq 3,Zt ⟨nm.toArray⟩,Zi Zq ka,Zi Zq k1a,Zi Zq n1a,Zt s1a,Zs A1a na1a ca1a,Zs B1a nb1a cb1a,Zt sa,Zs A2a n2a ca2a,Zi Zq 0,Zi Zq 0,Zi Zq 0,Zt ⟨#[]⟩,Zs none 0 0,Zs none 0 0,Zt ⟨#[]⟩,Zs none 0 0,Zs BA nb cb,Zs none 0 0] _ (Blk.range HS8.out.blk) Tryz.underlying48 rfl (by kernel_rfl) ?_;refine bS rfl 48 2 15 rfl w.heap.size 0 #[Zi Zq 3,Zt ⟨nm.toArray⟩,Zi Zq ka,Zi Zq k1a,Zi Zq n1a,Zt s1a,Zs A1a na1a ca1a,Zs B1a nb1a cb1a,Zt sa,Zs A2a n2a ca2a,Zi Zq 0,Zi Zq 0,Zi Zq 0,Zt ⟨#[]⟩,Zs none 0 0,Zs none 0 0,Zt ⟨#[]⟩,Zs none 0 0,Zs BA nb cb,Zs none 0 0] rfl rfl HS8.out.blk.there ?_;obtain ⟨WE,hWE⟩:∃ W',w8.setCells w.heap.size 0 [Zi Zq 3,Zt ⟨nm.toArray⟩,Zi Zq ka,Zi Zq k1a,Zi Zq n1a,Zt s1a,Zs A1a na1a ca1a,Zs B1a nb1a cb1a,Zt sa,Zs A2a n2a ca2a,Zi Zq 0,Zi Zq 0,Zi Zq 0,Zt ⟨#[]⟩,Zs none 0 0,Zs none 0 0,Zt ⟨#[]⟩,Zs none 0 0,Zs BA nb cb,Zs none 0 0]=W':=⟨_,rfl⟩
   have HRS:=aW (show WE.rangeAt w.heap.size 0 [Zi Zq 3,Zt ⟨nm.toArray⟩,Zi Zq ka,Zi Zq k1a,Zi Zq n1a,Zt s1a,Zs A1a na1a ca1a,Zs B1a nb1a cb1a,Zt sa,Zs A2a n2a ca2a,Zi Zq 0,Zi Zq 0,Zi Zq 0,Zt ⟨#[]⟩,Zs none 0 0,Zs none 0 0,Zt ⟨#[]⟩,Zs none 0 0,Zs BA nb cb,Zs none 0 0] by rw [← hWE];exact World.rangeAt_setCells_same w8 w.heap.size 0 _ HS8.out.blk.there);have HF:=aW (show ik (.ok (.mk 3 nm xa a8 body []) qb) g A nT cap T w (.returned (.agg #[Zi Zq 3,Zt ⟨nm.toArray⟩,Zi Zq ka,Zi Zq k1a,Zi Zq n1a,Zt s1a,Zs A1a na1a ca1a,Zs B1a nb1a cb1a,Zt sa,Zs A2a n2a ca2a,Zi Zq 0,Zi Zq 0,Zi Zq 0,Zt ⟨#[]⟩,Zs none 0 0,Zs none 0 0,Zt ⟨#[]⟩,Zs none 0 0,Zs BA nb cb,Zs none 0 0])) WE by rw [← hWE];exact iL HS8.out HSS.out);simp only [];rw [hWE];clear hWE HS8 HSS;go_wp2_with (refine bodyPost_ret (v:=.agg #[Zi Zq 3,Zt ⟨nm.toArray⟩,Zi Zq ka,Zi Zq k1a,Zi Zq n1a,Zt s1a,Zs A1a na1a ca1a,Zs B1a nb1a cb1a,Zt sa,Zs A2a n2a ca2a,Zi Zq 0,Zi Zq 0,Zi Zq 0,Zt ⟨#[]⟩,Zs none 0 0,Zs none 0 0,Zt ⟨#[]⟩,Zs none 0 0,Zs BA nb cb,Zs none 0 0]) (bV Tryz.results138 rfl (run_loadVar_mid WE w.heap.size 0 48 _ _ HRS.out Tryz.underlying48 rfl (by kernel_rfl))) rfl ?_);rw [HR.out];exact HF.out
end
end Go.Proofs.YtgmnmnnoahdjnaaGreatDoor
