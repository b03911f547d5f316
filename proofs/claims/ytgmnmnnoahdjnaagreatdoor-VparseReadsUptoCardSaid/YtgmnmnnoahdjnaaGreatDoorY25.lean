import Derived.Test.YtgmnmnnoahdjnaaGreatDoorY23
open Go.Value renaming int → Zi, slice → Zs, string → Zt, pointer → Zp
open Go.IntKind renaming i64 → Zq
set_option maxRecDepth 100000
set_option maxHeartbeats 16000000
set_option linter.unusedVariables false
set_option linter.unusedSimpArgs false
namespace Go.Proofs.YtgmnmnnoahdjnaaGreatDoor
section
open Go.RowKit
attribute [local go_sem] aa ac ae ab
structure VP (W:World) (g:Nat) (A:Option Addr) (nT cap:Nat) (T:List ap) (p:Nat):Prop where
 blk:Blk W g 123 #[Zi Zq p,Zs A nT cap]
 rd:RdF W (λ b=>b≠g) A (aG T)
 len:T.length=nT
 gob:∃ w0:World,GOE w0/\w0.heap.size<=g/\Below w0.heap.size w0 W
section
variable {W W':World} {g:Nat} {A:Option Addr} {nT cap:Nat} {T:List ap} {p q:Nat}
theorem VP.keep (h:VP W g A nT cap T p) (hb:Below W.heap.size W W'):VP W' g A nT cap T p:=by
 obtain ⟨w0,h1,h2,h3⟩:=h.gob;exact ⟨h.blk.keep hb,h.rd.keep (af.of_below hb),h.len,w0,h1,h2,h3.trans (hb.mono (by have:=h.blk.lt;omega))⟩
theorem VP.goe (h:VP W g A nT cap T p):GOE W:=by obtain ⟨w0,h1,_,h2⟩:=h.gob;exact h1.keep h2
theorem ti (h:W.grownBy W' (some g)):af (λ b=>b≠g) W W':=af.of_grown h λ b hb e=>hb (by injection e)
theorem VP.step (h:VP W g A nT cap T p) (hg:W.grownBy W' (some g)) (hb:Blk W' g 123 #[Zi Zq q,Zs A nT cap]):VP W' g A nT cap T q:=by
 obtain ⟨w0,h1,h2,h3⟩:=h.gob;exact ⟨hb,h.rd.keep (ti hg),h.len,w0,h1,h2,h3.grown hg (by have:=h.blk.lt;omega) (λ k e=>by injection e with e;omega)⟩
theorem VP.set0 (h:VP W g A nT cap T p) {z:Int} (hz:z=(q:Nat)):VP (W.setCell ⟨g,0,none⟩ (Zi Zq z)) g A nT cap T q:=by
 subst hz;exact h.step (aH (dw W _) 0 _) (h.blk.set_ 0 _)
theorem VP.tok (h:VP W g A nT cap T p) (hq:q<nT):∃ b o,A=some ⟨b,o,none⟩/\b<W.heap.size/\b≠g/\W.cell? ⟨b,o+q*4,none⟩=some (Zi Zq (tkK T q))/\W.cell? ⟨b,o+q*4+1,none⟩=some (Zi Zq (tkA T q:Nat)) /\
   W.cell? ⟨b,o+q*4+2,none⟩=some (Zt ⟨(tkT T q).toArray⟩)/\W.cell? ⟨b,o+q*4+3,none⟩=some (Zi Zq (tkN T q)):=by
 have hl:=h.len;have hx:T[q]? = some T[q]:=List.getElem?_eq_getElem (by omega);obtain ⟨b,o,e,hb,h0,h1,h2,h3⟩:=h.rd.rd.tok hx;obtain ⟨b',o',e',_,hne,_⟩:=h.rd (by intro e9;have h9:=fd T;rw [e9,List.length_nil] at h9;omega);obtain ⟨rfl,rfl⟩:b=b'/\o=o':=by rw [e] at e';simpa using e'
 refine ⟨b,o,e,hb,hne,?_,?_,?_,?_⟩
 ·unfold tkK;rw [hx];exact h0
 ·unfold tkA;rw [hx];exact h1
 ·unfold tkT;rw [hx];exact h2
 ·unfold tkN;rw [hx];exact h3
end
def aM (q:Nat):Ending:=.panicked [{ v:=.iface 117 (Zi Zq q),recovered:=false }]
def sS (b:Bool) (W:World) (e:Ending) (W':World):Prop:=e=.returned (.bool b)/\Below W.heap.size W W'
theorem vR (s:List UInt8) (W:World) (g:Nat) (A:Option Addr) (nT cap:Nat) (T:List ap) (p:Nat) (hV:VP W g A nT cap T p) (hp:p<nT) (hn:nT<=1000) :
  Calls Tryz.prog 175 #[Zp (some ⟨g,0,none⟩),Zt ⟨s.toArray⟩] W (sS (al T p s) W):=by
 obtain ⟨b,o,rfl,hb,hbg,x0,x1,x2,x3⟩:=hV.tok hp;have hS:al T p s=decide ((tkK T p=5∨tkK T p=2)/\tkT T p=s):=rfl;obtain ⟨k,hk⟩:∃ k,tkK T p=k:=⟨_,rfl⟩
 obtain ⟨t,ht⟩:∃ t,tkT T p=t:=⟨_,rfl⟩
 obtain ⟨at_,hat⟩:∃ a,tkA T p=a:=⟨_,rfl⟩
 obtain ⟨m,hm⟩:∃ a,tkN T p=a:=⟨_,rfl⟩
 rw [hk] at x0 hS;rw [ht] at x2 hS;rw [hat] at x1;rw [hm] at x3;rw [hS];obtain ⟨tb,htb⟩:∃ tb,decide (t=s)=tb:=⟨_,rfl⟩
 have hres:decide ((k=5∨k=2)/\t=s)=(decide (k=5∨k=2) && tb):=by rw [← htb,Bool.decide_and]
 rw [hres];have e1:(t == s)=tb:=by rw [← htb,Bool.eq_iff_iff];simp
 have e2:((⟨t.toArray⟩:ByteArray).toList == (⟨s.toArray⟩:ByteArray).toList)=tb:=by rw [dV];exact htb
 obtain ⟨c0,f0,l0⟩:=hV.blk.rules;have c00:=c0 0;have c01:=c0 1;simp at c00 c01;have HT:=aW htb;have HB:=aW (Below.refl W.heap.size W);have hpi:(p:Int)<(nT:Int):=by omega
 clear hV hS hk ht hat hm hres htb;have key:∀ r:Bool,r=(decide (k=5∨k=2) && tb)->Calls Tryz.prog 175 #[Zp (some ⟨g,0,none⟩),Zt ⟨s.toArray⟩] W (sS r W):=by
  intro r hr;by_cases h5:k=5
  ·have k5:(k == 5)=true:=by simp [h5]
   have HR:=aW (show r=tb by rw [hr,h5];simp);clear hr h5;cases tb
   all_goals
    go_enter Tryz.func175,Tryz.ntmps175;go_upto_region 1 with fail;go_region_held3 (λ w'=>w'.cell? ⟨g,0,none⟩=some (Zi Zq (p:Int))/\w'.cell? ⟨g,1,none⟩=some (Zs (some ⟨b,o,none⟩) nT cap)/\w'.cell? ⟨b,o+p*4,none⟩=some (Zi Zq k)/\w'.cell? ⟨b,o+p*4+1,none⟩=some (Zi Zq (at_:Int))/\w'.cell? ⟨b,o+p*4+2,none⟩=some (Zt ⟨t.toArray⟩)/\w'.cell? ⟨b,o+p*4+3,none⟩=some (Zi Zq m)) (go_keep) (fail)
    all_goals
     go_wp2;go_ret;exact ⟨am HR.out.symm,by go_grown⟩
  ·have k5:(k == 5)=false:=by simp [h5]
   by_cases h2:k=2
   ·have k2:(k == 2)=true:=by simp [h2]
    have HR:=aW (show r=tb by rw [hr,h2];simp);clear hr h5 h2;cases tb
    all_goals
     go_enter Tryz.func175,Tryz.ntmps175;go_upto_region 1 with fail;go_region_held3 (λ w'=>w'.cell? ⟨g,0,none⟩=some (Zi Zq (p:Int))/\w'.cell? ⟨g,1,none⟩=some (Zs (some ⟨b,o,none⟩) nT cap)/\w'.cell? ⟨b,o+p*4,none⟩=some (Zi Zq k)/\w'.cell? ⟨b,o+p*4+1,none⟩=some (Zi Zq (at_:Int))/\w'.cell? ⟨b,o+p*4+2,none⟩=some (Zt ⟨t.toArray⟩)/\w'.cell? ⟨b,o+p*4+3,none⟩=some (Zi Zq m)) (go_keep) (fail)
     all_goals
      go_wp2;go_ret;exact ⟨am HR.out.symm,by go_grown⟩
   ·have k2:(k == 2)=false:=by simp [h2]
    have HR:=aW (show r=false by rw [hr];simp [h5,h2]);clear hr h5 h2 e1 e2;go_enter Tryz.func175,Tryz.ntmps175;go_upto_region 1 with fail;go_region_held3 (λ w'=>w'.cell? ⟨g,0,none⟩=some (Zi Zq (p:Int))/\w'.cell? ⟨g,1,none⟩=some (Zs (some ⟨b,o,none⟩) nT cap)/\w'.cell? ⟨b,o+p*4,none⟩=some (Zi Zq k)/\w'.cell? ⟨b,o+p*4+1,none⟩=some (Zi Zq (at_:Int))/\w'.cell? ⟨b,o+p*4+2,none⟩=some (Zt ⟨t.toArray⟩)/\w'.cell? ⟨b,o+p*4+3,none⟩=some (Zi Zq m)) (go_keep) (fail)
    all_goals
     go_wp2;go_ret;exact ⟨am HR.out.symm,by go_grown⟩
 exact key _ rfl
theorem iT (W:World) (g:Nat) (A:Option Addr) (nT cap:Nat) (T:List ap) (p:Nat) (hV:VP W g A nT cap T p) (hp:p<nT) (hn:nT<=1000) :
  Calls Tryz.prog 87 #[Zp (some ⟨g,0,none⟩)] W λ e W'=>e=aM (tkA T p)/\Below W.heap.size W W':=by
 obtain ⟨b,o,rfl,hb,hbg,x0,x1,x2,x3⟩:=hV.tok hp;obtain ⟨at_,hat⟩:∃ a,tkA T p=a:=⟨_,rfl⟩
 rw [hat] at x1 ⊢;obtain ⟨c0,f0,l0⟩:=hV.blk.rules;have c00:=c0 0;have c01:=c0 1;simp at c00 c01;have hpi:(p:Int)<(nT:Int):=by omega
 unfold aM;clear hV hat x0 x2 x3;go_enter Tryz.func87,Tryz.ntmps87;go_upto_region 0 with fail;refine wp_region_held_drew (S:=λ w'=>w'.cell? ⟨g,0,none⟩=some (Zi Zq (p:Int))/\w'.cell? ⟨g,1,none⟩=some (Zs (some ⟨b,o,none⟩) nT cap)/\w'.cell? ⟨b,o+p*4+1,none⟩=some (Zi Zq (at_:Int))) (by kernel_rfl) (by exact ⟨c00,c01,x1⟩) (λ hHeld=>?_);refine aY 0 2 (Zp (some ⟨g,0,none⟩)) rfl ?_ ?_
 ·intro W hSw;obtain ⟨z0,z1,z2⟩:=hSw;go_simp
 refine aY 1 3 (Zp (some ⟨g,0,none⟩)) rfl ?_ ?_
 ·intro W hSw;obtain ⟨z0,z1,z2⟩:=hSw;go_simp
 refine aY 2 4 (Zp (some ⟨g,1,none⟩)) rfl ?_ ?_
 ·intro W hSw;obtain ⟨z0,z1,z2⟩:=hSw;go_simp
 refine aY 3 5 (Zs (some ⟨b,o,none⟩) nT cap) rfl ?_ ?_
 ·intro W hSw;obtain ⟨z0,z1,z2⟩:=hSw;go_simp
 refine aY 4 6 (Zp (some ⟨g,0,none⟩)) rfl ?_ ?_
 ·intro W hSw;obtain ⟨z0,z1,z2⟩:=hSw;go_simp
 refine aY 5 7 (Zp (some ⟨g,0,none⟩)) rfl ?_ ?_
 ·intro W hSw;obtain ⟨z0,z1,z2⟩:=hSw;go_simp
 refine aY 6 8 (Zp (some ⟨g,0,none⟩)) rfl ?_ ?_
 ·intro W hSw;obtain ⟨z0,z1,z2⟩:=hSw;go_simp
 refine aY 7 9 (Zp (some ⟨g,0,none⟩)) rfl ?_ ?_
 ·intro W hSw;obtain ⟨z0,z1,z2⟩:=hSw;go_simp
 refine aY 8 10 (Zi Zq (p:Int)) rfl ?_ ?_
 ·intro W hSw;obtain ⟨z0,z1,z2⟩:=hSw;go_simp
 refine aY 9 11 (Zp (some ⟨b,o+p*4,none⟩)) rfl ?_ ?_
 ·intro W hSw;obtain ⟨z0,z1,z2⟩:=hSw;go_simp
 refine aY 10 12 (Zp (some ⟨b,o+p*4+1,none⟩)) rfl ?_ ?_
 ·intro W hSw;obtain ⟨z0,z1,z2⟩:=hSw;go_simp
 refine aY 11 13 (Zi Zq (at_:Int)) rfl ?_ ?_
 ·intro W hSw;obtain ⟨z0,z1,z2⟩:=hSw;go_simp
 refine aY 12 14 (.iface 117 (Zi Zq (at_:Int))) rfl ?_ ?_
 ·intro W hSw;obtain ⟨z0,z1,z2⟩:=hSw;go_simp
 refine aU 13 rfl (λ K hK=>?_);go_simp;exact ⟨rfl,rfl,(Below.refl _ _).drew⟩
def zG (g:Nat) (A:Option Addr) (nT cap:Nat) (T:List ap) (p:Nat) (W:World) (e:Ending) (W':World):Prop:=e=.returned (.bool true)/\VP W' g A nT cap T (p+1)/\W.grownBy W' (some g)
theorem ff (s:List UInt8) (W:World) (g:Nat) (A:Option Addr) (nT cap:Nat) (T:List ap) (p:Nat) (hV:VP W g A nT cap T p) (hp:p<nT) (hn:nT<=1000) (hs:al T p s=false) :
  Calls Tryz.prog 139 #[Zp (some ⟨g,0,none⟩),Zt ⟨s.toArray⟩] W (sS false W):=by
 have hS:=vR s W g A nT cap T p hV hp hn;rw [hs] at hS;have HS:=aW hS;clear hV hS hs;go_enter Tryz.func139,Tryz.ntmps139;go_wp2_with (go_at_call 175;refine HS.out.mono ?_;rintro e w1 ⟨rfl,hb1⟩);go_ret;exact ⟨rfl,hb1⟩
theorem fg (s:List UInt8) (W:World) (g:Nat) (A:Option Addr) (nT cap:Nat) (T:List ap) (p:Nat) (hV:VP W g A nT cap T p) (hp:p<nT) (hn:nT<=1000) (hs:al T p s=true) :
  Calls Tryz.prog 139 #[Zp (some ⟨g,0,none⟩),Zt ⟨s.toArray⟩] W (zG g A nT cap T p W):=by
 have hS:=vR s W g A nT cap T p hV hp hn;rw [hs] at hS;have HS:=aW hS;have HV:=aW hV;have hp9:(p:Int)<=1000:=by omega
 clear hV hS hs hp;go_enter Tryz.func139,Tryz.ntmps139;go_wp2_with (go_at_call 175;refine HS.out.mono ?_;rintro e w1 ⟨rfl,hb1⟩;obtain ⟨c0,f0,l0⟩:=(HV.out.keep hb1).blk.rules);go_ret;exact ⟨rfl,(HV.out.keep hb1).set0 (by omega),aH (aw hb1 _) 0 _⟩
theorem gT (s:List UInt8) (W:World) (g:Nat) (A:Option Addr) (nT cap:Nat) (T:List ap) (p:Nat) (hV:VP W g A nT cap T p) (hp:p<nT) (hn:nT<=1000) (hs:al T p s=true) :
  Calls Tryz.prog 172 #[Zp (some ⟨g,0,none⟩),Zt ⟨s.toArray⟩] W (λ e W'=>e=.returned (.tuple #[])/\VP W' g A nT cap T (p+1)/\W.grownBy W' (some g)):=by
 have HS:=aW (fg s W g A nT cap T p hV hp hn hs);clear hV hs hp;go_enter Tryz.func172,Tryz.ntmps172;go_wp2_with (go_at_call 139;refine HS.out.mono ?_;rintro e w1 ⟨rfl,hv1,hg1⟩);go_end0;exact ⟨rfl,hv1,hg1⟩
theorem gS (s:List UInt8) (W:World) (g:Nat) (A:Option Addr) (nT cap:Nat) (T:List ap) (p:Nat) (hV:VP W g A nT cap T p) (hp:p<nT) (hn:nT<=1000) (hs:al T p s=false) :
  Calls Tryz.prog 172 #[Zp (some ⟨g,0,none⟩),Zt ⟨s.toArray⟩] W (λ e W'=>e=aM (tkA T p)/\Below W.heap.size W W'):=by
 have HS:=aW (ff s W g A nT cap T p hV hp hn hs);have HF:=aW (λ w1 (h:Below W.heap.size W w1)=>iT w1 g A nT cap T p (hV.keep h) hp hn);unfold aM at HF ⊢;clear hV hs hp;go_enter Tryz.func172,Tryz.ntmps172;go_wp2_with (first | (go_at_call 139;refine HS.out.mono ?_;rintro e w1 ⟨rfl,hb1⟩) | (go_at_call 87;refine (HF.out _ hb1).mono ?_;rintro e w2 ⟨rfl,hb2⟩));exact ⟨rfl,rfl,hb1.trans (hb2.mono hb1.size)⟩
def v7 (g:Nat) (A:Option Addr) (nT cap:Nat) (T:List ap) (p:Nat) (W:World) (e:Ending) (W':World):Prop:=e=.returned (Zt ⟨(tkT T p).toArray⟩)/\VP W' g A nT cap T (p+1)/\W.grownBy W' (some g)
theorem sN (W:World) (g:Nat) (A:Option Addr) (nT cap:Nat) (T:List ap) (p:Nat) (hV:VP W g A nT cap T p) (hp:p<nT) (hn:nT<=1000) (hk:tkK T p=1) :
  Calls Tryz.prog 174 #[Zp (some ⟨g,0,none⟩)] W (v7 g A nT cap T p W):=by
 obtain ⟨b,o,rfl,hb,hbg,x0,x1,x2,x3⟩:=hV.tok hp;rw [hk] at x0;unfold v7;obtain ⟨t,ht⟩:∃ t,tkT T p=t:=⟨_,rfl⟩
 rw [ht] at x2 ⊢;obtain ⟨c0,f0,l0⟩:=hV.blk.rules;have hpi:(p:Int)<(nT:Int):=by omega
 have hp9:(p:Int)<=1000:=by omega
 have HV:=aW hV;clear hV hk ht x1 x3;go_enter Tryz.func174,Tryz.ntmps174;go_wp2;go_quiet (fail);go_wp2;go_quiet (fail);go_wp2;go_ret;exact ⟨rfl,((HV.out.keep (aj (Below.refl _ _) _)).set0 (by omega)).keep (aj (Below.refl _ _) _),gv (aH (gv (dw _ _) _) 0 _) _⟩
theorem sM (W:World) (g:Nat) (A:Option Addr) (nT cap:Nat) (T:List ap) (p:Nat) (hV:VP W g A nT cap T p) (hp:p<nT) (hn:nT<=1000) (hk:tkK T p≠1) :
  Calls Tryz.prog 174 #[Zp (some ⟨g,0,none⟩)] W (λ e W'=>e=aM (tkA T p)/\Below W.heap.size W W'):=by
 obtain ⟨b,o,rfl,hb,hbg,x0,x1,x2,x3⟩:=hV.tok hp;obtain ⟨k,hkk⟩:∃ k,tkK T p=k:=⟨_,rfl⟩
 rw [hkk] at x0 hk;have HF:=aW (λ w1 (h:Below W.heap.size W w1)=>iT w1 g _ nT cap T p (hV.keep h) hp hn);unfold aM at HF ⊢;obtain ⟨c0,f0,l0⟩:=hV.blk.rules;have hpi:(p:Int)<(nT:Int):=by omega
 have hkb:(k != 1)=true:=by simpa using hk
 clear hV hkk x1 x2 x3;go_enter Tryz.func174,Tryz.ntmps174;go_wp2;go_quiet (fail);go_wp2_with (go_at_call 87;refine (HF.out _ (aj (Below.refl _ _) _)).mono ?_;rintro e w2 ⟨rfl,hb2⟩);exact ⟨rfl,rfl,(aj (Below.refl _ _) _).trans (hb2.mono (Nat.le_refl _))⟩
end
section
open Go.RowKit Go.Shelf
attribute [local go_sem] aa ac ae ab
theorem oe {W:World} {F:Nat->Prop} {B:Option Addr} {keys:List (List UInt8)} (h:RdF W F B (kw keys)) {i:Nat} {x:List UInt8} (hx:keys[i]? = some x):∃ b o,B=some ⟨b,o,none⟩/\b<W.heap.size/\W.cell? ⟨b,o+i,none⟩=some (Zt ⟨x.toArray⟩):=by
 have hx2:(kw keys)[i]? = some (Zt ⟨x.toArray⟩):=by unfold kw;simp [hx]
 obtain ⟨hi,e⟩:=List.getElem?_eq_some_iff.1 hx2;obtain ⟨b,o,rfl,hb,_,hc⟩:=h (by intro e9;rw [e9] at hi;exact absurd hi (Nat.not_lt_zero _));exact ⟨b,o,rfl,hb,by rw [hc i hi,e]⟩
theorem sE:∀ (N:Nat) (v v':JV),a7 v<=N->∀ (cs cs':List Value) (F F':Nat->Prop) (w:World),VR w F cs v->VR w F' cs' v'->dc v->dc v'->Calls Tryz.prog 83 #[.agg cs.toArray,.agg cs'.toArray] w (EqX (v=v') w)
 | 0,v,_,h,_,_,_,_,_,_,_,_,_=>by have:=dO v;omega
 |N+1,.mk k n s kids keys,.mk kq nq sq kidsq keysq,hN,cs,cs',F,F',w,hv,hv',hC,hC'=>by
  have ih:=sE N;unfold a7 at hN;obtain ⟨_,_,hsl,hkl,hyl,_,hck⟩:=hC.out;obtain ⟨_,_,hsl',hkl',hyl',_,hck'⟩:=hC'.out;obtain ⟨A,B,ca,cb,css,rfl,h1,h2,h3,h4,h5,h6,h7⟩:=hv.out;obtain ⟨A',B',ca',cb',css',rfl,h1',h2',h3',h4',h5',h6',h7'⟩:=hv'.out;have HIH:=aW (λ (i:Nat) (x:JV) (hx:kids[i]? = some x)=>lS h1 h6 hx);have HIH':=aW (λ (i:Nat) (x:JV) (hx:kidsq[i]? = some x)=>lS h1' h6' hx);have HYS:=aW (And.intro h7 h7');have HEQ:=aW (λ (x y:JV) (c c':List Value) (W2:World) (hx:x ∈ kids) (hy:y ∈ kidsq) (hc:VR W2 F c x) (hc':VR W2 F' c' y)=>show Calls Tryz.prog 83 #[.agg c.toArray,.agg c'.toArray] W2 (EqX (x=y) W2) from by
   obtain ⟨i,hi⟩:=List.mem_iff_getElem?.1 hx;obtain ⟨hn1,hn2⟩:=iK hi;exact ih x y (by omega) c c' F F' W2 hc hc' (hck x hx) (hck' y hy))
  have HT0:=aW (iW.new w 42 #[Zi Zq k,Zi Zq n,Zt ⟨s.toArray⟩,Zs A kids.length ca,Zs B keys.length cb] #[Zi Zq kq,Zi Zq nq,Zt ⟨sq.toArray⟩,Zs A' kidsq.length ca',Zs B' keysq.length cb']);obtain ⟨nk,hnk⟩:∃ nk,kids.length=nk:=⟨_,rfl⟩
  obtain ⟨ny,hny⟩:∃ ny,keys.length=ny:=⟨_,rfl⟩
  obtain ⟨nkq,hnkq⟩:∃ nkq,kidsq.length=nkq:=⟨_,rfl⟩
  obtain ⟨nyq,hnyq⟩:∃ nyq,keysq.length=nyq:=⟨_,rfl⟩
  rw [hnk,hny,hnkq,hnyq] at HT0 ⊢;rw [hnk] at hkl h2;rw [hny] at hyl h3;rw [hnkq] at hkl' h2';rw [hnyq] at hyl' h3';have HNK:=aW (And.intro (And.intro hnk hnkq) (And.intro hny hnyq));have y1:w.heap.size≠w.heap.size+1:=by omega
  have y2:w.heap.size+1≠w.heap.size:=by omega
  clear hv hv' hC hC' hck hck' h1 h1' h4 h4' h5 h5' h6 h6' h7 h7' hnk hny hnkq hnyq ih hN;obtain ⟨PP,hPP⟩:∃ PP:Prop,(JV.mk k n s kids keys=JV.mk kq nq sq kidsq keysq)=PP:=⟨_,rfl⟩
  rw [hPP];have HPN:=aW (show (k≠kq∨n≠nq∨s≠sq∨kids≠kidsq∨keys≠keysq)->¬ PP by
   rw [← hPP];intro h e;injection e with e1 e2 e3 e4 e5
   rcases h with h | h | h | h | h
   ·exact h e1
   ·exact h e2
   ·exact h e3
   ·exact h e4
   ·exact h e5)
  have HPY:=aW (show k=kq->n=nq->s=sq->kids=kidsq->keys=keysq->PP by rw [← hPP];rintro rfl rfl rfl rfl rfl;rfl);clear hPP;obtain ⟨c1,f1,l1⟩:=HT0.out.1.rules;obtain ⟨c2,f2,l2⟩:=HT0.out.2.1.rules;by_cases ek:k=kq
  case neg =>
   have HNO:=aW (HPN.out (.inl ek));have hb1:(k != kq)=true:=by simp [ek]
   go_enter Tryz.func83,Tryz.ntmps83;go_wp2;go_ret;exact EqX.no HNO.out HT0.out.2.2
  by_cases en:n=nq
  case neg =>
   have HNO:=aW (HPN.out (.inr (.inl en)));have hb1:(n != nq)=true:=by simp [en]
   subst ek;go_enter Tryz.func83,Tryz.ntmps83;go_wp2;go_ret;exact EqX.no HNO.out HT0.out.2.2
  by_cases es:s=sq
  case neg =>
   have HNO:=aW (HPN.out (.inr (.inr (.inl es))));have hb1:(s != sq)=true:=by simp [es]
   subst ek en;go_enter Tryz.func83,Tryz.ntmps83;go_wp2;go_ret;exact EqX.no HNO.out HT0.out.2.2
  by_cases elk:nk=nkq
  case neg =>
   have HNO:=aW (HPN.out (.inr (.inr (.inr (.inl λ e=>elk (by rw [← HNK.out.1.1,← HNK.out.1.2,e]))))));have hb1:((nk:Int) != nkq)=true:=by simp;omega
   subst ek en es;go_enter Tryz.func83,Tryz.ntmps83;go_wp2;go_ret;exact EqX.no HNO.out HT0.out.2.2
  by_cases ely:ny=nyq
  case neg =>
   have HNO:=aW (HPN.out (.inr (.inr (.inr (.inr λ e=>ely (by rw [← HNK.out.2.1,← HNK.out.2.2,e]))))));have hb1:((ny:Int) != nyq)=true:=by simp;omega
   subst ek en es elk;go_enter Tryz.func83,Tryz.ntmps83;go_wp2;go_ret;exact EqX.no HNO.out HT0.out.2.2
  subst ek en es elk ely;have HQ0:=aW (Below.refl ((w.alloc (.cells #[Zi Zq k,Zi Zq n,Zt ⟨s.toArray⟩,Zs A nk ca,Zs B ny cb] 42)).alloc (.cells #[Zi Zq k,Zi Zq n,Zt ⟨s.toArray⟩,Zs A' nk ca',Zs B' ny cb'] 42)).heap.size ((w.alloc (.cells #[Zi Zq k,Zi Zq n,Zt ⟨s.toArray⟩,Zs A nk ca,Zs B ny cb] 42)).alloc (.cells #[Zi Zq k,Zi Zq n,Zt ⟨s.toArray⟩,Zs A' nk ca',Zs B' ny cb'] 42)));go_enter Tryz.func83,Tryz.ntmps83;go_wp2;clear c1 f1 l1 c2 f2 l2;go_loopg [5] ny (λ gk s5 wr => ∃ i:Nat,i<=ny/\gk=ny-i/\s5=Zi Zq (i:Int)/\Hid (keys.take i=keysq.take i)/\Hid (iW w 42 #[Zi Zq k,Zi Zq n,Zt ⟨s.toArray⟩,Zs A nk ca,Zs B ny cb] #[Zi Zq k,Zi Zq n,Zt ⟨s.toArray⟩,Zs A' nk ca',Zs B' ny cb'] wr))
  case atStart=>exact ⟨0,Nat.zero_le _,rfl,by go_num,aW rfl,HT0⟩
  case round =>
   obtain ⟨i,hi,hgk,rfl,HSM,HT⟩:=hrel;have HGK:=aW hgk;clear hgk;obtain ⟨c1,f1,l1⟩:=HT.out.1.rules;obtain ⟨c2,f2,l2⟩:=HT.out.2.1.rules;have HB0:=aW HT.out.2.2;by_cases hlt:i<ny
   ·obtain ⟨x,hx⟩:∃ x,keys[i]? = some x:=⟨_,List.getElem?_eq_getElem (by rw [HNK.out.2.1];exact hlt)⟩
    obtain ⟨y,hy⟩:∃ y,keysq[i]? = some y:=⟨_,List.getElem?_eq_getElem (by rw [HNK.out.2.2];exact hlt)⟩
    obtain ⟨b,o,rfl,hlb0,hz0⟩:=oe HYS.out.1 hx;obtain ⟨b',o',rfl,hlb0',hz0'⟩:=oe HYS.out.2 hy;have hlb:b<wr.heap.size:=Nat.lt_of_lt_of_le hlb0 HB0.out.size;have hlb':b'<wr.heap.size:=Nat.lt_of_lt_of_le hlb0' HB0.out.size;have hz:=(HB0.out.cell (p:=⟨b,o+i,none⟩) hlb0).trans hz0;have hz':=(HB0.out.cell (p:=⟨b',o'+i,none⟩) hlb0').trans hz0';have HXY:=aW (show x=y->keys.take (i+1)=keysq.take (i+1) from λ e=>by rw [List.take_add_one,List.take_add_one,HSM.out,hx,hy,e]);have HXN:=aW (show x≠y->keys≠keysq from λ e h=>e (by rw [h,hy] at hx;exact (Option.some.inj hx).symm));obtain ⟨bb,hbb⟩:∃ bb,(x != y)=bb:=⟨_,rfl⟩
    have e1:(x == y) = !bb:=by rw [← hbb];simp [bne]
    have e2:((⟨x.toArray⟩:ByteArray).toList == (⟨y.toArray⟩:ByteArray).toList) = !bb:=by rw [dV,← hbb];by_cases h:x=y<;>simp [h]
    have HBB:=aW hbb;clear hz0 hz0' hx hy hlb0 hlb0';go_upto_region 6 with fail;clear c1 f1 l1 c2 f2 l2;refine wp_region_held_drew (S:=λ W'=>Below wr.heap.size wr W') (by kernel_rfl) (by exact (Below.refl _ _).drew) (λ hHeld=>?_);refine ai (λ w2 hw2=>?_);have HW2:=aW (show Below wr.heap.size wr w2 by rw [hw2];exact (Below.refl _ _).drew);clear hw2;refine tA 0 51 (Zp (some ⟨w.heap.size,4,none⟩)) rfl ?_;refine aY 1 52 (Zs (some ⟨b,o,none⟩) ny cb) rfl ?_ ?_
    ·intro W hSw;obtain ⟨c8,f8,l8⟩:=(HT.out.keep hSw).1.rules;go_simp
    refine tA 2 53 (Zi Zq (i:Int)) rfl ?_;refine tA 3 54 (Zp (some ⟨b,o+i,none⟩)) rfl ?_;refine aY 4 55 (Zt ⟨x.toArray⟩) rfl ?_ ?_
    ·intro W hSw;have z8:=(Below.cell hSw (p:=⟨b,o+i,none⟩) hlb).trans hz;go_simp
    refine tA 5 56 (Zp (some ⟨w.heap.size+1,4,none⟩)) rfl ?_;refine aY 6 57 (Zs (some ⟨b',o',none⟩) ny cb') rfl ?_ ?_
    ·intro W hSw;obtain ⟨c8,f8,l8⟩:=(HT.out.keep hSw).2.1.rules;go_simp
    refine tA 7 58 (Zi Zq (i:Int)) rfl ?_;refine tA 8 59 (Zp (some ⟨b',o'+i,none⟩)) rfl ?_;refine aY 9 60 (Zt ⟨y.toArray⟩) rfl ?_ ?_
    ·intro W hSw;have z8:=(Below.cell hSw (p:=⟨b',o'+i,none⟩) hlb').trans hz';go_simp
    refine tA 10 61 (.bool bb) rfl ?_;refine aX ?_;have HT2:=aW (HT.out.keep HW2.out);cases bb with
    |true =>
     have HNO:=aW (HPN.out (.inr (.inr (.inr (.inr (HXN.out (by have:=HBB.out;simpa using this)))))));go_wp2;go_ret;exact EqX.no HNO.out HT2.out.2.2
    |false =>
     have HK:=aW (HXY.out (by have:=HBB.out;simpa using this));go_wp2;go_roundg (ny-(i+1))
     case measure=>have:=HGK.out;omega
     case rel=>exact ⟨i+1,hlt,rfl,by go_num,HK,HT2⟩
   ·obtain rfl:ny=i:=by omega
    have HKY:=aW (show keys=keysq by
     have e1:=HSM.out;rwa [List.take_of_length_le (Nat.le_of_eq HNK.out.2.1),List.take_of_length_le (Nat.le_of_eq HNK.out.2.2)] at e1)
    have HT9:=HT;clear HSM HT HB0 HT0 HQ0 HGK;go_wp2;clear c1 f1 l1 c2 f2 l2;obtain ⟨wo,hwo⟩:∃ wo:World,wo=wr:=⟨_,rfl⟩
    rw [← hwo] at HT9 ⊢;clear hwo;go_loopg [6] nk (λ gk s6 wr => ∃ i:Nat,i<=nk/\gk=nk-i/\s6=Zi Zq (i:Int)/\Hid (kids.take i=kidsq.take i)/\Hid (iW w 42 #[Zi Zq k,Zi Zq n,Zt ⟨s.toArray⟩,Zs A nk ca,Zs B ny cb] #[Zi Zq k,Zi Zq n,Zt ⟨s.toArray⟩,Zs A' nk ca',Zs B' ny cb'] wr))
    case atStart=>exact ⟨0,Nat.zero_le _,rfl,by go_num,aW rfl,HT9⟩
    case round =>
     obtain ⟨i,hi,hgk,rfl,HSM,HT⟩:=hrel;have HGK:=aW hgk;clear hgk;obtain ⟨c1,f1,l1⟩:=HT.out.1.rules;obtain ⟨c2,f2,l2⟩:=HT.out.2.1.rules;have HB0:=aW HT.out.2.2;by_cases hlt:i<nk
     ·obtain ⟨x,hx⟩:∃ x,kids[i]? = some x:=⟨_,List.getElem?_eq_getElem (by rw [HNK.out.1.1];exact hlt)⟩
      obtain ⟨y,hy⟩:∃ y,kidsq[i]? = some y:=⟨_,List.getElem?_eq_getElem (by rw [HNK.out.1.2];exact hlt)⟩
      obtain ⟨b,o,kx,nx,sx,Ax,nax,cax,Bx,nbx,cbx,rfl,hb,hvx,hz⟩:=HIH.out i x hx;obtain ⟨b',o',ky,ny_,sy,Ay,nay,cay,By,nby,cby,rfl,hb',hvx',hz'⟩:=HIH'.out i y hy;have HCL:=aW (λ (W:World) (h:Below wr.heap.size wr W)=>have hh:=HB0.out.trans (h.mono HB0.out.size);HEQ.out x y _ _ W (List.mem_of_getElem? hx) (List.mem_of_getElem? hy) (hvx.bel hh) (hvx'.bel hh));have HXY:=aW (show x=y->kids.take (i+1)=kidsq.take (i+1) from λ e=>by rw [List.take_add_one,List.take_add_one,HSM.out,hx,hy,e]);have HXN:=aW (show x≠y->kids≠kidsq from λ e h=>e (by rw [h,hy] at hx;exact (Option.some.inj hx).symm));clear hvx hvx' hx hy hb hb';go_upto_region 11 with fail;clear c1 f1 l1 c2 f2 l2;refine wp_region_held_drew (S:=λ W'=>Below wr.heap.size wr W') (by kernel_rfl) (by exact (Below.refl _ _).drew) (λ hHeld=>?_);refine ai (λ w2 hw2=>?_);have HW2:=aW (show Below wr.heap.size wr w2 by rw [hw2];exact (Below.refl _ _).drew);clear hw2;refine tA 0 69 (Zp (some ⟨w.heap.size,3,none⟩)) rfl ?_;refine aY 1 70 (Zs (some ⟨b,o,none⟩) nk ca) rfl ?_ ?_
      ·intro W hSw;obtain ⟨c8,f8,l8⟩:=(HT.out.keep hSw).1.rules;go_simp
      refine tA 2 71 (Zi Zq (i:Int)) rfl ?_;refine tA 3 72 (Zp (some ⟨b,o+i*5,none⟩)) rfl ?_;refine aY 4 73 (.agg #[Zi Zq kx,Zi Zq nx,Zt sx,Zs Ax nax cax,Zs Bx nbx cbx]) rfl ?_ ?_
      ·intro W hSw;obtain ⟨z0,z1,z2,z3,z4⟩:=hz W (HB0.out.trans (hSw.mono HB0.out.size));go_simp
      refine tA 5 74 (Zp (some ⟨w.heap.size+1,3,none⟩)) rfl ?_;refine aY 6 75 (Zs (some ⟨b',o',none⟩) nk ca') rfl ?_ ?_
      ·intro W hSw;obtain ⟨c8,f8,l8⟩:=(HT.out.keep hSw).2.1.rules;go_simp
      refine tA 7 76 (Zi Zq (i:Int)) rfl ?_;refine tA 8 77 (Zp (some ⟨b',o'+i*5,none⟩)) rfl ?_;refine aY 9 78 (.agg #[Zi Zq ky,Zi Zq ny_,Zt sy,Zs Ay nay cay,Zs By nby cby]) rfl ?_ ?_
      ·intro W hSw;obtain ⟨z0,z1,z2,z3,z4⟩:=hz' W (HB0.out.trans (hSw.mono HB0.out.size));go_simp
      refine aV 10 79 rfl (λ K hK=>?_);go_simp;refine (HCL.out _ HW2.out).mono ?_;rintro e w3 ⟨tt,rfl,htt,hb3⟩;have HW3:=aW (HW2.out.trans (hb3.mono HW2.out.size));have HTT:=aW htt;clear hb3 htt;refine hK.out _ _ (by exact HW3.out) (λ hHeld=>?_);clear hK K
      try simp only [pU]
      refine tA 11 80 (.bool (!tt)) rfl ?_;refine aX ?_;have HT2:=aW (HT.out.keep HW3.out);cases tt with
      |true =>
       have HK:=aW (HXY.out (HTT.out.1 (by trivial)));go_wp2;go_roundg (nk-(i+1))
       case measure=>have:=HGK.out;omega
       case rel=>exact ⟨i+1,hlt,rfl,by go_num,HK,HT2⟩
      |false =>
       have HNO:=aW (HPN.out (.inr (.inr (.inr (.inl (HXN.out λ e=>by have:=HTT.out.2 e;cases this))))));go_wp2;go_ret;exact EqX.no HNO.out HT2.out.2.2
     ·obtain rfl:i=nk:=by omega
      have HKK:=aW (show kids=kidsq by
       have e1:=HSM.out;rwa [List.take_of_length_le (Nat.le_of_eq HNK.out.1.1),List.take_of_length_le (Nat.le_of_eq HNK.out.1.2)] at e1)
      go_wp2;go_ret;exact EqX.yes (HPY.out (by trivial) (by trivial) (by trivial) HKK.out HKY.out) HT.out.2.2
end
end Go.Proofs.YtgmnmnnoahdjnaaGreatDoor
