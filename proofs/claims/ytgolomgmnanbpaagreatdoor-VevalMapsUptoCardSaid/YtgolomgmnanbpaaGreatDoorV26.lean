import Derived.Test.YtgolomgmnanbpaaGreatDoorV22
open Go.Value renaming int → Zi, slice → Zs, string → Zt, pointer → Zp
open Go.IntKind renaming i64 → Zq
set_option maxRecDepth 100000
set_option maxHeartbeats 16000000
set_option linter.unusedVariables false
set_option linter.unusedSimpArgs false
namespace Go.Proofs.YtgolomgmnanbpaaGreatDoor
section
open Go.RowKit
attribute [local go_sem] aa ac ae ab
theorem t9 (x:EJ) (cs:List Value) (w:World) (hx:ER w TT cs x) (hc:bh x):Calls Tryz.prog 96 #[.agg cs.toArray] w (aF (decide (dF x)) w):=by
 obtain ⟨d,hd⟩:∃ d:Nat,dpR 13 x=d:=⟨_,rfl⟩
 have HDP:=aW (λ (W:World) (h:Below w.heap.size w W)=>show Calls Tryz.prog 14 #[.agg cs.toArray,Zi Zq 13] W (DpS (d:Nat) W) by rw [← hd];exact xr 13 x cs 13 W rfl (Nat.le_refl _) (hx.bel h) hc);have HMY:=aW (show (1<=d/\d<=12) ↔ dF x by rw [← hd];exact ri x);obtain ⟨g,hg⟩:∃ g,decide (dF x)=g:=⟨_,rfl⟩
 have hgd:g=decide (1<=d/\d<=12):=by rw [← hg,decide_eq_decide];exact HMY.out.symm
 rw [hg];obtain ⟨k,k1,n1,s1,A1,na1,ca1,B1,nb1,cb1,s,A,nr,ca,rfl⟩:=hx.form;have HH0:=aW ((aj.nil w).push 28 #[Zi Zq k,Zi Zq k1,Zi Zq n1,Zt s1,Zs A1 na1 ca1,Zs B1 nb1 cb1,Zt s,Zs A nr ca] (g:=w.heap.size) rfl);clear hx hc hd hg HMY;obtain ⟨c0,f0,l0⟩:=HH0.out.b0.rules;go_enter Tryz.func96,Tryz.ntmps96;go_wp2_with fail;refine (HDP.out _ HH0.out.1).mono ?_;rintro e w1 ⟨rfl,hb1⟩;have HH1:=aW (HH0.out.keep hb1);clear hb1 c0 f0 l0;by_cases h1:1<=d
 ·have e1:decide ((1:Int)<=(d:Int))=true:=decide_eq_true (by omega);have e1':(1:Int)<=(d:Int):=by omega
  by_cases h2:d<=12
  ·have e2:decide ((d:Int)<=12)=true:=decide_eq_true (by omega);have e2':(d:Int)<=12:=by omega
   obtain rfl:g=true:=by rw [hgd];exact decide_eq_true ⟨h1,h2⟩
   clear hgd;go_wp2;go_ret;exact ⟨rfl,HH1.out.1⟩
  ·have e2:decide ((d:Int)<=12)=false:=decide_eq_false (by omega);have e2':¬ (d:Int)<=12:=by omega
   obtain rfl:g=false:=by rw [hgd];exact decide_eq_false (by omega)
   clear hgd;go_wp2;go_ret;exact ⟨rfl,HH1.out.1⟩
 ·have e1:decide ((1:Int)<=(d:Int))=false:=decide_eq_false (by omega);have e1':¬ (1:Int)<=(d:Int):=by omega
  obtain rfl:g=false:=by rw [hgd];exact decide_eq_false (by omega)
  clear hgd;go_wp2;go_ret;exact ⟨rfl,HH1.out.1⟩
theorem vl (x:EJ) (cs:List Value) (w:World) (hx:ER w TT cs x):Calls Tryz.prog 97 #[.agg cs.toArray] w (aF (cq x) w):=by
 obtain ⟨k,v,s,kids⟩:=x;obtain ⟨k1,n1,s1,A1,na1,ca1,B1,nb1,cb1,A,ca,css0,rfl,hv,_⟩:=hx.out;have HZE:=aW (λ (W:World) (h:Below w.heap.size w W)=>rI v _ TT W (hv.bel h));obtain ⟨nr,hnr⟩:∃ q,kids.length=q:=⟨_,rfl⟩
 obtain ⟨g,hg⟩:∃ g,cq (.mk k v s kids)=g:=⟨_,rfl⟩
 have hgv:g=(decide (k=0/\s=[]/\nr=0) && dn v):=by rw [← hg,cq,hnr]
 rw [hg,hnr];clear hx hv hg hnr;obtain ⟨z,hz⟩:∃ z,dn v=z:=⟨_,rfl⟩
 rw [hz] at HZE hgv;clear hz;by_cases h1:k=0;rotate_left
 ·have e1:(k == 0)=false:=by simp [h1]
  obtain rfl:g=false:=by rw [hgv,decide_eq_false (λ h=>h1 h.1)];rfl
  have HH0:=aW ((aj.nil w).push 28 #[Zi Zq k,Zi Zq k1,Zi Zq n1,Zt s1,Zs A1 na1 ca1,Zs B1 nb1 cb1,Zt ⟨s.toArray⟩,Zs A nr ca] (g:=w.heap.size) rfl);obtain ⟨c0,f0,l0⟩:=HH0.out.b0.rules;clear h1 hgv;go_enter Tryz.func97,Tryz.ntmps97;go_wp2;go_ret;exact ⟨rfl,HH0.out.1⟩
 subst h1;by_cases h2:s=[];rotate_left
 ·have hse:s.isEmpty=false:=by simpa using h2
  obtain rfl:g=false:=by rw [hgv,decide_eq_false (λ h=>h2 h.2.1)];rfl
  have HH0:=aW ((aj.nil w).push 28 #[Zi Zq 0,Zi Zq k1,Zi Zq n1,Zt s1,Zs A1 na1 ca1,Zs B1 nb1 cb1,Zt ⟨s.toArray⟩,Zs A nr ca] (g:=w.heap.size) rfl);obtain ⟨c0,f0,l0⟩:=HH0.out.b0.rules;clear hgv;go_enter Tryz.func97,Tryz.ntmps97;go_wp2;go_ret;exact ⟨rfl,HH0.out.1⟩
 subst h2;by_cases h3:nr=0;rotate_left
 ·have e3:((nr:Int) == 0)=false:=by simp;omega
  obtain rfl:g=false:=by rw [hgv,decide_eq_false (λ h=>h3 h.2.2)];rfl
  have HH0:=aW ((aj.nil w).push 28 #[Zi Zq 0,Zi Zq k1,Zi Zq n1,Zt s1,Zs A1 na1 ca1,Zs B1 nb1 cb1,Zt ⟨([]:List UInt8).toArray⟩,Zs A nr ca] (g:=w.heap.size) rfl);obtain ⟨c0,f0,l0⟩:=HH0.out.b0.rules;clear hgv;go_enter Tryz.func97,Tryz.ntmps97;go_wp2;go_ret;exact ⟨rfl,HH0.out.1⟩
 subst h3;obtain rfl:g=z:=by rw [hgv,decide_eq_true ⟨rfl,rfl,rfl⟩];rfl
 have HH0:=aW ((aj.nil w).push 28 #[Zi Zq 0,Zi Zq k1,Zi Zq n1,Zt s1,Zs A1 na1 ca1,Zs B1 nb1 cb1,Zt ⟨([]:List UInt8).toArray⟩,Zs A 0 ca] (g:=w.heap.size) rfl);obtain ⟨c0,f0,l0⟩:=HH0.out.b0.rules;clear hgv;go_enter Tryz.func97,Tryz.ntmps97;go_wp2_with fail;refine (HZE.out _ HH0.out.1).mono ?_;rintro e w1 ⟨rfl,hb1⟩;have HH1:=aW (HH0.out.keep hb1);clear hb1 c0 f0 l0;go_wp2;go_ret;exact ⟨rfl,HH1.out.1⟩
theorem tB {d:Nat} {l:List SJ} {x:SJ} (hx:x ∈ l) (h:eX d x=false):aZ d l=false:=by
 rw [Bool.eq_false_iff];intro e;rw [ft.1 e x hx] at h;cases h
set_option maxHeartbeats 32000000 in
theorem tj:∀ (r:Nat) (l:List SJ) (css:List (List Value)) (A:Option Addr) (n ca:Nat) (q:Int) (w:World),q=r->r<=12->SRs w TT css l->l.length=n->n<=ca->RdF w TT A css.flatten->bK l->n<=4194304 ->
  Calls Tryz.prog 61 #[Zs A n ca,Zi Zq q] w (aF (aZ r l) w):=by
 intro r
 induction r with
 |zero =>
  rintro l css A n ca q w rfl hr hS hln hnc hR hC hn;by_cases h0:n=0
  ·subst h0;obtain rfl:l=[]:=List.length_eq_zero_iff.1 hln;clear hS hR hC hln;go_enter Tryz.func61,Tryz.ntmps61;go_upto_region 4 with fail;go_loopg [5] 0 (λ gk s5 wr=>gk=0/\s5=Zi Zq 0/\wr=w)
   case atStart=>exact ⟨rfl,rfl,rfl⟩
   case round =>
    obtain ⟨rfl,rfl,rfl⟩:=hrel;go_wp2;go_ret;exact ⟨rfl,Below.refl _ _⟩
  ·obtain ⟨g,hg⟩:∃ g,aZ 0 l=g:=⟨_,rfl⟩
   obtain rfl:g=false:=by
    rw [← hg];cases l with
    | nil=>exact absurd hln.symm h0
    | cons x t=>obtain ⟨k,s,a,b,body,els⟩:=x;rw [aZ,eX];simp
   rw [hg];have hn1:(0:Int)<(n:Int):=by omega
   have hd1:decide ((0:Int)<(n:Int))=true:=decide_eq_true hn1;clear hS hR hC hln hg;go_enter Tryz.func61,Tryz.ntmps61;go_wp2;go_ret;exact ⟨rfl,Below.refl _ _⟩
 |succ r ih =>
  rintro l css A n ca q w hq hr hS hln hnc hR hC hn;by_cases h0:n=0
  ·subst h0;obtain rfl:l=[]:=List.length_eq_zero_iff.1 hln;clear hS hR hC hln ih;go_enter Tryz.func61,Tryz.ntmps61;go_upto_region 4 with fail;go_loopg [5] 0 (λ gk s5 wr=>gk=0/\s5=Zi Zq 0/\wr=w)
   case atStart=>exact ⟨rfl,rfl,rfl⟩
   case round =>
    obtain ⟨rfl,rfl,rfl⟩:=hrel;go_wp2;go_ret;exact ⟨rfl,Below.refl _ _⟩
  have hn1:(0:Int)<(n:Int):=by omega
  have hd1:decide ((0:Int)<(n:Int))=true:=decide_eq_true hn1;have hq1:1<=q:=by omega
  have hq12:q<=12:=by omega
  have hq0:(q == 0)=false:=by simp;omega
  have hq0':¬ q=0:=by omega
  have hqw:IntKind.i64.wrap (q-1)=q-1:=by rw [IntKind.wrap_i64];omega
  have HKD:=aW (And.intro hS hR);have HNK:=aW hln;have HCL:=aW (dg.1 hC);have HIH:=aW (show ∀ (l:List SJ) (css:List (List Value)) (A:Option Addr) (n ca:Nat) (w:World),SRs w TT css l->l.length=n->n<=ca->RdF w TT A css.flatten->bK l->n<=4194304->Calls Tryz.prog 61 #[Zs A n ca,Zi Zq (q-1)] w (aF (aZ r l) w) from
   λ l css A n ca w h1 h2 h3 h4 h5 h6=>ih l css A n ca (q-1) w (by omega) (by omega) h1 h2 h3 h4 h5 h6)
  obtain ⟨g,hg⟩:∃ g,aZ (r+1) l=g:=⟨_,rfl⟩
  have HGG:=aW hg;rw [hg];clear hS hR hC hln hq hr ih hg;go_enter Tryz.func61,Tryz.ntmps61;go_upto_region 4 with fail;go_loopg [5] n (λ gk s5 wr => ∃ (i:Nat),gk=n-i/\i<=n/\s5=Zi Zq (i:Int)/\True/\Hid (Below w.heap.size w wr)/\Hid (aZ (r+1) (l.take i)=true))
  case atStart=>exact ⟨0,by go_num,Nat.zero_le _,rfl,trivial,aW (Below.refl _ _),aW (by rw [List.take_zero];rfl)⟩
  case round =>
   obtain ⟨i,hgk,hin,rfl,_,HWB,HMA⟩:=hrel;have HGK:=aW hgk;clear hgk;by_cases hlt:i<n
   ·obtain ⟨x,hx⟩:∃ x,l[i]? = some x:=⟨_,List.getElem?_eq_getElem (by rw [HNK.out];exact hlt)⟩
    have hxm:=List.mem_of_getElem? hx;have hcx:=HCL.out x hxm;have HTK:=aW (show l.take (i+1)=l.take i++[x] by rw [List.take_add_one,hx];rfl);have HNOF:=aW (λ (h:eX (r+1) x=false)=>show g=false by rw [← HGG.out];exact tB hxm h);have hS1:SRs wr TT css l:=RR.imp HKD.out.1 λ c y hc=>hc.bel HWB.out
    have hR1:RdF wr TT A css.flatten:=HKD.out.2.keep (af.of_below HWB.out);obtain ⟨k,s,a,b,body,els⟩:=x;obtain ⟨bl,o,ka,kva,nva,sva,Ava,nka,cka,Bva,nya,cya,sa,Ca,nxa,cxa,kb,kvb,nvb,svb,Avb,nkb,ckb,Bvb,nyb,cyb,sb,Cb,nxb,cxb,BA,LA,cb,cl,bss,lss,rfl,hbl,_,hEA,hEB,⟨hb1,hb2,hb3⟩,⟨he1,he2,he3⟩,hSR,hz⟩:=ei hS1 hR1 hx;unfold gI at hcx;obtain ⟨hik,hsl,hca,hcb,hbl4,hel4,hcbo,hcel⟩:=hcx;obtain ⟨nb,hnb⟩:∃ q,body.length=q:=⟨_,rfl⟩
    obtain ⟨nl,hnl⟩:∃ q,els.length=q:=⟨_,rfl⟩
    have HMS:=aW (show eX (r+1) (.mk k s a b body els)=(decide (dF a) && (if k=1 then decide (dF b) && decide (s=[]/\body.length+els.length=0) else if k=2 then cq b && (decide (s=[]) && (aZ r body && aZ r els)) else if k=3 then cq b && (dN s && (aZ r body && decide (els.length=0))) else false)) by
     rw [eX,decide_eq_true (show r+1≠0 by omega),Bool.true_and];rfl)
    have HNB:=aW (And.intro hnb hnl);rw [hnb] at hb2 hbl4 hz hSR;rw [hnl] at he2 hel4 hz hSR;have HRG:=aW (show wr.rangeAt bl (o+i*20) [Zi Zq k,Zt ⟨s.toArray⟩,Zi Zq ka,Zi Zq kva,Zi Zq nva,Zt sva,Zs Ava nka cka,Zs Bva nya cya,Zt sa,Zs Ca nxa cxa,Zi Zq kb,Zi Zq kvb,Zi Zq nvb,Zt svb,Zs Avb nkb ckb,Zs Bvb nyb cyb,Zt sb,Zs Cb nxb cxb,Zs BA nb cb,Zs LA nl cl] from λ j v hv=>by rw [Nat.add_assoc];exact hz j v hv);have hlb:bl<wr.heap.size:=hbl;have HFA:=aW (λ (W:World) (h:Below wr.heap.size wr W)=>t9 a [Zi Zq ka,Zi Zq kva,Zi Zq nva,Zt sva,Zs Ava nka cka,Zs Bva nya cya,Zt sa,Zs Ca nxa cxa] W (hEA.bel h) hca);have HFB:=aW (λ (W:World) (h:Below wr.heap.size wr W)=>t9 b [Zi Zq kb,Zi Zq kvb,Zi Zq nvb,Zt svb,Zs Avb nkb ckb,Zs Bvb nyb cyb,Zt sb,Zs Cb nxb cxb] W (hEB.bel h) hcb);have HBB:=aW (λ (W:World) (h:Below wr.heap.size wr W)=>vl b [Zi Zq kb,Zi Zq kvb,Zi Zq nvb,Zt svb,Zs Avb nkb ckb,Zs Bvb nyb cyb,Zt sb,Zs Cb nxb cxb] W (hEB.bel h));have HRB:=aW (λ (W:World) (h:Below wr.heap.size wr W)=>HIH.out body bss BA nb cb W (RR.imp hb1 λ c y (hc:SR _ _ c y)=>hc.bel h) hnb hb2 (hb3.keep (af.of_below h)) hcbo hbl4);have HRL:=aW (λ (W:World) (h:Below wr.heap.size wr W)=>HIH.out els lss LA nl cl W (RR.imp he1 λ c y (hc:SR _ _ c y)=>hc.bel h) hnl he2 (he3.keep (af.of_below h)) hcel hel4);have HH1:=aW ((aj.nil wr).push 69 #[Zi Zq k,Zt ⟨s.toArray⟩,Zi Zq ka,Zi Zq kva,Zi Zq nva,Zt sva,Zs Ava nka cka,Zs Bva nya cya,Zt sa,Zs Ca nxa cxa,Zi Zq kb,Zi Zq kvb,Zi Zq nvb,Zt svb,Zs Avb nkb ckb,Zs Bvb nyb cyb,Zt sb,Zs Cb nxb cxb,Zs BA nb cb,Zs LA nl cl] (g:=wr.heap.size) rfl);obtain ⟨W1,hW1⟩:∃ W1,wr.alloc (.cells #[Zi Zq k,Zt ⟨s.toArray⟩,Zi Zq ka,Zi Zq kva,Zi Zq nva,Zt sva,Zs Ava nka cka,Zs Bva nya cya,Zt sa,Zs Ca nxa cxa,Zi Zq kb,Zi Zq kvb,Zi Zq nvb,Zt svb,Zs Avb nkb ckb,Zs Bvb nyb cyb,Zt sb,Zs Cb nxb cxb,Zs BA nb cb,Zs LA nl cl] 69)=W1:=⟨_,rfl⟩
    rw [hW1] at HH1;have HW1:=aW hW1;clear hz hSR hEA hEB hb1 hb2 hb3 he1 he2 he3 hca hcb hbl4 hel4 hcbo hcel hnb hnl hx hxm hbl hS1 hR1 hW1 hik hsl;go_upto_region 6 with fail
    first | (go_step;go_step;go_step;go_step;go_step;go_step;go_step;go_step;go_step;go_step;refine wpList_load_mid rfl 69 (.tmp 23) rfl bl (o+i*20) rfl [Zi Zq k,Zt ⟨s.toArray⟩,Zi Zq ka,Zi Zq kva,Zi Zq nva,Zt sva,Zs Ava nka cka,Zs Bva nya cya,Zt sa,Zs Ca nxa cxa,Zi Zq kb,Zi Zq kvb,Zi Zq nvb,Zt svb,Zs Avb nkb ckb,Zs Bvb nyb cyb,Zt sb,Zs Cb nxb cxb,Zs BA nb cb,Zs LA nl cl] _ HRG.out Tryz.underlying69 rfl (by kernel_rfl) ?_) | (go_step;go_step;go_step;go_step;go_step;go_step;go_step;go_step;go_step;refine wpList_load_mid rfl 69 (.tmp 23) rfl bl (o+i*20) rfl [Zi Zq k,Zt ⟨s.toArray⟩,Zi Zq ka,Zi Zq kva,Zi Zq nva,Zt sva,Zs Ava nka cka,Zs Bva nya cya,Zt sa,Zs Ca nxa cxa,Zi Zq kb,Zi Zq kvb,Zi Zq nvb,Zt svb,Zs Avb nkb ckb,Zs Bvb nyb cyb,Zt sb,Zs Cb nxb cxb,Zs BA nb cb,Zs LA nl cl] _ HRG.out Tryz.underlying69 rfl (by kernel_rfl) ?_) | (go_step;go_step;go_step;go_step;go_step;go_step;go_step;go_step;go_step;go_step;go_step;refine wpList_load_mid rfl 69 (.tmp 23) rfl bl (o+i*20) rfl [Zi Zq k,Zt ⟨s.toArray⟩,Zi Zq ka,Zi Zq kva,Zi Zq nva,Zt sva,Zs Ava nka cka,Zs Bva nya cya,Zt sa,Zs Ca nxa cxa,Zi Zq kb,Zi Zq kvb,Zi Zq nvb,Zt svb,Zs Avb nkb ckb,Zs Bvb nyb cyb,Zt sb,Zs Cb nxb cxb,Zs BA nb cb,Zs LA nl cl] _ HRG.out Tryz.underlying69 rfl (by kernel_rfl) ?_) | (go_step;go_step;go_step;go_step;go_step;go_step;go_step;go_step;refine wpList_load_mid rfl 69 (.tmp 23) rfl bl (o+i*20) rfl [Zi Zq k,Zt ⟨s.toArray⟩,Zi Zq ka,Zi Zq kva,Zi Zq nva,Zt sva,Zs Ava nka cka,Zs Bva nya cya,Zt sa,Zs Ca nxa cxa,Zi Zq kb,Zi Zq kvb,Zi Zq nvb,Zt svb,Zs Avb nkb ckb,Zs Bvb nyb cyb,Zt sb,Zs Cb nxb cxb,Zs BA nb cb,Zs LA nl cl] _ HRG.out Tryz.underlying69 rfl (by kernel_rfl) ?_) | (go_step;go_step;go_step;go_step;go_step;go_step;go_step;go_step;go_step;go_step;go_step;go_step;refine wpList_load_mid rfl 69 (.tmp 23) rfl bl (o+i*20) rfl [Zi Zq k,Zt ⟨s.toArray⟩,Zi Zq ka,Zi Zq kva,Zi Zq nva,Zt sva,Zs Ava nka cka,Zs Bva nya cya,Zt sa,Zs Ca nxa cxa,Zi Zq kb,Zi Zq kvb,Zi Zq nvb,Zt svb,Zs Avb nkb ckb,Zs Bvb nyb cyb,Zt sb,Zs Cb nxb cxb,Zs BA nb cb,Zs LA nl cl] _ HRG.out Tryz.underlying69 rfl (by kernel_rfl) ?_) | (go_step;go_step;go_step;go_step;go_step;go_step;go_step;refine wpList_load_mid rfl 69 (.tmp 23) rfl bl (o+i*20) rfl [Zi Zq k,Zt ⟨s.toArray⟩,Zi Zq ka,Zi Zq kva,Zi Zq nva,Zt sva,Zs Ava nka cka,Zs Bva nya cya,Zt sa,Zs Ca nxa cxa,Zi Zq kb,Zi Zq kvb,Zi Zq nvb,Zt svb,Zs Avb nkb ckb,Zs Bvb nyb cyb,Zt sb,Zs Cb nxb cxb,Zs BA nb cb,Zs LA nl cl] _ HRG.out Tryz.underlying69 rfl (by kernel_rfl) ?_)
    go_step;go_step;go_step;refine bP rfl 69 (.tmp 6) (.tmp 24) rfl _ _ rfl rfl (by kernel_rfl) (by kernel_rfl) (by first | kernel_rfl | simp [Value.oneCell']) ?_;rw [HW1.out];clear HW1 HRG hlb;obtain ⟨fa,hfa⟩:∃ q,decide (dF a)=q:=⟨_,rfl⟩
    rw [hfa] at HMS HFA;clear hfa;obtain ⟨c0,f0,l0⟩:=HH1.out.b0.rules;go_upto_region 7 with fail;go_wp2_with fail;refine (HFA.out _ HH1.out.1).mono ?_;rintro e w2 ⟨rfl,hb⟩;have HH2:=aW (HH1.out.keep hb);clear hb c0 f0 l0;obtain ⟨c0,f0,l0⟩:=HH2.out.b0.rules;cases fa with
    |false =>
     obtain rfl:g=false:=HNOF.out (by rw [HMS.out];rfl);clear HGG;go_wp2;go_ret;exact ⟨rfl,HWB.out.trans (HH2.out.1.mono HWB.out.size)⟩
    | true =>
    by_cases hk1:k=1
    ·subst hk1;obtain ⟨fb,hfb⟩:∃ q,decide (dF b)=q:=⟨_,rfl⟩
     rw [hfb] at HMS HFB;clear hfb;go_wp2_with fail;refine (HFB.out _ HH2.out.1).mono ?_;rintro e w3 ⟨rfl,hb⟩;have HH3:=aW (HH2.out.keep hb);clear hb c0 f0 l0;obtain ⟨c0,f0,l0⟩:=HH3.out.b0.rules;cases fb with
     |false =>
      obtain rfl:g=false:=HNOF.out (by rw [HMS.out];simp);clear HGG;go_wp2;go_ret;exact ⟨rfl,HWB.out.trans (HH3.out.1.mono HWB.out.size)⟩
     | true =>
     by_cases hs:s=[];rotate_left
     ·have hse:s.isEmpty=false:=by simpa using hs
      obtain rfl:g=false:=HNOF.out (by rw [HMS.out];simp [hs]);clear HGG;go_wp2;go_ret;exact ⟨rfl,HWB.out.trans (HH3.out.1.mono HWB.out.size)⟩
     subst hs;by_cases hb0:nb=0;rotate_left
     ·have e3:((nb:Int) == 0)=false:=by simp;omega
      obtain rfl:g=false:=HNOF.out (by rw [HMS.out];rw [HNB.out.1,HNB.out.2];simp;omega);clear HGG;go_wp2;go_ret;exact ⟨rfl,HWB.out.trans (HH3.out.1.mono HWB.out.size)⟩
     subst hb0;by_cases hl0:nl=0;rotate_left
     ·have e3:((nl:Int) == 0)=false:=by simp;omega
      obtain rfl:g=false:=HNOF.out (by rw [HMS.out];rw [HNB.out.1,HNB.out.2];simp;omega);clear HGG;go_wp2;go_ret;exact ⟨rfl,HWB.out.trans (HH3.out.1.mono HWB.out.size)⟩
     subst hl0;have HM2:=aW (show aZ (r+1) (l.take (i+1))=true by
      rw [HTK.out,fE,HMA.out,HMS.out];rw [HNB.out.1,HNB.out.2];simp)
     go_wp2;go_roundg (n-(i+1))
     case measure=>have:=HGK.out;omega
     case rel=>exact ⟨i+1,rfl,by omega,by go_num,trivial,aW (HWB.out.trans (HH3.out.1.mono HWB.out.size)),HM2⟩
    have e1:(k == 1)=false:=by simp [hk1]
    by_cases hk2:k=2
    ·subst hk2;obtain ⟨bb,hbb⟩:∃ q,cq b=q:=⟨_,rfl⟩
     rw [hbb] at HMS HBB;clear hbb;go_wp2_with fail;refine (HBB.out _ HH2.out.1).mono ?_;rintro e w3 ⟨rfl,hb⟩;have HH3:=aW (HH2.out.keep hb);clear hb c0 f0 l0;obtain ⟨c0,f0,l0⟩:=HH3.out.b0.rules;cases bb with
     |false =>
      obtain rfl:g=false:=HNOF.out (by rw [HMS.out];simp);clear HGG;go_wp2;go_ret;exact ⟨rfl,HWB.out.trans (HH3.out.1.mono HWB.out.size)⟩
     | true =>
     by_cases hs:s=[];rotate_left
     ·have hse:s.isEmpty=false:=by simpa using hs
      obtain rfl:g=false:=HNOF.out (by rw [HMS.out];simp [hs]);clear HGG;go_wp2;go_ret;exact ⟨rfl,HWB.out.trans (HH3.out.1.mono HWB.out.size)⟩
     subst hs;obtain ⟨m1,hm1⟩:∃ q,aZ r body=q:=⟨_,rfl⟩
     rw [hm1] at HMS HRB;clear hm1;go_wp2_with fail;refine (HRB.out _ HH3.out.1).mono ?_;rintro e w4 ⟨rfl,hb⟩;have HH4:=aW (HH3.out.keep hb);clear hb c0 f0 l0;obtain ⟨c0,f0,l0⟩:=HH4.out.b0.rules;cases m1 with
     |false =>
      obtain rfl:g=false:=HNOF.out (by rw [HMS.out];simp);clear HGG;go_wp2;go_ret;exact ⟨rfl,HWB.out.trans (HH4.out.1.mono HWB.out.size)⟩
     | true =>
     obtain ⟨m2,hm2⟩:∃ q,aZ r els=q:=⟨_,rfl⟩
     rw [hm2] at HMS HRL;clear hm2;go_wp2_with fail;refine (HRL.out _ HH4.out.1).mono ?_;rintro e w5 ⟨rfl,hb⟩;have HH5:=aW (HH4.out.keep hb);clear hb c0 f0 l0;obtain ⟨c0,f0,l0⟩:=HH5.out.b0.rules;cases m2 with
     |false =>
      obtain rfl:g=false:=HNOF.out (by rw [HMS.out];simp);clear HGG;go_wp2;go_ret;exact ⟨rfl,HWB.out.trans (HH5.out.1.mono HWB.out.size)⟩
     | true =>
     have HM2:=aW (show aZ (r+1) (l.take (i+1))=true by
      rw [HTK.out,fE,HMA.out,HMS.out];simp)
     go_wp2;go_roundg (n-(i+1))
     case measure=>have:=HGK.out;omega
     case rel=>exact ⟨i+1,rfl,by omega,by go_num,trivial,aW (HWB.out.trans (HH5.out.1.mono HWB.out.size)),HM2⟩
    have e2:(k == 2)=false:=by simp [hk2]
    by_cases hk3:k=3
    ·subst hk3;obtain ⟨bb,hbb⟩:∃ q,cq b=q:=⟨_,rfl⟩
     rw [hbb] at HMS HBB;clear hbb;go_wp2_with fail;refine (HBB.out _ HH2.out.1).mono ?_;rintro e w3 ⟨rfl,hb⟩;have HH3:=aW (HH2.out.keep hb);clear hb c0 f0 l0;obtain ⟨c0,f0,l0⟩:=HH3.out.b0.rules;cases bb with
     |false =>
      obtain rfl:g=false:=HNOF.out (by rw [HMS.out];simp);clear HGG;go_wp2;go_ret;exact ⟨rfl,HWB.out.trans (HH3.out.1.mono HWB.out.size)⟩
     | true =>
     obtain ⟨nm,hnm⟩:∃ q,dN s=q:=⟨_,rfl⟩
     have HNA:=aW (λ (W:World)=>show Calls Tryz.prog 44 #[Zt ⟨s.toArray⟩] W (λ e w'=>e=.returned (.bool nm)/\W=w') by rw [← hnm];exact kW _ W);rw [hnm] at HMS;clear hnm;go_wp2_with fail;refine (HNA.out _).mono ?_;rintro e w4 ⟨rfl,rfl⟩;cases nm with
     |false =>
      obtain rfl:g=false:=HNOF.out (by rw [HMS.out];simp);clear HGG;go_wp2;go_ret;exact ⟨rfl,HWB.out.trans (HH3.out.1.mono HWB.out.size)⟩
     | true =>
     by_cases hl0:nl=0;rotate_left
     ·have e3:((nl:Int) == 0)=false:=by simp;omega
      obtain rfl:g=false:=HNOF.out (by rw [HMS.out];rw [HNB.out.2];simp;omega);clear HGG;go_wp2;go_ret;exact ⟨rfl,HWB.out.trans (HH3.out.1.mono HWB.out.size)⟩
     subst hl0;obtain ⟨m1,hm1⟩:∃ q,aZ r body=q:=⟨_,rfl⟩
     rw [hm1] at HMS HRB;clear hm1;go_wp2_with fail;refine (HRB.out _ HH3.out.1).mono ?_;rintro e w4 ⟨rfl,hb⟩;have HH4:=aW (HH3.out.keep hb);clear hb c0 f0 l0;obtain ⟨c0,f0,l0⟩:=HH4.out.b0.rules;cases m1 with
     |false =>
      obtain rfl:g=false:=HNOF.out (by rw [HMS.out];simp);clear HGG;go_wp2;go_ret;exact ⟨rfl,HWB.out.trans (HH4.out.1.mono HWB.out.size)⟩
     | true =>
     have HM2:=aW (show aZ (r+1) (l.take (i+1))=true by
      rw [HTK.out,fE,HMA.out,HMS.out];rw [HNB.out.2];simp)
     go_wp2;go_roundg (n-(i+1))
     case measure=>have:=HGK.out;omega
     case rel=>exact ⟨i+1,rfl,by omega,by go_num,trivial,aW (HWB.out.trans (HH4.out.1.mono HWB.out.size)),HM2⟩
    have e3:(k == 3)=false:=by simp [hk3]
    obtain rfl:g=false:=HNOF.out (by rw [HMS.out];rw [if_neg hk1,if_neg hk2,if_neg hk3];rfl);clear HGG;go_wp2;go_ret;exact ⟨rfl,HWB.out.trans (HH2.out.1.mono HWB.out.size)⟩
   ·obtain rfl:i=n:=by omega
    obtain rfl:g=true:=by
     have:=HMA.out;rw [List.take_of_length_le (Nat.le_of_eq HNK.out),HGG.out] at this;exact this
    clear HGG;go_wp2;go_ret;exact ⟨rfl,HWB.out⟩
theorem bc.le {base base' n:Nat} {row:Value} {l:List UInt8} {w:World} (h:bc base row n l w) (hb:base'<=base):bc base' row n l w:=⟨h.1,⟨h.2.1.1,h.2.1.2.imp id λ ⟨g,cap,cur,e,hg,r⟩=>⟨g,cap,cur,e,Nat.le_trans hb hg,r⟩⟩,Nat.le_trans hb h.2.2⟩
theorem bc.lit (base:Nat) (w:World) (l:List UInt8) (n:Nat) (hn:l.length=n) (hb:base<=w.heap.size) (hm:n<=1000):bc base (.slice (some ⟨w.heap.size,0,none⟩) n n) n l (w.alloc (.cells (al l).toArray 5)):=by
 have h:=World.ownsRow_lit (base:=base) (e:=5) (size:=1) w (al l).toArray n hb (by unfold maxLen;omega) (by rw [← hn];simp [al]);exact ⟨hn,by simpa using h,by simp;omega⟩
theorem vm (w:World) (v:Int) (t:List UInt8) (A B:Option Addr) (nk ca ny cb:Nat):Calls Tryz.prog 98 #[.agg #[.int .i64 1,.int .i64 v,.string ⟨t.toArray⟩,.slice A nk ca,.slice B ny cb]] w (TxP [1] w):=by
 have HH0:=aW ((aj.nil w).push 25 #[.int .i64 1,.int .i64 v,.string ⟨t.toArray⟩,.slice A nk ca,.slice B ny cb] (g:=w.heap.size) rfl);obtain ⟨W0,hW0⟩:∃ W0,w.alloc (.cells #[.int .i64 1,.int .i64 v,.string ⟨t.toArray⟩,.slice A nk ca,.slice B ny cb] 25)=W0:=⟨_,rfl⟩
 rw [hW0] at HH0;have HW0:=aW hW0;have HFIN:=aW (show TxP [1] w (.returned (.slice (some ⟨W0.heap.size,0,none⟩) 1 1)) (W0.alloc (.cells #[.int .u8 1] 5)) from ⟨_,_,rfl,bc.lit w.heap.size W0 [1] 1 rfl HH0.out.1.size (by omega),HH0.out.1.alloc HH0.out.1.size _⟩);clear hW0;obtain ⟨c0,f0,l0⟩:=HH0.out.b0.rules;go_enter Tryz.func98,Tryz.ntmps98;go_upto_region 1 with fail;rw [HW0.out];go_wp2;go_ret;exact HFIN.out
theorem tC (w:World) (v:Int) (t:List UInt8) (A B:Option Addr) (nk ca ny cb:Nat):Calls Tryz.prog 98 #[.agg #[.int .i64 2,.int .i64 0,.string ⟨t.toArray⟩,.slice A nk ca,.slice B ny cb]] w (TxP [2] w):=by
 have HH0:=aW ((aj.nil w).push 25 #[.int .i64 2,.int .i64 0,.string ⟨t.toArray⟩,.slice A nk ca,.slice B ny cb] (g:=w.heap.size) rfl);obtain ⟨W0,hW0⟩:∃ W0,w.alloc (.cells #[.int .i64 2,.int .i64 0,.string ⟨t.toArray⟩,.slice A nk ca,.slice B ny cb] 25)=W0:=⟨_,rfl⟩
 rw [hW0] at HH0;have HW0:=aW hW0;have HFIN:=aW (show TxP [2] w (.returned (.slice (some ⟨W0.heap.size,0,none⟩) 1 1)) (W0.alloc (.cells #[.int .u8 2] 5)) from ⟨_,_,rfl,bc.lit w.heap.size W0 [2] 1 rfl HH0.out.1.size (by omega),HH0.out.1.alloc HH0.out.1.size _⟩);clear hW0;obtain ⟨c0,f0,l0⟩:=HH0.out.b0.rules;go_enter Tryz.func98,Tryz.ntmps98;go_upto_region 1 with fail;rw [HW0.out];go_wp2;go_ret;exact HFIN.out
theorem tF (w:World) (v:Int) (t:List UInt8) (A B:Option Addr) (nk ca ny cb:Nat):Calls Tryz.prog 98 #[.agg #[.int .i64 2,.int .i64 1,.string ⟨t.toArray⟩,.slice A nk ca,.slice B ny cb]] w (TxP [3] w):=by
 have HH0:=aW ((aj.nil w).push 25 #[.int .i64 2,.int .i64 1,.string ⟨t.toArray⟩,.slice A nk ca,.slice B ny cb] (g:=w.heap.size) rfl);obtain ⟨W0,hW0⟩:∃ W0,w.alloc (.cells #[.int .i64 2,.int .i64 1,.string ⟨t.toArray⟩,.slice A nk ca,.slice B ny cb] 25)=W0:=⟨_,rfl⟩
 rw [hW0] at HH0;have HW0:=aW hW0;have HFIN:=aW (show TxP [3] w (.returned (.slice (some ⟨W0.heap.size,0,none⟩) 1 1)) (W0.alloc (.cells #[.int .u8 3] 5)) from ⟨_,_,rfl,bc.lit w.heap.size W0 [3] 1 rfl HH0.out.1.size (by omega),HH0.out.1.alloc HH0.out.1.size _⟩);clear hW0;obtain ⟨c0,f0,l0⟩:=HH0.out.b0.rules;go_enter Tryz.func98,Tryz.ntmps98;go_upto_region 1 with fail;rw [HW0.out];go_wp2;go_ret;exact HFIN.out
theorem vh (w:World) (v:Int) (t:List UInt8) (A B:Option Addr) (nk ca ny cb:Nat) (ht:t.length<=4194304):Calls Tryz.prog 98 #[.agg #[.int .i64 4,.int .i64 v,.string ⟨t.toArray⟩,.slice A nk ca,.slice B ny cb]] w (TxP (bL t) w):=by
 have HH0:=aW ((aj.nil w).push 25 #[.int .i64 4,.int .i64 v,.string ⟨t.toArray⟩,.slice A nk ca,.slice B ny cb] (g:=w.heap.size) rfl);obtain ⟨W0,hW0⟩:∃ W0,w.alloc (.cells #[.int .i64 4,.int .i64 v,.string ⟨t.toArray⟩,.slice A nk ca,.slice B ny cb] 25)=W0:=⟨_,rfl⟩
 rw [hW0] at HH0;have HW0:=aW hW0;have HFIN:=aW (λ (r:Value) (n:Nat) (w':World) (ho:bc W0.heap.size r n (bL t) w') (hb:Below W0.heap.size W0 w')=>show TxP (bL t) w (.returned r) w' from ⟨r,n,rfl,ho.le HH0.out.1.size,HH0.out.1.trans (hb.mono HH0.out.1.size)⟩);have HT:=aW (qW t W0 ht);clear hW0;obtain ⟨c0,f0,l0⟩:=HH0.out.b0.rules;go_enter Tryz.func98,Tryz.ntmps98;go_upto_region 1 with fail;rw [HW0.out];go_wp2_with fail;refine HT.out.mono ?_;rintro e w1 ⟨r,n,rfl,ho,hb⟩;have HX:=aW (HFIN.out r n w1 ho hb);clear ho hb;go_wp2;go_ret;exact HX.out
def cN (m:Nat):Nat->Array Value
 | 0=>#[.int .u8 4,.int .u8 0,.int .u8 0,.int .u8 0,.int .u8 0,.int .u8 0,.int .u8 0,.int .u8 0,.int .u8 0]
 | 1=>#[.int .u8 4,.int .u8 0,.int .u8 0,.int .u8 0,.int .u8 0,.int .u8 0,.int .u8 0,.int .u8 0,.int .u8 ((m / 1 % 256:Nat):Int)]
 | 2=>#[.int .u8 4,.int .u8 0,.int .u8 0,.int .u8 0,.int .u8 0,.int .u8 0,.int .u8 0,.int .u8 ((m / 256 % 256:Nat):Int),.int .u8 ((m / 1 % 256:Nat):Int)]
 | 3=>#[.int .u8 4,.int .u8 0,.int .u8 0,.int .u8 0,.int .u8 0,.int .u8 0,.int .u8 ((m / 65536 % 256:Nat):Int),.int .u8 ((m / 256 % 256:Nat):Int),.int .u8 ((m / 1 % 256:Nat):Int)]
 | 4=>#[.int .u8 4,.int .u8 0,.int .u8 0,.int .u8 0,.int .u8 0,.int .u8 ((m / 16777216 % 256:Nat):Int),.int .u8 ((m / 65536 % 256:Nat):Int),.int .u8 ((m / 256 % 256:Nat):Int),.int .u8 ((m / 1 % 256:Nat):Int)]
 | 5=>#[.int .u8 4,.int .u8 0,.int .u8 0,.int .u8 0,.int .u8 ((m / 4294967296 % 256:Nat):Int),.int .u8 ((m / 16777216 % 256:Nat):Int),.int .u8 ((m / 65536 % 256:Nat):Int),.int .u8 ((m / 256 % 256:Nat):Int),.int .u8 ((m / 1 % 256:Nat):Int)]
 | 6=>#[.int .u8 4,.int .u8 0,.int .u8 0,.int .u8 ((m / 1099511627776 % 256:Nat):Int),.int .u8 ((m / 4294967296 % 256:Nat):Int),.int .u8 ((m / 16777216 % 256:Nat):Int),.int .u8 ((m / 65536 % 256:Nat):Int),.int .u8 ((m / 256 % 256:Nat):Int),.int .u8 ((m / 1 % 256:Nat):Int)]
 | 7=>#[.int .u8 4,.int .u8 0,.int .u8 ((m / 281474976710656 % 256:Nat):Int),.int .u8 ((m / 1099511627776 % 256:Nat):Int),.int .u8 ((m / 4294967296 % 256:Nat):Int),.int .u8 ((m / 16777216 % 256:Nat):Int),.int .u8 ((m / 65536 % 256:Nat):Int),.int .u8 ((m / 256 % 256:Nat):Int),.int .u8 ((m / 1 % 256:Nat):Int)]
 | _=>#[.int .u8 4,.int .u8 ((m / 72057594037927936 % 256:Nat):Int),.int .u8 ((m / 281474976710656 % 256:Nat):Int),.int .u8 ((m / 1099511627776 % 256:Nat):Int),.int .u8 ((m / 4294967296 % 256:Nat):Int),.int .u8 ((m / 16777216 % 256:Nat):Int),.int .u8 ((m / 65536 % 256:Nat):Int),.int .u8 ((m / 256 % 256:Nat):Int),.int .u8 ((m / 1 % 256:Nat):Int)]
theorem Blk.to {w:World} {g:Nat} {t:TypeId} {cs cs':Array Value} (h:Blk w g t cs) (e:cs=cs'):Blk w g t cs':=e ▸ h
theorem tJ {v:Int} (hv:iw v):IntKind.u64.wrap (IntKind.u64.wrap v+9223372036854775808)=((v+9223372036854775808).toNat:Int):=by
 unfold iw at hv;rw [IntKind.wrap_u64,IntKind.wrap_u64];omega
theorem vv (base m:Nat) (W:World) (g:Nat) (hg:base<=g) (h:Blk W g 5 (cN m 8)):bc base (.slice (some ⟨g,0,none⟩) 9 9) 9 (4::dK m 8) W:=by
 have h4:=h.lt;refine ⟨rfl,⟨rfl,.inr ⟨g,9,cN m 8,rfl,hg,h,Nat.le_refl _,by unfold maxLen;omega,rfl,?_⟩⟩,by omega⟩;show _=[Value.int .u8 4,.int .u8 (((UInt8.ofNat (m / 2 ^ 56)).toNat:Nat):Int),.int .u8 (((UInt8.ofNat (m / 2 ^ 48)).toNat:Nat):Int),.int .u8 (((UInt8.ofNat (m / 2 ^ 40)).toNat:Nat):Int),.int .u8 (((UInt8.ofNat (m / 2 ^ 32)).toNat:Nat):Int),.int .u8 (((UInt8.ofNat (m / 2 ^ 24)).toNat:Nat):Int),.int .u8 (((UInt8.ofNat (m / 2 ^ 16)).toNat:Nat):Int),.int .u8 (((UInt8.ofNat (m / 2 ^ 8)).toNat:Nat):Int),.int .u8 (((UInt8.ofNat (m / 2 ^ 0)).toNat:Nat):Int)]
 simp only [UInt8.toNat_ofNat'];rfl
theorem uK (w:World) (v:Int) (t:List UInt8) (A B:Option Addr) (nk ca ny cb:Nat) (hv:iw v):Calls Tryz.prog 98 #[.agg #[.int .i64 3,.int .i64 v,.string ⟨t.toArray⟩,.slice A nk ca,.slice B ny cb]] w (TxP (iS v) w):=by
 have HH0:=aW ((aj.nil w).push 25 #[.int .i64 3,.int .i64 v,.string ⟨t.toArray⟩,.slice A nk ca,.slice B ny cb] (g:=w.heap.size) rfl);obtain ⟨W0,hW0⟩:∃ W0,w.alloc (.cells #[.int .i64 3,.int .i64 v,.string ⟨t.toArray⟩,.slice A nk ca,.slice B ny cb] 25)=W0:=⟨_,rfl⟩
 rw [hW0] at HH0;have HW0:=aW hW0;clear hW0;obtain ⟨c0,f0,l0⟩:=HH0.out.b0.rules;go_enter Tryz.func98,Tryz.ntmps98;go_upto_region 1 with fail;rw [HW0.out];go_upto_region 7 with fail;rw [tJ hv];obtain ⟨m,hm⟩:∃ m,(v+9223372036854775808).toNat=m:=⟨_,rfl⟩
 have hm64:m<18446744073709551616:=by unfold iw at hv;omega
 have HFIN:=aW (λ (W:World) (hb:Blk W W0.heap.size 5 (cN m 8)) (hw:Below W0.heap.size W0 W)=>show TxP (iS v) w (.returned (.slice (some ⟨W0.heap.size,0,none⟩) 9 9)) W from ⟨_,_,rfl,by rw [mj,hm];exact vv _ m W _ HH0.out.1.size hb,HH0.out.1.trans (hw.mono HH0.out.1.size)⟩);rw [hm];clear hm hv c0 f0 l0;go_upto_region 8 with fail;obtain ⟨g,hg⟩:∃ g,W0.heap.size=g:=⟨_,rfl⟩
 have HG0:=aW (show Blk (W0.alloc (.cells #[.int .u8 4,.int .u8 0,.int .u8 0,.int .u8 0,.int .u8 0,.int .u8 0,.int .u8 0,.int .u8 0,.int .u8 0] 5)) g 5 (cN m 0)/\Below g W0 (W0.alloc (.cells #[.int .u8 4,.int .u8 0,.int .u8 0,.int .u8 0,.int .u8 0,.int .u8 0,.int .u8 0,.int .u8 0,.int .u8 0] 5)) from hg ▸ ⟨Blk.new _ _ _,(Below.refl _ W0).alloc (Nat.le_refl _) _⟩);obtain ⟨W1,hW1⟩:∃ W1,W0.alloc (.cells #[.int .u8 4,.int .u8 0,.int .u8 0,.int .u8 0,.int .u8 0,.int .u8 0,.int .u8 0,.int .u8 0,.int .u8 0] 5)=W1:=⟨_,rfl⟩
 rw [hW1] at HG0 ⊢;rw [hg] at HFIN ⊢;clear hg hW1 HW0 HH0;go_wp2;go_loopg [3,5] 8 (λ gk s3 s5 wr => ∃ (j:Nat),j<=8/\gk=8-j/\s5=.int .i64 (8-(j:Int))/\s3=.int .u64 ((m / 256 ^ j:Nat):Int)/\Hid (Blk wr g 5 (cN m j))/\Hid (Below g W0 wr))
 case atStart=>exact ⟨0,Nat.zero_le _,by go_num,by go_num,by simp,aW HG0.out.1,aW HG0.out.2⟩
 case round =>
  obtain ⟨j,hj,hgk,rfl,rfl,HB,HW⟩:=hrel;have HGK:=aW hgk;clear hgk HG0;rcases (by omega:j=0∨j=1∨j=2∨j=3∨j=4∨j=5∨j=6∨j=7∨j=8) with rfl | rfl | rfl | rfl | rfl | rfl | rfl | rfl | rfl
  ·obtain ⟨c0,f0,l0⟩:=HB.out.rules;unfold cN at c0;go_wp2;clear c0 f0 l0;go_roundg (8-(0+1))
   case measure=>rw [HGK.out];omega
   case rel=>exact ⟨1,by omega,by first | rfl | omega,by go_num,(by first | rfl | (congr 1;omega)),aW ((HB.out.set_ 8 _).to (by unfold cN;simp [List.setIfInBounds_toArray];try omega)),aW (HW.out.setCell (Nat.le_refl _) _)⟩
  ·obtain ⟨c0,f0,l0⟩:=HB.out.rules;unfold cN at c0;go_wp2;clear c0 f0 l0;go_roundg (8-(1+1))
   case measure=>rw [HGK.out];omega
   case rel=>exact ⟨2,by omega,by first | rfl | omega,by go_num,(by first | rfl | (congr 1;omega)),aW ((HB.out.set_ 7 _).to (by unfold cN;simp [List.setIfInBounds_toArray];try omega)),aW (HW.out.setCell (Nat.le_refl _) _)⟩
  ·obtain ⟨c0,f0,l0⟩:=HB.out.rules;unfold cN at c0;go_wp2;clear c0 f0 l0;go_roundg (8-(2+1))
   case measure=>rw [HGK.out];omega
   case rel=>exact ⟨3,by omega,by first | rfl | omega,by go_num,(by first | rfl | (congr 1;omega)),aW ((HB.out.set_ 6 _).to (by unfold cN;simp [List.setIfInBounds_toArray];try omega)),aW (HW.out.setCell (Nat.le_refl _) _)⟩
  ·obtain ⟨c0,f0,l0⟩:=HB.out.rules;unfold cN at c0;go_wp2;clear c0 f0 l0;go_roundg (8-(3+1))
   case measure=>rw [HGK.out];omega
   case rel=>exact ⟨4,by omega,by first | rfl | omega,by go_num,(by first | rfl | (congr 1;omega)),aW ((HB.out.set_ 5 _).to (by unfold cN;simp [List.setIfInBounds_toArray];try omega)),aW (HW.out.setCell (Nat.le_refl _) _)⟩
  ·obtain ⟨c0,f0,l0⟩:=HB.out.rules;unfold cN at c0;go_wp2;clear c0 f0 l0;go_roundg (8-(4+1))
   case measure=>rw [HGK.out];omega
   case rel=>exact ⟨5,by omega,by first | rfl | omega,by go_num,(by first | rfl | (congr 1;omega)),aW ((HB.out.set_ 4 _).to (by unfold cN;simp [List.setIfInBounds_toArray];try omega)),aW (HW.out.setCell (Nat.le_refl _) _)⟩
  ·obtain ⟨c0,f0,l0⟩:=HB.out.rules;unfold cN at c0;go_wp2;clear c0 f0 l0;go_roundg (8-(5+1))
   case measure=>rw [HGK.out];omega
   case rel=>exact ⟨6,by omega,by first | rfl | omega,by go_num,(by first | rfl | (congr 1;omega)),aW ((HB.out.set_ 3 _).to (by unfold cN;simp [List.setIfInBounds_toArray];try omega)),aW (HW.out.setCell (Nat.le_refl _) _)⟩
  ·obtain ⟨c0,f0,l0⟩:=HB.out.rules;unfold cN at c0;go_wp2;clear c0 f0 l0;go_roundg (8-(6+1))
   case measure=>rw [HGK.out];omega
   case rel=>exact ⟨7,by omega,by first | rfl | omega,by go_num,(by first | rfl | (congr 1;omega)),aW ((HB.out.set_ 2 _).to (by unfold cN;simp [List.setIfInBounds_toArray];try omega)),aW (HW.out.setCell (Nat.le_refl _) _)⟩
  ·obtain ⟨c0,f0,l0⟩:=HB.out.rules;unfold cN at c0;go_wp2;clear c0 f0 l0;go_roundg (8-(7+1))
   case measure=>rw [HGK.out];omega
   case rel=>exact ⟨8,by omega,by first | rfl | omega,by go_num,(by first | rfl | (congr 1;omega)),aW ((HB.out.set_ 1 _).to (by unfold cN;simp [List.setIfInBounds_toArray];try omega)),aW (HW.out.setCell (Nat.le_refl _) _)⟩
  ·go_wp2;go_ret;exact HFIN.out _ HB.out HW.out
def tM (x:JV):Prop:=∀ (cs:List Value) (F:Nat->Prop) (w:World),VR w F cs x->(aJ x).length<=100000000000->Calls Tryz.prog 98 #[.agg cs.toArray] w (TxP (aJ x) w)
theorem bc.post0 {base n M:Nat} {row row2:Value} {l m:List UInt8} {w w6:World} (h:bc base row n l w) (hown:w6.ownsRow base 5 1 row2 (n+M) (al l++al m)) (hM:m.length=M) (hgr:w.grownBy w6 row.ownBlock) (hob:row2.ownBlock=row.ownBlock∨row2.ownBlock=some w.heap.size):bc base row2 (n+M) (l++m) w6/\Below base w w6:=by
 have hg:Gr row w row2 w6:=⟨hgr,hob.imp id λ e=>⟨_,e,Nat.le_refl _⟩⟩
 exact ⟨⟨by rw [List.length_append,h.1,hM],by rw [dW];exact hown,Nat.le_trans h.2.2 hg.size⟩,h.gb hg⟩
theorem im {A:Option Addr} {n c:Nat} (h:n<=c) (ha:A=none->c=0):A=none->n=0:=λ e=>by have:=ha e;omega
theorem uq (w:World) (F:Nat->Prop) (v:Int) (t:List UInt8) (A B:Option Addr) (nk ca ny cb:Nat) (kids:List JV) (keys:List (List UInt8)) (css:List (List Value))
  (hvs:VRs w F css kids) (hrA:RdF w F A css.flatten) (hrB:RdF w F B (cQ keys)) (hnk:kids.length=nk) (hny:keys.length=ny) (hkk:false=true->nk=ny) (hca:nk<=ca) (hcb:ny<=cb) (hk9:nk<=4194304) (hkl:∀ q ∈ keys,q.length<=4194304)
  (ih:∀ x ∈ kids,tM x) (hn:(6::(aE false kids keys++[0])).length<=100000000000) :
  Calls Tryz.prog 98 #[.agg #[.int .i64 5,.int .i64 v,.string ⟨t.toArray⟩,.slice A nk ca,.slice B ny cb]] w (TxP (6::(aE false kids keys++[0])) w):=by
 obtain ⟨i0,hi,hz0,hz1,hz2⟩:=info_parts bT;have HI:=aW hi;have HH0:=aW ((aj.nil w).push 25 #[.int .i64 5,.int .i64 v,.string ⟨t.toArray⟩,.slice A nk ca,.slice B ny cb] (g:=w.heap.size) rfl);obtain ⟨W0,hW0⟩:∃ W0,w.alloc (.cells #[.int .i64 5,.int .i64 v,.string ⟨t.toArray⟩,.slice A nk ca,.slice B ny cb] 25)=W0:=⟨_,rfl⟩
 rw [hW0] at HH0;have HW0:=aW hW0;obtain ⟨base,hbase⟩:∃ b,W0.heap.size=b:=⟨_,rfl⟩
 have HFIN:=aW (λ (r:Value) (k:Nat) (w':World) (ho:bc base r k (6::(aE false kids keys++[0])) w') (hb:Below base W0 w')=>show TxP (6::(aE false kids keys++[0])) w (.returned r) w' from ⟨r,k,rfl,ho.le (hbase ▸ HH0.out.1.size),HH0.out.1.trans (hb.mono (hbase ▸ HH0.out.1.size))⟩);have H2P:=aW (show bc base (.slice (some ⟨W0.heap.size,0,none⟩) 1 1) 1 [6] (W0.alloc (.cells #[.int .u8 6] 5))/\Below base W0 (W0.alloc (.cells #[.int .u8 6] 5)) from hbase ▸ ⟨bc.lit _ W0 [6] 1 rfl (Nat.le_refl _) (by omega),(Below.refl _ W0).alloc (Nat.le_refl _) _⟩);have HVS:=aW (And.intro hvs (And.intro hrA hrB));have HIH:=aW ih;have HKL:=aW hkl;have HKK:=aW hkk;have HNK:=aW hnk;have HNY:=aW hny;have HLE:=aW (gF false kids keys);have hcl:(aE false kids keys).length+2<=100000000000:=by rw [List.length_cons,List.length_append] at hn;simp at hn;omega
 have HKF:=aW (λ (wr:World) (hg:Below base W0 wr)=>show af F w wr from af.of_below (HH0.out.1.trans (hg.mono (hbase ▸ HH0.out.1.size))));have HBX:=aW (λ (wr:World) (hg:Below base W0 wr)=>HH0.out.b0.below hg (hbase ▸ HH0.out.b0.lt));have HBS:=aW (show base<=W0.heap.size from Nat.le_of_eq hbase.symm);clear hi hW0 hvs hrA hrB ih hkl hnk hny hn hkk;obtain ⟨c0,f0,l0⟩:=HH0.out.b0.rules;go_enter Tryz.func98,Tryz.ntmps98;go_upto_region 1 with fail;rw [HW0.out];go_upto_region 17 with fail;rw [hbase] at H2P;obtain ⟨W1,hW1⟩:∃ W1,W0.alloc (.cells #[.int .u8 6] 5)=W1:=⟨_,rfl⟩
 rw [hW1] at H2P ⊢;clear hW1 hbase HW0 c0 f0 l0;obtain ⟨c0,f0,l0⟩:=(HBX.out _ H2P.out.2).rules;go_wp2;clear c0 f0 l0;go_loopg [6,7] nk (λ gk s6 s7 wr => ∃ (i m:Nat) (r:Value),r=s6/\i<=nk/\gk=nk-i/\s7=.int .i64 (i:Int)/\Hid (bc base r m (6::aE false (kids.take i) keys) wr)/\Hid (Below base W0 wr))
 case atStart=>exact ⟨0,1,_,rfl,Nat.zero_le _,by go_num,by first | rfl | go_num,aW (by rw [List.take_zero,eO];exact H2P.out.1),aW H2P.out.2⟩
 case round =>
  obtain ⟨i,m,r,rfl,hi,hgk,rfl,HOW,HGW⟩:=hrel;have HG:=aW hgk;clear hgk H2P;obtain ⟨c0,f0,l0⟩:=(HBX.out _ HGW.out).rules;have hmn:m=1+(aE false (kids.take i) keys).length:=by
   have h1:=HOW.out.1;rw [List.length_cons] at h1;omega
  have hle:=HLE.out i (by rw [HNK.out];exact hi);by_cases hlt:i<nk
  ·obtain ⟨x,hx⟩:∃ x,kids[i]? = some x:=⟨_,List.getElem?_eq_getElem (by rw [HNK.out];exact hlt)⟩
   have hKF:=HKF.out _ HGW.out;obtain ⟨b,o,kx,nx,sx,Ax,nax,cax,Bx,nbx,cbx,rfl,hb,hfb,hvx,hz⟩:=fd HVS.out.1 HVS.out.2.1 hx;have hlb:b<wr.heap.size:=Nat.lt_of_lt_of_le hb hKF.1;have hsn:=dB false i kids keys x hx;have hle2:=HLE.out (i+1) (by rw [HNK.out];omega);rw [hsn,List.length_append,List.length_append] at hle2;have HSN:=aW hsn;have HVX:=aW hvx;have HZ:=aW hz;have HIX:=aW (HIH.out x (List.mem_of_getElem? hx));clear hx hb hfb hvx hsn;obtain ⟨z0,z1,z2,z3,z4⟩:=hz wr hKF;have HCL:=aW (HIX.out _ _ wr (HVX.out.keep hKF) (by omega));have HO5:=aW HOW.out;have HB5:=aW HGW.out;clear hz hKF;go_wp2_with fail;refine HCL.out.mono ?_;rintro e w6 ⟨rt6,n6,rfl,ho6,hb6⟩;obtain ⟨A6,c6,rfl,hn6,ha6,hr6⟩:=aP ho6.2.1;have hn6':=ho6.1;have HO6:=aW (HO5.out.bel hb6);have HB6:=aW (HB5.out.trans (hb6.mono HO5.out.2.2));have HR6:=aW hr6.rd;have HN6:=aW (im hn6 ha6);have HL6:=aW (show (al (aJ x)).length=n6*1 by rw [bJ,hn6'];omega);have HNT6:=aW hn6'
   skip
   clear ho6 hb6 hr6 ha6 hn6 z0 z1 z2 z3 z4 c0 f0 l0 hlb;go_wp2_with (at_builtin;refine ag _ rfl _ _ 76 rfl base 5 i0 _ 1 1 Tryz.underlying76 HI.out hz0 hz1 hz2 rfl (by decide) r m (al (6::aE false (kids.take i) keys)) rfl HO6.out.2.1 A6 n6 c6 HN6.out (al (aJ x)) rfl HL6.out HR6.out (aC _) (by unfold maxLen;omega) (by omega) HO6.out.2.2 ?_;intro row7 w7 hown7 hgr7 hob7);have H7P:=aW (HO6.out.post0 (m:=aJ x) (M:=n6) hown7 HNT6.out hgr7 hob7);clear hown7 hgr7 hob7;go_roundg (nk-(i+1))
   case measure=>rw [HG.out];omega
   case rel=>exact ⟨i+1,m+n6,row7,rfl,by omega,rfl,by go_num,aW (by rw [HSN.out];have:=H7P.out.1;simpa using this),aW (HB6.out.trans H7P.out.2)⟩
  ·obtain rfl:i=nk:=by omega
   have hl:kids.take i=kids:=List.take_of_length_le (Nat.le_of_eq HNK.out);rw [hl] at HOW;clear hl;have HA3:=aW (HOW.out.2.1.alloc (.cells #[.int .u8 0] 5));have HR3:=aW (Rd.of_blk (Blk.new wr 5 #[.int .u8 0]));have HB3:=aW (show base<=(wr.alloc (.cells #[.int .u8 0] 5)).heap.size by have:=HOW.out.2.2;simp;omega);go_wp2_with (at_builtin;refine ag _ rfl _ _ 76 rfl base 5 i0 _ 1 1 Tryz.underlying76 HI.out hz0 hz1 hz2 rfl (by decide) r m (al (6::aE false kids keys)) rfl HA3.out (some ⟨wr.heap.size,0,none⟩) 1 1 (λ h=>by cases h) [.int .u8 0] rfl rfl HR3.out (aC [0]) (by unfold maxLen;omega) (by omega) HB3.out ?_;intro row3 w3 hown3 hgr3 hob3);have H3P:=aW (HOW.out.post (m:=[0]) (M:=1) hown3 rfl hgr3 hob3);clear hown3 hgr3 hob3 HA3 HR3 HB3;have HX:=aW (HFIN.out _ _ _ (by have:=H3P.out.1;simpa using this) (HGW.out.trans (HOW.out.gb H3P.out.2)));go_ret;exact HX.out
theorem ur (w:World) (F:Nat->Prop) (v:Int) (t:List UInt8) (A B:Option Addr) (nk ca ny cb:Nat) (kids:List JV) (keys:List (List UInt8)) (css:List (List Value))
  (hvs:VRs w F css kids) (hrA:RdF w F A css.flatten) (hrB:RdF w F B (cQ keys)) (hnk:kids.length=nk) (hny:keys.length=ny) (hkk:true=true->nk=ny) (hca:nk<=ca) (hcb:ny<=cb) (hk9:nk<=4194304) (hkl:∀ q ∈ keys,q.length<=4194304)
  (ih:∀ x ∈ kids,tM x) (hn:(7::(aE true kids keys++[0])).length<=100000000000) :
  Calls Tryz.prog 98 #[.agg #[.int .i64 6,.int .i64 v,.string ⟨t.toArray⟩,.slice A nk ca,.slice B ny cb]] w (TxP (7::(aE true kids keys++[0])) w):=by
 obtain ⟨i0,hi,hz0,hz1,hz2⟩:=info_parts bT;have HI:=aW hi;have HH0:=aW ((aj.nil w).push 25 #[.int .i64 6,.int .i64 v,.string ⟨t.toArray⟩,.slice A nk ca,.slice B ny cb] (g:=w.heap.size) rfl);obtain ⟨W0,hW0⟩:∃ W0,w.alloc (.cells #[.int .i64 6,.int .i64 v,.string ⟨t.toArray⟩,.slice A nk ca,.slice B ny cb] 25)=W0:=⟨_,rfl⟩
 rw [hW0] at HH0;have HW0:=aW hW0;obtain ⟨base,hbase⟩:∃ b,W0.heap.size=b:=⟨_,rfl⟩
 have HFIN:=aW (λ (r:Value) (k:Nat) (w':World) (ho:bc base r k (7::(aE true kids keys++[0])) w') (hb:Below base W0 w')=>show TxP (7::(aE true kids keys++[0])) w (.returned r) w' from ⟨r,k,rfl,ho.le (hbase ▸ HH0.out.1.size),HH0.out.1.trans (hb.mono (hbase ▸ HH0.out.1.size))⟩);have H2P:=aW (show bc base (.slice (some ⟨W0.heap.size,0,none⟩) 1 1) 1 [7] (W0.alloc (.cells #[.int .u8 7] 5))/\Below base W0 (W0.alloc (.cells #[.int .u8 7] 5)) from hbase ▸ ⟨bc.lit _ W0 [7] 1 rfl (Nat.le_refl _) (by omega),(Below.refl _ W0).alloc (Nat.le_refl _) _⟩);have HVS:=aW (And.intro hvs (And.intro hrA hrB));have HIH:=aW ih;have HKL:=aW hkl;have HKK:=aW hkk;have HNK:=aW hnk;have HNY:=aW hny;have HLE:=aW (gF true kids keys);have hcl:(aE true kids keys).length+2<=100000000000:=by rw [List.length_cons,List.length_append] at hn;simp at hn;omega
 have HKF:=aW (λ (wr:World) (hg:Below base W0 wr)=>show af F w wr from af.of_below (HH0.out.1.trans (hg.mono (hbase ▸ HH0.out.1.size))));have HBX:=aW (λ (wr:World) (hg:Below base W0 wr)=>HH0.out.b0.below hg (hbase ▸ HH0.out.b0.lt));have HBS:=aW (show base<=W0.heap.size from Nat.le_of_eq hbase.symm);clear hi hW0 hvs hrA hrB ih hkl hnk hny hn hkk;obtain ⟨c0,f0,l0⟩:=HH0.out.b0.rules;go_enter Tryz.func98,Tryz.ntmps98;go_upto_region 1 with fail;rw [HW0.out];go_upto_region 17 with fail;rw [hbase] at H2P;obtain ⟨W1,hW1⟩:∃ W1,W0.alloc (.cells #[.int .u8 7] 5)=W1:=⟨_,rfl⟩
 rw [hW1] at H2P ⊢;clear hW1 hbase HW0 c0 f0 l0;obtain ⟨c0,f0,l0⟩:=(HBX.out _ H2P.out.2).rules;go_wp2;clear c0 f0 l0;go_loopg [6,7] nk (λ gk s6 s7 wr => ∃ (i m:Nat) (r:Value),r=s6/\i<=nk/\gk=nk-i/\s7=.int .i64 (i:Int)/\Hid (bc base r m (7::aE true (kids.take i) keys) wr)/\Hid (Below base W0 wr))
 case atStart=>exact ⟨0,1,_,rfl,Nat.zero_le _,by go_num,by first | rfl | go_num,aW (by rw [List.take_zero,eO];exact H2P.out.1),aW H2P.out.2⟩
 case round =>
  obtain ⟨i,m,r,rfl,hi,hgk,rfl,HOW,HGW⟩:=hrel;have HG:=aW hgk;clear hgk H2P;obtain ⟨c0,f0,l0⟩:=(HBX.out _ HGW.out).rules;have hmn:m=1+(aE true (kids.take i) keys).length:=by
   have h1:=HOW.out.1;rw [List.length_cons] at h1;omega
  have hle:=HLE.out i (by rw [HNK.out];exact hi);by_cases hlt:i<nk
  ·obtain ⟨x,hx⟩:∃ x,kids[i]? = some x:=⟨_,List.getElem?_eq_getElem (by rw [HNK.out];exact hlt)⟩
   have hKF:=HKF.out _ HGW.out;obtain ⟨b,o,kx,nx,sx,Ax,nax,cax,Bx,nbx,cbx,rfl,hb,hfb,hvx,hz⟩:=fd HVS.out.1 HVS.out.2.1 hx;have hlb:b<wr.heap.size:=Nat.lt_of_lt_of_le hb hKF.1;have hsn:=dB true i kids keys x hx;have hle2:=HLE.out (i+1) (by rw [HNK.out];omega);rw [hsn,List.length_append,List.length_append] at hle2;have HSN:=aW hsn;have HVX:=aW hvx;have HZ:=aW hz;have HIX:=aW (HIH.out x (List.mem_of_getElem? hx));have hy:i<keys.length:=by rw [HNY.out];have:=HKK.out (by first | trivial | rfl);omega
   have hrd:=(HVS.out.2.2).keep hKF;obtain ⟨by_,oy,rfl,hby,_,hcy⟩:=hrd (by intro e;have:=cP keys;rw [e] at this;simp at this;omega);have y0:wr.cell? ⟨by_,oy+i,none⟩=some (.string ⟨keys[i].toArray⟩):=by rw [hcy i (by rw [cP];exact hy)];simp [cQ]
   have hkd:keys.getD i []=keys[i]:=by rw [List.getD_eq_getElem?_getD,List.getElem?_eq_getElem hy,Option.getD_some]
   have hkc:(if true=true then bL (keys.getD i []) else [])=bL keys[i]:=by rw [if_pos rfl,hkd]
   rw [hkc] at hle2;obtain ⟨ky,hky⟩:∃ q,keys[i]=q:=⟨_,rfl⟩
   have hkyl:ky.length<=4194304:=by rw [← hky];exact HKL.out _ (List.getElem_mem hy)
   rw [hky] at y0 hle2 hkc;have HKC:=aW hkc;have hiny:i<ny:=by have:=HKK.out (by first | trivial | rfl);omega
   have HTX:=aW (qW ky wr hkyl);clear hz hx hb hfb hvx hKF hsn hrd hcy hkc hkd hky hy;go_wp2_with fail;refine HTX.out.mono ?_;rintro e w3 ⟨rt,nt,rfl,hot,hbt⟩;obtain ⟨A3,c3,rfl,hn3,ha3,hr3⟩:=aP hot.2.1;have hnt:=hot.1;have HO3:=aW (HOW.out.bel hbt);have HB3:=aW (HGW.out.trans (hbt.mono HOW.out.2.2));have HR3:=aW hr3.rd;have HN3:=aW (im hn3 ha3);have HL3:=aW (show (al (bL ky)).length=nt*1 by rw [bJ,hnt];omega);have HNT:=aW hnt;clear hot hbt hr3 ha3 hn3 y0 c0 f0 l0 hlb;go_upto_region 22 with (at_builtin;refine ag _ rfl _ _ 76 rfl base 5 i0 _ 1 1 Tryz.underlying76 HI.out hz0 hz1 hz2 rfl (by decide) r m (al (7::aE true (kids.take i) keys)) rfl HO3.out.2.1 A3 nt c3 HN3.out (al (bL ky)) rfl HL3.out HR3.out (aC _) (by unfold maxLen;omega) (by omega) HO3.out.2.2 ?_;intro row5 w5 hown5 hgr5 hob5);have H5P:=aW (HO3.out.post0 (m:=bL ky) (M:=nt) hown5 HNT.out hgr5 hob5);have HB5:=aW (HB3.out.trans H5P.out.2);clear hown5 hgr5 hob5;have hkf5:=HKF.out _ HB5.out;obtain ⟨z0,z1,z2,z3,z4⟩:=HZ.out _ hkf5;obtain ⟨c0,f0,l0⟩:=(HBX.out _ HB5.out).rules;have hlb:b<w5.heap.size:=World.block_lt_of_cell? w5 _ z0;have HCL:=aW (HIX.out _ _ w5 (HVX.out.keep hkf5) (by omega));have HO5:=aW H5P.out.1;clear hkf5;go_wp2_with fail;refine HCL.out.mono ?_;rintro e w6 ⟨rt6,n6,rfl,ho6,hb6⟩;obtain ⟨A6,c6,rfl,hn6,ha6,hr6⟩:=aP ho6.2.1;have hn6':=ho6.1;have HO6:=aW (HO5.out.bel hb6);have HB6:=aW (HB5.out.trans (hb6.mono HO5.out.2.2));have HR6:=aW hr6.rd;have HN6:=aW (im hn6 ha6);have HL6:=aW (show (al (aJ x)).length=n6*1 by rw [bJ,hn6'];omega);have HNT6:=aW hn6';have hnt2:=HNT.out;clear ho6 hb6 hr6 ha6 hn6 z0 z1 z2 z3 z4 c0 f0 l0 hlb;go_wp2_with (at_builtin;refine ag _ rfl _ _ 76 rfl base 5 i0 _ 1 1 Tryz.underlying76 HI.out hz0 hz1 hz2 rfl (by decide) row5 (m+nt) (al (7::aE true (kids.take i) keys++bL ky)) rfl HO6.out.2.1 A6 n6 c6 HN6.out (al (aJ x)) rfl HL6.out HR6.out (aC _) (by unfold maxLen;omega) (by omega) HO6.out.2.2 ?_;intro row7 w7 hown7 hgr7 hob7);have H7P:=aW (HO6.out.post0 (m:=aJ x) (M:=n6) hown7 HNT6.out hgr7 hob7);clear hown7 hgr7 hob7;go_roundg (nk-(i+1))
   case measure=>rw [HG.out];omega
   case rel=>exact ⟨i+1,(m+nt)+n6,row7,rfl,by omega,rfl,by go_num,aW (by rw [HSN.out,HKC.out];have:=H7P.out.1;simpa using this),aW (HB6.out.trans H7P.out.2)⟩
  ·obtain rfl:i=nk:=by omega
   have hl:kids.take i=kids:=List.take_of_length_le (Nat.le_of_eq HNK.out);rw [hl] at HOW;clear hl;have HA3:=aW (HOW.out.2.1.alloc (.cells #[.int .u8 0] 5));have HR3:=aW (Rd.of_blk (Blk.new wr 5 #[.int .u8 0]));have HB3:=aW (show base<=(wr.alloc (.cells #[.int .u8 0] 5)).heap.size by have:=HOW.out.2.2;simp;omega);go_wp2_with (at_builtin;refine ag _ rfl _ _ 76 rfl base 5 i0 _ 1 1 Tryz.underlying76 HI.out hz0 hz1 hz2 rfl (by decide) r m (al (7::aE true kids keys)) rfl HA3.out (some ⟨wr.heap.size,0,none⟩) 1 1 (λ h=>by cases h) [.int .u8 0] rfl rfl HR3.out (aC [0]) (by unfold maxLen;omega) (by omega) HB3.out ?_;intro row3 w3 hown3 hgr3 hob3);have H3P:=aW (HOW.out.post (m:=[0]) (M:=1) hown3 rfl hgr3 hob3);clear hown3 hgr3 hob3 HA3 HR3 HB3;have HX:=aW (HFIN.out _ _ _ (by have:=H3P.out.1;simpa using this) (HGW.out.trans (HOW.out.gb H3P.out.2)));go_ret;exact HX.out
theorem tU:∀ (N:Nat) (v:JV),ar v<=N->∀ d,aN d v=true->au v->tM v
 | 0,v,h,_,_,_=>by have:=bj v;omega
 |N+1,.mk k n s kids keys,hN,d,hg,hc=>by
  intro cs F w hv hn;obtain ⟨h1,_,h3⟩:=aK hg;obtain ⟨_,hiw,hsl,hkl,hyl,hyy,hkc⟩:=hc.out;have ih:∀ x ∈ kids,tM x:=λ x hx=>tU N x (by unfold ar at hN;have:=eS hx;omega) (d-1) (bC.1 h3 x hx) (hkc x hx)
  obtain ⟨A,B,ca,cb,css,rfl,hvs,hca,hcb,_,_,hrA,hrB⟩:=hv.out;have hk:=aH h1;rcases (by omega:k=1∨k=2∨k=3∨k=4∨k=5∨k=6) with rfl | rfl | rfl | rfl | rfl | rfl
  ·have e:aJ (.mk 1 n s kids keys)=[1]:=by unfold aJ;rfl
   rw [e];exact vm w n s A B _ ca _ cb
  ·have hn01:n=0∨n=1:=by unfold aI at h1;simp at h1;exact h1.1.1.1
   rcases hn01 with rfl | rfl
   ·have e:aJ (.mk 2 0 s kids keys)=[2]:=by unfold aJ;rfl
    rw [e];exact tC w 0 s A B _ ca _ cb
   ·have e:aJ (.mk 2 1 s kids keys)=[3]:=by unfold aJ;rfl
    rw [e];exact tF w 0 s A B _ ca _ cb
  ·have e:aJ (.mk 3 n s kids keys)=iS n:=by unfold aJ;rfl
   rw [e];exact uK w n s A B _ ca _ cb hiw
  ·have e:aJ (.mk 4 n s kids keys)=bL s:=by unfold aJ;rfl
   rw [e];exact vh w n s A B _ ca _ cb hsl
  ·have e:aJ (.mk 5 n s kids keys)=6::(aE false kids keys++[0]):=by unfold aJ;rfl
   rw [e] at hn ⊢;exact uq w F n s A B _ ca _ cb kids keys css hvs hrA hrB rfl rfl (λ h=>by cases h) hca hcb hkl hyy ih hn
  ·have e:aJ (.mk 6 n s kids keys)=7::(aE true kids keys++[0]):=by unfold aJ;rfl
   rw [e] at hn ⊢;exact ur w F n s A B _ ca _ cb kids keys css hvs hrA hrB rfl rfl (λ _=>(dx h1).2.2.1) hca hcb hkl hyy ih hn
theorem iH (a b:List UInt8):(⟨a.toArray⟩:ByteArray)++⟨b.toArray⟩=⟨(a++b).toArray⟩:=by apply fI;simp [sl]
theorem mH {a b c:List UInt8} (h:a++b=c):Ending.returned (.string ((⟨a.toArray⟩:ByteArray)++⟨b.toArray⟩))=.returned (.string ⟨c.toArray⟩):=by rw [iH,h]
theorem eR (N:Nat):cj (N:Int)=eA N:=by unfold cj;rw [if_neg (by omega),Int.natAbs_natCast]
theorem j1 (N:Nat) (h:0<N):cj (-(N:Int))=45::eA N:=by unfold cj;rw [if_pos (by omega),Int.natAbs_neg,Int.natAbs_natCast]
def msr (n:Int):Nat:=2*n.natAbs+(if n<0 then 1 else 0)
theorem tn {n:Int} (h:n<0):msr n=2*n.natAbs+1:=by unfold msr;rw [if_pos h]
theorem pJ {n:Int} (h:¬ n<0):msr n=2*n.natAbs:=by unfold msr;rw [if_neg h];omega
theorem lU (n:Int):msr n<=2*n.natAbs+1:=by unfold msr;split<;>omega
theorem rT (n:Int) (hn:iw n) (ih:∀ m:Int,iw m->msr m<msr n->∀ w,Calls Tryz.prog 143 #[.int .i64 m] w (gK (cj m) w)) (w:World):Calls Tryz.prog 143 #[.int .i64 n] w (gK (cj n) w):=by
 unfold iw at hn;by_cases h0:n<0
 ·obtain ⟨N,rfl⟩:∃ N:Nat,n = -(N:Int):=⟨n.natAbs,by omega⟩
  rw [tn h0] at ih;by_cases h1:-10 < -(N:Int)
  ·have HI:=aW (λ w=>ih (N:Int) (by unfold iw;omega) (by rw [pJ (by omega)];omega) w);have hw:IntKind.i64.wrap (-(-(N:Int)))=(N:Int):=by rw [IntKind.wrap_i64];omega
   have HF:=aW (show [45]++cj (N:Int)=cj (-(N:Int)) by rw [eR,j1 N (by omega)];rfl);have hlb:=eW (n:=(N:Int)) (by unfold iw;omega);clear ih;go_enter Tryz.func143,Tryz.ntmps143;go_wp2_with fail;refine (HI.out _).mono ?_;rintro e w1 ⟨rfl,hb1⟩;go_wp2;go_ret;exact ⟨mH HF.out,hb1⟩
  ·have h1':-(N:Int) <= -10:=by omega
   have e1:(-(N:Int)).tdiv 10 = -((N / 10:Nat):Int):=by rw [Int.neg_tdiv];congr 1
   have e2:(-(N:Int)).tmod 10 = -((N % 10:Nat):Int):=by rw [Int.neg_tmod];congr 1
   have HI1:=aW (λ w=>ih (-((N / 10:Nat):Int)) (by unfold iw;omega) (by have:=lU (-((N / 10:Nat):Int));omega) w);have HI2:=aW (λ w=>ih ((N % 10:Nat):Int) (by unfold iw;omega) (by have:=lU ((N % 10:Nat):Int);omega) w);have HF:=aW (show cj (-((N / 10:Nat):Int))++cj ((N % 10:Nat):Int)=cj (-(N:Int)) by
    rw [eR,j1 N (by omega),j1 (N / 10) (by omega),fL (show 10<=N by omega),dE (show N % 10<10 by omega)];rfl)
   obtain ⟨T1,hT1⟩:∃ T,cj (-((N / 10:Nat):Int))=T:=⟨_,rfl⟩
   obtain ⟨T2,hT2⟩:∃ T,cj ((N % 10:Nat):Int)=T:=⟨_,rfl⟩
   have hl1:T1.length<=20:=by rw [← hT1];exact eW (by unfold iw;omega)
   have hl2:T2.length<=20:=by rw [← hT2];exact eW (by unfold iw;omega)
   rw [hT1] at HI1 HF;rw [hT2] at HI2 HF;rw [← e1] at HI1;have e3:((N % 10:Nat):Int) = -((-(N:Int)).tmod 10):=by rw [e2];omega
   rw [e3] at HI2;obtain ⟨n,hn9⟩:∃ n:Int,n = -(N:Int):=⟨_,rfl⟩
   rw [← hn9] at HI1 HI2 HF h0 h1' hn h1 ⊢;have hw:IntKind.i64.wrap (-(n.tmod 10)) = -(n.tmod 10):=by rw [hn9,← e3,IntKind.wrap_i64];omega
   clear ih hn9 e1 e2 e3 hT1 hT2;go_enter Tryz.func143,Tryz.ntmps143;go_wp2_with fail;refine (HI1.out _).mono ?_;rintro e w1 ⟨rfl,hb1⟩;go_wp2_with fail;refine (HI2.out _).mono ?_;rintro e w2 ⟨rfl,hb2⟩;go_wp2;go_ret;exact ⟨mH HF.out,hb1.trans (hb2.mono hb1.size)⟩
 ·obtain ⟨N,rfl⟩:∃ N:Nat,n=(N:Int):=⟨n.toNat,by omega⟩
  rw [pJ h0] at ih;by_cases h10:(N:Int)<10
  ·have hd:=dE (show N<10 by omega);have h48:=oN8 (48+N) (by omega);have hbs:=BS.lit w (eA N) #[.int .u8 (48+(N:Int))] (by rw [hd];simp only [al,List.map_cons,List.map_nil,h48];rfl) 1 (by rw [hd];rfl);have hcv:=hbs.conv;rw [← eR] at hcv;clear ih hbs hd h48;go_enter Tryz.func143,Tryz.ntmps143;go_wp2;go_ret;exact ⟨rfl,(Below.refl _ w).alloc (Nat.le_refl _) _⟩
  ·have HI1:=aW (λ w=>ih ((N / 10:Nat):Int) (by unfold iw;omega) (by have:=lU ((N / 10:Nat):Int);omega) w);have HI2:=aW (λ w=>ih ((N % 10:Nat):Int) (by unfold iw;omega) (by have:=lU ((N % 10:Nat):Int);omega) w);have HF:=aW (show cj ((N / 10:Nat):Int)++cj ((N % 10:Nat):Int)=cj (N:Int) by
    rw [eR,eR,eR,fL (show 10<=N by omega),dE (show N % 10<10 by omega)])
   obtain ⟨T1,hT1⟩:∃ T,cj ((N / 10:Nat):Int)=T:=⟨_,rfl⟩
   obtain ⟨T2,hT2⟩:∃ T,cj ((N % 10:Nat):Int)=T:=⟨_,rfl⟩
   have hl1:T1.length<=20:=by rw [← hT1];exact eW (by unfold iw;omega)
   have hl2:T2.length<=20:=by rw [← hT2];exact eW (by unfold iw;omega)
   rw [hT1] at HI1 HF;rw [hT2] at HI2 HF;rw [show ((N / 10:Nat):Int)=(N:Int) / 10 by omega] at HI1;rw [show ((N % 10:Nat):Int)=(N:Int) % 10 by omega] at HI2;clear ih hT1 hT2;go_enter Tryz.func143,Tryz.ntmps143;go_wp2_with fail;refine (HI1.out _).mono ?_;rintro e w1 ⟨rfl,hb1⟩;go_wp2_with fail;refine (HI2.out _).mono ?_;rintro e w2 ⟨rfl,hb2⟩;go_wp2;go_ret;exact ⟨mH HF.out,hb1.trans (hb2.mono hb1.size)⟩
theorem pu:∀ (K:Nat) (n:Int),iw n->msr n<K->∀ w,Calls Tryz.prog 143 #[.int .i64 n] w (gK (cj n) w)
 | 0,_,_,h,_=>absurd h (Nat.not_lt_zero _)
 | K+1,n,hn,h,w=>rT n hn (λ m hm h'=>pu K m hm (by omega)) w
theorem yt (n:Int) (hn:iw n) (w:World):Calls Tryz.prog 143 #[.int .i64 n] w (gK (cj n) w):=pu _ n hn (Nat.lt_succ_self _) w
end
end Go.Proofs.YtgolomgmnanbpaaGreatDoor
