import Derived.Test.YtgolomgmnanbpaaGreatDoorV20
import Derived.Test.YtgolomgmnanbpaaGreatDoorV21
open Go.Value renaming int → Zi, slice → Zs, string → Zt, pointer → Zp
open Go.IntKind renaming i64 → Zq
set_option maxRecDepth 100000
set_option maxHeartbeats 16000000
set_option linter.unusedVariables false
set_option linter.unusedSimpArgs false
namespace Go.Proofs.YtgolomgmnanbpaaGreatDoor
section
open Go.RowKit Go.Shelf
attribute [local go_sem] aa ac ae ab
abbrev BnV:=(List UInt8 × JV) × Array Value
def sX (x:BnV):Array Value:=#[.agg x.2]
def xB (w0:World) (F:Nat->Prop) (env:List (List UInt8 × JV)) (pre:List BnV) (x:BnV):Prop:=BnR w0 F x.2.toList x.1/\(pre++[x]).map Prod.fst <+: env.reverse
theorem gl {W:World} {F:Nat->Prop} {css:List (List Value)} {xs:List (List UInt8 × JV)} {A:Option Addr} (h:dL W F css xs) (hr:RdF W F A css.flatten) {i:Nat} {x:List UInt8 × JV} (hx:xs[i]? = some x) :
  ∃ (b o:Nat) (k n:Int) (s:ByteArray) (A':Option Addr) (na ca:Nat) (B':Option Addr) (nb cb:Nat),A=some ⟨b,o,none⟩/\b<W.heap.size/\F b/\VR W F [Zi Zq k,Zi Zq n,Zt s,Zs A' na ca,Zs B' nb cb] x.2 /\
   ∀ W',af F W W'->W'.cell? ⟨b,o+i*6,none⟩=some (Zt ⟨x.1.toArray⟩)/\W'.cell? ⟨b,o+i*6+1,none⟩=some (Zi Zq k)/\W'.cell? ⟨b,o+i*6+2,none⟩=some (Zi Zq n)/\W'.cell? ⟨b,o+i*6+3,none⟩=some (Zt s)/\W'.cell? ⟨b,o+i*6+4,none⟩=some (Zs A' na ca)/\W'.cell? ⟨b,o+i*6+5,none⟩=some (Zs B' nb cb):=by
 obtain ⟨b,o,c,rfl,hb,hFb,hc,hv,hz⟩:=h.cell (λ c x h=>h.len) (by decide) hr hx;obtain ⟨vcs,rfl,hvr⟩:=hv;obtain ⟨k,n,s,A',na,ca,B',nb,cb,rfl⟩:=hvr.form;refine ⟨b,o,k,n,s,A',na,ca,B',nb,cb,rfl,hb,hFb,hvr,λ W' hW=>?_⟩;have z:=λ (j:Nat) u (hj:j<6) hu=>(World.cell?_of_block (w:=W) (a:=⟨b,o+(i*6+j),none⟩) (hW.2 b hFb hb)).trans (hz j u hj hu)
 exact ⟨z 0 _ (by decide) rfl,z 1 _ (by decide) rfl,z 2 _ (by decide) rfl,z 3 _ (by decide) rfl,z 4 _ (by decide) rfl,z 5 _ (by decide) rfl⟩
theorem qw (mb:Nat) (w:World) :
  Calls Tryz.prog 121 #[Zp (some ⟨mb,0,none⟩)] w λ e w'=>e=.returned (.func (.func 164) #[] #[Zp (some ⟨w.heap.size,0,none⟩)])/\w.alloc (.cells #[Zp (some ⟨mb,0,none⟩)] 84)=w':=by
 have hmf:∀ (fn:Fn) (first cap:Array Value) (w:World),(Instr.makeFunc fn first cap).run Tryz.prog w=.ok (.func fn first cap) w:=λ _ _ _ _=>rfl
 go_enter Tryz.func121,Tryz.ntmps121;go_wp2;go_ret;exact ⟨rfl,rfl⟩
theorem qV {α:Type} {l:List α} {j:Nat} {x:α} (hx:l[j]? = some x):l.reverse.take (l.length-j)=l.reverse.take (l.length-(j+1))++[x]:=by
 have hlt:j<l.length:=(List.getElem?_eq_some_iff.1 hx).1;have e:l.length-j=l.length-(j+1)+1:=by omega
 rw [e,List.take_add_one];congr 1;rw [List.getElem?_reverse (by omega),show l.length-1-(l.length-(j+1))=j by omega,hx];rfl
theorem qC (l:Nat) (w0:World) (C:Nat->Prop) (F:Nat->Prop) (env:List (List UInt8 × JV)) (ecs:List (List Value)) (mb vb n ec:Nat) (EA:Option Addr) (p mv:Value) (J Jx:List BnV->World->Prop) (W:World) (hC0:∀ k,C k->w0.heap.size<=k) (hvC:¬ C vb)
  (hMB:Blk w0 mb 88 #[p,Zs EA n ec,mv]) (hE:dL w0 F ecs env) (hn:env.length=n) (hnc:n<=ec) (hr:RdF w0 F EA ecs.flatten) (hlen:n<=4194304)
  (hY:∀ pre x W1,J pre W1->xB w0 F env pre x->YieldAt Fence.wide 1 Tryz.prog l (sX x) W1 λ e W'=>(e=.returned (.bool true)/\J (pre++[x]) W'/\KpC C w0.heap.size W1 W')∨(e=.returned (.bool false)/\Jx (pre++[x]) W'/\KpC C w0.heap.size W1 W'))
  (hK:af fh w0 W) (hvb:Blk W vb 84 #[Zp (some ⟨mb,0,none⟩)]) (hJ0:J [] W) :
  CallsIn Fence.wide 2 Tryz.prog 164 #[.func (.yield l) #[] #[],Zp (some ⟨vb,0,none⟩)] W λ e W'=>(∃ v,e=.returned v)/\((∃ xs,xs.map Prod.fst=env.reverse/\J xs W')∨(∃ pre,True/\Jx pre W')):=by
 have HMB:=aW hMB;have HK:=aW hK;have HE:=aW (And.intro hE hr);have HN:=aW hn;have HVB:=aW hvb;have HY:=aW hY;have HC0:=aW (And.intro hC0 hvC);have HJ0:=aW hJ0;have hmW:Blk W mb 88 #[p,Zs EA n ec,mv]:=(hK.2 mb trivial hMB.lt).trans hMB;obtain ⟨c0,f0,l0⟩:=hvb.rules;obtain ⟨c1,f1,l1⟩:=hmW.rules;clear hMB hK hE hr hn hvb hY hC0 hvC hJ0 hmW;refine callsIn_of_wp Tryz.func164 rfl trivial ?_ rfl;simp only [Tryz.ntmps164,List.size_toArray,List.length_cons,List.length_nil,Nat.reduceAdd,Nat.reduceSub,Array.replicate_succ,Array.replicate_zero,List.push_toArray,List.append_toArray,List.nil_append,List.cons_append];gi_wp2;clear c0 f0 l0 c1 f1 l1
 gi_loopg [3] n (λ gk s3 wr => ∃ (i:Nat) (pre:List BnV),i<=n/\gk=i/\s3=Zi Zq (i:Int)/\Hid (pre.map Prod.fst=env.reverse.take (n-i))/\Hid (J pre wr)/\Hid (KpC C w0.heap.size W wr))
 case atStart=>exact ⟨n,[],Nat.le_refl _,by go_num,rfl,aW (by simp),HJ0,aW (KpC.refl _ _ _)⟩
 case round =>
  obtain ⟨i,pre,hi,hgk,rfl,HPR,HJ,HKP⟩:=hrel;have HG:=aW hgk;clear hgk HJ0;by_cases h0:i=0
  ·subst h0;gi_wp2;go_end0;exact ⟨⟨_,rfl⟩,.inl ⟨pre,by rw [HPR.out,List.take_of_length_le (by rw [List.length_reverse,HN.out];omega)],HJ.out⟩⟩
  ·obtain ⟨j,hj⟩:∃ j,i=j+1:=⟨i-1,by omega⟩
   obtain ⟨x,hx⟩:∃ x,env[j]? = some x:=⟨_,List.getElem?_eq_getElem (by rw [HN.out];omega)⟩
   obtain ⟨b,o,k,m,s,A',na,ca,B',nb,cb,rfl,hb,hFb,hvx,hz⟩:=gl HE.out.1 HE.out.2 hx;have hKF:af fh w0 wr:=HKP.out.keepF HK.out HC0.out.1;obtain ⟨z0,z1,z2,z3,z4,z5⟩:=hz wr ⟨hKF.1,λ b _ hb=>hKF.2 b trivial hb⟩;have hlb:b<wr.heap.size:=Nat.lt_of_lt_of_le hb hKF.1;obtain ⟨c0,f0,l0⟩:=(HKP.out.blk HVB.out HC0.out.2).rules;obtain ⟨c1,f1,l1⟩:=Blk.rules (w:=wr) (g:=mb) (t:=88) (cs:=#[p,Zs (some ⟨b,o,none⟩) n ec,mv]) ((hKF.2 mb trivial HMB.out.lt).trans HMB.out);have hpr:(pre++[((x,#[Zt ⟨x.1.toArray⟩,Zi Zq k,Zi Zq m,Zt s,Zs A' na ca,Zs B' nb cb]):BnV)]).map Prod.fst=env.reverse.take (n-j):=by
    rw [List.map_append,HPR.out];have:=qV hx;rw [HN.out] at this;rw [this,hj];rfl
   have HPN:=aW hpr;obtain ⟨fn,tmps,assign,body,hy,hR⟩:=HY.out pre (x,#[Zt ⟨x.1.toArray⟩,Zi Zq k,Zi Zq m,Zt s,Zs A' na ca,Zs B' nb cb]) wr HJ.out ⟨⟨_,rfl,hvx⟩,by rw [hpr];exact List.take_prefix _ _⟩;unfold sX at hy;simp only at hy;have hw1:IntKind.i64.wrap ((i:Int)-1)=(j:Int):=by rw [IntWalk.i64_in _ (by omega)];omega
   have hi0:(0:Int)<(i:Int):=by omega
   have hjn:j<n:=by omega
   have hji:(j:Int)<(n:Int):=by omega
   have HJI:=aW hj;clear hz hx hb hFb hvx hpr h0 hj;gi_wp2;refine hR.mono ?_;rintro e W3 (⟨rfl,hJ3,hk3⟩ | ⟨rfl,hJx3,hk3⟩)
   ·have HJ3:=aW hJ3;have HK3:=aW (HKP.out.trans hk3);clear hJ3 hk3 hR hy z0 z1 z2 z3 z4 z5 c0 f0 l0 c1 f1 l1;gi_wp2
    gi_roundg j
    case measure=>rw [HG.out,HJI.out];omega
    case rel=>exact ⟨j,_,by omega,rfl,by go_num,HPN,HJ3,HK3⟩
   ·have HJX:=aW hJx3;clear hJx3 hk3 hR hy z0 z1 z2 z3 z4 z5 c0 f0 l0 c1 f1 l1;gi_wp2;refine bodyPost_ret (results_none rfl _ _ _) rfl ?_;exact ⟨⟨_,rfl⟩,.inr ⟨_,trivial,HJX.out⟩⟩
end
section
open Go.RowKit
attribute [local go_sem] aa ac ae ab
mutual
theorem rK:∀ (r:Nat) (x:EJ),dpR r x<=13+r
 |r,.mk k v s kids=>by
  unfold dpR;split
  ·omega
  ·split
   ·split
    ·omega
    ·rename_i hr _ _ m hm
     have:=rL (r-1) kids m hm;show m+1<=13+r
     omega
   ·omega
theorem rL:∀ (r:Nat) (l:List EJ) (m:Nat),dpL r l=some m->m<=13+r
 |r,[],m,h=>by
  rw [dpL] at h;obtain rfl:=Option.some.inj h;omega
 |r,x::l,m,h=>by
  rw [dpL] at h;split at h
  ·cases h
  ·split at h
   ·cases h
   ·rename_i q hq
    obtain rfl:=Option.some.inj h;have h1:=rK r x;have h2:=rL r l q hq;omega
end
theorem nX (r:Nat) (l:List EJ) (x:EJ):dpF r (l++[x])=if dpF r l<dpR r x then dpR r x else dpF r l:=by
 unfold dpF;rw [List.foldl_append];rfl
def DpS (n:Int) (w:World) (e:Ending) (w':World):Prop:=e=.returned (Zi Zq n)/\Below w.heap.size w w'
theorem xr:∀ (r:Nat) (x:EJ) (cs:List Value) (q:Int) (w:World),q=r->r<=13->ER w TT cs x->bh x->Calls Tryz.prog 14 #[.agg cs.toArray,Zi Zq q] w (DpS (dpR r x:Nat) w):=by
 intro r
 induction r with
 |zero =>
  rintro ⟨k,v,s,kids⟩ cs q w rfl hr hx hcx;obtain ⟨k1,n1,s1,A1,na1,ca1,B1,nb1,cb1,A,ca,css0,rfl,_⟩:=hx.out;clear hx hcx hr;obtain ⟨g,hg⟩:∃ g:Int,((dpR 0 (.mk k v s kids):Nat):Int)=g:=⟨_,rfl⟩
  obtain rfl:g=13:=by rw [← hg,dpR,if_pos rfl];rfl
  rw [hg];clear hg;go_enter Tryz.func14,Tryz.ntmps14;go_wp2;go_ret;exact ⟨rfl,by go_grown⟩
 |succ r ih =>
  rintro ⟨k,v,s,kids⟩ cs q w hq hr hx hcx;obtain ⟨k1,n1,s1,A1,na1,ca1,B1,nb1,cb1,A,ca,css0,rfl,hv,h1,h2,h3,h4⟩:=hx.out;unfold bh at hcx;obtain ⟨_,hcv,_,hkl,hkc⟩:=hcx;have HCK:=aW (cz.1 hkc);have HKD:=aW (And.intro h1 h4);have HLI:=aW (λ (W:World) (h:Below w.heap.size w W)=>yv v _ TT W (hv.bel h) hcv);have HZE:=aW (λ (W:World) (h:Below w.heap.size w W)=>rI v _ TT W (hv.bel h));have HIH:=aW (show ∀ (x:EJ) (cs:List Value) (w:World),ER w TT cs x->bh x->Calls Tryz.prog 14 #[.agg cs.toArray,Zi Zq (q-1)] w (DpS (dpR r x:Nat) w) from λ x cs w h1 h2=>ih x cs (q-1) w (by omega) (by omega) h1 h2);obtain ⟨nr,hnr⟩:∃ n,kids.length=n:=⟨_,rfl⟩
  have HNR:=aW hnr;obtain ⟨gn,hgn⟩:∃ g:Int,((dpR (r+1) (.mk k v s kids):Nat):Int)=g:=⟨_,rfl⟩
  have HGN:=aW (show gn=((if okX k v s nr=true then (match dpL r kids with | none=>0 | some m=>m+1) else 0:Nat):Int) by rw [← hgn,dpR,if_neg (by omega),hnr];rfl);have HXN:=aW (show okX k v s nr≠true->gn=0 from λ h=>by rw [HGN.out,if_neg h];rfl);have HAB:=aW (tv k v s nr);rw [hnr] at hkl h2 ⊢;rw [hgn];have HH0:=aW ((aj.nil w).push 28 #[Zi Zq k,Zi Zq k1,Zi Zq n1,Zt s1,Zs A1 na1 ca1,Zs B1 nb1 cb1,Zt ⟨s.toArray⟩,Zs A nr ca] (g:=w.heap.size) rfl);have hq1:1<=q:=by omega
  have hq14:q<=13:=by omega
  have hq0:(q == 0)=false:=by simp;omega
  have hq0':¬ q=0:=by omega
  have hqw:IntKind.i64.wrap (q-1)=q-1:=by rw [IntKind.wrap_i64];omega
  have HRR:=aW hr;obtain ⟨kn,hkn⟩:∃ z,ex k=z:=⟨_,rfl⟩
  have HKN:=aW (λ (W:World)=>vQ k kn hkn W);clear hx hv h1 h4 hkc hnr ih hgn hq hr hcv;obtain ⟨c0,f0,l0⟩:=HH0.out.b0.rules;obtain ⟨oa,hoa⟩:∃ b,okA k nr=b:=⟨_,rfl⟩
  cases oa with
  |false =>
   obtain rfl:gn=0:=HXN.out (by rw [HAB.out,hoa];simp);have hcase:k<1∨(1<=k/\15<k)∨(1<=k/\k<=15/\0<=kn/\(nr:Int)≠kn):=by
    unfold okA at hoa;rw [Bool.and_eq_false_iff,decide_eq_false_iff_not,Bool.or_eq_false_iff,decide_eq_false_iff_not,decide_eq_false_iff_not,hkn] at hoa;omega
   clear hoa HXN HAB HGN hkn;rcases hcase with hk | ⟨hk,hk2⟩ | ⟨hk,hk2,hk3,hk4⟩
   ·have e1:decide (k<1)=true:=decide_eq_true hk;go_enter Tryz.func14,Tryz.ntmps14;go_upto_region 3 with fail;go_quiet (fail);go_wp2;go_ret;exact ⟨rfl,(HH0.out.drewN _).1⟩
   ·have e1:decide (k<1)=false:=decide_eq_false (by omega);have e1':¬ k<1:=by omega
    have e2:decide (15<k)=true:=decide_eq_true hk2;go_enter Tryz.func14,Tryz.ntmps14;go_upto_region 3 with fail;go_quiet (fail);go_wp2;go_ret;exact ⟨rfl,(HH0.out.drewN _).1⟩
   ·have e1:decide (k<1)=false:=decide_eq_false (by omega);have e1':¬ k<1:=by omega
    have e2:decide (15<k)=false:=decide_eq_false (by omega);have e2':¬ 15<k:=by omega
    have e3:decide (0<=kn)=true:=decide_eq_true hk3;have e4:((nr:Int) != kn)=true:=by simp [hk4]
    go_enter Tryz.func14,Tryz.ntmps14;go_upto_region 3 with fail;go_quiet ((go_at_call 42;exact (HKN.out _).mono λ e w' h=>⟨h.1,_,h.2.symm⟩));go_wp2;go_ret;exact ⟨rfl,(HH0.out.drewN _).1⟩
  | true =>
  have hcase:1<=k/\k<=15/\(kn<0∨0<=kn/\(nr:Int)=kn):=by
   unfold okA at hoa;rw [Bool.and_eq_true,decide_eq_true_eq,Bool.or_eq_true,decide_eq_true_eq,decide_eq_true_eq,hkn] at hoa;omega
  obtain ⟨hk,hk2,hk3⟩:=hcase;have HAB2:=aW (show okX k v s nr=(okB k v && okC k s) by rw [HAB.out,hoa];rfl);have e1:decide (k<1)=false:=decide_eq_false (by omega);have e1':¬ k<1:=by omega
  have e2:decide (15<k)=false:=decide_eq_false (by omega);have e2':¬ 15<k:=by omega
  clear hoa HAB hkn;go_enter Tryz.func14,Tryz.ntmps14;go_upto_region 3 with fail;go_cut [33] (λ s33 wx=>s33=.bool false/\∃ W,W=wx/\Hid (aj [(w.heap.size,28,#[Zi Zq k,Zi Zq k1,Zi Zq n1,Zt s1,Zs A1 na1 ca1,Zs B1 nb1 cb1,Zt ⟨s.toArray⟩,Zs A nr ca])] w W))
  case first =>
   rcases hk3 with hk3 | ⟨hk3,hk4⟩
   ·have e3:decide (0<=kn)=false:=decide_eq_false (by omega);have e3':¬ 0<=kn:=by omega
    go_quiet ((go_at_call 42;exact (HKN.out _).mono λ e w' h=>⟨h.1,_,h.2.symm⟩));go_wp2;go_meet
    case rel=>exact ⟨rfl,_,rfl,aW (HH0.out.drewN _)⟩
   ·have e3:decide (0<=kn)=true:=decide_eq_true hk3;have e4:((nr:Int) != kn)=false:=by simp [hk4]
    go_quiet ((go_at_call 42;exact (HKN.out _).mono λ e w' h=>⟨h.1,_,h.2.symm⟩));go_wp2;go_meet
    case rel=>exact ⟨rfl,_,rfl,aW (HH0.out.drewN _)⟩
  case rest =>
   obtain ⟨rfl,W1,rfl,HH1⟩:=hcut;clear c0 f0 l0 HH0 HKN e1 e1' e2 e2' hk3;obtain ⟨c0,f0,l0⟩:=HH1.out.b0.rules;obtain ⟨ob,hob⟩:∃ b,okB k v=b:=⟨_,rfl⟩
   cases ob with
   |false =>
    obtain rfl:gn=0:=HXN.out (by rw [HAB2.out,hob];simp);clear HXN HAB2 HGN;by_cases h1:k=1
    ·subst h1;have hl:ef v=false:=by unfold okB at hob;rwa [if_pos rfl] at hob
     rw [hl] at HLI;clear hob hl HZE;go_wp2_with fail;refine (HLI.out _ HH1.out.1).mono ?_;rintro e w2 ⟨rfl,hb2⟩;have HH2:=aW (HH1.out.keep hb2);clear hb2 c0 f0 l0;obtain ⟨c0,f0,l0⟩:=HH2.out.b0.rules;go_wp2;go_ret;exact ⟨rfl,HH2.out.1⟩
    ·have hl:dn v=false:=by unfold okB at hob;rwa [if_neg h1] at hob
     have g1:(k == 1)=false:=by simp [h1]
     have g2:(k != 1)=true:=by simp [h1]
     rw [hl] at HZE;clear hob hl HLI h1;go_wp2_with fail;refine (HZE.out _ HH1.out.1).mono ?_;rintro e w2 ⟨rfl,hb2⟩;have HH2:=aW (HH1.out.keep hb2);clear hb2 c0 f0 l0;obtain ⟨c0,f0,l0⟩:=HH2.out.b0.rules;go_wp2;go_ret;exact ⟨rfl,HH2.out.1⟩
   | true =>
   have HAB3:=aW (show okX k v s nr=okC k s by rw [HAB2.out,hob];rfl);clear HAB2;go_upto_region 5 with fail;go_cut [53] (λ s53 wx=>s53=.bool false/\∃ W,W=wx/\Hid (aj [(w.heap.size,28,#[Zi Zq k,Zi Zq k1,Zi Zq n1,Zt s1,Zs A1 na1 ca1,Zs B1 nb1 cb1,Zt ⟨s.toArray⟩,Zs A nr ca])] w W))
   case first =>
    by_cases h1:k=1
    ·subst h1;have hl:ef v=true:=by unfold okB at hob;rwa [if_pos rfl] at hob
     rw [hl] at HLI;clear hob hl HZE;go_wp2_with fail;refine (HLI.out _ HH1.out.1).mono ?_;rintro e w2 ⟨rfl,hb2⟩;have HH2:=aW (HH1.out.keep hb2);clear hb2 c0 f0 l0;obtain ⟨c0,f0,l0⟩:=HH2.out.b0.rules;go_wp2;go_meet
     case rel=>exact ⟨rfl,_,rfl,HH2⟩
    ·have hl:dn v=true:=by unfold okB at hob;rwa [if_neg h1] at hob
     have g1:(k == 1)=false:=by simp [h1]
     have g2:(k != 1)=true:=by simp [h1]
     rw [hl] at HZE;clear hob hl HLI h1;go_wp2_with fail;refine (HZE.out _ HH1.out.1).mono ?_;rintro e w2 ⟨rfl,hb2⟩;have HH2:=aW (HH1.out.keep hb2);clear hb2 c0 f0 l0;obtain ⟨c0,f0,l0⟩:=HH2.out.b0.rules;go_wp2;go_meet
     case rel=>exact ⟨rfl,_,rfl,HH2⟩
   case rest =>
   obtain ⟨rfl,W2,rfl,HH2⟩:=hcut;clear c0 f0 l0 HH1 HLI HZE hob;obtain ⟨c0,f0,l0⟩:=HH2.out.b0.rules;obtain ⟨nb,hnb⟩:∃ b,decide (k=2∨k=3)=b:=⟨_,rfl⟩
   go_upto_region 7 with fail;go_cut [5] (λ s5 wx=>s5=.bool nb/\∃ W,W=wx/\Hid (aj [(w.heap.size,28,#[Zi Zq k,Zi Zq k1,Zi Zq n1,Zt s1,Zs A1 na1 ca1,Zs B1 nb1 cb1,Zt ⟨s.toArray⟩,Zs A nr ca])] w W))
   case first =>
    by_cases h2:k=2
    ·subst h2;obtain rfl:nb=true:=by rw [← hnb];decide
     clear hnb;go_wp2;go_meet
     case rel=>exact ⟨rfl,_,rfl,HH2⟩
    ·have g2:(k == 2)=false:=by simp [h2]
     by_cases h3:k=3
     ·subst h3;obtain rfl:nb=true:=by rw [← hnb];decide
      clear hnb;go_wp2;go_meet
      case rel=>exact ⟨rfl,_,rfl,HH2⟩
     ·have g3:(k == 3)=false:=by simp [h3]
      obtain rfl:nb=false:=by rw [← hnb];exact decide_eq_false (by omega)
      clear hnb h2 h3;go_wp2;go_meet
      case rel=>exact ⟨rfl,_,rfl,HH2⟩
   case rest =>
   clear c0 f0 l0 HH2;obtain ⟨rfl,W3,rfl,HH2⟩:=hcut;obtain ⟨c0,f0,l0⟩:=HH2.out.b0.rules;obtain ⟨nm,hnm⟩:∃ b,dN s=b:=⟨_,rfl⟩
   have HNA:=aW (λ (W:World)=>show Calls Tryz.prog 44 #[Zt ⟨s.toArray⟩] W (λ e w'=>e=.returned (.bool nm)/\W=w') by rw [← hnm];exact kW _ W);have HOC:=aW (show okX k v s nr=if nb=true then nm else decide (s=[]) by
    rw [HAB3.out,okC,hnm,← hnb];simp only [decide_eq_true_eq])
   clear HAB3 hnm hnb;by_cases hok:okX k v s nr=true;rotate_left
   ·obtain rfl:gn=0:=HXN.out hok;clear HXN HGN;cases nb with
    |true =>
     have hnf:nm=false:=by
      rw [HOC.out,if_pos rfl] at hok;simpa using hok
     subst hnf;clear HOC hok;go_wp2_with fail;refine (HNA.out _).mono ?_;rintro e w3 ⟨rfl,rfl⟩;go_wp2;go_ret;exact ⟨rfl,HH2.out.1⟩
    |false =>
     have hs:¬ s=[]:=by
      rw [HOC.out] at hok;simpa using hok
     have hs2:s.isEmpty=false:=by simpa using hs
     clear HOC hok;go_wp2;go_ret;exact ⟨rfl,HH2.out.1⟩
   have HGL:=aW (show gn=((match dpL r kids with | none=>0 | some m=>m+1:Nat):Int) by rw [HGN.out,if_pos hok]);clear HXN HGN;go_upto_region 8 with fail;go_cut [77] (λ s77 wx=>s77=.bool false/\∃ W,W=wx/\Hid (aj [(w.heap.size,28,#[Zi Zq k,Zi Zq k1,Zi Zq n1,Zt s1,Zs A1 na1 ca1,Zs B1 nb1 cb1,Zt ⟨s.toArray⟩,Zs A nr ca])] w W))
   case first =>
    cases nb with
    |true =>
     have hnf:nm=true:=by rw [HOC.out,if_pos rfl] at hok;exact hok
     subst hnf;clear HOC hok;go_wp2_with fail;refine (HNA.out _).mono ?_;rintro e w3 ⟨rfl,rfl⟩;go_wp2;go_meet
     case rel=>exact ⟨rfl,_,rfl,HH2⟩
    |false =>
     have hs:s=[]:=by
      rw [HOC.out] at hok;simpa using hok
     clear HOC hok;subst hs;go_wp2;go_meet
     case rel=>exact ⟨rfl,_,rfl,HH2⟩
   case rest =>
   clear c0 f0 l0 HH2;obtain ⟨rfl,W4,rfl,HH2⟩:=hcut;obtain ⟨c0,f0,l0⟩:=HH2.out.b0.rules;clear HNA HOC hok;go_upto_region 12 with fail;go_loopg [6,7] nr (λ gk s6 s7 wr => ∃ (i:Nat) (m:Int),s6=Zi Zq m/\i<=nr/\gk=nr-i/\s7=Zi Zq (i:Int)/\0<=m/\m<=26/\Hid (m=(dpF r (kids.take i):Nat))/\Hid (∀ x ∈ kids.take i,dpR r x≠0)/\Hid (aj [(w.heap.size,28,#[Zi Zq k,Zi Zq k1,Zi Zq n1,Zt s1,Zs A1 na1 ca1,Zs B1 nb1 cb1,Zt ⟨s.toArray⟩,Zs A nr ca])] w wr))
   case atStart=>exact ⟨0,0,rfl,Nat.zero_le _,by go_num,rfl,Int.le_refl _,by decide,aW (by rw [List.take_zero];rfl),aW (by simp),HH2⟩
   case round =>
    obtain ⟨i,m,rfl,hin,hgk,rfl,hm0,hm26,HM,HNO,HH⟩:=hrel;have HGK:=aW hgk;clear hgk HH2 c0 f0 l0;obtain ⟨c0,f0,l0⟩:=HH.out.b0.rules;by_cases hlt:i<nr
    ·obtain ⟨x,hx⟩:∃ x,kids[i]? = some x:=⟨_,List.getElem?_eq_getElem (by rw [HNR.out];omega)⟩
     have hxm:=List.mem_of_getElem? hx;obtain ⟨b,o,k',k1',n1',s1',A1',na1',ca1',B1',nb1',cb1',s',A2',n2',ca2',rfl,hb,hER,hz⟩:=aq HKD.out.1 HKD.out.2 hx;obtain ⟨z0,z1,z2,z3,z4,z5,z6,z7⟩:=hz wr HH.out.1;have HTK:=aW (show kids.take (i+1)=kids.take i++[x] by rw [List.take_add_one,hx];rfl);have hlb:b<wr.heap.size:=Nat.lt_of_lt_of_le hb HH.out.1.size;obtain ⟨d,hd⟩:∃ d:Nat,dpR r x=d:=⟨_,rfl⟩
     have HDD:=aW hd;have HXM:=aW hxm;have HDL:=aW (show d<=26 by rw [← hd];have:=rK r x;have:=HRR.out;omega);have HE:=aW (λ (W:World) (h:Below w.heap.size w W)=>show Calls Tryz.prog 14 #[.agg #[Zi Zq k',Zi Zq k1',Zi Zq n1',Zt s1',Zs A1' na1' ca1',Zs B1' nb1' cb1',Zt s',Zs A2' n2' ca2'],Zi Zq (q-1)] W (DpS (d:Nat) W) by rw [← hd];exact HIH.out x _ W (hER.bel h) (HCK.out x hxm));clear hz hER hx hxm hb hd;go_wp2_with fail;refine (HE.out _ HH.out.1).mono ?_;rintro e w4 ⟨rfl,hb4⟩;have HH4:=aW (HH.out.keep hb4);clear hb4 z0 z1 z2 z3 z4 z5 z6 z7 c0 f0 l0;by_cases hd0:d=0
     ·subst hd0;obtain rfl:gn=0:=by rw [HGL.out,kt HXM.out HDD.out];rfl
      clear HGL;go_wp2;go_ret;exact ⟨rfl,HH4.out.1⟩
     ·have e0:((d:Int) == 0)=false:=by simp;omega
      have HN2:=aW (show ∀ y ∈ kids.take (i+1),dpR r y≠0 by
       rw [HTK.out];intro y hy;rcases List.mem_append.1 hy with hy | hy
       ·exact HNO.out y hy
       ·obtain rfl:=List.mem_singleton.1 hy;rw [HDD.out];exact hd0)
      by_cases hmd:m<(d:Int)
      ·have e1:decide (m<(d:Int))=true:=decide_eq_true hmd;have HM2:=aW (show (d:Int)=(dpF r (kids.take (i+1)):Nat) by
        rw [HTK.out,nX,HDD.out,if_pos (by have:=HM.out;omega)])
       have hd26:(d:Int)<=26:=by have:=HDL.out;omega
       have hd00:(0:Int)<=(d:Int):=by omega
       go_wp2;go_roundg (nr-(i+1))
       case measure=>have:=HGK.out;omega
       case rel=>exact ⟨i+1,d,rfl,by omega,rfl,by go_num,hd00,hd26,HM2,HN2,HH4⟩
      ·have e1:decide (m<(d:Int))=false:=decide_eq_false hmd;have HM2:=aW (show m=(dpF r (kids.take (i+1)):Nat) by
        rw [HTK.out,nX,HDD.out,if_neg (by have:=HM.out;omega)];exact HM.out)
       go_wp2;go_roundg (nr-(i+1))
       case measure=>have:=HGK.out;omega
       case rel=>exact ⟨i+1,m,rfl,by omega,rfl,by go_num,hm0,hm26,HM2,HN2,HH4⟩
    ·obtain rfl:i=nr:=by omega
     have hgm:gn=m+1:=by
      have h1:kids.take i=kids:=by rw [← HNR.out,List.take_length]
      have h2:=HM.out;have h3:=HNO.out;rw [h1] at h2 h3;rw [HGL.out,jR h3,h2];rfl
     have hw1:IntKind.i64.wrap (m+1)=m+1:=by rw [IntKind.wrap_i64];omega
     clear HGL;subst hgm;go_wp2;go_ret;exact ⟨rfl,HH.out.1⟩
theorem bc.gb {base n:Nat} {row row':Value} {l:List UInt8} {w w':World} (h:bc base row n l w) (g:Gr row w row' w'):Below base w w':=g.below h.2.2 λ k hk=>(h.2.1.lt k hk).1
def TxP (m:List UInt8) (w:World) (e:Ending) (w':World):Prop:=∃ row' n',e=.returned row'/\bc w.heap.size row' n' m w'/\Below w.heap.size w w'
theorem bc.lit1 (w:World) (c:UInt8):bc w.heap.size (.slice (some ⟨w.heap.size,0,none⟩) 1 1) 1 [c] (w.alloc (.cells #[.int .u8 c.toNat] 5)):=⟨rfl,World.ownsRow_lit w #[.int .u8 c.toNat] 1 (Nat.le_refl _) (by unfold maxLen;omega) rfl,by simp⟩
theorem qW (s:List UInt8) (w:World) (hs:s.length<=4194304) :
  Calls Tryz.prog 142 #[.string ⟨s.toArray⟩] w (TxP (bL s) w):=by
 obtain ⟨i0,hi,hz0,hz1,hz2⟩:=info_parts bT;have HI:=aW hi;obtain ⟨base,hbase⟩:∃ b,w.heap.size=b:=⟨_,rfl⟩
 have H2P:=aW (show bc base (.slice (some ⟨w.heap.size,0,none⟩) 1 1) 1 (5::b9 (s.take 0)) (w.alloc (.cells #[.int .u8 5] 5))/\Below base w (w.alloc (.cells #[.int .u8 5] 5)) from hbase ▸ ⟨bc.lit1 w 5,(Below.refl _ w).alloc (Nat.le_refl _) _⟩);obtain ⟨ns,hns⟩:∃ q,s.length=q:=⟨_,rfl⟩
 have hsz:(ByteArray.mk s.toArray).size=ns:=by rw [← hns];simp [ByteArray.size]
 have HIX:=aW (λ (i:Nat) (a:UInt8) (ha:s[i]? = some a) W=>j3 ha W);have HN:=aW hns;obtain ⟨S,hS⟩:∃ S:ByteArray,⟨s.toArray⟩=S:=⟨_,rfl⟩
 rw [hS] at HIX hsz ⊢;rw [hns] at hs;have HFIN:=aW (λ (r:Value) (m:Nat) (w':World) (ho:bc base r m (5::(b9 s++[0,0])) w') (hb:Below base w w')=>show TxP (bL s) w (.returned r) w' from ⟨r,m,rfl,hbase ▸ ho,hbase ▸ hb⟩);clear hi hns hS hbase;go_enter Tryz.func142,Tryz.ntmps142;go_wp2_with fail;go_loopg [3,4] ns (λ gk s3 s4 wr => ∃ (i m:Nat) (r:Value),r=s3/\i<=ns/\m<=1+2*i/\gk=ns-i/\s4=.int .i64 (i:Int)/\Hid (bc base r m (5::b9 (s.take i)) wr)/\Hid (Below base w wr))
 case atStart=>exact ⟨0,1,_,rfl,Nat.zero_le _,by omega,by go_num,rfl,aW H2P.out.1,aW H2P.out.2⟩
 case round =>
  obtain ⟨i,m,r,rfl,hin,hm,hgk,rfl,HOW,HBW⟩:=hrel;have HG:=aW hgk;clear hgk H2P;by_cases hlt:i<ns
  ·obtain ⟨c,hc⟩:∃ c,s[i]? = some c:=⟨_,List.getElem?_eq_getElem (by rw [HN.out];exact hlt)⟩
   have hix:=λ W=>HIX.out i c hc W
   have HTK:=aW (show b9 (s.take (i+1))=b9 (s.take i)++(if c=0 then [0,255] else [c]) by rw [List.take_add_one,hc];unfold b9;simp);obtain ⟨cn,hcn⟩:∃ q,c.toNat=q:=⟨_,rfl⟩
   have HCN:=aW hcn;rw [hcn] at hix;clear hc hcn;have HA3:=aW (HOW.out.2.1.alloc (.cells #[.int .u8 (cn:Int)] 5));have HR3:=aW (Rd.of_blk (Blk.new wr 5 #[.int .u8 (cn:Int)]));have HB3:=aW (show base<=(wr.alloc (.cells #[.int .u8 (cn:Int)] 5)).heap.size by have:=HOW.out.2.2;simp;omega);by_cases h0:cn=0
   ·have hc0:c=0:=by rw [← UInt8.toNat_inj,HCN.out,h0];rfl
    subst h0;go_upto_region 6 with (at_builtin;refine ag _ rfl _ _ 76 rfl base 5 i0 _ 1 1 Tryz.underlying76 HI.out hz0 hz1 hz2 rfl (by decide) r m (al (5::b9 (s.take i))) rfl HA3.out (some ⟨wr.heap.size,0,none⟩) 1 1 (λ h=>by cases h) [.int .u8 ((0:Nat):Int)] rfl rfl HR3.out (aC [0]) (by unfold maxLen;omega) (by omega) HB3.out ?_;intro row3 w3 hown3 hgr3 hob3);have H3P:=aW (HOW.out.post (m:=[0]) (M:=1) hown3 rfl hgr3 hob3);clear hown3 hgr3 hob3 HA3 HR3 HB3;have HO3:=aW H3P.out.1;have HA4:=aW (HO3.out.2.1.alloc (.cells #[.int .u8 255] 5));have HR4:=aW (Rd.of_blk (Blk.new w3 5 #[.int .u8 255]));have HB4:=aW (show base<=(w3.alloc (.cells #[.int .u8 255] 5)).heap.size by have:=HO3.out.2.2;simp;omega);go_wp2_with (at_builtin;refine ag _ rfl _ _ 76 rfl base 5 i0 _ 1 1 Tryz.underlying76 HI.out hz0 hz1 hz2 rfl (by decide) row3 (m+1) (al (5::b9 (s.take i)++[0])) rfl HA4.out (some ⟨w3.heap.size,0,none⟩) 1 1 (λ h=>by cases h) [.int .u8 255] rfl rfl HR4.out (aC [255]) (by unfold maxLen;omega) (by omega) HB4.out ?_;intro row4 w4 hown4 hgr4 hob4);have H4P:=aW (HO3.out.post (m:=[255]) (M:=1) hown4 rfl hgr4 hob4);clear hown4 hgr4 hob4;have HL:=aW (show 5::b9 (s.take i)++[0]++[255]=5::b9 (s.take (i+1)) by rw [HTK.out,if_pos hc0];simp);go_roundg (ns-(i+1))
    case measure=>rw [HG.out];omega
    case rel=>exact ⟨i+1,m+1+1,_,rfl,by omega,by omega,rfl,by go_num,aW (by rw [← HL.out];exact H4P.out.1),aW ((HBW.out.trans (HOW.out.gb H3P.out.2)).trans (HO3.out.gb H4P.out.2))⟩
   ·have hc0:¬ c=0:=λ e=>h0 (by rw [← HCN.out,e];rfl)
    have h0b:((cn:Int) == 0)=false:=by rw [beq_eq_false_iff_ne];omega
    have hcc:al [c]=[.int .u8 (cn:Int)]:=by show [Value.int .u8 ((c.toNat:Nat):Int)]=_;rw [HCN.out]
    have HCC:=aW hcc;clear hcc;go_upto_region 6 with (at_builtin;refine ag _ rfl _ _ 76 rfl base 5 i0 _ 1 1 Tryz.underlying76 HI.out hz0 hz1 hz2 rfl (by decide) r m (al (5::b9 (s.take i))) rfl HA3.out (some ⟨wr.heap.size,0,none⟩) 1 1 (λ h=>by cases h) [.int .u8 (cn:Int)] rfl rfl HR3.out (by rw [← HCC.out];exact aC [c]) (by unfold maxLen;omega) (by omega) HB3.out ?_;intro row3 w3 hown3 hgr3 hob3);have H3P:=aW (HOW.out.post (m:=[c]) (M:=1) (by rw [HCC.out];exact hown3) rfl hgr3 hob3);clear hown3 hgr3 hob3 HA3 HR3 HB3;have HL:=aW (show 5::b9 (s.take i)++[c]=5::b9 (s.take (i+1)) by rw [HTK.out,if_neg hc0];simp);go_wp2;go_roundg (ns-(i+1))
    case measure=>rw [HG.out];omega
    case rel=>exact ⟨i+1,m+1,_,rfl,by omega,by omega,rfl,by go_num,aW (by rw [← HL.out];exact H3P.out.1),aW (HBW.out.trans (HOW.out.gb H3P.out.2))⟩
  ·obtain rfl:i=ns:=by omega
   have hl:5::b9 (s.take i)=5::b9 s:=by rw [List.take_of_length_le (Nat.le_of_eq HN.out)]
   rw [hl] at HOW;clear hl;have HA5:=aW (HOW.out.2.1.alloc (.cells #[.int .u8 0,.int .u8 0] 5));have HR5:=aW (Rd.of_blk (Blk.new wr 5 #[.int .u8 0,.int .u8 0]));have HB5:=aW (show base<=(wr.alloc (.cells #[.int .u8 0,.int .u8 0] 5)).heap.size by have:=HOW.out.2.2;simp;omega);go_wp2_with (at_builtin;refine ag _ rfl _ _ 76 rfl base 5 i0 _ 1 1 Tryz.underlying76 HI.out hz0 hz1 hz2 rfl (by decide) r m (al (5::b9 s)) rfl HA5.out (some ⟨wr.heap.size,0,none⟩) 2 2 (λ h=>by cases h) [.int .u8 0,.int .u8 0] rfl rfl HR5.out (aC [0,0]) (by unfold maxLen;omega) (by omega) HB5.out ?_;intro row3 w3 hown3 hgr3 hob3);have H3P:=aW (HOW.out.post (m:=[0,0]) (M:=2) hown3 rfl hgr3 hob3);clear hown3 hgr3 hob3;have HX:=aW (HFIN.out _ _ _ (by have:=H3P.out.1;simpa using this) (HBW.out.trans (HOW.out.gb H3P.out.2)));go_ret;exact HX.out
end
end Go.Proofs.YtgolomgmnanbpaaGreatDoor
