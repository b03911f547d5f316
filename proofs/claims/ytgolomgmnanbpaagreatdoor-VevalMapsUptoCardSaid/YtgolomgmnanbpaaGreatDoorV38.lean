import Derived.Test.YtgolomgmnanbpaaGreatDoorV35
import Derived.Test.YtgolomgmnanbpaaGreatDoorV29
open Go.Value renaming int → Zi, slice → Zs, string → Zt, pointer → Zp
open Go.IntKind renaming i64 → Zq
set_option maxRecDepth 100000
set_option maxHeartbeats 16000000
set_option linter.unusedVariables false
set_option linter.unusedSimpArgs false
namespace Go.Proofs.YtgolomgmnanbpaaGreatDoor
section
open Go.RowKit
attribute [local go_sem] aa ac ae ab
def PBo (g:Nat) (F:Nat->Prop):Nat->Prop:=λ b=>(F b/\b<g)∨g+2<=b
structure GX (F:Nat->Prop) (st:MSt) (w wx:World) (MA:Option Addr) (nm mc:Nat) (ess:List (List Value)):Prop where
 ems:e9 wx (PBo w.heap.size F) ess st.2
 rd:RdF wx (PBo w.heap.size F) MA ess.flatten
 len:st.2.length=nm
 cap:nm<=mc
 nil:MA=none->mc=0
 ok:iA st
 came:∀ y ∈ st.2,au y.1/\au y.2
 bel:Below w.heap.size w wx
 siz:w.heap.size+2<=wx.heap.size
section
variable {F:Nat->Prop} {st st':MSt} {w wx wy W:World} {MA:Option Addr} {nm mc:Nat} {ess:List (List Value)}
theorem PBo.ne {b:Nat} (h:PBo w.heap.size F b):b≠w.heap.size/\b≠w.heap.size+1:=by rcases h with h | h<;>omega
theorem af.box {a:World} (h:af (PBo w.heap.size F) a wx) (i:Nat) (u:Value):af (PBo w.heap.size F) a (wx.setCell ⟨w.heap.size,i,none⟩ u):=h.set (λ b hb=>hb.ne.1) i u
theorem af.out {a:World} (h:af (PBo w.heap.size F) a wx) (i:Nat) (u:Value):af (PBo w.heap.size F) a (wx.setCell ⟨w.heap.size+1,i,none⟩ u):=h.set (λ b hb=>hb.ne.2) i u
theorem GX.kept (h:GX F st w wx MA nm mc ess) (hk:af (PBo w.heap.size F) wx wy) (hb:Below w.heap.size w wy):GX F st w wy MA nm mc ess :=
 ⟨RR.imp h.ems λ c x hc=>hc.keep hk,h.rd.keep hk,h.len,h.cap,h.nil,h.ok,h.came,hb,Nat.le_trans h.siz hk.1⟩
theorem GX.keep (h:GX F st w wx MA nm mc ess) (hb:Below wx.heap.size wx wy):GX F st w wy MA nm mc ess:=h.kept (af.of_below hb) (h.bel.trans (hb.mono h.bel.size))
theorem GX.box (h:GX F st w wx MA nm mc ess) (i:Nat) (u:Value):GX F st w (wx.setCell ⟨w.heap.size,i,none⟩ u) MA nm mc ess:=h.kept (af.refl.box i u) (h.bel.setCell (p:=⟨w.heap.size,i,none⟩) (Nat.le_refl _) u)
theorem GX.cnt (h:GX F st w wx MA nm mc ess) {p:Nat} (hp:p<=256):GX F (p,st.2) w wx MA nm mc ess:=⟨h.ems,h.rd,h.len,h.cap,h.nil,⟨h.ok.1,hp,h.ok.2.2⟩,h.came,h.bel,h.siz⟩
theorem GX.inE (h:GX F st w wx MA nm mc ess):e9 wx (λ b=>PBo w.heap.size F b/\b<wx.heap.size) ess st.2:=RR.imp h.ems λ c x hc=>hc.mono λ b hb hF=>⟨hF,hb⟩
theorem GX.inR (h:GX F st w wx MA nm mc ess):RdF wx (λ b=>PBo w.heap.size F b/\b<wx.heap.size) MA ess.flatten:=h.rd.mono λ b hb hF=>⟨hF,hb⟩
theorem PBo.back {b:Nat} (hs:w.heap.size+2<=W.heap.size) (h:FN (λ b=>PBo w.heap.size F b/\b<W.heap.size) W b):PBo w.heap.size F b:=by
 rcases h with h | h
 ·exact h.1
 ·exact .inr (by omega)
theorem GX.of_go {A:Option Addr} {n c:Nat} (hbW:Below w.heap.size w W) (hs:w.heap.size+2<=W.heap.size) (h1:st'.2.length=n) (h2:n<=c) (h3:A=none->c=0) (h4:e9 wx (FN (λ b=>PBo w.heap.size F b/\b<W.heap.size) W) ess st'.2) (h5:RdF wx (FN (λ b=>PBo w.heap.size F b/\b<W.heap.size) W) A ess.flatten)
  (h6:∀ y ∈ st'.2,au y.1/\au y.2) (hb:Below W.heap.size W wx) (hok:iA st'):GX F st' w wx A n c ess :=
 ⟨RR.imp h4 λ x y hc=>hc.mono λ b _ h=>PBo.back hs h,h5.mono λ b _ h=>PBo.back hs h,h1,h2,h3,hok,h6,hbW.trans (hb.mono hbW.size),Nat.le_trans hs hb.size⟩
def GB (F:Nat->Prop) (st:MSt) (w wx:World):Prop:=∃ (MA:Option Addr) (nm mc:Nat) (ess:List (List Value)),Blk wx w.heap.size 110 #[Zs MA nm mc,Zi Zq (st.1:Nat)]/\Blk wx (w.heap.size+1) 110 #[Zs none 0 0,Zi Zq 0]/\GX F st w wx MA nm mc ess
theorem GB.put {A:Option Addr} {n c:Nat} {c0 c1:Value} (hB:Blk wx w.heap.size 110 #[c0,c1]) (hR:Blk wx (w.heap.size+1) 110 #[Zs none 0 0,Zi Zq 0]) (hX:GX F st w wx A n c ess) :
  GB F st w ((wx.setCell ⟨w.heap.size,0,none⟩ (Zs A n c)).setCell ⟨w.heap.size,1,none⟩ (Zi Zq (st.1:Nat))) :=
 ⟨A,n,c,ess,(hB.set_ 0 _).set_ 1 _,(hR.far (p:=⟨w.heap.size,0,none⟩) (by show w.heap.size+1≠w.heap.size;omega) _).far (p:=⟨w.heap.size,1,none⟩) (by show w.heap.size+1≠w.heap.size;omega) _,(hX.box 0 _).box 1 _⟩
end
theorem rp {v:JV} (hg:good v=true) (hc:au v):(aJ v).length<=100000000000:=by
 have hbk:=io v;have hbn:=ej v 8 ((dH hg).1) hc.lens;have hnd:=(dH hg).2;omega
theorem fY {v:JV} (hg:good v=true):aN 8 v=true/\ar v<=256:=dH hg
theorem wh (d:Nat) (ih:d≠0->tQ (d-1)):tQ d:=by
 intro l css A n ca EA ne ec ecs env MA nm mc ess st F w hS hln hnc hR hmay hC hsm hn hB hE hne hec hned hen0 hce hM hMR hnm hmc hmn hok hcm;obtain ⟨eb,eo,rfl,heb,_,hecl⟩:=hE (λ e=>by
  have h1:=RR.flat hB (λ c x h=>h.len);rw [e] at h1;have h2:0<env.length:=List.length_pos_iff.2 hen0;simp at h1;omega)
 obtain ⟨ib,hib,hz0b,hz1b,hz2b⟩:=info_parts nT;obtain ⟨ie,hie,hz0e,hz1e,hz2e⟩:=info_parts ou;have HIB:=aW hib;have HIE:=aW hie;have hpb:∀ b,b<w.heap.size->F b->PBo w.heap.size F b:=λ b hb hF=>.inl ⟨hF,hb⟩
 have HKD:=aW (show SRs w (PBo w.heap.size F) css l/\RdF w (PBo w.heap.size F) A css.flatten from ⟨RR.imp hS λ c x hc=>hc.mono hpb,hR.mono hpb⟩);have HED:=aW (show dL w (PBo w.heap.size F) ecs env/\RdF w (PBo w.heap.size F) (some ⟨eb,eo,none⟩) ecs.flatten from ⟨RR.imp hB λ c x hc=>hc.mono hpb,hE.mono hpb⟩);have HNK:=aW hln;have HCL:=aW (dg.1 hC);have HSL:=aW (fH.1 hsm);have HML:=aW (ft.1 hmay);have HMY:=aW hmay;have HEV:=aW (And.intro hne (And.intro hen0 (And.intro hce hned)));have hgood:∀ b ∈ env,good b.2=true:=λ b hb=>(hce b hb).2
 have HGE:=aW hgood;obtain ⟨W0,hW0⟩:∃ W0,(w.alloc (.cells #[Zs MA nm mc,Zi Zq (st.1:Nat)] 110)).alloc (.cells #[Zs none 0 0,Zi Zq 0] 110)=W0:=⟨_,rfl⟩
 have HH0:=aW (((aj.nil w).push 110 #[Zs MA nm mc,Zi Zq (st.1:Nat)] (g:=w.heap.size) rfl).push 110 #[Zs none 0 0,Zi Zq 0] (g:=w.heap.size+1) (by simp));rw [hW0] at HH0;have HG0:=aW (show GB F st w W0 from ⟨MA,nm,mc,ess,HH0.out.b1,HH0.out.b0,by
  have hk:af (PBo w.heap.size F) w W0:=af.of_below HH0.out.1;exact ⟨RR.imp hM λ c x hc=>(hc.mono hpb).keep hk,(hMR.mono hpb).keep hk,hnm,hmc,hmn,hok,hcm,HH0.out.1,HH0.out.b0.lt⟩⟩)
 have HOK:=aW hok;have HW0:=aW hW0;clear hS hR hln hmay hC hsm hB hE hne hce hned hM hMR hnm hmc hmn hok hcm hib hie hpb hgood hW0 hen0 heb hecl;go_enter Tryz.func62,Tryz.ntmps62;go_upto_region 1 with fail;rw [HW0.out];clear HW0 HH0;go_wp2;go_loopg [7] n (λ gk s7 wr => ∃ (i:Nat),i<=n/\gk=n-i/\s7=Zi Zq (i:Int)/\Hid (GB F (goL env st (l.take i)) w wr))
 case atStart=>exact ⟨0,Nat.zero_le _,by go_num,rfl,aW (by rw [List.take_zero,goL];exact HG0.out)⟩
 case round =>
  obtain ⟨i,hi,hgk,rfl,HG⟩:=hrel;have HGK:=aW hgk;clear hgk HG0;by_cases hin:i<n;rotate_left
  ·obtain rfl:i=n:=by omega
   obtain ⟨MA1,nm1,mc1,es1,hBX,hRS,hXX⟩:=HG.out;have HF:=aW (show goL env st l=goL env st (l.take i) by rw [List.take_of_length_le (Nat.le_of_eq HNK.out)]);obtain ⟨sx,hsx⟩:∃ q,goL env st (l.take i)=q:=⟨_,rfl⟩
   rw [hsx] at hBX hXX HF;obtain ⟨p,hp⟩:∃ q:Nat,sx.1=q:=⟨_,rfl⟩
   rw [hp] at hBX;have HBR:=aW (show Blk (wr.setCells (w.heap.size+1) 0 [Zs MA1 nm1 mc1,Zi Zq (p:Int)]) (w.heap.size+1) 110 #[Zs MA1 nm1 mc1,Zi Zq (p:Int)] from (hRS.set_ 0 _).set_ 1 _);have HTH:=aW hRS.there;have HRT:=aW (show GoP F (goL env st l) w (.returned (.agg #[Zs MA1 nm1 mc1,Zi Zq (p:Int)])) (wr.setCells (w.heap.size+1) 0 [Zs MA1 nm1 mc1,Zi Zq (p:Int)]) by
    rw [HF.out,← hp];have hk:af (PBo w.heap.size F) wr (wr.setCells (w.heap.size+1) 0 [Zs MA1 nm1 mc1,Zi Zq (sx.1:Nat)]):=((af.refl).out 0 _).out 1 _;have hm:∀ b,PBo w.heap.size F b->FN F w b:=λ b h=>h.imp And.left λ h=>by omega
    exact ⟨MA1,nm1,mc1,es1,rfl,hXX.len,hXX.cap,hXX.nil,RR.imp hXX.ems λ c x hc=>(hc.keep hk).mono λ b _ h=>hm b h,(hXX.rd.keep hk).mono λ b _ h=>hm b h,hXX.came,(hXX.bel.setCell (p:=⟨w.heap.size+1,0,none⟩) (Nat.le_succ _) _).setCell (p:=⟨w.heap.size+1,1,none⟩) (Nat.le_succ _) _⟩)
   obtain ⟨c0,f0,l0⟩:=hBX.rules;clear hBX hRS hXX hsx hp HG HF;go_upto_region 30 with fail
   first | (refine wpList_store_mid rfl 110 (.tmp 6) (.tmp 149) rfl (w.heap.size+1) 0 #[Zs MA1 nm1 mc1,Zi Zq (p:Int)] rfl rfl HTH.out (by kernel_rfl) (by first | kernel_rfl | simp [Value.oneCell']) ?_) | (go_step;refine wpList_store_mid rfl 110 (.tmp 6) (.tmp 149) rfl (w.heap.size+1) 0 #[Zs MA1 nm1 mc1,Zi Zq (p:Int)] rfl rfl HTH.out (by kernel_rfl) (by first | kernel_rfl | simp [Value.oneCell']) ?_) | (go_step;go_step;refine wpList_store_mid rfl 110 (.tmp 6) (.tmp 149) rfl (w.heap.size+1) 0 #[Zs MA1 nm1 mc1,Zi Zq (p:Int)] rfl rfl HTH.out (by kernel_rfl) (by first | kernel_rfl | simp [Value.oneCell']) ?_) | (go_step;go_step;go_step;refine wpList_store_mid rfl 110 (.tmp 6) (.tmp 149) rfl (w.heap.size+1) 0 #[Zs MA1 nm1 mc1,Zi Zq (p:Int)] rfl rfl HTH.out (by kernel_rfl) (by first | kernel_rfl | simp [Value.oneCell']) ?_) | (go_step;go_step;go_step;go_step;refine wpList_store_mid rfl 110 (.tmp 6) (.tmp 149) rfl (w.heap.size+1) 0 #[Zs MA1 nm1 mc1,Zi Zq (p:Int)] rfl rfl HTH.out (by kernel_rfl) (by first | kernel_rfl | simp [Value.oneCell']) ?_) | (go_step;go_step;go_step;go_step;go_step;refine wpList_store_mid rfl 110 (.tmp 6) (.tmp 149) rfl (w.heap.size+1) 0 #[Zs MA1 nm1 mc1,Zi Zq (p:Int)] rfl rfl HTH.out (by kernel_rfl) (by first | kernel_rfl | simp [Value.oneCell']) ?_)
   obtain ⟨WG,hWG⟩:∃ W',wr.setCells (w.heap.size+1) 0 [Zs MA1 nm1 mc1,Zi Zq (p:Int)]=W':=⟨_,rfl⟩
   rw [hWG] at HBR HRT
   try simp only []
   rw [hWG];clear hWG c0 f0 l0;obtain ⟨cR,fR,lR⟩:=HBR.out.rules;go_wp2_with ((with_reducible refine bodyPost_ret (v:=.agg #[Zs MA1 nm1 mc1,Zi Zq (p:Int)]) ?_ rfl ?_);(simp only [results,Tryz.results62];go_simp);exact HRT.out)
  obtain ⟨x,hx⟩:∃ x,l[i]? = some x:=⟨_,List.getElem?_eq_getElem (by rw [HNK.out];exact hin)⟩
  have hxm:=List.mem_of_getElem? hx;have hcx:=HCL.out x hxm;have hsx:=HSL.out x hxm;have hmx:=HML.out x hxm;have HTK:=aW (show goL env st (l.take (i+1))=goS env (goL env st (l.take i)) x by rw [List.take_add_one,hx];exact oc _ _ _ _);obtain ⟨sx,hsx2⟩:∃ q,goL env st (l.take i)=q:=⟨_,rfl⟩
  rw [hsx2] at HG HTK;clear hsx2;obtain ⟨MA1,nm1,mc1,es1,hBX,hRS,hXX⟩:=HG.out;have hS1:SRs wr (PBo w.heap.size F) css l:=RR.imp HKD.out.1 λ c x hc=>hc.bel hXX.bel
  have hR1:=HKD.out.2.keep (af.of_below (F:=PBo w.heap.size F) hXX.bel);obtain ⟨k,s,a,b,body,els⟩:=x;obtain ⟨bl,o,ka,kva,nva,sva,Ava,nka,cka,Bva,nya,cya,sa,Ca,nxa,cxa,kb,kvb,nvb,svb,Avb,nkb,ckb,Bvb,nyb,cyb,sb,Cb,nxb,cxb,BA,LA,cb,cl,bss,lss,rfl,hbl,_,hEA,hEB,⟨hb1,hb2_,hb3⟩,⟨he1,he2,he3⟩,hSR,hz⟩:=ei hS1 hR1 hx;unfold gI at hcx;unfold oV at hsx;obtain ⟨hik,hsl,hca,hcb,hbl4,hel4,hcbo,hcel⟩:=hcx;obtain ⟨hsa,hsb,hsbo,hsel⟩:=hsx;obtain ⟨nb,hnb⟩:∃ q,body.length=q:=⟨_,rfl⟩
  obtain ⟨nl,hnl⟩:∃ q,els.length=q:=⟨_,rfl⟩
  rw [hnb] at hb2_ hbl4 hz hSR;rw [hnl] at he2 hel4 hz hSR;have hd0:d≠0/\dF a/\(if k=1 then decide (dF b) && decide (s=[]/\body.length+els.length=0) else if k=2 then cq b && (decide (s=[]) && (aZ (d-1) body && aZ (d-1) els)) else if k=3 then cq b && (dN s && (aZ (d-1) body && decide (els.length=0))) else false)=true:=by
   unfold eX at hmx;rw [Bool.and_eq_true,Bool.and_eq_true,decide_eq_true_eq,decide_eq_true_eq] at hmx;exact ⟨hmx.1,hmx.2.1,hmx.2.2⟩
  have HSO:=aW (rn (.mk k s a b body els) env d sx HGE.out hmx hXX.ok);obtain ⟨hd0,hfa,hmk⟩:=hd0;have HIH:=aW (ih hd0);have HRG:=aW (show wr.rangeAt bl (o+i*20) [Zi Zq k,Zt ⟨s.toArray⟩,Zi Zq ka,Zi Zq kva,Zi Zq nva,Zt sva,Zs Ava nka cka,Zs Bva nya cya,Zt sa,Zs Ca nxa cxa,Zi Zq kb,Zi Zq kvb,Zi Zq nvb,Zt svb,Zs Avb nkb ckb,Zs Bvb nyb cyb,Zt sb,Zs Cb nxb cxb,Zs BA nb cb,Zs LA nl cl] from λ j v hv=>by rw [Nat.add_assoc];exact hz j v hv);have HE:=aW (And.intro hfa (And.intro hca (And.intro hcb (And.intro hsa hsb))));have HBO:=aW (And.intro hcbo (And.intro hcel (And.intro hsbo hsel)));have HMK:=aW hmk;have HNB:=aW hnb;have HNL:=aW hnl;have hlb:bl<wr.heap.size:=hbl;obtain ⟨W1,hW1⟩:∃ W1,wr.alloc (.cells #[Zi Zq k,Zt ⟨s.toArray⟩,Zi Zq ka,Zi Zq kva,Zi Zq nva,Zt sva,Zs Ava nka cka,Zs Bva nya cya,Zt sa,Zs Ca nxa cxa,Zi Zq kb,Zi Zq kvb,Zi Zq nvb,Zt svb,Zs Avb nkb ckb,Zs Bvb nyb cyb,Zt sb,Zs Cb nxb cxb,Zs BA nb cb,Zs LA nl cl] 69)=W1:=⟨_,rfl⟩
  have hbA:Below wr.heap.size wr W1:=by rw [← hW1];exact (Below.refl _ _).alloc (Nat.le_refl _) _
  have HB1:=aW (show Blk W1 wr.heap.size 69 #[Zi Zq k,Zt ⟨s.toArray⟩,Zi Zq ka,Zi Zq kva,Zi Zq nva,Zt sva,Zs Ava nka cka,Zs Bva nya cya,Zt sa,Zs Ca nxa cxa,Zi Zq kb,Zi Zq kvb,Zi Zq nvb,Zt svb,Zs Avb nkb ckb,Zs Bvb nyb cyb,Zt sb,Zs Cb nxb cxb,Zs BA nb cb,Zs LA nl cl] by rw [← hW1];exact Blk.new _ _ _);have HBX1:=aW (hBX.keep hbA);have HRS1:=aW (hRS.keep hbA);have HX1:=aW (hXX.keep hbA);have HQ:=aW (show (ER W1 (PBo w.heap.size F) [Zi Zq ka,Zi Zq kva,Zi Zq nva,Zt sva,Zs Ava nka cka,Zs Bva nya cya,Zt sa,Zs Ca nxa cxa] a/\ER W1 (PBo w.heap.size F) [Zi Zq kb,Zi Zq kvb,Zi Zq nvb,Zt svb,Zs Avb nkb ckb,Zs Bvb nyb cyb,Zt sb,Zs Cb nxb cxb] b)/\(SRs W1 (PBo w.heap.size F) bss body/\RdF W1 (PBo w.heap.size F) BA bss.flatten)/\(SRs W1 (PBo w.heap.size F) lss els/\RdF W1 (PBo w.heap.size F) LA lss.flatten) from
   ⟨⟨hEA.bel hbA,hEB.bel hbA⟩,⟨RR.imp hb1 λ c x hc=>hc.bel hbA,hb3.keep (af.of_below hbA)⟩,⟨RR.imp he1 λ c x hc=>hc.bel hbA,he3.keep (af.of_below hbA)⟩⟩)
  have hgw:w.heap.size+2<=wr.heap.size:=hXX.siz;have hs1:W1.heap.size=wr.heap.size+1:=by rw [← hW1];simp
  have HW1:=aW hW1;have HEA:=aW (t5 12 a [Zi Zq ka,Zi Zq kva,Zi Zq nva,Zt sva,Zs Ava nka cka,Zs Bva nya cya,Zt sa,Zs Ca nxa cxa] (some ⟨eb,eo,none⟩) ne ec ecs (λ q=>PBo w.heap.size F q/\q<W1.heap.size) env W1 hfa hca hsa (λ _ h=>h.2) (HQ.out.1.1.mono λ _ h hF=>⟨hF,h⟩)
   (RR.imp HED.out.1 λ c x hc=>(hc.keep (af.of_below HX1.out.bel)).mono λ _ h hF=>⟨hF,h⟩) ((HED.out.2.keep (af.of_below HX1.out.bel)).mono λ _ h hF=>⟨hF,h⟩) HEV.out.1 (by have:=HEV.out.2.2.2;omega) HEV.out.2.2.1)
  obtain ⟨oa,hoa⟩:∃ q,evE env a=q:=⟨_,rfl⟩
  rw [hoa] at HEA;have HOA:=aW hoa;clear hz hSR hEA hEB hb1 hb3 he1 he3 hca hcb hcbo hcel hsa hsb hsbo hsel hnb hnl hx hxm hbl hS1 hR1 hmx hmk hfa hBX hRS hXX hbA hW1 hoa HG;go_upto_block 1 with fail;go_cut [11] (λ s11 wx=>Hid (GB F (goS env sx (.mk k s a b body els)) w wx))
  case rest =>
   have HC:=aW hcut.out;clear hcut;go_wp2;go_roundg (n-(i+1))
   case measure=>rw [HGK.out];omega
   case rel=>exact ⟨i+1,by omega,rfl,by go_num,aW (by rw [HTK.out];exact HC.out)⟩
  case first =>
   go_upto_region 4 with fail;go_step;go_step;go_step;go_step;go_step;go_step;go_step;go_step;go_step;go_step;refine wpList_load_mid rfl 69 (.tmp 24) rfl bl (o+i*20) rfl [Zi Zq k,Zt ⟨s.toArray⟩,Zi Zq ka,Zi Zq kva,Zi Zq nva,Zt sva,Zs Ava nka cka,Zs Bva nya cya,Zt sa,Zs Ca nxa cxa,Zi Zq kb,Zi Zq kvb,Zi Zq nvb,Zt svb,Zs Avb nkb ckb,Zs Bvb nyb cyb,Zt sb,Zs Cb nxb cxb,Zs BA nb cb,Zs LA nl cl] _ HRG.out Tryz.underlying69 rfl (by kernel_rfl) ?_;go_step;go_step;go_step;refine bP rfl 69 (.tmp 8) (.tmp 25) rfl _ _ rfl rfl (by kernel_rfl) (by kernel_rfl) (by first | kernel_rfl | simp [Value.oneCell']) ?_;rw [HW1.out];clear HW1 HRG hlb;obtain ⟨c0,f0,l0⟩:=HB1.out.rules;go_upto_region 5 with fail;go_wp2_with fail;refine HEA.out.mono ?_;rintro e w2 ⟨k5,n5,s5,A5,na5,ca5,B5,nb5,cb5,va,ba,rfl,hva,hca,hoa,hga,hza,hb1⟩;obtain ⟨W3,hW3⟩:∃ W,w2.alloc (.cells #[Zi Zq k5,Zi Zq n5,Zt s5,Zs A5 na5 ca5,Zs B5 nb5 cb5,.bool ba] 40)=W:=⟨_,rfl⟩
   have hbn:Below w2.heap.size w2 W3:=by rw [← hW3];exact (Below.refl _ w2).alloc (Nat.le_refl _) _
   have hb13:Below W1.heap.size W1 W3:=hb1.trans (hbn.mono hb1.size);have HI3:=aW (show Blk W3 w2.heap.size 40 #[Zi Zq k5,Zi Zq n5,Zt s5,Zs A5 na5 ca5,Zs B5 nb5 cb5,.bool ba] by rw [← hW3];exact Blk.new _ _ _);have HB3:=aW (HB1.out.keep hb13);have HBX3:=aW (HBX1.out.keep hb13);have HRS3:=aW (HRS1.out.keep hb13);have HX3:=aW (HX1.out.keep hb13);have HVA3:=aW (show VR W3 (PBo w.heap.size F) [Zi Zq k5,Zi Zq n5,Zt s5,Zs A5 na5 ca5,Zs B5 nb5 cb5] va from ((hva.mono λ q _ h=>PBo.back (by omega) h).bel hbn));have HQA:=aW (And.intro hca (And.intro hoa (And.intro hga hza)));have hs2:wr.heap.size+1<=w2.heap.size:=by have:=hb1.size;omega
   have hs3:W3.heap.size=w2.heap.size+1:=by rw [← hW3];simp
   have HB13:=aW hb13;have HW3:=aW hW3;clear hb1 hbn hb13 hva hca hoa hga hza hW3 c0 f0 l0 HEA;go_upto_region 6 with fail;rw [HW3.out];clear HW3;obtain ⟨c0,f0,l0⟩:=HB3.out.rules;go_upto_block 2 with fail;by_cases hk1:k=1
   ·subst hk1;have HB:=aW (by have h:=HMK.out;rw [if_pos rfl,Bool.and_eq_true,decide_eq_true_eq] at h;exact h.1:dF b);have HEB:=aW (t5 12 b [Zi Zq kb,Zi Zq kvb,Zi Zq nvb,Zt svb,Zs Avb nkb ckb,Zs Bvb nyb cyb,Zt sb,Zs Cb nxb cxb] (some ⟨eb,eo,none⟩) ne ec ecs (λ q=>PBo w.heap.size F q/\q<W3.heap.size) env W3 HB.out HE.out.2.2.1 HE.out.2.2.2.2 (λ _ h=>h.2) ((HQ.out.1.2.bel HB13.out).mono λ _ h hF=>⟨hF,h⟩)
     (RR.imp HED.out.1 λ c x hc=>(hc.keep (af.of_below HX3.out.bel)).mono λ _ h hF=>⟨hF,h⟩) ((HED.out.2.keep (af.of_below HX3.out.bel)).mono λ _ h hF=>⟨hF,h⟩) HEV.out.1 (by have:=HEV.out.2.2.2;omega) HEV.out.2.2.1)
    obtain ⟨ob,hob⟩:∃ q,evE env b=q:=⟨_,rfl⟩
    rw [hob] at HEB;have HST:=aW (show goS env sx (.mk 1 s a b body els)=dQ sx oa ob by rw [goS,if_pos rfl,HOA.out,hob]);clear HMK hob;go_upto_region 8 with fail;go_wp2_with fail;refine HEB.out.mono ?_;rintro e w4 ⟨k6,n6,s6,A6,na6,ca6,B6,nb6,cb6,vb,bb,rfl,hvb,hcb,hob,hgb,hzb,hb3⟩;obtain ⟨W5,hW5⟩:∃ W,w4.alloc (.cells #[Zi Zq k6,Zi Zq n6,Zt s6,Zs A6 na6 ca6,Zs B6 nb6 cb6,.bool bb] 40)=W:=⟨_,rfl⟩
    have hbn:Below w4.heap.size w4 W5:=by rw [← hW5];exact (Below.refl _ w4).alloc (Nat.le_refl _) _
    have hb35:Below W3.heap.size W3 W5:=hb3.trans (hbn.mono hb3.size);have HJ5:=aW (show Blk W5 w4.heap.size 40 #[Zi Zq k6,Zi Zq n6,Zt s6,Zs A6 na6 ca6,Zs B6 nb6 cb6,.bool bb] by rw [← hW5];exact Blk.new _ _ _);have HI5:=aW (HI3.out.keep hb35);have HBX5:=aW (HBX3.out.keep hb35);have HRS5:=aW (HRS3.out.keep hb35);have HX5:=aW (HX3.out.keep hb35);have HVA5:=aW (HVA3.out.bel hb35);have HVB5:=aW (show VR W5 (PBo w.heap.size F) [Zi Zq k6,Zi Zq n6,Zt s6,Zs A6 na6 ca6,Zs B6 nb6 cb6] vb from ((hvb.mono λ q _ h=>PBo.back (by omega) h).bel hbn));have HQB:=aW (And.intro hcb (And.intro hob (And.intro hgb hzb)));have hs4:w2.heap.size+1<=w4.heap.size:=by have:=hb3.size;omega
    have hs5:W5.heap.size=w4.heap.size+1:=by rw [← hW5];simp
    have HW5:=aW hW5;clear hb3 hbn hb35 hvb hcb hob hgb hzb hW5 c0 f0 l0 HEB;go_upto_region 9 with fail;rw [HW5.out];clear HW5;obtain ⟨c0,f0,l0⟩:=HI5.out.rules;obtain ⟨c1,f1,l1⟩:=HJ5.out.rules;obtain ⟨c2,f2,l2⟩:=HBX5.out.rules;have HNO:=aW (show dQ sx oa ob=sx->∀ wz,Below W5.heap.size W5 wz->GB F (goS env sx (.mk 1 s a b body els)) w wz from λ he wz hz=>by rw [HST.out,he];exact ⟨MA1,nm1,mc1,es1,HBX5.out.keep hz,HRS5.out.keep hz,HX5.out.keep hz⟩);cases ba
    ·have HX:=aW (HNO.out (by rw [HQA.out.2.1];rfl) W5 (Below.refl _ _));go_wp2;go_meet
     case rel=>exact HX
    cases bb
    ·have HX:=aW (HNO.out (by rw [HQA.out.2.1,HQB.out.2.1];rfl) W5 (Below.refl _ _));go_wp2;go_meet
     case rel=>exact HX
    have HEQ:=aW (show dQ sx oa ob=if nm1<4/\(aJ va).length<=90/\(bf vb).length<=100 then (sx.1,sx.2++[(va,vb)]) else sx by rw [HQA.out.2.1,HQB.out.2.1,← HX5.out.len];rfl);by_cases h4:nm1<4;rotate_left
    ·have h4b:¬ ((nm1:Int)<4):=by omega
     have HX:=aW (HNO.out (by rw [HEQ.out,if_neg (λ h=>h4 h.1)]) W5 (Below.refl _ _));go_wp2;go_meet
     case rel=>exact HX
    have h4b:(nm1:Int)<4:=by omega
    have HGA:=aW (HQA.out.2.2.1 rfl);have HGB:=aW (HQB.out.2.2.1 rfl);have HCO:=aW (tU _ va (Nat.le_refl _) 8 (fY HGA.out).1 HQA.out.1 [Zi Zq k5,Zi Zq n5,Zt s5,Zs A5 na5 ca5,Zs B5 nb5 cb5] TT W5 (HVA5.out.mono λ _ _ _=>trivial) (rp HGA.out HQA.out.1));go_wp2_with fail;refine HCO.out.mono ?_;rintro e w6 ⟨row6,cn,rfl,hown,hb6⟩;obtain ⟨CA,cc,rfl,_⟩:=aP hown.2.1;have HCN:=aW hown.1;have HI6:=aW (HI5.out.keep hb6);have HJ6:=aW (HJ5.out.keep hb6);have HBX6:=aW (HBX5.out.keep hb6);have HRS6:=aW (HRS5.out.keep hb6);have HX6:=aW (HX5.out.keep hb6);have HVA6:=aW (HVA5.out.bel hb6);have HVB6:=aW (HVB5.out.bel hb6);have HB56:=aW hb6;have hs6:W5.heap.size<=w6.heap.size:=hb6.size;clear hown hb6 HCO;clear c0 f0 l0 c1 f1 l1 c2 f2 l2;obtain ⟨c0,f0,l0⟩:=HI6.out.rules;obtain ⟨c1,f1,l1⟩:=HJ6.out.rules;obtain ⟨c2,f2,l2⟩:=HBX6.out.rules;by_cases h90:cn<=90;rotate_left
    ·have h90b:¬ ((cn:Int)<=90):=by omega
     have HX:=aW (HNO.out (by rw [HEQ.out,if_neg (λ h=>h90 (by rw [← HCN.out];exact h.2.1))]) w6 HB56.out);go_wp2;go_meet
     case rel=>exact HX
    have h90b:(cn:Int)<=90:=by omega
    have HTX:=aW (t6 256 (Nat.le_refl _) vb 8 (fY HGB.out).2 (fY HGB.out).1 HQB.out.1 [Zi Zq k6,Zi Zq n6,Zt s6,Zs A6 na6 ca6,Zs B6 nb6 cb6] TT w6 (HVB6.out.mono λ _ _ _=>trivial));obtain ⟨pn,hpn⟩:∃ q,(bf vb).length=q:=⟨_,rfl⟩
    have hpsz:(⟨(bf vb).toArray⟩:ByteArray).size=pn:=by rw [← hpn];simp [ByteArray.size]
    obtain ⟨TB,hTB⟩:∃ q:ByteArray,(⟨(bf vb).toArray⟩:ByteArray)=q:=⟨_,rfl⟩
    unfold gK at HTX;rw [hTB] at hpsz HTX;have HPN:=aW hpn;clear hTB hpn;go_wp2_with fail;refine HTX.out.mono ?_;rintro e w7 ⟨rfl,hb7⟩;have HI7:=aW (HI6.out.keep hb7);have HJ7:=aW (HJ6.out.keep hb7);have HBX7:=aW (HBX6.out.keep hb7);have HRS7:=aW (HRS6.out.keep hb7);have HX7:=aW (HX6.out.keep hb7);have HVA7:=aW (HVA6.out.bel hb7);have HVB7:=aW (HVB6.out.bel hb7);have HB57:=aW (HB56.out.trans (hb7.mono HB56.out.size));have hs7:w6.heap.size<=w7.heap.size:=hb7.size;clear hb7 HTX;clear c0 f0 l0 c1 f1 l1 c2 f2 l2;obtain ⟨c0,f0,l0⟩:=HI7.out.rules;obtain ⟨c1,f1,l1⟩:=HJ7.out.rules;obtain ⟨c2,f2,l2⟩:=HBX7.out.rules;by_cases h100:pn<=100;rotate_left
    ·have h100b:¬ ((pn:Int)<=100):=by omega
     have HX:=aW (HNO.out (by rw [HEQ.out,if_neg (λ h=>h100 (by rw [← HPN.out];exact h.2.2))]) w7 HB57.out);go_wp2;go_meet
     case rel=>exact HX
    have h100b:(pn:Int)<=100:=by omega
    have HSS:=aW (show goS env sx (.mk 1 s a b body els)=(sx.1,sx.2++[(va,vb)]) by rw [HST.out,HEQ.out,if_pos ⟨h4,by rw [HCN.out];exact h90,by rw [HPN.out];exact h100⟩]);have HFL:=aW (show es1.flatten.length=nm1*10 by rw [RR.flat HX7.out.ems (λ c x h=>h.len),HX7.out.len]);have HRD:=aW HX7.out.rd.rd;have H1E:=aW (show ∀ u ∈ es1.flatten,u.oneCell'=true from λ u hu=>by
     obtain ⟨c,hc,hu⟩:=List.mem_flatten.1 hu;obtain ⟨x,_,hx⟩:=HX7.out.ems.mem hc;exact hx.one u hu)
    have HN0:=aW (show MA1=none->nm1=0 from λ h=>by have:=HX7.out.nil h;have:=HX7.out.cap;omega);have HW0:=aW (World.ownsRow_nil w7 w7.heap.size 75 10);clear HNO;go_upto_region 12 with (at_builtin;refine ag _ rfl _ _ 49 rfl w7.heap.size 75 ie _ 10 160 Tryz.underlying49 HIE.out hz0e hz1e hz2e rfl (by decide) (Zs none 0 0) 0 [] rfl HW0.out MA1 nm1 mc1 HN0.out es1.flatten rfl HFL.out HRD.out H1E.out (by unfold maxLen;omega) (by omega) (Nat.le_refl _) ?_;intro row8 w8 hown8 hgr8 hob8);have hb78:Below w7.heap.size w7 w8:=(Below.refl _ w7).grown hgr8 (Nat.le_refl _) (λ k e=>by cases e);rw [Nat.zero_add,List.nil_append] at hown8;have HRW:=aW (λ (j:Nat) (e:row8.ownBlock=some j)=>hown8.lt j e);have HO9:=aW (hown8.alloc (.cells #[Zi Zq k5,Zi Zq n5,Zt s5,Zs A5 na5 ca5,Zs B5 nb5 cb5,Zi Zq k6,Zi Zq n6,Zt s6,Zs A6 na6 ca6,Zs B6 nb6 cb6] 75));have HR9:=aW (Rd.of_blk (Blk.new w8 75 #[Zi Zq k5,Zi Zq n5,Zt s5,Zs A5 na5 ca5,Zs B5 nb5 cb5,Zi Zq k6,Zi Zq n6,Zt s6,Zs A6 na6 ca6,Zs B6 nb6 cb6]));have H1C:=aW (show ∀ u ∈ ([Zi Zq k5,Zi Zq n5,Zt s5,Zs A5 na5 ca5,Zs B5 nb5 cb5,Zi Zq k6,Zi Zq n6,Zt s6,Zs A6 na6 ca6,Zs B6 nb6 cb6]:List Value),u.oneCell'=true by intro u hu;simp only [List.mem_cons,List.not_mem_nil,or_false] at hu;rcases hu with rfl | rfl | rfl | rfl | rfl | rfl | rfl | rfl | rfl | rfl<;>rfl);have HI8:=aW (HI7.out.keep hb78);have HJ8:=aW (HJ7.out.keep hb78);have HBX8:=aW (HBX7.out.keep hb78);have HB78:=aW hb78;have HBS:=aW (show w7.heap.size<=(w8.alloc (.cells #[Zi Zq k5,Zi Zq n5,Zt s5,Zs A5 na5 ca5,Zs B5 nb5 cb5,Zi Zq k6,Zi Zq n6,Zt s6,Zs A6 na6 ca6,Zs B6 nb6 cb6] 75)).heap.size by rw [World.size_alloc];have:=hb78.size;omega);clear hown8 hgr8 hob8 hb78;clear c0 f0 l0 c1 f1 l1 c2 f2 l2;obtain ⟨c0,f0,l0⟩:=HI8.out.rules;obtain ⟨c1,f1,l1⟩:=HJ8.out.rules;obtain ⟨c2,f2,l2⟩:=HBX8.out.rules;go_step;go_step;go_step;go_step;go_step;go_step;go_step;go_step;go_step;go_step;go_step;go_step;go_step;go_step;go_step;go_step;go_step;go_step;go_step;go_step;go_step;go_step;refine ag _ rfl _ _ 49 rfl w7.heap.size 75 ie _ 10 160 Tryz.underlying49 HIE.out hz0e hz1e hz2e rfl (by decide) row8 nm1 es1.flatten rfl HO9.out (some ⟨w8.heap.size,0,none⟩) 1 1 (λ h=>by cases h) [Zi Zq k5,Zi Zq n5,Zt s5,Zs A5 na5 ca5,Zs B5 nb5 cb5,Zi Zq k6,Zi Zq n6,Zt s6,Zs A6 na6 ca6,Zs B6 nb6 cb6] rfl rfl HR9.out H1C.out (by unfold maxLen;omega) (by omega) HBS.out ?_;intro row10 w10 hown10 hgr10 hob10;have hb710:Below w7.heap.size w7 w10:=(HB78.out.trans (((Below.refl _ w8).alloc (Nat.le_refl _) (.cells #[Zi Zq k5,Zi Zq n5,Zt s5,Zs A5 na5 ca5,Zs B5 nb5 cb5,Zi Zq k6,Zi Zq n6,Zt s6,Zs A6 na6 ca6,Zs B6 nb6 cb6] 75)).mono HB78.out.size)).grown hgr10 HBS.out (λ j e=>(HRW.out j e).1);obtain ⟨RB,rc,rfl,hrc,hrn,hrr⟩:=aP hown10;have HX:=aW (show GB F (goS env sx (.mk 1 s a b body els)) w (w10.setCell ⟨w.heap.size,0,none⟩ (Zs RB (nm1+1) rc)) by
     have hX:=HX7.out.keep hb710;have hok:=HSO.out.1;rw [HSS.out] at hok ⊢;refine ⟨RB,nm1+1,rc,es1++[[Zi Zq k5,Zi Zq n5,Zt s5,Zs A5 na5 ca5,Zs B5 nb5 cb5,Zi Zq k6,Zi Zq n6,Zt s6,Zs A6 na6 ca6,Zs B6 nb6 cb6]],(HBX7.out.keep hb710).set_ 0 _,(HRS7.out.keep hb710).far (p:=⟨w.heap.size,0,none⟩) (by show w.heap.size+1≠w.heap.size;omega) _,GX.box ⟨?_,?_,?_,hrc,hrn,hok,?_,hX.bel,hX.siz⟩ 0 _⟩
     ·exact hX.ems.snoc (x:=(va,vb)) ⟨[Zi Zq k5,Zi Zq n5,Zt s5,Zs A5 na5 ca5,Zs B5 nb5 cb5],[Zi Zq k6,Zi Zq n6,Zt s6,Zs A6 na6 ca6,Zs B6 nb6 cb6],rfl,HVA7.out.bel hb710,HVB7.out.bel hb710⟩
     ·rw [List.flatten_append,show ([[Zi Zq k5,Zi Zq n5,Zt s5,Zs A5 na5 ca5,Zs B5 nb5 cb5,Zi Zq k6,Zi Zq n6,Zt s6,Zs A6 na6 ca6,Zs B6 nb6 cb6]]:List (List Value)).flatten=[Zi Zq k5,Zi Zq n5,Zt s5,Zs A5 na5 ca5,Zs B5 nb5 cb5,Zi Zq k6,Zi Zq n6,Zt s6,Zs A6 na6 ca6,Zs B6 nb6 cb6] from rfl];exact hrr.mono λ b _ h=>.inr (Nat.le_trans HX7.out.siz h)
     ·rw [List.length_append,hX.len];rfl
     ·intro y hy;rcases List.mem_append.1 hy with hy | hy
      ·exact hX.came y hy
      ·obtain rfl:=List.mem_singleton.1 hy;exact ⟨HQA.out.1,HQB.out.1⟩)
    have HBX10:=aW (HBX7.out.keep hb710);clear hown10 hgr10 hob10 hb710 hrc hrn hrr;clear c0 f0 l0 c1 f1 l1 c2 f2 l2;obtain ⟨c0,f0,l0⟩:=HBX10.out.rules;go_wp2;go_meet
    case rel=>exact HX
   have ek1:(k == 1)=false:=by simp [hk1]
   by_cases hk2:k=2
   ·subst hk2;have HBD:=aW (by have h:=HMK.out;rw [if_neg (by decide),if_pos rfl,Bool.and_eq_true,Bool.and_eq_true,Bool.and_eq_true] at h;exact h.2.2:aZ (d-1) body=true/\aZ (d-1) els=true);have HST0:=aW (show goS env sx (.mk 2 s a b body els)=(match isB (evE env a) with | some true=>goL env sx body | some false=>goL env sx els | none=>sx) by rw [goS,if_neg (by decide),if_pos rfl];cases isB (evE env a) with | none=>rfl | some t=>cases t<;>rfl);obtain ⟨hvk,hvn,hv3,hv4⟩:=br HVA3.out;clear hv3 hv4;have HIS:=aW (show isB oa=(if (ba && (k5 == 2))=true then some (n5 == 1) else none) by
     rw [HQA.out.2.1];cases ba with
     | false=>rfl
     |true =>
      rw [if_pos rfl,kg,hvk,hvn];by_cases h:k5=2
      ·subst h;simp;by_cases h1:n5=1<;>simp [h1]
      ·rw [if_neg h];simp [h])
    obtain ⟨tt,htt⟩:∃ q,(n5 == 1)=q:=⟨_,rfl⟩
    obtain ⟨uu,huu⟩:∃ q,(ba && (k5 == 2))=q:=⟨_,rfl⟩
    have HBO2:=aW (cU k5 n5 s5 A5 na5 ca5 B5 nb5 cb5 ba W3);rw [htt,huu] at HBO2 HIS;clear HMK hvk hvn htt huu hk1;obtain ⟨c1,f1,l1⟩:=HI3.out.rules;obtain ⟨c2,f2,l2⟩:=HBX3.out.rules;go_upto_region 14 with fail;go_wp2_with fail;refine HBO2.out.mono ?_;rintro e w4 ⟨rfl,hb4⟩;have HI4:=aW (HI3.out.keep hb4);have HB4:=aW (HB3.out.keep hb4);have HBX4:=aW (HBX3.out.keep hb4);have HRS4:=aW (HRS3.out.keep hb4);have HX4:=aW (HX3.out.keep hb4);have HB14:=aW (HB13.out.trans (hb4.mono HB13.out.size));clear hb4 HBO2;clear c0 f0 l0 c1 f1 l1 c2 f2 l2;obtain ⟨c0,f0,l0⟩:=HB4.out.rules;obtain ⟨c1,f1,l1⟩:=HI4.out.rules;obtain ⟨c2,f2,l2⟩:=HBX4.out.rules;cases uu
    ·have HX:=aW (show GB F (goS env sx (.mk 2 s a b body els)) w w4 by rw [HST0.out,HOA.out,HIS.out];exact ⟨MA1,nm1,mc1,es1,HBX4.out,HRS4.out,HX4.out⟩);go_wp2;go_meet
     case rel=>exact HX
    have HNEC:=aW (show ne<=ec from hec);obtain ⟨p1,hp1⟩:∃ q:Nat,sx.1=q:=⟨_,rfl⟩
    rw [hp1] at c2;cases tt
    ·have HST:=aW (show goS env sx (.mk 2 s a b body els)=goL env sx els by rw [HST0.out,HOA.out,HIS.out];rfl);have HGO:=aW (HIH.out els lss LA nl cl (some ⟨eb,eo,none⟩) ne ec ecs env MA1 nm1 mc1 es1 sx (λ q=>PBo w.heap.size F q/\q<w4.heap.size) w4 (RR.imp HQ.out.2.2.1 λ c x hc=>(hc.bel HB14.out).mono λ _ h hF=>⟨hF,h⟩) HNL.out he2 ((HQ.out.2.2.2.keep (af.of_below HB14.out)).mono λ _ h hF=>⟨hF,h⟩) HBD.out.2 HBO.out.2.1 HBO.out.2.2.2 hel4
      (RR.imp HED.out.1 λ c x hc=>(hc.keep (af.of_below HX4.out.bel)).mono λ _ h hF=>⟨hF,h⟩) ((HED.out.2.keep (af.of_below HX4.out.bel)).mono λ _ h hF=>⟨hF,h⟩) HEV.out.1 HNEC.out (by have:=HEV.out.2.2.2;omega) HEV.out.2.1 HEV.out.2.2.1 HX4.out.inE HX4.out.inR HX4.out.len HX4.out.cap HX4.out.nil HX4.out.ok HX4.out.came)
     rw [hp1] at HGO;go_upto_region 18 with fail;go_wp2_with fail;refine HGO.out.mono ?_;rintro e w5 ⟨A7,n7,c7,es7,rfl,g1,g2,g3,g4,g5,g6,hb5⟩;have HX:=aW (GB.put (HBX4.out.keep hb5) (HRS4.out.keep hb5) (GX.of_go (F:=F) (w:=w) HX4.out.bel HX4.out.siz g1 g2 g3 g4 g5 g6 hb5 (by have:=HSO.out.1;rw [HST.out] at this;exact this)));have HXX:=aW (show GB F (goS env sx (.mk 2 s a b body els)) w _ by rw [HST.out];exact HX.out);have HBX5:=aW (HBX4.out.keep hb5);have HI5:=aW (HI4.out.keep hb5);clear g1 g2 g3 g4 g5 g6 hb5 HX;clear c0 f0 l0 c1 f1 l1 c2 f2 l2;obtain ⟨c0,f0,l0⟩:=HBX5.out.rules;go_wp2;go_meet
     case rel=>exact HXX
    ·have HST:=aW (show goS env sx (.mk 2 s a b body els)=goL env sx body by rw [HST0.out,HOA.out,HIS.out];rfl);have HGO:=aW (HIH.out body bss BA nb cb (some ⟨eb,eo,none⟩) ne ec ecs env MA1 nm1 mc1 es1 sx (λ q=>PBo w.heap.size F q/\q<w4.heap.size) w4 (RR.imp HQ.out.2.1.1 λ c x hc=>(hc.bel HB14.out).mono λ _ h hF=>⟨hF,h⟩) HNB.out hb2_ ((HQ.out.2.1.2.keep (af.of_below HB14.out)).mono λ _ h hF=>⟨hF,h⟩) HBD.out.1 HBO.out.1 HBO.out.2.2.1 hbl4
      (RR.imp HED.out.1 λ c x hc=>(hc.keep (af.of_below HX4.out.bel)).mono λ _ h hF=>⟨hF,h⟩) ((HED.out.2.keep (af.of_below HX4.out.bel)).mono λ _ h hF=>⟨hF,h⟩) HEV.out.1 HNEC.out (by have:=HEV.out.2.2.2;omega) HEV.out.2.1 HEV.out.2.2.1 HX4.out.inE HX4.out.inR HX4.out.len HX4.out.cap HX4.out.nil HX4.out.ok HX4.out.came)
     rw [hp1] at HGO;go_upto_region 16 with fail;go_wp2_with fail;refine HGO.out.mono ?_;rintro e w5 ⟨A7,n7,c7,es7,rfl,g1,g2,g3,g4,g5,g6,hb5⟩;have HX:=aW (GB.put (HBX4.out.keep hb5) (HRS4.out.keep hb5) (GX.of_go (F:=F) (w:=w) HX4.out.bel HX4.out.siz g1 g2 g3 g4 g5 g6 hb5 (by have:=HSO.out.1;rw [HST.out] at this;exact this)));have HXX:=aW (show GB F (goS env sx (.mk 2 s a b body els)) w _ by rw [HST.out];exact HX.out);have HBX5:=aW (HBX4.out.keep hb5);have HI5:=aW (HI4.out.keep hb5);clear g1 g2 g3 g4 g5 g6 hb5 HX;clear c0 f0 l0 c1 f1 l1 c2 f2 l2;obtain ⟨c0,f0,l0⟩:=HBX5.out.rules;go_wp2;go_meet
     case rel=>exact HXX
   have ek2:(k == 2)=false:=by simp [hk2]
   have hk3:k=3:=by
    have h:=HMK.out;rw [if_neg hk1,if_neg hk2] at h;by_cases h3:k=3
    ·exact h3
    ·rw [if_neg h3] at h;cases h
   subst hk3;have HST:=aW (show goS env sx (.mk 3 s a b body els)=(match evE env a with | some v=>if 5<=v.kind then v.kids.foldl (ep env s body) sx else sx | none=>sx) by rw [goS,if_neg (by decide),if_neg (by decide)];rfl);have HBD:=aW (by have h:=HMK.out;rw [if_neg (by decide),if_neg (by decide),if_pos rfl,Bool.and_eq_true,Bool.and_eq_true,Bool.and_eq_true] at h;exact h.2.2.1:aZ (d-1) body=true);clear HMK hk1 hk2;obtain ⟨hvk,hv2,hv3,hvkl⟩:=br HVA3.out;clear hv2 hv3;have HSTOP:=aW (show sx=goS env sx (.mk 3 s a b body els)->GB F (goS env sx (.mk 3 s a b body els)) w W3 from λ he=>by rw [← he];exact ⟨MA1,nm1,mc1,es1,HBX3.out,HRS3.out,HX3.out⟩);obtain ⟨c1,f1,l1⟩:=HI3.out.rules;cases ba
   ·have HX:=aW (HSTOP.out (by rw [HST.out,HOA.out,HQA.out.2.1];rfl));go_wp2;go_meet
    case rel=>exact HX
   have HST2:=aW (show goS env sx (.mk 3 s a b body els)=(if 5<=k5 then va.kids.foldl (ep env s body) sx else sx) by rw [HST.out,HOA.out,HQA.out.2.1,← hvk];rfl);by_cases h5:k5<5
   ·have HX:=aW (HSTOP.out (by rw [HST2.out,if_neg (by omega)]));go_wp2;go_meet
    case rel=>exact HX
   have HST3:=aW (show goS env sx (.mk 3 s a b body els)=va.kids.foldl (ep env s body) sx by rw [HST2.out,if_pos (by omega)]);have HKN:=aW hvkl.symm;have hkl:na5<=4194304:=by
    obtain ⟨vk,vn,vs,vks,vys⟩:=va;rw [hvkl];exact HQA.out.1.out.2.2.2.1
   have HVS:=aW (show ∃ vcss,VRs W3 (PBo w.heap.size F) vcss va.kids/\RdF W3 (PBo w.heap.size F) A5 vcss.flatten by
    obtain ⟨vk,vn,vs,vks,vys⟩:=va;obtain ⟨A',B',ca',cb',css',e',h1',_,_,_,_,h6',_⟩:=HVA3.out.out;injection e' with _ e';injection e' with _ e';injection e' with _ e';injection e' with e4 e'
    injection e4 with e4 _ _
    subst e4;exact ⟨css',h1',h6'⟩)
   obtain ⟨vcss,hvcs⟩:=HVS.out;have HVC:=aW hvcs;have HNEC:=aW (show ne<=ec from hec);have HFL:=aW (show ecs.flatten.length=ne*6 by rw [RR.flat HED.out.1 (λ c x h=>h.len),HEV.out.1]);have H1E:=aW (show ∀ u ∈ ecs.flatten,u.oneCell'=true from λ u hu=>by
    obtain ⟨c,hc,hu⟩:=List.mem_flatten.1 hu;obtain ⟨x,_,hx⟩:=HED.out.1.mem hc;exact hx.one u hu)
   have HG3:=aW (show GB F sx w W3 from ⟨MA1,nm1,mc1,es1,HBX3.out,HRS3.out,HX3.out⟩);clear HSTOP hvk hvkl hvcs HVS;go_wp2;clear c0 f0 l0 c1 f1 l1;obtain ⟨wq,rfl⟩:∃ wq:World,wq=wr:=⟨_,rfl⟩
   go_loopg [14] na5 (λ gk s14 wr => ∃ (j:Nat),j<=na5/\gk=na5-j/\s14=Zi Zq (j:Int)/\Hid (GB F ((va.kids.take j).foldl (ep env s body) sx) w wr)/\Hid (af (λ q=>q≠w.heap.size) W3 wr))
   case atStart=>exact ⟨0,Nat.zero_le _,by go_num,rfl,aW (by rw [List.take_zero];exact HG3.out),aW af.refl⟩
   case round =>
    obtain ⟨j,hj,hgk,rfl,HGJ,HKF⟩:=hrel;have HGI:=aW hgk;obtain ⟨stj,hstj⟩:∃ q,(va.kids.take j).foldl (ep env s body) sx=q:=⟨_,rfl⟩
    have HSJ:=aW hstj;rw [hstj] at HGJ;clear hgk hstj;have HBJ:=aW (show Blk wr wq.heap.size 69 #[Zi Zq 3,Zt ⟨s.toArray⟩,Zi Zq ka,Zi Zq kva,Zi Zq nva,Zt sva,Zs Ava nka cka,Zs Bva nya cya,Zt sa,Zs Ca nxa cxa,Zi Zq kb,Zi Zq kvb,Zi Zq nvb,Zt svb,Zs Avb nkb ckb,Zs Bvb nyb cyb,Zt sb,Zs Cb nxb cxb,Zs BA nb cb,Zs LA nl cl] from (HKF.out.2 _ (by omega) HB3.out.lt).trans HB3.out);have HIJ:=aW (show Blk wr w2.heap.size 40 #[Zi Zq k5,Zi Zq n5,Zt s5,Zs A5 na5 ca5,Zs B5 nb5 cb5,.bool true] from (HKF.out.2 _ (by omega) HI3.out.lt).trans HI3.out);obtain ⟨MA2,nm2,mc2,es2,hBX2,hRS2,hXX2⟩:=HGJ.out;have HXJ:=aW hXX2;have HRJ:=aW hRS2;obtain ⟨p,hp⟩:∃ q:Nat,stj.1=q:=⟨_,rfl⟩
    rw [hp] at hBX2;have HBXJ:=aW hBX2;have hp256:p<=256:=by rw [← hp];exact hXX2.ok.2.1
    have HP:=aW hp;clear hBX2 hRS2 hXX2 hp;by_cases hjn:j<na5;rotate_left
    ·obtain rfl:j=na5:=by omega
     have HX:=aW (show GB F (goS env sx (.mk 3 s a b body els)) w wr by
      rw [HST3.out];have h:=HSJ.out;rw [List.take_of_length_le (Nat.le_of_eq HKN.out)] at h;rw [h];exact HGJ.out)
     obtain ⟨c0,f0,l0⟩:=HIJ.out.rules;go_wp2;go_meet
     case rel=>exact HX
    obtain ⟨x,hx⟩:∃ x,va.kids[j]? = some x:=⟨_,List.getElem?_eq_getElem (by rw [HKN.out];exact hjn)⟩
    have hxm:=List.mem_of_getElem? hx;have HTJ:=aW (show (va.kids.take (j+1)).foldl (ep env s body) sx=ep env s body stj x by
     rw [List.take_add_one,hx];show (va.kids.take j++[x]).foldl (ep env s body) sx=_
     rw [List.foldl_append,HSJ.out];rfl)
    obtain ⟨c0,f0,l0⟩:=HBXJ.out.rules;obtain ⟨c1,f1,l1⟩:=HIJ.out.rules;by_cases hp2:p<256;rotate_left
    ·have hp3:¬ ((p:Int)<256):=by omega
     have HN:=aW (show ep env s body stj x=stj from if_neg (by rw [HP.out];exact hp2));clear hx hxm;go_wp2;go_roundg (na5-(j+1))
     case measure=>rw [HGI.out];omega
     case rel=>exact ⟨j+1,by omega,rfl,by go_num,aW (by rw [HTJ.out,HN.out];exact HGJ.out),HKF⟩
    have hp3:(p:Int)<256:=by omega
    have HN:=aW (show ep env s body stj x=goL (env++[(s,x)]) (p+1,stj.2) body by
     show (if stj.1<256 then goL (env++[(s,x)]) (stj.1+1,stj.2) body else stj)=_
     rw [HP.out,if_pos hp2])
    have HGX9:=aW (show good x=true/\au x from ⟨eN (HQA.out.2.2.1 (by first | rfl | trivial)) hxm,by
     obtain ⟨vk,vn,vs,vks,vys⟩:=va;exact HQA.out.1.out.2.2.2.2.2.2 x hxm⟩)
    have hkp:af (PBo w.heap.size F) W3 wr:=⟨HKF.out.1,λ q hq hl=>HKF.out.2 q hq.ne.1 hl⟩
    have HKP:=aW hkp;have hvk2:VRs wr (PBo w.heap.size F) vcss va.kids:=RR.imp HVC.out.1 λ c y hc=>VR.keep hc hkp
    obtain ⟨b29,o29,_,hA29,_,hF29,_⟩:=VRs.cell hvk2 (HVC.out.2.keep hkp) hx;obtain ⟨kb9,ko9,kx,nx,sx5,Ax,nax,cax,Bx,nbx,cbx,hA5,hkb,hvx,hkz⟩:=aS hvk2 (HVC.out.2.keep hkp) hx;subst hA5;injection hA29 with hA29
    injection hA29 with hA29 hO29
    subst hA29 hO29;have HVX:=aW hvx;have HKZ:=aW hkz;clear hx hxm hvk2 hvx hkz hkp HGJ;obtain ⟨Wp,hWp⟩:∃ q,wr.setCell ⟨w.heap.size,1,none⟩ (Zi Zq ((p+1:Nat):Int))=q:=⟨_,rfl⟩
    have HBP:=aW (show Blk Wp w.heap.size 110 #[Zs MA2 nm2 mc2,Zi Zq ((p+1:Nat):Int)] by rw [← hWp];exact HBXJ.out.set_ 1 _);have HRP:=aW (show Blk Wp (w.heap.size+1) 110 #[Zs none 0 0,Zi Zq 0] by rw [← hWp];exact HRJ.out.far (p:=⟨w.heap.size,1,none⟩) (by show w.heap.size+1≠w.heap.size;omega) _);have HXP:=aW (show GX F (p+1,stj.2) w Wp MA2 nm2 mc2 es2 by rw [← hWp];exact (HXJ.out.box 1 _).cnt (by omega));have HKQ:=aW (show af (λ q=>q≠w.heap.size) wr Wp by rw [← hWp];exact af.refl.set (λ b hb=>hb) 1 _);have HSB:=aW (show Blk Wp wq.heap.size 69 #[Zi Zq 3,Zt ⟨s.toArray⟩,Zi Zq ka,Zi Zq kva,Zi Zq nva,Zt sva,Zs Ava nka cka,Zs Bva nya cya,Zt sa,Zs Ca nxa cxa,Zi Zq kb,Zi Zq kvb,Zi Zq nvb,Zt svb,Zs Avb nkb ckb,Zs Bvb nyb cyb,Zt sb,Zs Cb nxb cxb,Zs BA nb cb,Zs LA nl cl] from (HKQ.out.2 _ (by omega) HBJ.out.lt).trans HBJ.out);have HIB9:=aW (show Blk Wp w2.heap.size 40 #[Zi Zq k5,Zi Zq n5,Zt s5,Zs (some ⟨kb9,ko9,none⟩) na5 ca5,Zs B5 nb5 cb5,.bool true] from (HKQ.out.2 _ (by omega) HIJ.out.lt).trans HIJ.out);have hkq2:af (PBo w.heap.size F) wr Wp:=⟨HKQ.out.1,λ q hq hl=>HKQ.out.2 q hq.ne.1 hl⟩
    have hkb9:PBo w.heap.size F kb9:=hF29;have hsr:wr.heap.size=Wp.heap.size:=by rw [← hWp];simp
    have HZ:=aW (λ (W:World) (hb:Below Wp.heap.size Wp W)=>show ((∀ i,W.cell? ⟨wq.heap.size,i,none⟩=(#[Zi Zq 3,Zt ⟨s.toArray⟩,Zi Zq ka,Zi Zq kva,Zi Zq nva,Zt sva,Zs Ava nka cka,Zs Bva nya cya,Zt sa,Zs Ca nxa cxa,Zi Zq kb,Zi Zq kvb,Zi Zq nvb,Zt svb,Zs Avb nkb ckb,Zs Bvb nyb cyb,Zt sb,Zs Cb nxb cxb,Zs BA nb cb,Zs LA nl cl]:Array Value)[i]?)/\(∀ i,W.frozen? ⟨wq.heap.size,i,none⟩=false)/\wq.heap.size<W.heap.size)/\((∀ i,W.cell? ⟨w2.heap.size,i,none⟩=(#[Zi Zq k5,Zi Zq n5,Zt s5,Zs (some ⟨kb9,ko9,none⟩) na5 ca5,Zs B5 nb5 cb5,.bool true]:Array Value)[i]?)/\(∀ i,W.frozen? ⟨w2.heap.size,i,none⟩=false)/\w2.heap.size<W.heap.size)/\W.cell? ⟨kb9,ko9+j*5,none⟩=some (Zi Zq kx)/\W.cell? ⟨kb9,ko9+j*5+1,none⟩=some (Zi Zq nx)/\W.cell? ⟨kb9,ko9+j*5+2,none⟩=some (Zt sx5)/\W.cell? ⟨kb9,ko9+j*5+3,none⟩=some (Zs Ax nax cax)/\W.cell? ⟨kb9,ko9+j*5+4,none⟩=some (Zs Bx nbx cbx) from by
     refine ⟨(HSB.out.keep hb).rules,(HIB9.out.keep hb).rules,?_⟩;have hz:=HKZ.out wr (Below.refl _ _);have hc:∀ i,W.cell? ⟨kb9,i,none⟩=wr.cell? ⟨kb9,i,none⟩:=λ i=>(hb.cell (p:=⟨kb9,i,none⟩) (by show kb9<Wp.heap.size;omega)).trans (World.cell?_of_block (w:=wr) (HKQ.out.2 kb9 hkb9.ne.1 hkb))
     refine ⟨(hc _).trans hz.1,(hc _).trans hz.2.1,(hc _).trans hz.2.2.1,(hc _).trans hz.2.2.2.1,(hc _).trans hz.2.2.2.2⟩)
    have HED2:=aW (show dL Wp (PBo w.heap.size F) ecs env/\RdF Wp (PBo w.heap.size F) (some ⟨eb,eo,none⟩) ecs.flatten from ⟨RR.imp HED.out.1 λ c y hc=>BnR.keep hc (af.of_below HXP.out.bel),HED.out.2.keep (af.of_below HXP.out.bel)⟩);have HRDE:=aW HED2.out.2.rd;have HOW:=aW (World.ownsRow_nil Wp Wp.heap.size 37 6);have hne4:ne+1<=4194304:=by have:=HEV.out.2.2.2;omega
    have HKQ2:=aW hkq2;have HWP:=aW hWp;clear hkq2 hWp;go_upto_region 26 with fail
    try rw [show ((p:Int)+1)=((p+1:Nat):Int) from rfl]
    rw [HWP.out];clear HWP;clear c0 f0 l0 c1 f1 l1;go_upto_region 27 with fail;go_wp2_with (at_builtin;refine ag _ rfl _ _ 29 rfl Wp.heap.size 37 ib _ 6 96 Tryz.underlying29 HIB.out hz0b hz1b hz2b rfl (by decide) (Zs none 0 0) 0 [] rfl HOW.out (some ⟨eb,eo,none⟩) ne ec (λ h=>by cases h) ecs.flatten rfl HFL.out HRDE.out H1E.out (by unfold maxLen;omega) (by omega) (Nat.le_refl _) ?_;intro row7 w7 hown7 hgr7 hob7);have hb7:Below Wp.heap.size Wp w7:=(Below.refl _ Wp).grown hgr7 (Nat.le_refl _) (λ k e=>by cases e);rw [Nat.zero_add,List.nil_append] at hown7;have HO7:=aW hown7;have HB7:=aW hb7;have HZ7:=aW (λ (W:World) (hb:Below Wp.heap.size Wp W)=>HZ.out W hb);clear hown7 hgr7 hob7 hb7;go_upto_region 28 with fail;refine wp_region_held_drew (S:=λ W'=>Below Wp.heap.size Wp W') (by kernel_rfl) (by exact HB7.out.drew) (λ hHeld=>?_);refine az (λ w9 hw9=>?_);rw [← hw9] at hHeld;have HO9:=aW (show w9.ownsRow Wp.heap.size 37 6 row7 ne ecs.flatten by rw [hw9];exact dG HO7.out (Below.refl _ w7).drew);have HB9:=aW hHeld;clear hw9;have hHeld:=HB9.out;refine tA 0 132 row7 rfl ?_;refine tA 1 133 (Zp (some ⟨wq.heap.size,1,none⟩)) rfl ?_;refine aY 2 134 (Zt ⟨s.toArray⟩) rfl ?_ ?_
    ·intro W hSw;obtain ⟨⟨c1,f1,l1⟩,⟨c2,f2,l2⟩,y0,y1,y2,y3,y4⟩:=HZ.out W hSw;go_simp
    refine tA 3 135 (Zp (some ⟨w2.heap.size,0,none⟩)) rfl ?_;refine tA 4 136 (Zp (some ⟨w2.heap.size,3,none⟩)) rfl ?_;refine aY 5 137 (Zs (some ⟨kb9,ko9,none⟩) na5 ca5) rfl ?_ ?_
    ·intro W hSw;obtain ⟨⟨c1,f1,l1⟩,⟨c2,f2,l2⟩,y0,y1,y2,y3,y4⟩:=HZ.out W hSw;go_simp
    refine tA 6 138 (Zi Zq (j:Int)) rfl ?_;refine tA 7 139 (Zp (some ⟨kb9,ko9+j*5,none⟩)) rfl ?_;refine aY 8 140 (.agg #[Zi Zq kx,Zi Zq nx,Zt sx5,Zs Ax nax cax,Zs Bx nbx cbx]) rfl ?_ ?_
    ·intro W hSw;obtain ⟨⟨c1,f1,l1⟩,⟨c2,f2,l2⟩,y0,y1,y2,y3,y4⟩:=HZ.out W hSw;go_simp
    refine tA 9 141 (.agg #[Zt ⟨s.toArray⟩,Zi Zq kx,Zi Zq nx,Zt sx5,Zs Ax nax cax,Zs Bx nbx cbx]) rfl ?_;refine aV 10 142 rfl (λ K hK=>?_);go_simp;refine hK.out _ _ (by exact HB9.out.alloc HB9.out.size _) (λ hHeld2=>?_);clear hK K
    try simp only [pU]
    refine az (λ W2 hW=>?_);have HB29:=aW (show Below Wp.heap.size Wp W2 by rw [hW];exact HB9.out.alloc HB9.out.size _);have HO2:=aW (show W2.ownsRow Wp.heap.size 37 6 row7 ne ecs.flatten by rw [hW];exact HO9.out.alloc _);have HR2:=aW (show Rd W2 (some ⟨w9.heap.size,0,none⟩) [Zt ⟨s.toArray⟩,Zi Zq kx,Zi Zq nx,Zt sx5,Zs Ax nax cax,Zs Bx nbx cbx] by rw [hW];exact Rd.of_blk (Blk.new w9 37 #[Zt ⟨s.toArray⟩,Zi Zq kx,Zi Zq nx,Zt sx5,Zs Ax nax cax,Zs Bx nbx cbx]));have H1C:=aW (show ∀ u ∈ ([Zt ⟨s.toArray⟩,Zi Zq kx,Zi Zq nx,Zt sx5,Zs Ax nax cax,Zs Bx nbx cbx]:List Value),u.oneCell'=true by intro u hu;simp only [List.mem_cons,List.not_mem_nil,or_false] at hu;rcases hu with rfl | rfl | rfl | rfl | rfl | rfl<;>rfl);clear hW hHeld2 hHeld;have hHeld:=HB29.out;refine aV 11 143 rfl (λ K hK=>?_);rw [if_pos (by kernel_rfl)];refine dS W2 (.tmp 132) (.tmp 142) 29 rfl Wp.heap.size 37 ib _ 6 96 Tryz.underlying29 HIB.out hz0b hz1b hz2b rfl (by decide) row7 ne ecs.flatten (by rfl) HO2.out (some ⟨w9.heap.size,0,none⟩) 1 1 (λ h=>by cases h) [Zt ⟨s.toArray⟩,Zi Zq kx,Zi Zq nx,Zt sx5,Zs Ax nax cax,Zs Bx nbx cbx] (by rfl) rfl HR2.out H1C.out (by unfold maxLen;omega) (by omega) HB29.out.size ?_;intro ev2 W6 hown hgr hob;obtain ⟨A2,e2c,rfl,hc2,hcn2,hrd2⟩:=aP hown;have hb6:Below Wp.heap.size Wp W6:=HB29.out.grown hgr HB29.out.size (λ k e=>(HO2.out.lt k e).1);have HN2:=aW (show dL W6 (PBo w.heap.size F) (ecs++[[Zt ⟨s.toArray⟩,Zi Zq kx,Zi Zq nx,Zt sx5,Zs Ax nax cax,Zs Bx nbx cbx]]) (env++[(s,x)])/\RdF W6 (PBo w.heap.size F) A2 (ecs++[([Zt ⟨s.toArray⟩,Zi Zq kx,Zi Zq nx,Zt sx5,Zs Ax nax cax,Zs Bx nbx cbx]:List Value)]).flatten/\ne+1<=e2c by
     refine ⟨RR.snoc (RR.imp HED2.out.1 λ c y hc=>BnR.keep hc (af.of_below hb6)) ⟨[Zi Zq kx,Zi Zq nx,Zt sx5,Zs Ax nax cax,Zs Bx nbx cbx],rfl,(HVX.out.keep HKQ2.out).bel hb6⟩,?_,hc2⟩;rw [List.flatten_append,show ([[Zt ⟨s.toArray⟩,Zi Zq kx,Zi Zq nx,Zt sx5,Zs Ax nax cax,Zs Bx nbx cbx]]:List (List Value)).flatten=[Zt ⟨s.toArray⟩,Zi Zq kx,Zi Zq nx,Zt sx5,Zs Ax nax cax,Zs Bx nbx cbx] from rfl];exact hrd2.mono λ b _ h=>.inr (Nat.le_trans HXP.out.siz h))
    have HB6:=aW hb6;clear hown hgr hob hc2 hcn2 hrd2 hb6;refine hK.out _ _ (by exact HB6.out) (λ hHeld2=>?_);clear hK K hHeld;have hHeld:=HB6.out;clear hHeld2
    try simp only [pU]
    refine tA 12 15 (Zs A2 (ne+1) e2c) rfl ?_;refine aX ?_;have HX6:=aW (HXP.out.keep HB6.out);have HBX6:=aW (HBP.out.keep HB6.out);have HRS6:=aW (HRP.out.keep HB6.out);have HSB6:=aW (HSB.out.keep HB6.out);have HK6:=aW (show af (PBo w.heap.size F) W1 W6 from ⟨Nat.le_trans HB13.out.size (Nat.le_trans HKP.out.1 (Nat.le_trans HKQ2.out.1 HB6.out.size)),(((af.of_below HB13.out).trans HKP.out).trans (HKQ2.out.trans (af.of_below HB6.out))).2⟩);have hgood2:∀ y ∈ env++[(s,x)],au y.2/\good y.2=true:=λ y hy=>by
     rcases List.mem_append.1 hy with hy | hy
     ·exact HEV.out.2.2.1 y hy
     ·obtain rfl:=List.mem_singleton.1 hy;exact ⟨HGX9.out.2,HGX9.out.1⟩
    have HOKG:=aW (ij body (env++[(s,x)]) (d-1) (p+1,stj.2) (λ y hy=>(hgood2 y hy).2) HBD.out HX6.out.ok).1;have HGO:=aW (show Calls Tryz.prog 62 #[.agg #[Zs MA2 nm2 mc2,Zi Zq ((p+1:Nat):Int)],Zs BA nb cb,Zs A2 (ne+1) e2c] W6 (GoP (λ q=>PBo w.heap.size F q/\q<W6.heap.size) (goL (env++[(s,x)]) (p+1,stj.2) body) W6) from
     HIH.out body bss BA nb cb A2 (ne+1) e2c (ecs++[([Zt ⟨s.toArray⟩,Zi Zq kx,Zi Zq nx,Zt sx5,Zs Ax nax cax,Zs Bx nbx cbx]:List Value)]) (env++[(s,x)]) MA2 nm2 mc2 es2 (p+1,stj.2) (λ q=>PBo w.heap.size F q/\q<W6.heap.size) W6 (RR.imp HQ.out.2.1.1 λ c y hc=>(SR.keep hc HK6.out).mono λ _ h hF=>⟨hF,h⟩) HNB.out hb2_ ((HQ.out.2.1.2.keep HK6.out).mono λ _ h hF=>⟨hF,h⟩) HBD.out HBO.out.1 HBO.out.2.2.1 hbl4
      (RR.imp HN2.out.1 λ c y hc=>BnR.mono hc λ _ h hF=>⟨hF,h⟩) (HN2.out.2.1.mono λ _ h hF=>⟨hF,h⟩) (by rw [List.length_append,HEV.out.1];rfl) HN2.out.2.2 (by have:=HEV.out.2.2.2;omega) (by simp) hgood2 HX6.out.inE HX6.out.inR HX6.out.len HX6.out.cap HX6.out.nil HX6.out.ok HX6.out.came)
    clear hHeld hgood2;obtain ⟨GL,hGL⟩:∃ q,goL (env++[(s,x)]) (p+1,stj.2) body=q:=⟨_,rfl⟩
    rw [hGL] at HGO HN HOKG;clear hGL;obtain ⟨c0,f0,l0⟩:=HBX6.out.rules;obtain ⟨c1,f1,l1⟩:=HSB6.out.rules;go_wp2_with fail;refine HGO.out.mono ?_;rintro e w10 ⟨A7,n7,c7,es7,rfl,g1,g2,g3,g4,g5,g6,hb10⟩;have HX:=aW (GB.put (HBX6.out.keep hb10) (HRS6.out.keep hb10) (GX.of_go (F:=F) (w:=w) HX6.out.bel HX6.out.siz g1 g2 g3 g4 g5 g6 hb10 HOKG.out));have HKE:=aW (show af (λ q=>q≠w.heap.size) W3 ((w10.setCell ⟨w.heap.size,0,none⟩ (Zs A7 n7 c7)).setCell ⟨w.heap.size,1,none⟩ (Zi Zq (GL.1:Nat))) from
     (((HKF.out.trans (HKQ.out.trans (af.of_below HB6.out))).trans (af.of_below hb10)).set (λ b hb=>hb) 0 _).set (λ b hb=>hb) 1 _)
    have HBX10:=aW (HBX6.out.keep hb10);clear g1 g2 g3 g4 g5 g6 hb10 c0 f0 l0 c1 f1 l1 HGO;obtain ⟨c0,f0,l0⟩:=HBX10.out.rules;go_wp2;go_roundg (na5-(j+1))
    case measure=>rw [HGI.out];omega
    case rel=>exact ⟨j+1,by omega,rfl,by go_num,aW (by rw [HTJ.out,HN.out];exact HX.out),HKE⟩
theorem rGo:∀ d,tQ d
 | 0=>wh 0 (λ h=>absurd rfl h)
 | d+1=>wh (d+1) (λ _=>rGo d)
end
end Go.Proofs.YtgolomgmnanbpaaGreatDoor
