import Derived.Test.YtgmnmnnoahdjnaaGreatDoorQ43
import Derived.Test.YtgmnmnnoahdjnaaGreatDoorQ42
open Go.Value renaming int → Zi, slice → Zs, string → Zt, pointer → Zp
open Go.IntKind renaming i64 → Zq
set_option maxRecDepth 100000
set_option maxHeartbeats 16000000
set_option linter.unusedVariables false
set_option linter.unusedSimpArgs false
namespace Go.Proofs.YtgmnmnnoahdjnaaGreatDoor
section
open Go.RowKit
attribute [local go_sem] aa ac ae ab
theorem js (W:World) (o:Obj):Below W.heap.size W (W.alloc o):=(Below.refl _ W).alloc (Nat.le_refl _) o
structure LnS (w W:World) (row:Value) (l:List (List UInt8)) (b:Nat) (t:TypeId) (S:Array Value):Prop where
 own:dc w.heap.size row l W
 bel:Below w.heap.size w W
 blk:Blk W b t S
 ne:some b≠row.ownBlock
theorem LnS.keep {w W W':World} {row:Value} {l:List (List UInt8)} {b:Nat} {t:TypeId} {S:Array Value} (h:LnS w W row l b t S) (hb:Below W.heap.size W W'):LnS w W' row l b t S:=⟨h.own.bel hb,h.bel.trans (hb.mono h.bel.size),h.blk.keep hb,h.ne⟩
theorem aB {w0 w:World} {ops:Array Oper} {rest:List Oper} {o:Oper} {a:Act} {Q:Exit->Act->World->Prop} (hgd:o.guard=none) (s x:Operand) (ho:o.op=.call { callee:=.builtin .append,args:=#[s,x],argTypes:=#[40,40] }) (hty:o.type=40)
  {row:Value} {l:List (List UInt8)} {b:Nat} {t:TypeId} {S:Array Value} (hown:LnS w0 w row l b t S) (hs:a.eval s=row) (m:List (List UInt8)) (A:Option Addr) (n ca:Nat) (hn:n=m.length) (hx:a.eval x=Zs A n ca) (hA:A=none->m.length=0) (hr:Rd w A (cS m)) (hl:l.length+m.length<=100000000000)
  (h:∀ v' w',LnS w0 w' v' (l++m) b t S->wpList Tryz.prog ops Q rest (a.put o.dst v') w'):wpList Tryz.prog ops Q (o::rest) a w:=by
 subst hn;obtain ⟨i0,hi,hz0,hz1,hz2⟩:=info_parts qy;refine aT w hgd s x 40 ho w0.heap.size 9 i0 _ 1 16 Tryz.underlying40 hi hz0 hz1 hz2 rfl (by decide) row l.length (cS l) hs hown.own.2.1 A m.length ca hA (cS m) hx (by rw [kP];omega) hr (oN m) (by unfold maxLen;omega) (by omega) hown.own.2.2 λ v' w' h2 h3 h4=>?_
 obtain ⟨h5,h6⟩:=yv hown.own h2 h3;refine h v' w' ⟨h5,hown.bel.trans h6,hown.blk.grown h3 hown.ne,λ e=>?_⟩;rcases h4 with h4 | h4
 ·rw [h4] at e;exact hown.ne e
 ·rw [h4] at e;have:=hown.blk.lt;injection e;omega
def uF (d:Nat):Prop:=∀ (l:List SJ) (css:List (List Value)) (A:Option Addr) (nl ca:Nat) (F:Nat->Prop) (w:World),SRs w F css l->l.length=nl->nl<=ca->nl<=4194304->RdF w F A css.flatten->bJ d l=true->a9 l->bt (aw l)<=100000000000 ->
 Calls Tryz.prog 47 #[Zs A nl ca] w (jQ ((aw l).map aF) w)
set_option maxHeartbeats 32000000 in
theorem toq (d:Nat) (ih:d≠0->uF (d-1)):uF d:=by
 intro l css A nl ca F w hS hln hnc hn4 hR hmay hC hlen;have HKD:=aW (And.intro hS hR);have HNK:=aW hln;have HCL:=aW (cM.1 hC);have HML:=aW (iA.1 hmay);have HLEN:=aW hlen;have HB0:=aW (Below.refl w.heap.size w);have HO0:=aW (dc.nil w);clear hS hln hR hmay hC hlen;go_enter Tryz.func47,Tryz.ntmps47;go_wp2;go_loopg [3,4] nl (λ gk s3 s4 wr => ∃ (i:Nat) (row:Value),row=s3/\i<=nl/\gk=nl-i/\s4=Zi Zq (i:Int)/\Hid (dc w.heap.size row ((aw (l.take i)).map aF) wr)/\Hid (Below w.heap.size w wr))
 case atStart=>exact ⟨0,_,rfl,Nat.zero_le _,rfl,rfl,aW (by rw [List.take_zero,aw];exact HO0.out),HB0⟩
 case round =>
  obtain ⟨i,row,rfl,hi,hgk,rfl,HO,HB⟩:=hrel;have HGK:=aW hgk;clear hgk HO0 HB0;by_cases hin:i<nl
  ·obtain ⟨x,hx⟩:∃ x,l[i]? = some x:=⟨_,List.getElem?_eq_getElem (by rw [HNK.out];exact hin)⟩
   have hxm:=List.mem_of_getElem? hx;have hcx:=HCL.out x hxm;have hmx:=HML.out x hxm;have htt:aw (l.take (i+1))=aw (l.take i)++dy x:=by rw [List.take_add_one,hx];show aw (l.take i++[x])=_;rw [gI,aw,aw,List.append_nil]
   have HTK:=aW htt;have hsub:bt (aw (l.take (i+1)))<=bt (aw l):=by
    have h3:=congrArg bt (congrArg aw (List.take_append_drop (i+1) l));rw [gI,al] at h3;omega
   have hlx:bt (dy x)<=100000000000:=by
    rw [htt,al] at hsub;have:=HLEN.out;omega
   have HLB:=aW (show ((aw (l.take (i+1))).map aF).length<=100000000000 from Nat.le_trans (dL _) (Nat.le_trans hsub HLEN.out));obtain ⟨l0,hl0⟩:∃ q,(aw (l.take i)).map aF=q:=⟨_,rfl⟩
   rw [hl0] at HO;have hS1:=HKD.out.1;have hR1:=HKD.out.2;obtain ⟨k,s,a,b,body,els⟩:=x;obtain ⟨bl,o,ka,kva,nva,sva,Ava,nka,cka,Bva,nya,cya,sa,Ca,nxa,cxa,kb,kvb,nvb,svb,Avb,nkb,ckb,Bvb,nyb,cyb,sb,Cb,nxb,cxb,BA,LA,cb,cl,bss,lss,rfl,hbl,_,hEA,hEB,⟨hb1,hb2_,hb3⟩,⟨he1,he2,he3⟩,hSR,hz⟩:=du hS1 hR1 hx;have hOld:=λ (W:World) (h:Below w.heap.size w W)=>And.intro (hEA.bel h) (And.intro (hEB.bel h) (And.intro (And.intro (RR.imp hb1 λ c x (hc:SR _ _ c x)=>hc.bel h) (hb3.keep (ah.of_below h))) (And.intro (RR.imp he1 λ c x (hc:SR _ _ c x)=>hc.bel h) (he3.keep (ah.of_below h)))))
   unfold fX at hcx;obtain ⟨hik,hsl,hca,hcb,hbl4,hel4,hcbo,hcel⟩:=hcx;have hd0:d≠0/\fY a/\(if k=1 then decide (fY b) && decide (s=[]/\body.length+els.length=0) else if k=2 then dp b && (decide (s=[]) && (bJ (d-1) body && bJ (d-1) els)) else if k=3 then dp b && (dv s && (bJ (d-1) body && decide (els.length=0))) else false)=true:=by
    unfold iB at hmx;rw [Bool.and_eq_true,Bool.and_eq_true,decide_eq_true_eq,decide_eq_true_eq] at hmx;exact ⟨hmx.1,hmx.2.1,hmx.2.2⟩
   obtain ⟨hd0,hfa,hmk⟩:=hd0;have HIH:=aW (ih hd0);obtain ⟨la,hla⟩:∃ q,(az 1 a).map aF=q:=⟨_,rfl⟩
   obtain ⟨lb,hlb⟩:∃ q,(az 1 b).map aF=q:=⟨_,rfl⟩
   obtain ⟨lc,hlc⟩:∃ q,(aw body).map aF=q:=⟨_,rfl⟩
   obtain ⟨ld,hld⟩:∃ q,(aw els).map aF=q:=⟨_,rfl⟩
   have hla9:bt (az 1 a)<=100000000000:=by
    unfold dy at hlx;split at hlx
    ·rw [ai,al] at hlx;omega
    ·rw [al,al] at hlx;omega
   have hEAw:=λ (W:World) (h:Below w.heap.size w W)=>(hOld W h).1
   have hEBw:=λ (W:World) (h:Below w.heap.size w W)=>(hOld W h).2.1
   have hBDw:=λ (W:World) (h:Below w.heap.size w W)=>(hOld W h).2.2.1
   have hELw:=λ (W:World) (h:Below w.heap.size w W)=>(hOld W h).2.2.2
   have HEA:=aW (λ (W:World) (h:Below w.heap.size w W)=>ws 12 a [Zi Zq ka,Zi Zq kva,Zi Zq nva,Zt sva,Zs Ava nka cka,Zs Bva nya cya,Zt sa,Zs Ca nxa cxa] 1 F W (hEAw W h) hca hfa (by decide) hla9);have HLX:=aW hlx;obtain ⟨nb,hnb⟩:∃ q,body.length=q:=⟨_,rfl⟩
   obtain ⟨nl2,hnl2⟩:∃ q,els.length=q:=⟨_,rfl⟩
   rw [hnb] at hb2_ hbl4 hz;rw [hnl2] at he2 hel4 hz;obtain ⟨S,hS⟩:∃ S:ByteArray,⟨s.toArray⟩=S:=⟨_,rfl⟩
   rw [hS] at hz;have HSS:=aW hS;have HRG:=aW (show wr.rangeAt bl (o+i*20) [Zi Zq k,Zt S,Zi Zq ka,Zi Zq kva,Zi Zq nva,Zt sva,Zs Ava nka cka,Zs Bva nya cya,Zt sa,Zs Ca nxa cxa,Zi Zq kb,Zi Zq kvb,Zi Zq nvb,Zt svb,Zs Avb nkb ckb,Zs Bvb nyb cyb,Zt sb,Zs Cb nxb cxb,Zs BA nb cb,Zs LA nl2 cl] from λ j v hv=>by rw [Nat.add_assoc];exact (HB.out.cell (p:=⟨bl,o+(i*20+j),none⟩) hbl).trans (hz j v hv));have HMK:=aW hmk;have hlb_:bl<wr.heap.size:=Nat.lt_of_lt_of_le hbl HB.out.size;obtain ⟨W0,hW0⟩:∃ W0,wr.alloc (.cells #[Zi Zq k,Zt S,Zi Zq ka,Zi Zq kva,Zi Zq nva,Zt sva,Zs Ava nka cka,Zs Bva nya cya,Zt sa,Zs Ca nxa cxa,Zi Zq kb,Zi Zq kvb,Zi Zq nvb,Zt svb,Zs Avb nkb ckb,Zs Bvb nyb cyb,Zt sb,Zs Cb nxb cxb,Zs BA nb cb,Zs LA nl2 cl] 48)=W0:=⟨_,rfl⟩
   have n0:LnS w W0 row l0 wr.heap.size 48 #[Zi Zq k,Zt S,Zi Zq ka,Zi Zq kva,Zi Zq nva,Zt sva,Zs Ava nka cka,Zs Bva nya cya,Zt sa,Zs Ca nxa cxa,Zi Zq kb,Zi Zq kvb,Zi Zq nvb,Zt svb,Zs Avb nkb ckb,Zs Bvb nyb cyb,Zt sb,Zs Cb nxb cxb,Zs BA nb cb,Zs LA nl2 cl]:=by
    have hbA:=js wr (.cells #[Zi Zq k,Zt S,Zi Zq ka,Zi Zq kva,Zi Zq nva,Zt sva,Zs Ava nka cka,Zs Bva nya cya,Zt sa,Zs Ca nxa cxa,Zi Zq kb,Zi Zq kvb,Zi Zq nvb,Zt svb,Zs Avb nkb ckb,Zs Bvb nyb cyb,Zt sb,Zs Cb nxb cxb,Zs BA nb cb,Zs LA nl2 cl] 48);rw [hW0] at hbA;exact ⟨HO.out.bel hbA,HB.out.trans (hbA.mono HB.out.size),by rw [← hW0];exact Blk.new _ _ _,λ e=>by have:=(HO.out.2.1.lt _ e.symm).2;omega⟩
   have HW0:=aW hW0;clear hz hSR hx hxm hbl hS1 hR1 hmx hik hsl hd0 hS hW0 htt hsub hlx;go_upto_region 5 with fail;go_step;go_step;go_step;go_step;go_step;go_step;go_step;go_step;go_step;go_step;refine wpList_load_mid rfl 48 (.tmp 14) rfl bl (o+i*20) rfl [Zi Zq k,Zt S,Zi Zq ka,Zi Zq kva,Zi Zq nva,Zt sva,Zs Ava nka cka,Zs Bva nya cya,Zt sa,Zs Ca nxa cxa,Zi Zq kb,Zi Zq kvb,Zi Zq nvb,Zt svb,Zs Avb nkb ckb,Zs Bvb nyb cyb,Zt sb,Zs Cb nxb cxb,Zs BA nb cb,Zs LA nl2 cl] _ HRG.out Tryz.underlying48 rfl (by kernel_rfl) ?_;go_step;go_step;go_step;refine cT rfl 48 (.tmp 5) (.tmp 15) rfl _ _ rfl rfl (by kernel_rfl) (by kernel_rfl) (by first | kernel_rfl | simp [Value.oneCell']) ?_;rw [HW0.out];clear HW0 HRG hlb_;by_cases hk1:k=1
   ·subst hk1;have hfb:fY b:=by have h:=hmk;rw [if_pos rfl,Bool.and_eq_true,decide_eq_true_eq] at h;exact h.1
    have HEB:=aW (λ (W:World) (h:Below w.heap.size w W)=>ws 12 b [Zi Zq kb,Zi Zq kvb,Zi Zq nvb,Zt svb,Zs Avb nkb ckb,Zs Bvb nyb cyb,Zt sb,Zs Cb nxb cxb] 1 F W (hEBw W h) hcb hfb (by decide) (by have h9:=HLX.out;rw [dy,if_pos rfl,ai,al,ai,al] at h9;omega));rw [hla] at HEA;rw [hlb] at HEB;unfold jQ at HEA HEB;have hT:dy (.mk 1 s a b body els)=bv d8::(az 1 a++aA [44]::(az 1 b++[aA [59]])):=by rw [dy,if_pos rfl]
    have HTX:=aW (show (aw (l.take (i+1))).map aF=(((((l0++[[101,109,105,116]])++la)++[[44]])++lb)++[[59]]) by rw [HTK.out,hT,List.map_append,hl0];simp only [List.map_append,List.map_cons,hla,hlb,hlc,hld,List.append_assoc,List.cons_append,List.nil_append,bB];rfl);have hLN:l0.length+1+la.length+1+lb.length+1<=100000000000:=by
     have h1:=congrArg List.length HTX.out;have h2:=HLB.out;simp only [List.length_append,List.length_cons,List.length_nil] at h1;omega
    clear hT hla hlb hlc hld hl0 hOld hEAw hEBw hBDw hELw hEA hEB hb1 hb3 he1 he3 hca hcb hcbo hcel hfa hmk HMK;obtain ⟨c0,f0,l0_⟩:=n0.blk.rules;go_wp2_with (first
     | (at_builtin;refine aB rfl _ _ rfl rfl (n4.keep (js _ _)) rfl [[59]] (some ⟨W4.heap.size,0,none⟩) 1 1 rfl rfl (λ e=>by cases e) (Rd.of_blk (Blk.new W4 9 #[Zt ⟨#[59]⟩])) (by simp only [List.length_append,List.length_cons,List.length_nil];omega) ?_;intro row5 W5 n5;obtain ⟨c5,f5,l5⟩:=n5.blk.rules)
     | (at_builtin;refine aB rfl _ _ rfl rfl m4 rfl lb RA4 lb.length rc4 rfl rfl hr4.rdA.2.1 hr4.rdA.2.2 (by simp only [List.length_append,List.length_cons,List.length_nil];omega) ?_;intro row4 W4 n4;obtain ⟨c4,f4,l4⟩:=n4.blk.rules)
     | (go_at_call 82;refine (HEB.out _ n3.bel).mono ?_;rintro e V4 ⟨rw4,rfl,hr4,hb4⟩;obtain ⟨RA4,rc4,rfl⟩:=hr4.sl;have m4:=n3.keep hb4)
     | (at_builtin;refine aB rfl _ _ rfl rfl (n2.keep (js _ _)) rfl [[44]] (some ⟨W2.heap.size,0,none⟩) 1 1 rfl rfl (λ e=>by cases e) (Rd.of_blk (Blk.new W2 9 #[Zt ⟨#[44]⟩])) (by simp only [List.length_append,List.length_cons,List.length_nil];omega) ?_;intro row3 W3 n3;obtain ⟨c3,f3,l3⟩:=n3.blk.rules)
     | (at_builtin;refine aB rfl _ _ rfl rfl m2 rfl la RA2 la.length rc2 rfl rfl hr2.rdA.2.1 hr2.rdA.2.2 (by simp only [List.length_append,List.length_cons,List.length_nil];omega) ?_;intro row2 W2 n2;obtain ⟨c2,f2,l2⟩:=n2.blk.rules)
     | (go_at_call 82;refine (HEA.out _ n1.bel).mono ?_;rintro e V2 ⟨rw2,rfl,hr2,hb2⟩;obtain ⟨RA2,rc2,rfl⟩:=hr2.sl;have m2:=n1.keep hb2)
     | (at_builtin;refine aB rfl _ _ rfl rfl (n0.keep (js _ _)) rfl [[101,109,105,116]] (some ⟨W0.heap.size,0,none⟩) 1 1 rfl rfl (λ e=>by cases e) (Rd.of_blk (Blk.new W0 9 #[Zt ⟨#[101,109,105,116]⟩])) (by simp only [List.length_append,List.length_cons,List.length_nil];omega) ?_;intro row1 W1 n1;obtain ⟨c1,f1,l1⟩:=n1.blk.rules))
    have HO9:=aW (show dc w.heap.size row5 ((aw (l.take (i+1))).map aF) W5 by rw [HTX.out];exact n5.own);have HB9:=aW n5.bel;go_wp2;go_roundg (nl-(i+1))
    case measure=>have:=HGK.out;omega
    case rel=>exact ⟨i+1,_,rfl,hin,rfl,by go_num,HO9,HB9⟩
   have ek1:(k == 1)=false:=by simp [hk1]
   by_cases hk3:k=3
   ·subst hk3;have hh:=hmk;rw [if_neg (by decide),if_neg (by decide),if_pos rfl,Bool.and_eq_true,Bool.and_eq_true,Bool.and_eq_true,decide_eq_true_eq] at hh;obtain ⟨_,hnm,hmb,hle⟩:=hh;have HEC:=aW (λ (W:World) (h:Below w.heap.size w W)=>HIH.out body bss BA nb cb F W (hBDw W h).1 hnb hb2_ hbl4 (hBDw W h).2 hmb hcbo (by have h9:=HLX.out;rw [dy,if_neg (by decide),al,al,ai,al] at h9;omega));rw [hla] at HEA;rw [hlc] at HEC;unfold jQ at HEA HEC;have hT:dy (.mk 3 s a b body els)=[bv gM,eW s,bv wIn]++(az 1 a++bB body):=by rw [dy,if_neg (by decide),if_pos rfl,if_pos hle];rfl
    have HTX:=aW (show (aw (l.take (i+1))).map aF=(((((l0++[[102,111,114],s,[105,110]])++la)++[[123]])++lc)++[[125]]) by rw [HTK.out,hT,List.map_append,hl0];simp only [List.map_append,List.map_cons,hla,hlb,hlc,hld,List.append_assoc,List.cons_append,List.nil_append,bB];rfl);have hLN:l0.length+3+la.length+1+lc.length+1<=100000000000:=by
     have h1:=congrArg List.length HTX.out;have h2:=HLB.out;simp only [List.length_append,List.length_cons,List.length_nil] at h1;omega
    clear hT hla hlb hlc hld hl0 hOld hEAw hEBw hBDw hELw hEA hEB hb1 hb3 he1 he3 hca hcb hcbo hcel hfa hmk HMK;obtain ⟨c0,f0,l0_⟩:=n0.blk.rules;go_wp2_with (first
     | (at_builtin;refine aB rfl _ _ rfl rfl (n4.keep (js _ _)) rfl [[125]] (some ⟨W4.heap.size,0,none⟩) 1 1 rfl rfl (λ e=>by cases e) (Rd.of_blk (Blk.new W4 9 #[Zt ⟨#[125]⟩])) (by simp only [List.length_append,List.length_cons,List.length_nil];omega) ?_;intro row5 W5 n5;obtain ⟨c5,f5,l5⟩:=n5.blk.rules)
     | (at_builtin;refine aB rfl _ _ rfl rfl m4 rfl lc RA4 lc.length rc4 rfl rfl hr4.rdA.2.1 hr4.rdA.2.2 (by simp only [List.length_append,List.length_cons,List.length_nil];omega) ?_;intro row4 W4 n4;obtain ⟨c4,f4,l4⟩:=n4.blk.rules)
     | (go_at_call 47;refine (HEC.out _ n3.bel).mono ?_;rintro e V4 ⟨rw4,rfl,hr4,hb4⟩;obtain ⟨RA4,rc4,rfl⟩:=hr4.sl;have m4:=n3.keep hb4)
     | (at_builtin;refine aB rfl _ _ rfl rfl (n2.keep (js _ _)) rfl [[123]] (some ⟨W2.heap.size,0,none⟩) 1 1 rfl rfl (λ e=>by cases e) (Rd.of_blk (Blk.new W2 9 #[Zt ⟨#[123]⟩])) (by simp only [List.length_append,List.length_cons,List.length_nil];omega) ?_;intro row3 W3 n3;obtain ⟨c3,f3,l3⟩:=n3.blk.rules)
     | (at_builtin;refine aB rfl _ _ rfl rfl m2 rfl la RA2 la.length rc2 rfl rfl hr2.rdA.2.1 hr2.rdA.2.2 (by simp only [List.length_append,List.length_cons,List.length_nil];omega) ?_;intro row2 W2 n2;obtain ⟨c2,f2,l2⟩:=n2.blk.rules)
     | (go_at_call 82;refine (HEA.out _ n1.bel).mono ?_;rintro e V2 ⟨rw2,rfl,hr2,hb2⟩;obtain ⟨RA2,rc2,rfl⟩:=hr2.sl;have m2:=n1.keep hb2)
     | (at_builtin;refine aB rfl _ _ rfl rfl (n0.keep (js _ _)) rfl [[102,111,114],s,[105,110]] (some ⟨W0.heap.size,0,none⟩) 3 3 rfl rfl (λ e=>by cases e) (by have e9:cS [[102,111,114],s,[105,110]]=[Zt ⟨#[102,111,114]⟩,Zt S,Zt ⟨#[105,110]⟩]:=(by rw [← HSS.out];rfl);rw [e9];exact Rd.of_blk (Blk.new W0 9 #[Zt ⟨#[102,111,114]⟩,Zt S,Zt ⟨#[105,110]⟩])) (by simp only [List.length_append,List.length_cons,List.length_nil];omega) ?_;intro row1 W1 n1;obtain ⟨c1,f1,l1⟩:=n1.blk.rules))
    have HO9:=aW (show dc w.heap.size row5 ((aw (l.take (i+1))).map aF) W5 by rw [HTX.out];exact n5.own);have HB9:=aW n5.bel;go_wp2;go_roundg (nl-(i+1))
    case measure=>have:=HGK.out;omega
    case rel=>exact ⟨i+1,_,rfl,hin,rfl,by go_num,HO9,HB9⟩
   have ek3:(k == 3)=false:=by simp [hk3]
   have hk2:k=2:=by
    have h:=hmk;rw [if_neg hk1] at h;by_cases h2:k=2
    ·exact h2
    ·rw [if_neg h2,if_neg hk3] at h;cases h
   subst hk2;have hh:=hmk;rw [if_neg (by decide),if_pos rfl,Bool.and_eq_true,Bool.and_eq_true,Bool.and_eq_true] at hh;obtain ⟨_,_,hmb,hme⟩:=hh;have HEC:=aW (λ (W:World) (h:Below w.heap.size w W)=>HIH.out body bss BA nb cb F W (hBDw W h).1 hnb hb2_ hbl4 (hBDw W h).2 hmb hcbo (by have h9:=HLX.out;rw [dy,if_neg (by decide),al,al,ai,al] at h9;omega));rw [hla] at HEA;rw [hlc] at HEC;unfold jQ at HEA HEC;clear hk1 hk3 ek1 ek3;by_cases hle:els.length=0
   ·have h0l:¬ (0:Int)<(nl2:Int):=by omega
    have hT:dy (.mk 2 s a b body els)=[bv wIf]++(az 1 a++bB body):=by rw [dy,if_neg (by decide),if_neg (by decide),if_pos hle];rfl
    have HTX:=aW (show (aw (l.take (i+1))).map aF=(((((l0++[[105,102]])++la)++[[123]])++lc)++[[125]]) by rw [HTK.out,hT,List.map_append,hl0];simp only [List.map_append,List.map_cons,hla,hlb,hlc,hld,List.append_assoc,List.cons_append,List.nil_append,bB];rfl);have hLN:l0.length+1+la.length+1+lc.length+1<=100000000000:=by
     have h1:=congrArg List.length HTX.out;have h2:=HLB.out;simp only [List.length_append,List.length_cons,List.length_nil] at h1;omega
    clear hT hla hlb hlc hld hl0 hOld hEAw hEBw hBDw hELw hEA hEB hb1 hb3 he1 he3 hca hcb hcbo hcel hfa hmk HMK;obtain ⟨c0,f0,l0_⟩:=n0.blk.rules;go_wp2_with (first
     | (at_builtin;refine aB rfl _ _ rfl rfl (n4.keep (js _ _)) rfl [[125]] (some ⟨W4.heap.size,0,none⟩) 1 1 rfl rfl (λ e=>by cases e) (Rd.of_blk (Blk.new W4 9 #[Zt ⟨#[125]⟩])) (by simp only [List.length_append,List.length_cons,List.length_nil];omega) ?_;intro row5 W5 n5;obtain ⟨c5,f5,l5⟩:=n5.blk.rules)
     | (at_builtin;refine aB rfl _ _ rfl rfl m4 rfl lc RA4 lc.length rc4 rfl rfl hr4.rdA.2.1 hr4.rdA.2.2 (by simp only [List.length_append,List.length_cons,List.length_nil];omega) ?_;intro row4 W4 n4;obtain ⟨c4,f4,l4⟩:=n4.blk.rules)
     | (go_at_call 47;refine (HEC.out _ n3.bel).mono ?_;rintro e V4 ⟨rw4,rfl,hr4,hb4⟩;obtain ⟨RA4,rc4,rfl⟩:=hr4.sl;have m4:=n3.keep hb4)
     | (at_builtin;refine aB rfl _ _ rfl rfl (n2.keep (js _ _)) rfl [[123]] (some ⟨W2.heap.size,0,none⟩) 1 1 rfl rfl (λ e=>by cases e) (Rd.of_blk (Blk.new W2 9 #[Zt ⟨#[123]⟩])) (by simp only [List.length_append,List.length_cons,List.length_nil];omega) ?_;intro row3 W3 n3;obtain ⟨c3,f3,l3⟩:=n3.blk.rules)
     | (at_builtin;refine aB rfl _ _ rfl rfl m2 rfl la RA2 la.length rc2 rfl rfl hr2.rdA.2.1 hr2.rdA.2.2 (by simp only [List.length_append,List.length_cons,List.length_nil];omega) ?_;intro row2 W2 n2;obtain ⟨c2,f2,l2⟩:=n2.blk.rules)
     | (go_at_call 82;refine (HEA.out _ n1.bel).mono ?_;rintro e V2 ⟨rw2,rfl,hr2,hb2⟩;obtain ⟨RA2,rc2,rfl⟩:=hr2.sl;have m2:=n1.keep hb2)
     | (at_builtin;refine aB rfl _ _ rfl rfl (n0.keep (js _ _)) rfl [[105,102]] (some ⟨W0.heap.size,0,none⟩) 1 1 rfl rfl (λ e=>by cases e) (Rd.of_blk (Blk.new W0 9 #[Zt ⟨#[105,102]⟩])) (by simp only [List.length_append,List.length_cons,List.length_nil];omega) ?_;intro row1 W1 n1;obtain ⟨c1,f1,l1⟩:=n1.blk.rules))
    have HO9:=aW (show dc w.heap.size row5 ((aw (l.take (i+1))).map aF) W5 by rw [HTX.out];exact n5.own);have HB9:=aW n5.bel;go_wp2;go_roundg (nl-(i+1))
    case measure=>have:=HGK.out;omega
    case rel=>exact ⟨i+1,_,rfl,hin,rfl,by go_num,HO9,HB9⟩
   ·have HED:=aW (λ (W:World) (h:Below w.heap.size w W)=>HIH.out els lss LA nl2 cl F W (hELw W h).1 hnl2 he2 hel4 (hELw W h).2 hme hcel (by have h9:=HLX.out;rw [dy,if_neg (by decide),if_neg hle,al,al,ai,al,ai,ai,ai,al] at h9;omega));rw [hld] at HED;unfold jQ at HED;have h0l:(0:Int)<(nl2:Int):=by omega
    have hT:dy (.mk 2 s a b body els)=[bv wIf]++(az 1 a++(bB body++bv dE::bB els)):=by rw [dy,if_neg (by decide),if_neg (by decide),if_neg hle];unfold bB;simp
    have HTX:=aW (show (aw (l.take (i+1))).map aF=((((((((l0++[[105,102]])++la)++[[123]])++lc)++[[125]])++[[101,108,115,101],[123]])++ld)++[[125]]) by rw [HTK.out,hT,List.map_append,hl0];simp only [List.map_append,List.map_cons,hla,hlb,hlc,hld,List.append_assoc,List.cons_append,List.nil_append,bB];rfl);have hLN:l0.length+1+la.length+1+lc.length+1+2+ld.length+1<=100000000000:=by
     have h1:=congrArg List.length HTX.out;have h2:=HLB.out;simp only [List.length_append,List.length_cons,List.length_nil] at h1;omega
    clear hT hla hlb hlc hld hl0 hOld hEAw hEBw hBDw hELw hEA hEB hb1 hb3 he1 he3 hca hcb hcbo hcel hfa hmk HMK;obtain ⟨c0,f0,l0_⟩:=n0.blk.rules;go_wp2_with (first
     | (at_builtin;refine aB rfl _ _ rfl rfl (n7.keep (js _ _)) rfl [[125]] (some ⟨W7.heap.size,0,none⟩) 1 1 rfl rfl (λ e=>by cases e) (Rd.of_blk (Blk.new W7 9 #[Zt ⟨#[125]⟩])) (by simp only [List.length_append,List.length_cons,List.length_nil];omega) ?_;intro row8 W8 n8;obtain ⟨c8,f8,l8⟩:=n8.blk.rules)
     | (at_builtin;refine aB rfl _ _ rfl rfl m7 rfl ld RA7 ld.length rc7 rfl rfl hr7.rdA.2.1 hr7.rdA.2.2 (by simp only [List.length_append,List.length_cons,List.length_nil];omega) ?_;intro row7 W7 n7;obtain ⟨c7,f7,l7⟩:=n7.blk.rules)
     | (go_at_call 47;refine (HED.out _ n6.bel).mono ?_;rintro e V7 ⟨rw7,rfl,hr7,hb7⟩;obtain ⟨RA7,rc7,rfl⟩:=hr7.sl;have m7:=n6.keep hb7)
     | (at_builtin;refine aB rfl _ _ rfl rfl (n5.keep (js _ _)) rfl [[101,108,115,101],[123]] (some ⟨W5.heap.size,0,none⟩) 2 2 rfl rfl (λ e=>by cases e) (Rd.of_blk (Blk.new W5 9 #[Zt ⟨#[101,108,115,101]⟩,Zt ⟨#[123]⟩])) (by simp only [List.length_append,List.length_cons,List.length_nil];omega) ?_;intro row6 W6 n6;obtain ⟨c6,f6,l6⟩:=n6.blk.rules)
     | (at_builtin;refine aB rfl _ _ rfl rfl (n4.keep (js _ _)) rfl [[125]] (some ⟨W4.heap.size,0,none⟩) 1 1 rfl rfl (λ e=>by cases e) (Rd.of_blk (Blk.new W4 9 #[Zt ⟨#[125]⟩])) (by simp only [List.length_append,List.length_cons,List.length_nil];omega) ?_;intro row5 W5 n5;obtain ⟨c5,f5,l5⟩:=n5.blk.rules)
     | (at_builtin;refine aB rfl _ _ rfl rfl m4 rfl lc RA4 lc.length rc4 rfl rfl hr4.rdA.2.1 hr4.rdA.2.2 (by simp only [List.length_append,List.length_cons,List.length_nil];omega) ?_;intro row4 W4 n4;obtain ⟨c4,f4,l4⟩:=n4.blk.rules)
     | (go_at_call 47;refine (HEC.out _ n3.bel).mono ?_;rintro e V4 ⟨rw4,rfl,hr4,hb4⟩;obtain ⟨RA4,rc4,rfl⟩:=hr4.sl;have m4:=n3.keep hb4)
     | (at_builtin;refine aB rfl _ _ rfl rfl (n2.keep (js _ _)) rfl [[123]] (some ⟨W2.heap.size,0,none⟩) 1 1 rfl rfl (λ e=>by cases e) (Rd.of_blk (Blk.new W2 9 #[Zt ⟨#[123]⟩])) (by simp only [List.length_append,List.length_cons,List.length_nil];omega) ?_;intro row3 W3 n3;obtain ⟨c3,f3,l3⟩:=n3.blk.rules)
     | (at_builtin;refine aB rfl _ _ rfl rfl m2 rfl la RA2 la.length rc2 rfl rfl hr2.rdA.2.1 hr2.rdA.2.2 (by simp only [List.length_append,List.length_cons,List.length_nil];omega) ?_;intro row2 W2 n2;obtain ⟨c2,f2,l2⟩:=n2.blk.rules)
     | (go_at_call 82;refine (HEA.out _ n1.bel).mono ?_;rintro e V2 ⟨rw2,rfl,hr2,hb2⟩;obtain ⟨RA2,rc2,rfl⟩:=hr2.sl;have m2:=n1.keep hb2)
     | (at_builtin;refine aB rfl _ _ rfl rfl (n0.keep (js _ _)) rfl [[105,102]] (some ⟨W0.heap.size,0,none⟩) 1 1 rfl rfl (λ e=>by cases e) (Rd.of_blk (Blk.new W0 9 #[Zt ⟨#[105,102]⟩])) (by simp only [List.length_append,List.length_cons,List.length_nil];omega) ?_;intro row1 W1 n1;obtain ⟨c1,f1,l1⟩:=n1.blk.rules))
    have HO9:=aW (show dc w.heap.size row8 ((aw (l.take (i+1))).map aF) W8 by rw [HTX.out];exact n8.own);have HB9:=aW n8.bel;go_wp2;go_roundg (nl-(i+1))
    case measure=>have:=HGK.out;omega
    case rel=>exact ⟨i+1,_,rfl,hin,rfl,by go_num,HO9,HB9⟩
  ·obtain rfl:i=nl:=by omega
   have HF:=aW (show aw (l.take i)=aw l by rw [List.take_of_length_le (Nat.le_of_eq HNK.out)]);rw [HF.out] at HO;go_wp2;go_ret;exact ⟨_,rfl,HO.out,HB.out⟩
theorem wh:∀ d,uF d
 | 0=>toq 0 λ h=>absurd rfl h
 | d+1=>toq (d+1) λ _=>wh d
theorem lQ (a b:ByteArray):sl (a++b)=sl a++sl b:=by simp [sl,ByteArray.data_append]
theorem kf:∀ (l:List (List UInt8)) (i:Nat),(dm (l.take i)).length<=(dm l).length
 | [],i=>by simp
 | t::r,0=>by simp [dm]
 |t::r,i+1=>by
  show (t++dh t (r.take i)).length<=(t++dh t r).length
  have h:=congrArg List.length (gT t (r.take i) (r.drop i));rw [List.take_append_drop,List.length_append] at h;rw [List.length_append,List.length_append];omega
set_option maxHeartbeats 32000000 in
theorem xW (p:List SJ) (css:List (List Value)) (A:Option Addr) (n ca:Nat) (F:Nat->Prop) (w:World) (hS:SRs w F css p) (hln:p.length=n) (hnc:n<=ca) (hn4:n<=4194304) (hR:RdF w F A css.flatten) (hmay:ie p=true) (hC:a9 p) (hlen:bt (aw p)<=1000000000) :
  Calls Tryz.prog 19 #[.agg #[Zs A n ca]] w λ e w'=>e=.returned (Zt ⟨(fB p).toArray⟩)/\Below w.heap.size w w':=by
 obtain ⟨l,hl⟩:∃ l,(aw p).map aF=l:=⟨_,rfl⟩
 have hne:∀ x ∈ l,x≠[]:=λ x hx=>by
  rw [← hl] at hx;obtain ⟨y,hy,rfl⟩:=List.mem_map.1 hx;exact (vI ((tC hmay hC).all y hy)).1
 have HNE:=aW hne;have HPT:=aW (show fB p=dm l by rw [← hl];rfl);have hsum:(dm l).length<=bt (aw p):=by
  have h1:=qR hmay hC;have h2:=mT (aw p) ([],false);rw [h1,HPT.out] at h2;simpa using h2
 have HTL:=aW (show ∀ i,(dm (l.take i)).length<=1000000000 from λ i=>Nat.le_trans (kf l i) (Nat.le_trans hsum hlen));have HLN:=aW (λ (W:World) (h:Below w.heap.size w W)=>wh 12 p css A n ca F W (RR.imp hS λ c x hc=>hc.bel h) hln hnc hn4 (hR.keep (ah.of_below h)) hmay hC (by omega));rw [hl] at HLN;unfold jQ at HLN;have HT0:=aW (TX.new w 24 #[Zs A n ca]);have HML:=aW (show l.length<=1000000000 by have:=dL (aw p);rw [hl] at this;omega);obtain ⟨m,hm⟩:∃ m,l.length=m:=⟨_,rfl⟩
 have HM:=aW hm;rw [HPT.out];obtain ⟨G,hG⟩:∃ G,dm l=G:=⟨_,rfl⟩
 rw [hG];have HGG:=aW hG;obtain ⟨c0,f0,l0⟩:=HT0.out.blk.rules;clear hS hln hnc hn4 hR hmay hC hlen hl hne hsum hm hG;go_enter Tryz.func19,Tryz.ntmps19;go_wp2_with (go_at_call 47;refine (HLN.out _ HT0.out.bel).mono ?_;rintro e w1 ⟨row,rfl,hrow,hb1⟩;obtain ⟨RA,rc,rfl⟩:=hrow.sl;rw [HM.out]);have hrd:=hrow.rdA.2.2;have HRD:=aW hrd;have HB1:=aW (HT0.out.bel.trans (hb1.mono HT0.out.bel.size));have hm9:m<=1000000000:=by rw [← HM.out];exact HML.out
 clear hrd hrow hb1 c0 f0 l0;go_loopg [4,5] m (λ gk s4 s5 wr => ∃ (i:Nat) (O:ByteArray),i<=m/\gk=m-i/\s4=Zt O/\s5=Zi Zq (i:Int)/\Hid (sl O=dm (l.take i))/\Hid (Below w1.heap.size w1 wr))
 case atStart=>exact ⟨0,_,Nat.zero_le _,rfl,rfl,by go_num,aW rfl,aW (Below.refl _ _)⟩
 case round =>
  obtain ⟨i,O,hi,hgk,rfl,rfl,HO,HBR⟩:=hrel;have HGK:=aW hgk;clear hgk;have hOs:O.size<=1000000000:=by rw [← cA,HO.out];exact HTL.out i
  by_cases hin:i<m
  ·obtain ⟨x,hx⟩:∃ x,l[i]? = some x:=⟨_,List.getElem?_eq_getElem (by rw [HM.out];exact hin)⟩
   have hxn:=HNE.out x (List.mem_of_getElem? hx);obtain ⟨c,sr,rfl⟩:∃ c sr,x=c::sr:=by
    cases x with
    | nil=>exact absurd rfl hxn
    | cons c sr=>exact ⟨c,sr,rfl⟩
   obtain ⟨hix,hie⟩:=List.getElem?_eq_some_iff.1 (nj hx);obtain ⟨b,o,rfl,hb,hc⟩:=HRD.out (by intro e;rw [e] at hix;exact absurd hix (Nat.not_lt_zero _));have hcell:=hc i hix;rw [hie] at hcell;have hcell:=(HBR.out.cell (p:=⟨b,o+i,none⟩) hb).trans hcell;have HCC:=aW (λ (j:Nat) (y:List UInt8) (hy:l[j]? = some y)=>show wr.cell? ⟨b,o+j,none⟩=some (Zt ⟨y.toArray⟩) by
    obtain ⟨hjx,hje⟩:=List.getElem?_eq_some_iff.1 (nj hy);have h9:=hc j hjx;rw [hje] at h9;exact (HBR.out.cell (p:=⟨b,o+j,none⟩) hb).trans h9)
   have hix0:=λ W=>gQ (s:=c::sr) (i:=0) (a:=c) rfl W
   obtain ⟨S,hS⟩:∃ S:ByteArray,⟨(c::sr).toArray⟩=S:=⟨_,rfl⟩
   have hsz:S.size=sr.length+1:=by rw [← hS];simp [ByteArray.size]
   have HS:=aW hS;have hS0:∀ h:0<S.size,((S[0]'h).toNat)=c.toNat:=by subst hS;intro h;rfl
   have hxp2:(S.toList == (⟨#[46]⟩:ByteArray).toList)=((c::sr) == [46]):=by
    rw [← hS,show (⟨#[46]⟩:ByteArray)=⟨([46]:List UInt8).toArray⟩ from rfl,d5];rw [Bool.eq_iff_iff];simp
   have e46:(⟨#[46]⟩:ByteArray).toList=[46]:=by first | simp | rfl
   have hxp3:(S.toList == [46])=((c::sr) == [46]):=by rw [← hxp2,e46]
   clear e46;obtain ⟨xp,hxp⟩:∃ q,((c::sr) == [46])=q:=⟨_,rfl⟩
   rw [hxp] at hxp2 hxp3;have HXP:=aW hxp;rw [hS] at hcell hix0;obtain ⟨cN,hcN⟩:∃ q,c.toNat=q:=⟨_,rfl⟩
   rw [hcN] at hix0 hS0;have HLB:=aW (λ (W:World)=>tm c W);rw [hcN] at HLB;obtain ⟨wdc,hwc⟩:∃ q,bE c=q:=⟨_,rfl⟩
   rw [hwc] at HLB;have hSle:S.size<=1000000000:=by
    have h1:=HTL.out (i+1);have h2:(dm (l.take (i+1))).length=(dm (l.take i)).length+((dm (l.take (i+1))).length-(dm (l.take i)).length):=by
     have h3:=kf (l.take (i+1)) i;rw [List.take_take,Nat.min_eq_left (Nat.le_succ i)] at h3;omega
    cases i with
    |zero =>
     rw [show l.take 1=[c::sr] by rw [List.take_add_one,List.take_zero,hx];rfl,kQ] at h1;rw [hsz];simpa using h1
    |succ j =>
     obtain ⟨was,hw⟩:∃ x,l[j]? = some x:=⟨_,List.getElem?_eq_getElem (by rw [HM.out];omega)⟩
     rw [jH hw hx,List.length_append,List.length_append] at h1;rw [hsz];simp only [List.length_cons] at h1;omega
   by_cases hi0:i=0
   ·have h0i:¬ (0:Int)<(i:Int):=by omega
    have HTX:=aW (show sl (O++S)=dm (l.take (i+1)) by
     rw [lQ,HO.out,← HS.out,eQ,hi0];rw [hi0] at hx;rw [show l.take (0+1)=[c::sr] by rw [List.take_add_one,List.take_zero,hx];rfl,kQ];rfl)
    clear hx hS hcN hwc hxp hix hie hc hxn hi0;go_wp2;go_roundg (m-(i+1))
    case measure=>have:=HGK.out;omega
    case rel=>exact ⟨i+1,_,hin,rfl,rfl,by go_num,HTX,HBR⟩
   ·obtain ⟨j,hj⟩:∃ j,i=j+1:=⟨i-1,by omega⟩
    obtain ⟨was,hw⟩:∃ x,l[j]? = some x:=⟨_,List.getElem?_eq_getElem (by rw [HM.out];omega)⟩
    have hwn:=HNE.out was (List.mem_of_getElem? hw);obtain ⟨d,dr,rfl⟩:∃ c sr,was=c::sr:=by
     cases was with
     | nil=>exact absurd rfl hwn
     | cons c sr=>exact ⟨c,sr,rfl⟩
    have hcellw:=HCC.out j _ hw;obtain ⟨z,hz⟩:∃ z,(d::dr).getLast? = some z:=⟨_,List.getLast?_eq_some_getLast (by simp)⟩
    have hz9:(d::dr)[dr.length]? = some z:=by rw [List.getLast?_eq_getElem?] at hz;simpa using hz
    have hwx0:=λ W=>gQ (s:=d::dr) (i:=0) (a:=d) rfl W
    have hwxz:=λ W=>gQ (s:=d::dr) (i:=dr.length) (a:=z) hz9 W
    obtain ⟨P,hP⟩:∃ S:ByteArray,⟨(d::dr).toArray⟩=S:=⟨_,rfl⟩
    have hpz:P.size=dr.length+1:=by rw [← hP];simp [ByteArray.size]
    have hP0:∀ h:0<P.size,((P[0]'h).toNat)=d.toNat:=by subst hP;intro h;rfl
    have hPz:∀ h:dr.length<P.size,((P[dr.length]'h).toNat)=z.toNat:=by
     subst hP;intro h;have e:=(List.getElem?_eq_some_iff.1 hz9).2;show ((d::dr).toArray[dr.length]).toNat=z.toNat
     rw [List.getElem_toArray,e]
    rw [hP] at hcellw hwx0 hwxz;obtain ⟨dN,hdN⟩:∃ q,d.toNat=q:=⟨_,rfl⟩
    obtain ⟨zN,hzN⟩:∃ q,z.toNat=q:=⟨_,rfl⟩
    have HLA:=aW (λ (W:World)=>tm z W);rw [hzN] at HLA;obtain ⟨wl,hwl⟩:∃ q,bE z=q:=⟨_,rfl⟩
    rw [hwl] at HLA;obtain ⟨ndg,hnb⟩:∃ q,bc d=q:=⟨_,rfl⟩
    have HNB:=aW (show ndg=decide (48<=dN/\dN<=57) by rw [← hnb,← hdN];rfl);rw [hdN] at hwx0 hP0;rw [hzN] at hwxz hPz;obtain ⟨gp,hgp⟩:∃ q,nL (d::dr) (c::sr)=q:=⟨_,rfl⟩
    have HGP:=aW (show gp=(wl && wdc || ndg && xp) by
     rw [← hgp];unfold nL;have e:(d::dr).getLastD 0=z:=by rw [List.getLastD_eq_getLast?,hz];rfl
     rw [e,hwl];show (wl && bE c || bc d && ((c::sr) == [46]))=_
     rw [hwc,hnb,HXP.out])
    have HTX:=aW (show dm (l.take (i+1))=dm (l.take i)++((if gp=true then [32] else [])++(c::sr)) by
     rw [hj] at hx ⊢;rw [jH hw hx,hgp])
    have hsub:(i:Int)-1=(j:Int):=by omega
    have hsubw:wrap64 ((i:Int)-1)=(j:Int):=by unfold wrap64;omega
    have h0i:(0:Int)<(i:Int):=by omega
    obtain ⟨dl,hdl⟩:∃ q,dr.length=q:=⟨_,rfl⟩
    rw [hdl] at hpz hwxz hPz;have hdl9:dl+1<=2000000000:=by
     rw [← hdl];have h1:=HTL.out i;rw [hj] at h1;cases j with
     |zero =>
      rw [show l.take (0+1)=[d::dr] by rw [List.take_add_one,List.take_zero,hw];rfl,kQ] at h1;simp at h1;omega
     |succ j2 =>
      obtain ⟨was2,hw2⟩:∃ x,l[j2]? = some x:=⟨_,List.getElem?_eq_getElem (by rw [HM.out];omega)⟩
      rw [jH hw2 hw,List.length_append,List.length_append] at h1;simp at h1;omega
    have hsubz:wrap64 (((dl+1:Nat):Int)-1)=(dl:Int):=by unfold wrap64;omega
    have hsubz2:wrap64 ((dl:Int)+1-1)=(dl:Int):=by unfold wrap64;omega
    have hsubz3:(dl:Int)+1-1=(dl:Int):=by omega
    have hjm:j<m:=by omega
    clear hx hS hcN hwc hxp hix hie hc hxn hi0 hw hwn hz hz9 hP hdN hzN hwl hnb hgp hdl HCC hj;go_upto_region 8 with fail;go_cut [7] (λ s7 wx=>s7=.bool ndg/\wx=wr)
    case first =>
     by_cases hd1:48<=dN
     ·by_cases hd2:dN<=57
      ·have HNT:=aW (show ndg=true by rw [HNB.out];simp;omega);go_wp2;go_meet
       case rel=>exact ⟨by first | (rw [HNT.out];done) | (rw [HNT.out];rfl) | (rw [HNT.out];congr 1;simp;omega),rfl⟩
      ·have HNT:=aW (show ndg=false by rw [HNB.out];simp;omega);go_wp2;go_meet
       case rel=>exact ⟨by first | (rw [HNT.out];done) | (rw [HNT.out];rfl) | (rw [HNT.out];congr 1;simp;omega),rfl⟩
     ·have HNT:=aW (show ndg=false by rw [HNB.out];simp;omega);go_wp2;go_meet
      case rel=>exact ⟨by first | (rw [HNT.out];done) | (rw [HNT.out];rfl) | (rw [HNT.out];congr 1;simp;omega),rfl⟩
    case rest =>
     obtain ⟨hs7,hwr⟩:=hcut;subst hs7;rw [hwr];clear hwr HNB hwx0 hP0 dN;go_upto_region 9 with fail;go_cut [55] (λ s55 wx=>s55=.bool gp/\wx=wr)
     case first =>
      cases wl with
      |true =>
       cases wdc with
       |true =>
        have HNT:=aW (show gp=true by rw [HGP.out];rfl);go_wp2_with (go_at_call 48;first | ((with_reducible refine (HLB.out _).mono ?_);rintro e wn ⟨rfl,hwn⟩;rw [hwn];clear hwn) | ((with_reducible refine (HLA.out _).mono ?_);rintro e wn ⟨rfl,hwn⟩;rw [hwn];clear hwn));go_meet
        case rel=>exact ⟨by first | (rw [HNT.out];done) | (rw [HNT.out];rfl),rfl⟩
       |false =>
        have HNT:=aW (show gp=(ndg && xp) by rw [HGP.out];rfl);cases ndg with
        |true =>
         go_wp2_with (go_at_call 48;first | ((with_reducible refine (HLB.out _).mono ?_);rintro e wn ⟨rfl,hwn⟩;rw [hwn];clear hwn) | ((with_reducible refine (HLA.out _).mono ?_);rintro e wn ⟨rfl,hwn⟩;rw [hwn];clear hwn));go_meet
         case rel=>exact ⟨by first | (rw [HNT.out];done) | (rw [HNT.out];rfl) | (rw [HNT.out];simp [hxp2,hxp3]),rfl⟩
        |false =>
         go_wp2_with (go_at_call 48;first | ((with_reducible refine (HLB.out _).mono ?_);rintro e wn ⟨rfl,hwn⟩;rw [hwn];clear hwn) | ((with_reducible refine (HLA.out _).mono ?_);rintro e wn ⟨rfl,hwn⟩;rw [hwn];clear hwn));go_meet
         case rel=>exact ⟨by first | (rw [HNT.out];done) | (rw [HNT.out];rfl) | (rw [HNT.out];simp [hxp2,hxp3]),rfl⟩
      |false =>
       have HNT:=aW (show gp=(ndg && xp) by rw [HGP.out];rfl);cases ndg with
       |true =>
        go_wp2_with (go_at_call 48;(with_reducible refine (HLA.out _).mono ?_);rintro e wn ⟨rfl,hwn⟩;rw [hwn];clear hwn);go_meet
        case rel=>exact ⟨by first | (rw [HNT.out];done) | (rw [HNT.out];rfl) | (rw [HNT.out];simp [hxp2,hxp3]),rfl⟩
       |false =>
        go_wp2_with (go_at_call 48;(with_reducible refine (HLA.out _).mono ?_);rintro e wn ⟨rfl,hwn⟩;rw [hwn];clear hwn);go_meet
        case rel=>exact ⟨by first | (rw [HNT.out];done) | (rw [HNT.out];rfl) | (rw [HNT.out];simp [hxp2,hxp3]),rfl⟩
     case rest =>
      obtain ⟨hs55,hwr2⟩:=hcut;subst hs55;rw [hwr2];clear hwr2 HGP HLA HLB hwxz hPz;cases gp with
      |true =>
       have HTY:=aW (show sl (O++⟨#[32]⟩++S)=dm (l.take (i+1)) by rw [HTX.out,lQ,lQ,HO.out,← HS.out,eQ,if_pos rfl,List.append_assoc];try rfl);go_wp2;go_roundg (m-(i+1))
       case measure=>have:=HGK.out;omega
       case rel=>exact ⟨i+1,_,hin,rfl,rfl,by go_num,HTY,HBR⟩
      |false =>
       have HTY:=aW (show sl (O++S)=dm (l.take (i+1)) by rw [HTX.out,lQ,HO.out,← HS.out,eQ,if_neg (by decide)];try rfl);go_wp2;go_roundg (m-(i+1))
       case measure=>have:=HGK.out;omega
       case rel=>exact ⟨i+1,_,hin,rfl,rfl,by go_num,HTY,HBR⟩
  ·obtain rfl:i=m:=by omega
   have HF:=aW (show sl O=G by rw [HO.out,List.take_of_length_le (Nat.le_of_eq HM.out)];exact HGG.out);go_wp2;go_ret;exact ⟨by rw [← HF.out];rfl,HB1.out.trans (HBR.out.mono HB1.out.size)⟩
end
end Go.Proofs.YtgmnmnnoahdjnaaGreatDoor
