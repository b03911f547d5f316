import Derived.Test.YtgmnmnnoahdjnaaGreatDoorY32
open Go.Value renaming int → Zi, slice → Zs, string → Zt, pointer → Zp
open Go.IntKind renaming i64 → Zq
set_option maxRecDepth 100000
set_option maxHeartbeats 16000000
set_option linter.unusedVariables false
set_option linter.unusedSimpArgs false
namespace Go.Proofs.YtgmnmnnoahdjnaaGreatDoor
section
open Go.RowKit
attribute [local go_sem] aa ac ae ab
theorem SRs.mgK {mb:Nat} {a b:Value} {w w1:World} {css:List (List Value)} {l:List SJ} (h:SRs w (PbM mb a w) css l) (g:MG mb a w b w1):SRs w1 (PbM mb b w1) css l:=RR.imp h λ c x hc=>hc.mg g
structure PT (w W:World) (g:Nat) (row0 row:Value) (st:List UInt8 × Bool) (bs:Nat) (S:Array Value):Prop where
 wp:WP W g row st.1.length st.1 st.2
 mg:MG g row0 w row W
 x:PB W g row bs 48 S
section
variable {w W W':World} {g:Nat} {row0 row row':Value} {st st':List UInt8 × Bool} {bs:Nat} {S:Array Value}
theorem PT.step (h:PT w W g row0 row st bs S) (hg:MG g row W row' W') (hw:WP W' g row' st'.1.length st'.1 st'.2):PT w W' g row0 row' st' bs S:=⟨hw,h.mg.trans hg,h.x.mg hg⟩
theorem PT.bel (h:PT w W g row0 row st bs S) (hb:Below W.heap.size W W'):PT w W' g row0 row st bs S:=h.step (MG.bel hb) (h.wp.keep hb)
theorem PT.put (h:PT w W g row0 row st bs S) {e:Ending} (hp:gJ g row st' W e W'):e=.returned (.tuple #[])/\∃ row',PT w W' g row0 row' st' bs S:=by
 obtain ⟨rfl,row',n',h1,h2⟩:=hp;have hn:=h1.own.1;subst hn;exact ⟨rfl,row',h.step h2 h1⟩
theorem PT.fin (h:PT w W g row0 row st bs S):gJ g row0 st w (.returned (.tuple #[])) W:=⟨rfl,row,_,h.wp,h.mg⟩
end
theorem za (s t u:List UInt8) (W:World) (p g:Nat) (row:Value) (n:Nat) (out:List UInt8) (num:Bool) (hW:WP W g row n out num) (hp:p=W.heap.size) (hs:s≠[]) (ht:t≠[]) (hu:u≠[]) (hl:n+((s.length+1)+((t.length+1)+(u.length+1)))<=100000000000) :
  Calls Tryz.prog 73 #[Zp (some ⟨g,0,none⟩),Zs (some ⟨p,0,none⟩) 3 3] (W.alloc (.cells #[Zt ⟨s.toArray⟩,Zt ⟨t.toArray⟩,Zt ⟨u.toArray⟩] 9)) (gJ g row (a6 (a6 (a6 (out,num) s) t) u) W):=by
 subst hp;have hb:=(Below.refl W.heap.size W).alloc (Nat.le_refl _) (.cells #[Zt ⟨s.toArray⟩,Zt ⟨t.toArray⟩,Zt ⟨u.toArray⟩] 9);refine (vV [s,t,u] (some ⟨W.heap.size,0,none⟩) 3 3 _ g row n out num (hW.keep hb) (RdF.of_blkP (Blk.new W 9 #[Zt ⟨s.toArray⟩,Zt ⟨t.toArray⟩,Zt ⟨u.toArray⟩]) (o5 hW _)) rfl (by decide) (by simp [hs,ht,hu]) (by simpa using hl)).mono ?_;rintro e w' ⟨rfl,row',n',h1,h2⟩;exact ⟨rfl,row',n',h1,(MG.bel hb).trans h2⟩
def tX (d:Nat):Prop:=∀ (l:List SJ) (css:List (List Value)) (A:Option Addr) (nl ca:Nat) (w:World) (g:Nat) (row:Value) (n:Nat) (st:List UInt8 × Bool),WP w g row n st.1 st.2->SRs w (PbM g row w) css l->l.length=nl->nl<=ca->RdF w (PbM g row w) A css.flatten->bK d l=true->bY l->nl<=4194304->st.1.length+dY (aT l)<=100000000000 ->
 Calls Tryz.prog 44 #[Zp (some ⟨g,0,none⟩),Zs A nl ca] w (gJ g row (aE (aT l) st) w)
def cB (l:List SJ):List LX:=aK [123]::(aT l++[aK [125]])
def tW (d:Nat):Prop:=∀ (l:List SJ) (css:List (List Value)) (A:Option Addr) (nl ca:Nat) (w:World) (g:Nat) (row:Value) (n:Nat) (st:List UInt8 × Bool),WP w g row n st.1 st.2->SRs w (PbM g row w) css l->l.length=nl->nl<=ca->RdF w (PbM g row w) A css.flatten->bK d l=true->bY l->nl<=4194304->st.1.length+dY (cB l)<=100000000000 ->
 Calls Tryz.prog 75 #[Zp (some ⟨g,0,none⟩),Zs A nl ca] w (gJ g row (aE (cB l) st) w)
def PTP (w:World) (g:Nat) (row0:Value) (st:List UInt8 × Bool) (bs:Nat) (S:Array Value) (e:Ending) (W':World):Prop:=e=.returned (.tuple #[])/\∃ row',PT w W' g row0 row' st bs S
section
variable {w W:World} {g:Nat} {row0 row:Value} {st st':List UInt8 × Bool} {bs:Nat} {S:Array Value}
theorem PT.put1 (h:PT w W g row0 row st bs S) (s:List UInt8) (p:Nat) (hp:p=W.heap.size) (hs:s≠[]) (hl:st.1.length+(s.length+1)<=100000000000) (he:a6 st s=st') :
  Calls Tryz.prog 73 #[Zp (some ⟨g,0,none⟩),Zs (some ⟨p,0,none⟩) 1 1] (W.alloc (.cells #[Zt ⟨s.toArray⟩] 9)) (PTP w g row0 st' bs S):=by
 subst he;exact (iC s W p g row _ st.1 st.2 h.wp hp hs hl).mono λ e W' hq=>h.put hq
theorem PT.put3 (h:PT w W g row0 row st bs S) (s t u:List UInt8) (p:Nat) (hp:p=W.heap.size) (hs:s≠[]) (ht:t≠[]) (hu:u≠[]) (hl:st.1.length+((s.length+1)+((t.length+1)+(u.length+1)))<=100000000000) (he:a6 (a6 (a6 st s) t) u=st') :
  Calls Tryz.prog 73 #[Zp (some ⟨g,0,none⟩),Zs (some ⟨p,0,none⟩) 3 3] (W.alloc (.cells #[Zt ⟨s.toArray⟩,Zt ⟨t.toArray⟩,Zt ⟨u.toArray⟩] 9)) (PTP w g row0 st' bs S):=by
 subst he;exact (za s t u W p g row _ st.1 st.2 h.wp hp hs ht hu hl).mono λ e W' hq=>h.put hq
theorem PT.exprK (h:PT w W g row0 row st bs S) {x:EJ} {cs:List Value} (hx:ER W (PbM g row W) cs x) (hc:cj x) (hd:bM 12 x≠0) (hl:st.1.length+dY (bI 1 x)<=100000000000) (he:aE (bI 1 x) st=st') :
  Calls Tryz.prog 74 #[Zp (some ⟨g,0,none⟩),.agg cs.toArray,Zi Zq 1] W (PTP w g row0 st' bs S):=by
 subst he;exact (xG 12 x cs 1 W g row _ st h.wp hx hc hd (by decide) hl).mono λ e W' hq=>h.put hq
theorem PT.blockK {d:Nat} (ih:tW d) (h:PT w W g row0 row st bs S) {l:List SJ} {css:List (List Value)} {A:Option Addr} {nl ca:Nat} (hS:SRs w (PbM g row0 w) css l) (hR:RdF w (PbM g row0 w) A css.flatten) (hn:l.length=nl) (hca:nl<=ca) (hm:bK d l=true) (hc:bY l) (hn4:nl<=4194304)
  (hl:st.1.length+dY (cB l)<=100000000000) (he:aE (cB l) st=st') :
  Calls Tryz.prog 75 #[Zp (some ⟨g,0,none⟩),Zs A nl ca] W (PTP w g row0 st' bs S):=by
 subst he;exact (ih l css A nl ca W g row _ st h.wp (hS.mgK h.mg) hn hca (hR.mg h.mg) hm hc hn4 hl).mono λ e W' hq=>h.put hq
end
theorem wS (d:Nat) (ih:tX d):tW d:=by
 intro l css A nl ca w g row n st hW hS hl hca hR hm hc hn4 hlen;have hn:=hW.own.1;subst hn;unfold cB at hlen ⊢;rw [cI,ck];rw [aI,bB,aI,dH] at hlen;have h1:(bF (aK [123])).length=1:=rfl;have h2:(bF (aK [125])).length=1:=rfl;have hp1:=cM st [123];have hf:=a9 (aT l) (a6 st [123]);simp only [List.length_cons,List.length_nil] at hp1;have HP1:=aW (iC [123] w w.heap.size g row _ st.1 st.2 hW rfl (by simp) (by simp only [List.length_cons,List.length_nil];omega));have HIH:=aW (λ (W:World) (row':Value) n' (h:WP W g row' n' (a6 st [123]).1 (a6 st [123]).2) (hg:MG g row w row' W)=>ih l css A nl ca W g row' n' (a6 st [123]) h (hS.mgK hg) hl hca (hR.mg hg) hm hc hn4 (by omega));have HP2:=aW (λ (W:World) (row':Value) n' p (hp:p=W.heap.size) (h:WP W g row' n' (aE (aT l) (a6 st [123])).1 (aE (aT l) (a6 st [123])).2)=>iC [125] W p g row' n' _ _ h hp (by simp) (by have:=h.own.1;simp only [List.length_cons,List.length_nil];omega));clear hS hR hm hc hlen h1 h2 hp1 hf hl hca ih;go_enter Tryz.func75,Tryz.ntmps75;go_wp2_with (first
  | (go_at_call 44;refine (HIH.out _ _ _ hq1 hm1).mono ?_;rintro e w2 ⟨rfl,row2,n2,hq2,hm2⟩)
  | (go_at_call 73;refine (HP2.out _ _ _ _ (by first | rfl | simp) hq2).mono ?_;rintro e w3 ⟨rfl,row3,n3,hq3,hm3⟩)
  | (go_at_call 73;refine HP1.out.mono ?_;rintro e w1 ⟨rfl,row1,n1,hq1,hm1⟩))
 go_end0;exact ⟨rfl,row3,n3,hq3,(hm1.trans hm2).trans hm3⟩
set_option maxHeartbeats 32000000 in
theorem sw (d:Nat) (ih:d≠0->tW (d-1)):tX d:=by
 intro l css A nl ca w g row n st hW hS hln hnc hR hmay hC hn4 hlen;have hn:=hW.own.1;subst hn;have HKD:=aW (And.intro hS hR);have HNK:=aW hln;have HCL:=aW (dQ.1 hC);have HML:=aW (jM.1 hmay);have HLEN:=aW hlen;have HW0:=aW hW;clear hW hS hln hR hmay hC hlen;go_enter Tryz.func44,Tryz.ntmps44;go_wp2;go_loopg [8] nl (λ gk s8 wr => ∃ (i:Nat) (row1:Value),i<=nl/\gk=nl-i/\s8=Zi Zq (i:Int)/\Hid (WP wr g row1 (aE (aT (l.take i)) st).1.length (aE (aT (l.take i)) st).1 (aE (aT (l.take i)) st).2)/\Hid (MG g row w row1 wr))
 case atStart=>exact ⟨0,row,Nat.zero_le _,by go_num,rfl,aW (by rw [List.take_zero,aT];exact HW0.out),aW (MG.refl _ _ _)⟩
 case round =>
  obtain ⟨i,row1,hi,hgk,rfl,HM,HG⟩:=hrel;have HGK:=aW hgk;clear hgk;by_cases hin:i<nl
  ·obtain ⟨x,hx⟩:∃ x,l[i]? = some x:=⟨_,List.getElem?_eq_getElem (by rw [HNK.out];exact hin)⟩
   have hxm:=List.mem_of_getElem? hx;have hcx:=HCL.out x hxm;have hmx:=HML.out x hxm;have htk:l.take (i+1)=l.take i++[x]:=by rw [List.take_add_one,hx];rfl
   have htt:aT (l.take (i+1))=aT (l.take i)++gY x:=by rw [htk,kB,aT,aT,List.append_nil]
   have HTK:=aW (show aE (aT (l.take (i+1))) st=aE (gY x) (aE (aT (l.take i)) st) by rw [htt,ck]);have hlen1:(aE (aT (l.take i)) st).1.length+dY (gY x)<=100000000000:=by
    have h1:=a9 (aT (l.take i)) st;have h2:dY (aT (l.take (i+1)))<=dY (aT l):=by
     have h3:=congrArg dY (congrArg aT (List.take_append_drop (i+1) l));rw [kB,bB] at h3;omega
    rw [htt,bB] at h2;have h4:=HLEN.out;omega
   obtain ⟨st1,hst1⟩:∃ q,aE (aT (l.take i)) st=q:=⟨_,rfl⟩
   rw [hst1] at HM HTK hlen1;clear hst1 htk htt;have hS1:=SRs.mgK HKD.out.1 HG.out;have hR1:=RdF.mg HKD.out.2 HG.out;obtain ⟨k,s,a,b,body,els⟩:=x;obtain ⟨bl,o,ka,kva,nva,sva,Ava,nka,cka,Bva,nya,cya,sa,Ca,nxa,cxa,kb,kvb,nvb,svb,Avb,nkb,ckb,Bvb,nyb,cyb,sb,Cb,nxb,cxb,BA,LA,cb,cl,bss,lss,rfl,hbl,_,hEA,hEB,⟨hb1,hb2_,hb3⟩,⟨he1,he2,he3⟩,hSR,hz⟩:=eu hS1 hR1 hx;unfold j3 at hcx;obtain ⟨hik,hsl,hca,hcb,hbl4,hel4,hcbo,hcel⟩:=hcx;obtain ⟨nb,hnb⟩:∃ q,body.length=q:=⟨_,rfl⟩
   obtain ⟨nl2,hnl2⟩:∃ q,els.length=q:=⟨_,rfl⟩
   have hnb4:nb<=4194304:=by omega
   have hnl4:nl2<=4194304:=by omega
   rw [hnb] at hb2_ hz;rw [hnl2] at he2 hz;have hd0:d≠0/\gW a/\(if k=1 then decide (gW b) && decide (s=[]/\body.length+els.length=0) else if k=2 then dN b && (decide (s=[]) && (bK (d-1) body && bK (d-1) els)) else if k=3 then dN b && (dB s && (bK (d-1) body && decide (els.length=0))) else false)=true:=by
    unfold iY at hmx;rw [Bool.and_eq_true,Bool.and_eq_true,decide_eq_true_eq,decide_eq_true_eq] at hmx;exact ⟨hmx.1,hmx.2.1,hmx.2.2⟩
   obtain ⟨hd0,hfa,hmk⟩:=hd0;have HIH:=aW (ih hd0);have HRG:=aW (show wr.rangeAt bl (o+i*20) [Zi Zq k,Zt ⟨s.toArray⟩,Zi Zq ka,Zi Zq kva,Zi Zq nva,Zt sva,Zs Ava nka cka,Zs Bva nya cya,Zt sa,Zs Ca nxa cxa,Zi Zq kb,Zi Zq kvb,Zi Zq nvb,Zt svb,Zs Avb nkb ckb,Zs Bvb nyb cyb,Zt sb,Zs Cb nxb cxb,Zs BA nb cb,Zs LA nl2 cl] from λ j v hv=>by rw [Nat.add_assoc];exact hz j v hv);have HMK:=aW hmk;have hlb:bl<wr.heap.size:=hbl;have HW9:=aW HM.out;clear hz hSR hx hxm hbl hS1 hR1 hmx hik hsl hbl4 hel4 hd0;obtain ⟨W1,hW1⟩:∃ W1,wr.alloc (.cells #[Zi Zq k,Zt ⟨s.toArray⟩,Zi Zq ka,Zi Zq kva,Zi Zq nva,Zt sva,Zs Ava nka cka,Zs Bva nya cya,Zt sa,Zs Ca nxa cxa,Zi Zq kb,Zi Zq kvb,Zi Zq nvb,Zt svb,Zs Avb nkb ckb,Zs Bvb nyb cyb,Zt sb,Zs Cb nxb cxb,Zs BA nb cb,Zs LA nl2 cl] 48)=W1:=⟨_,rfl⟩
   have hbA:Below wr.heap.size wr W1:=by rw [← hW1];exact (Below.refl _ _).alloc (Nat.le_refl _) _
   have HP1:=aW (show PT wr W1 g row1 row1 st1 wr.heap.size #[Zi Zq k,Zt ⟨s.toArray⟩,Zi Zq ka,Zi Zq kva,Zi Zq nva,Zt sva,Zs Ava nka cka,Zs Bva nya cya,Zt sa,Zs Ca nxa cxa,Zi Zq kb,Zi Zq kvb,Zi Zq nvb,Zt svb,Zs Avb nkb ckb,Zs Bvb nyb cyb,Zt sb,Zs Cb nxb cxb,Zs BA nb cb,Zs LA nl2 cl] from ⟨HM.out.keep hbA,MG.bel hbA,by rw [← hW1];exact PB.new HM.out _ _⟩);have HW1:=aW hW1;clear hbA hW1;go_upto_region 2 with fail;go_step;go_step;go_step;go_step;refine wpList_load_mid rfl 48 (.tmp 10) rfl bl (o+i*20) rfl [Zi Zq k,Zt ⟨s.toArray⟩,Zi Zq ka,Zi Zq kva,Zi Zq nva,Zt sva,Zs Ava nka cka,Zs Bva nya cya,Zt sa,Zs Ca nxa cxa,Zi Zq kb,Zi Zq kvb,Zi Zq nvb,Zt svb,Zs Avb nkb ckb,Zs Bvb nyb cyb,Zt sb,Zs Cb nxb cxb,Zs BA nb cb,Zs LA nl2 cl] _ HRG.out Tryz.underlying48 rfl (by kernel_rfl) ?_;go_step;go_step;go_step;refine eC rfl 48 (.tmp 5) (.tmp 11) rfl _ _ rfl rfl (by kernel_rfl) (by kernel_rfl) (by first | kernel_rfl | simp [Value.oneCell']) ?_;rw [HW1.out];clear HW1 HRG hlb;have HLX:=aW hlen1;by_cases hk1:k=1
   ·subst hk1;have hfb:gW b:=by have h:=hmk;rw [if_pos rfl,Bool.and_eq_true,decide_eq_true_eq] at h;exact h.1
    have hT:gY (.mk 1 s a b body els)=cF du::(bI 1 a++aK [44]::(bI 1 b++[aK [59]])):=by rw [gY,if_pos rfl]
    have hl1:=HLX.out;rw [hT,aI,bB,aI,bB,aI,dH,show (bF (cF du)).length=4 from rfl,show (bF (aK [44])).length=1 from rfl,show (bF (aK [59])).length=1 from rfl] at hl1;have HTX:=aW (show aE (gY (.mk 1 s a b body els)) st1=(a6 (aE (bI 1 b) (a6 (aE (bI 1 a) (a6 st1 [101,109,105,116])) [44])) [59]) by rw [hT];simp only [cI,ck,List.cons_append,List.append_assoc,List.nil_append];rfl);have q0:=cM st1 [101,109,105,116];simp only [List.length_cons,List.length_nil] at q0;obtain ⟨s1,hs1⟩:∃ q,a6 st1 [101,109,105,116]=q:=⟨_,rfl⟩
    rw [hs1] at HTX q0;have q1:=a9 (bI 1 a) s1;obtain ⟨s2,hs2⟩:∃ q,aE (bI 1 a) s1=q:=⟨_,rfl⟩
    rw [hs2] at HTX q1;have q2:=cM s2 [44];simp only [List.length_cons,List.length_nil] at q2;obtain ⟨s3,hs3⟩:∃ q,a6 s2 [44]=q:=⟨_,rfl⟩
    rw [hs3] at HTX q2;have q3:=a9 (bI 1 b) s3;obtain ⟨s4,hs4⟩:∃ q,aE (bI 1 b) s3=q:=⟨_,rfl⟩
    rw [hs4] at HTX q3;have q4:=cM s4 [59];simp only [List.length_cons,List.length_nil] at q4;obtain ⟨s5,hs5⟩:∃ q,a6 s4 [59]=q:=⟨_,rfl⟩
    rw [hs5] at HTX q4;have HC1:=aW (λ W row' p (hp:p=W.heap.size) (h:PT wr W g row1 row' st1 wr.heap.size #[Zi Zq 1,Zt ⟨s.toArray⟩,Zi Zq ka,Zi Zq kva,Zi Zq nva,Zt sva,Zs Ava nka cka,Zs Bva nya cya,Zt sa,Zs Ca nxa cxa,Zi Zq kb,Zi Zq kvb,Zi Zq nvb,Zt svb,Zs Avb nkb ckb,Zs Bvb nyb cyb,Zt sb,Zs Cb nxb cxb,Zs BA nb cb,Zs LA nl2 cl])=>h.put1 [101,109,105,116] p hp (by simp) (by simp only [List.length_cons,List.length_nil];omega) hs1);have HC2:=aW (λ W row' (h:PT wr W g row1 row' s1 wr.heap.size #[Zi Zq 1,Zt ⟨s.toArray⟩,Zi Zq ka,Zi Zq kva,Zi Zq nva,Zt sva,Zs Ava nka cka,Zs Bva nya cya,Zt sa,Zs Ca nxa cxa,Zi Zq kb,Zi Zq kvb,Zi Zq nvb,Zt svb,Zs Avb nkb ckb,Zs Bvb nyb cyb,Zt sb,Zs Cb nxb cxb,Zs BA nb cb,Zs LA nl2 cl])=>h.exprK (hEA.mg h.mg) hca hfa (by omega) hs2);have HC3:=aW (λ W row' p (hp:p=W.heap.size) (h:PT wr W g row1 row' s2 wr.heap.size #[Zi Zq 1,Zt ⟨s.toArray⟩,Zi Zq ka,Zi Zq kva,Zi Zq nva,Zt sva,Zs Ava nka cka,Zs Bva nya cya,Zt sa,Zs Ca nxa cxa,Zi Zq kb,Zi Zq kvb,Zi Zq nvb,Zt svb,Zs Avb nkb ckb,Zs Bvb nyb cyb,Zt sb,Zs Cb nxb cxb,Zs BA nb cb,Zs LA nl2 cl])=>h.put1 [44] p hp (by simp) (by simp only [List.length_cons,List.length_nil];omega) hs3);have HC4:=aW (λ W row' (h:PT wr W g row1 row' s3 wr.heap.size #[Zi Zq 1,Zt ⟨s.toArray⟩,Zi Zq ka,Zi Zq kva,Zi Zq nva,Zt sva,Zs Ava nka cka,Zs Bva nya cya,Zt sa,Zs Ca nxa cxa,Zi Zq kb,Zi Zq kvb,Zi Zq nvb,Zt svb,Zs Avb nkb ckb,Zs Bvb nyb cyb,Zt sb,Zs Cb nxb cxb,Zs BA nb cb,Zs LA nl2 cl])=>h.exprK (hEB.mg h.mg) hcb hfb (by omega) hs4);have HC5:=aW (λ W row' p (hp:p=W.heap.size) (h:PT wr W g row1 row' s4 wr.heap.size #[Zi Zq 1,Zt ⟨s.toArray⟩,Zi Zq ka,Zi Zq kva,Zi Zq nva,Zt sva,Zs Ava nka cka,Zs Bva nya cya,Zt sa,Zs Ca nxa cxa,Zi Zq kb,Zi Zq kvb,Zi Zq nvb,Zt svb,Zs Avb nkb ckb,Zs Bvb nyb cyb,Zt sb,Zs Cb nxb cxb,Zs BA nb cb,Zs LA nl2 cl])=>h.put1 [59] p hp (by simp) (by simp only [List.length_cons,List.length_nil];omega) hs5);have HPT:=aW (show PT wr W1 g row1 row1 st1 wr.heap.size #[Zi Zq 1,Zt ⟨s.toArray⟩,Zi Zq ka,Zi Zq kva,Zi Zq nva,Zt sva,Zs Ava nka cka,Zs Bva nya cya,Zt sa,Zs Ca nxa cxa,Zi Zq kb,Zi Zq kvb,Zi Zq nvb,Zt svb,Zs Avb nkb ckb,Zs Bvb nyb cyb,Zt sb,Zs Cb nxb cxb,Zs BA nb cb,Zs LA nl2 cl] from HP1.out);clear q0 hs1 q1 hs2 q2 hs3 q3 hs4 q4 hs5 hl1 hT hEA hEB hb1 hb3 he1 he3 hca hcb hcbo hcel hfa hmk HMK HP1 hlen1;obtain ⟨c0,f0,l0⟩:=HPT.out.x.1.rules;go_wp2_with (first
     | (go_at_call 73;refine (HC5.out _ _ _ (by first | rfl | simp) h5).mono ?_;rintro e w6 ⟨rfl,row6,h6⟩;have HX:=aW h6;obtain ⟨c5,f5,l5⟩:=h6.x.1.rules)
     | (go_at_call 74;refine (HC4.out _ _ h4).mono ?_;rintro e w5 ⟨rfl,row5,h5⟩;obtain ⟨c4,f4,l4⟩:=h5.x.1.rules)
     | (go_at_call 73;refine (HC3.out _ _ _ (by first | rfl | simp) h3).mono ?_;rintro e w4 ⟨rfl,row4,h4⟩;obtain ⟨c3,f3,l3⟩:=h4.x.1.rules)
     | (go_at_call 74;refine (HC2.out _ _ h2).mono ?_;rintro e w3 ⟨rfl,row3,h3⟩;obtain ⟨c2,f2,l2⟩:=h3.x.1.rules)
     | (go_at_call 73;refine (HC1.out _ _ _ (by first | rfl | simp) HPT.out).mono ?_;rintro e w2 ⟨rfl,row2,h2⟩;obtain ⟨c1,f1,l1⟩:=h2.x.1.rules))
    go_wp2;go_roundg (nl-(i+1))
    case measure=>have:=HGK.out;omega
    case rel=>exact ⟨i+1,_,hin,rfl,by go_num,aW (by rw [HTK.out,HTX.out];exact HX.out.wp),aW (HG.out.trans HX.out.mg)⟩
   have ek1:(k == 1)=false:=by simp [hk1]
   by_cases hk3:k=3
   ·subst hk3;have hh:=hmk;rw [if_neg (by decide),if_neg (by decide),if_pos rfl,Bool.and_eq_true,Bool.and_eq_true,Bool.and_eq_true,decide_eq_true_eq] at hh;obtain ⟨_,hnm,hmb,hle⟩:=hh;have hsne:s≠[]:=by rintro rfl;exact absurd hnm (by decide)
    have hT:gY (.mk 3 s a b body els)=[cF iB,jf s,cF wIn]++(bI 1 a++cB body):=by rw [gY,if_neg (by decide),if_pos rfl,if_pos hle];rfl
    have hl1:=HLX.out;rw [hT,bB,aI,aI,aI,dH,bB,show (bF (cF iB)).length=3 from rfl,show (bF (cF wIn)).length=2 from rfl,show (bF (jf s)).length=s.length from rfl] at hl1;clear hnm hle;have HTX:=aW (show aE (gY (.mk 3 s a b body els)) st1=(aE (cB body) (aE (bI 1 a) (a6 (a6 (a6 st1 [102,111,114]) s) [105,110]))) by rw [hT];simp only [cI,ck,List.cons_append,List.append_assoc,List.nil_append];rfl);have q0:(a6 (a6 (a6 st1 [102,111,114]) s) [105,110]).1.length<=st1.1.length+((([102,111,114]:List UInt8).length+1)+(((s:List UInt8).length+1)+(([105,110]:List UInt8).length+1))):=by
     have h1:=cM st1 [102,111,114];have h2:=cM (a6 st1 [102,111,114]) s;have h3:=cM (a6 (a6 st1 [102,111,114]) s) [105,110];omega
    simp only [List.length_cons,List.length_nil] at q0;obtain ⟨s1,hs1⟩:∃ q,a6 (a6 (a6 st1 [102,111,114]) s) [105,110]=q:=⟨_,rfl⟩
    rw [hs1] at HTX q0;have q1:=a9 (bI 1 a) s1;obtain ⟨s2,hs2⟩:∃ q,aE (bI 1 a) s1=q:=⟨_,rfl⟩
    rw [hs2] at HTX q1;have q2:=a9 (cB body) s2;obtain ⟨s3,hs3⟩:∃ q,aE (cB body) s2=q:=⟨_,rfl⟩
    rw [hs3] at HTX q2;have HC1:=aW (λ W row' p (hp:p=W.heap.size) (h:PT wr W g row1 row' st1 wr.heap.size #[Zi Zq 3,Zt ⟨s.toArray⟩,Zi Zq ka,Zi Zq kva,Zi Zq nva,Zt sva,Zs Ava nka cka,Zs Bva nya cya,Zt sa,Zs Ca nxa cxa,Zi Zq kb,Zi Zq kvb,Zi Zq nvb,Zt svb,Zs Avb nkb ckb,Zs Bvb nyb cyb,Zt sb,Zs Cb nxb cxb,Zs BA nb cb,Zs LA nl2 cl])=>h.put3 [102,111,114] s [105,110] p hp (by simp) hsne (by simp) (by simp only [List.length_cons,List.length_nil];omega) hs1);have HC2:=aW (λ W row' (h:PT wr W g row1 row' s1 wr.heap.size #[Zi Zq 3,Zt ⟨s.toArray⟩,Zi Zq ka,Zi Zq kva,Zi Zq nva,Zt sva,Zs Ava nka cka,Zs Bva nya cya,Zt sa,Zs Ca nxa cxa,Zi Zq kb,Zi Zq kvb,Zi Zq nvb,Zt svb,Zs Avb nkb ckb,Zs Bvb nyb cyb,Zt sb,Zs Cb nxb cxb,Zs BA nb cb,Zs LA nl2 cl])=>h.exprK (hEA.mg h.mg) hca hfa (by omega) hs2);have HC3:=aW (λ W row' (h:PT wr W g row1 row' s2 wr.heap.size #[Zi Zq 3,Zt ⟨s.toArray⟩,Zi Zq ka,Zi Zq kva,Zi Zq nva,Zt sva,Zs Ava nka cka,Zs Bva nya cya,Zt sa,Zs Ca nxa cxa,Zi Zq kb,Zi Zq kvb,Zi Zq nvb,Zt svb,Zs Avb nkb ckb,Zs Bvb nyb cyb,Zt sb,Zs Cb nxb cxb,Zs BA nb cb,Zs LA nl2 cl])=>PT.blockK HIH.out h hb1 hb3 hnb hb2_ hmb hcbo hnb4 (by omega) hs3);have HPT:=aW (show PT wr W1 g row1 row1 st1 wr.heap.size #[Zi Zq 3,Zt ⟨s.toArray⟩,Zi Zq ka,Zi Zq kva,Zi Zq nva,Zt sva,Zs Ava nka cka,Zs Bva nya cya,Zt sa,Zs Ca nxa cxa,Zi Zq kb,Zi Zq kvb,Zi Zq nvb,Zt svb,Zs Avb nkb ckb,Zs Bvb nyb cyb,Zt sb,Zs Cb nxb cxb,Zs BA nb cb,Zs LA nl2 cl] from HP1.out);clear q0 hs1 q1 hs2 q2 hs3 hl1 hT hEA hEB hb1 hb3 he1 he3 hca hcb hcbo hcel hfa hmk HMK HP1 hlen1;obtain ⟨c0,f0,l0⟩:=HPT.out.x.1.rules;clear hmb;go_wp2_with (first
     | (go_at_call 75;refine (HC3.out _ _ h3).mono ?_;rintro e w4 ⟨rfl,row4,h4⟩;have HX:=aW h4;obtain ⟨c3,f3,l3⟩:=h4.x.1.rules)
     | (go_at_call 74;refine (HC2.out _ _ h2).mono ?_;rintro e w3 ⟨rfl,row3,h3⟩;obtain ⟨c2,f2,l2⟩:=h3.x.1.rules)
     | (go_at_call 73;refine (HC1.out _ _ _ (by first | rfl | simp) HPT.out).mono ?_;rintro e w2 ⟨rfl,row2,h2⟩;obtain ⟨c1,f1,l1⟩:=h2.x.1.rules))
    go_wp2;go_roundg (nl-(i+1))
    case measure=>have:=HGK.out;omega
    case rel=>exact ⟨i+1,_,hin,rfl,by go_num,aW (by rw [HTK.out,HTX.out];exact HX.out.wp),aW (HG.out.trans HX.out.mg)⟩
   have ek3:(k == 3)=false:=by simp [hk3]
   have hk2:k=2:=by
    have h:=hmk;rw [if_neg hk1] at h;by_cases h2:k=2
    ·exact h2
    ·rw [if_neg h2,if_neg hk3] at h;cases h
   subst hk2;have hh:=hmk;rw [if_neg (by decide),if_pos rfl,Bool.and_eq_true,Bool.and_eq_true,Bool.and_eq_true] at hh;obtain ⟨_,_,hmb,hme⟩:=hh;clear hk1 hk3 ek1 ek3;by_cases hle:els.length=0
   ·have hT:gY (.mk 2 s a b body els)=[cF wIf]++(bI 1 a++cB body):=by rw [gY,if_neg (by decide),if_neg (by decide),if_pos hle];rfl
    have hl1:=HLX.out;rw [hT,bB,aI,dH,bB,show (bF (cF wIf)).length=2 from rfl] at hl1;have h0l:¬ (0:Int)<(nl2:Int):=by omega
    have HTX:=aW (show aE (gY (.mk 2 s a b body els)) st1=(aE (cB body) (aE (bI 1 a) (a6 st1 [105,102]))) by rw [hT];simp only [cI,ck,List.cons_append,List.append_assoc,List.nil_append];rfl);have q0:=cM st1 [105,102];simp only [List.length_cons,List.length_nil] at q0;obtain ⟨s1,hs1⟩:∃ q,a6 st1 [105,102]=q:=⟨_,rfl⟩
    rw [hs1] at HTX q0;have q1:=a9 (bI 1 a) s1;obtain ⟨s2,hs2⟩:∃ q,aE (bI 1 a) s1=q:=⟨_,rfl⟩
    rw [hs2] at HTX q1;have q2:=a9 (cB body) s2;obtain ⟨s3,hs3⟩:∃ q,aE (cB body) s2=q:=⟨_,rfl⟩
    rw [hs3] at HTX q2;have HC1:=aW (λ W row' p (hp:p=W.heap.size) (h:PT wr W g row1 row' st1 wr.heap.size #[Zi Zq 2,Zt ⟨s.toArray⟩,Zi Zq ka,Zi Zq kva,Zi Zq nva,Zt sva,Zs Ava nka cka,Zs Bva nya cya,Zt sa,Zs Ca nxa cxa,Zi Zq kb,Zi Zq kvb,Zi Zq nvb,Zt svb,Zs Avb nkb ckb,Zs Bvb nyb cyb,Zt sb,Zs Cb nxb cxb,Zs BA nb cb,Zs LA nl2 cl])=>h.put1 [105,102] p hp (by simp) (by simp only [List.length_cons,List.length_nil];omega) hs1);have HC2:=aW (λ W row' (h:PT wr W g row1 row' s1 wr.heap.size #[Zi Zq 2,Zt ⟨s.toArray⟩,Zi Zq ka,Zi Zq kva,Zi Zq nva,Zt sva,Zs Ava nka cka,Zs Bva nya cya,Zt sa,Zs Ca nxa cxa,Zi Zq kb,Zi Zq kvb,Zi Zq nvb,Zt svb,Zs Avb nkb ckb,Zs Bvb nyb cyb,Zt sb,Zs Cb nxb cxb,Zs BA nb cb,Zs LA nl2 cl])=>h.exprK (hEA.mg h.mg) hca hfa (by omega) hs2);have HC3:=aW (λ W row' (h:PT wr W g row1 row' s2 wr.heap.size #[Zi Zq 2,Zt ⟨s.toArray⟩,Zi Zq ka,Zi Zq kva,Zi Zq nva,Zt sva,Zs Ava nka cka,Zs Bva nya cya,Zt sa,Zs Ca nxa cxa,Zi Zq kb,Zi Zq kvb,Zi Zq nvb,Zt svb,Zs Avb nkb ckb,Zs Bvb nyb cyb,Zt sb,Zs Cb nxb cxb,Zs BA nb cb,Zs LA nl2 cl])=>PT.blockK HIH.out h hb1 hb3 hnb hb2_ hmb hcbo hnb4 (by omega) hs3);have HPT:=aW (show PT wr W1 g row1 row1 st1 wr.heap.size #[Zi Zq 2,Zt ⟨s.toArray⟩,Zi Zq ka,Zi Zq kva,Zi Zq nva,Zt sva,Zs Ava nka cka,Zs Bva nya cya,Zt sa,Zs Ca nxa cxa,Zi Zq kb,Zi Zq kvb,Zi Zq nvb,Zt svb,Zs Avb nkb ckb,Zs Bvb nyb cyb,Zt sb,Zs Cb nxb cxb,Zs BA nb cb,Zs LA nl2 cl] from HP1.out);clear q0 hs1 q1 hs2 q2 hs3 hl1 hT hEA hEB hb1 hb3 he1 he3 hca hcb hcbo hcel hfa hmk HMK HP1 hlen1;obtain ⟨c0,f0,l0⟩:=HPT.out.x.1.rules;clear hmb hme hle;go_wp2_with (first
     | (go_at_call 75;refine (HC3.out _ _ h3).mono ?_;rintro e w4 ⟨rfl,row4,h4⟩;have HX:=aW h4;obtain ⟨c3,f3,l3⟩:=h4.x.1.rules)
     | (go_at_call 74;refine (HC2.out _ _ h2).mono ?_;rintro e w3 ⟨rfl,row3,h3⟩;obtain ⟨c2,f2,l2⟩:=h3.x.1.rules)
     | (go_at_call 73;refine (HC1.out _ _ _ (by first | rfl | simp) HPT.out).mono ?_;rintro e w2 ⟨rfl,row2,h2⟩;obtain ⟨c1,f1,l1⟩:=h2.x.1.rules))
    go_wp2;go_roundg (nl-(i+1))
    case measure=>have:=HGK.out;omega
    case rel=>exact ⟨i+1,_,hin,rfl,by go_num,aW (by rw [HTK.out,HTX.out];exact HX.out.wp),aW (HG.out.trans HX.out.mg)⟩
   ·have hT:gY (.mk 2 s a b body els)=[cF wIf]++(bI 1 a++(cB body++cF ep::cB els)):=by rw [gY,if_neg (by decide),if_neg (by decide),if_neg hle];unfold cB;simp
    have hl1:=HLX.out;rw [hT,bB,aI,dH,bB,bB,aI,show (bF (cF wIf)).length=2 from rfl,show (bF (cF ep)).length=4 from rfl] at hl1;have h0l:(0:Int)<(nl2:Int):=by omega
    have HTX:=aW (show aE (gY (.mk 2 s a b body els)) st1=(aE (cB els) (a6 (aE (cB body) (aE (bI 1 a) (a6 st1 [105,102]))) [101,108,115,101])) by rw [hT];simp only [cI,ck,List.cons_append,List.append_assoc,List.nil_append];rfl);have q0:=cM st1 [105,102];simp only [List.length_cons,List.length_nil] at q0;obtain ⟨s1,hs1⟩:∃ q,a6 st1 [105,102]=q:=⟨_,rfl⟩
    rw [hs1] at HTX q0;have q1:=a9 (bI 1 a) s1;obtain ⟨s2,hs2⟩:∃ q,aE (bI 1 a) s1=q:=⟨_,rfl⟩
    rw [hs2] at HTX q1;have q2:=a9 (cB body) s2;obtain ⟨s3,hs3⟩:∃ q,aE (cB body) s2=q:=⟨_,rfl⟩
    rw [hs3] at HTX q2;have q3:=cM s3 [101,108,115,101];simp only [List.length_cons,List.length_nil] at q3;obtain ⟨s4,hs4⟩:∃ q,a6 s3 [101,108,115,101]=q:=⟨_,rfl⟩
    rw [hs4] at HTX q3;have q4:=a9 (cB els) s4;obtain ⟨s5,hs5⟩:∃ q,aE (cB els) s4=q:=⟨_,rfl⟩
    rw [hs5] at HTX q4;have HC1:=aW (λ W row' p (hp:p=W.heap.size) (h:PT wr W g row1 row' st1 wr.heap.size #[Zi Zq 2,Zt ⟨s.toArray⟩,Zi Zq ka,Zi Zq kva,Zi Zq nva,Zt sva,Zs Ava nka cka,Zs Bva nya cya,Zt sa,Zs Ca nxa cxa,Zi Zq kb,Zi Zq kvb,Zi Zq nvb,Zt svb,Zs Avb nkb ckb,Zs Bvb nyb cyb,Zt sb,Zs Cb nxb cxb,Zs BA nb cb,Zs LA nl2 cl])=>h.put1 [105,102] p hp (by simp) (by simp only [List.length_cons,List.length_nil];omega) hs1);have HC2:=aW (λ W row' (h:PT wr W g row1 row' s1 wr.heap.size #[Zi Zq 2,Zt ⟨s.toArray⟩,Zi Zq ka,Zi Zq kva,Zi Zq nva,Zt sva,Zs Ava nka cka,Zs Bva nya cya,Zt sa,Zs Ca nxa cxa,Zi Zq kb,Zi Zq kvb,Zi Zq nvb,Zt svb,Zs Avb nkb ckb,Zs Bvb nyb cyb,Zt sb,Zs Cb nxb cxb,Zs BA nb cb,Zs LA nl2 cl])=>h.exprK (hEA.mg h.mg) hca hfa (by omega) hs2);have HC3:=aW (λ W row' (h:PT wr W g row1 row' s2 wr.heap.size #[Zi Zq 2,Zt ⟨s.toArray⟩,Zi Zq ka,Zi Zq kva,Zi Zq nva,Zt sva,Zs Ava nka cka,Zs Bva nya cya,Zt sa,Zs Ca nxa cxa,Zi Zq kb,Zi Zq kvb,Zi Zq nvb,Zt svb,Zs Avb nkb ckb,Zs Bvb nyb cyb,Zt sb,Zs Cb nxb cxb,Zs BA nb cb,Zs LA nl2 cl])=>PT.blockK HIH.out h hb1 hb3 hnb hb2_ hmb hcbo hnb4 (by omega) hs3);have HC4:=aW (λ W row' p (hp:p=W.heap.size) (h:PT wr W g row1 row' s3 wr.heap.size #[Zi Zq 2,Zt ⟨s.toArray⟩,Zi Zq ka,Zi Zq kva,Zi Zq nva,Zt sva,Zs Ava nka cka,Zs Bva nya cya,Zt sa,Zs Ca nxa cxa,Zi Zq kb,Zi Zq kvb,Zi Zq nvb,Zt svb,Zs Avb nkb ckb,Zs Bvb nyb cyb,Zt sb,Zs Cb nxb cxb,Zs BA nb cb,Zs LA nl2 cl])=>h.put1 [101,108,115,101] p hp (by simp) (by simp only [List.length_cons,List.length_nil];omega) hs4);have HC5:=aW (λ W row' (h:PT wr W g row1 row' s4 wr.heap.size #[Zi Zq 2,Zt ⟨s.toArray⟩,Zi Zq ka,Zi Zq kva,Zi Zq nva,Zt sva,Zs Ava nka cka,Zs Bva nya cya,Zt sa,Zs Ca nxa cxa,Zi Zq kb,Zi Zq kvb,Zi Zq nvb,Zt svb,Zs Avb nkb ckb,Zs Bvb nyb cyb,Zt sb,Zs Cb nxb cxb,Zs BA nb cb,Zs LA nl2 cl])=>PT.blockK HIH.out h he1 he3 hnl2 he2 hme hcel hnl4 (by omega) hs5);have HPT:=aW (show PT wr W1 g row1 row1 st1 wr.heap.size #[Zi Zq 2,Zt ⟨s.toArray⟩,Zi Zq ka,Zi Zq kva,Zi Zq nva,Zt sva,Zs Ava nka cka,Zs Bva nya cya,Zt sa,Zs Ca nxa cxa,Zi Zq kb,Zi Zq kvb,Zi Zq nvb,Zt svb,Zs Avb nkb ckb,Zs Bvb nyb cyb,Zt sb,Zs Cb nxb cxb,Zs BA nb cb,Zs LA nl2 cl] from HP1.out);clear q0 hs1 q1 hs2 q2 hs3 q3 hs4 q4 hs5 hl1 hT hEA hEB hb1 hb3 he1 he3 hca hcb hcbo hcel hfa hmk HMK HP1 hlen1;obtain ⟨c0,f0,l0⟩:=HPT.out.x.1.rules;clear hmb hme hle;go_wp2_with (first
     | (go_at_call 75;refine (HC5.out _ _ h5).mono ?_;rintro e w6 ⟨rfl,row6,h6⟩;have HX:=aW h6;obtain ⟨c5,f5,l5⟩:=h6.x.1.rules)
     | (go_at_call 73;refine (HC4.out _ _ _ (by first | rfl | simp) h4).mono ?_;rintro e w5 ⟨rfl,row5,h5⟩;obtain ⟨c4,f4,l4⟩:=h5.x.1.rules)
     | (go_at_call 75;refine (HC3.out _ _ h3).mono ?_;rintro e w4 ⟨rfl,row4,h4⟩;obtain ⟨c3,f3,l3⟩:=h4.x.1.rules)
     | (go_at_call 74;refine (HC2.out _ _ h2).mono ?_;rintro e w3 ⟨rfl,row3,h3⟩;obtain ⟨c2,f2,l2⟩:=h3.x.1.rules)
     | (go_at_call 73;refine (HC1.out _ _ _ (by first | rfl | simp) HPT.out).mono ?_;rintro e w2 ⟨rfl,row2,h2⟩;obtain ⟨c1,f1,l1⟩:=h2.x.1.rules))
    go_wp2;go_roundg (nl-(i+1))
    case measure=>have:=HGK.out;omega
    case rel=>exact ⟨i+1,_,hin,rfl,by go_num,aW (by rw [HTK.out,HTX.out];exact HX.out.wp),aW (HG.out.trans HX.out.mg)⟩
  ·obtain rfl:i=nl:=by omega
   have HF:=aW (show aT (l.take i)=aT l by rw [List.take_of_length_le (Nat.le_of_eq HNK.out)]);go_wp2;go_end0;exact ⟨rfl,row1,_,by rw [← HF.out];exact HM.out,HG.out⟩
theorem wG {d:Nat} {l:List SJ} {x:SJ} (hx:x ∈ l) (h:iY d x=false):bK d l=false:=by
 rw [Bool.eq_false_iff];intro e;rw [jM.1 e x hx] at h;cases h
set_option maxHeartbeats 32000000 in
theorem wY:∀ (r:Nat) (l:List SJ) (css:List (List Value)) (A:Option Addr) (n ca:Nat) (q:Int) (w:World),q=r->r<=12->SRs w TT css l->l.length=n->n<=ca->RdF w TT A css.flatten->bY l->n<=4194304 ->
  Calls Tryz.prog 45 #[Zs A n ca,Zi Zq q] w (dl (bK r l) w):=by
 intro r
 induction r with
 |zero =>
  rintro l css A n ca q w rfl hr hS hln hnc hR hC hn;by_cases h0:n=0
  ·subst h0;obtain rfl:l=[]:=List.length_eq_zero_iff.1 hln;clear hS hR hC hln;go_enter Tryz.func45,Tryz.ntmps45;go_upto_region 4 with fail;go_loopg [5] 0 (λ gk s5 wr=>gk=0/\s5=Zi Zq 0/\wr=w)
   case atStart=>exact ⟨rfl,rfl,rfl⟩
   case round =>
    obtain ⟨rfl,rfl,rfl⟩:=hrel;go_wp2;go_ret;exact ⟨rfl,Below.refl _ _⟩
  ·obtain ⟨g,hg⟩:∃ g,bK 0 l=g:=⟨_,rfl⟩
   obtain rfl:g=false:=by
    rw [← hg];cases l with
    | nil=>exact absurd hln.symm h0
    | cons x t=>obtain ⟨k,s,a,b,body,els⟩:=x;rw [bK,iY];simp
   rw [hg];have hn1:(0:Int)<(n:Int):=by omega
   have hd1:decide ((0:Int)<(n:Int))=true:=decide_eq_true hn1;clear hS hR hC hln hg;go_enter Tryz.func45,Tryz.ntmps45;go_wp2;go_ret;exact ⟨rfl,Below.refl _ _⟩
 |succ r ih =>
  rintro l css A n ca q w hq hr hS hln hnc hR hC hn;by_cases h0:n=0
  ·subst h0;obtain rfl:l=[]:=List.length_eq_zero_iff.1 hln;clear hS hR hC hln ih;go_enter Tryz.func45,Tryz.ntmps45;go_upto_region 4 with fail;go_loopg [5] 0 (λ gk s5 wr=>gk=0/\s5=Zi Zq 0/\wr=w)
   case atStart=>exact ⟨rfl,rfl,rfl⟩
   case round =>
    obtain ⟨rfl,rfl,rfl⟩:=hrel;go_wp2;go_ret;exact ⟨rfl,Below.refl _ _⟩
  have hn1:(0:Int)<(n:Int):=by omega
  have hd1:decide ((0:Int)<(n:Int))=true:=decide_eq_true hn1;have hq1:1<=q:=by omega
  have hq12:q<=12:=by omega
  have hq0:(q == 0)=false:=by simp;omega
  have hq0':¬ q=0:=by omega
  have hqw:IntKind.i64.wrap (q-1)=q-1:=by rw [IntKind.wrap_i64];omega
  have HKD:=aW (And.intro hS hR);have HNK:=aW hln;have HCL:=aW (dQ.1 hC);have HIH:=aW (show ∀ (l:List SJ) (css:List (List Value)) (A:Option Addr) (n ca:Nat) (w:World),SRs w TT css l->l.length=n->n<=ca->RdF w TT A css.flatten->bY l->n<=4194304->Calls Tryz.prog 45 #[Zs A n ca,Zi Zq (q-1)] w (dl (bK r l) w) from
   λ l css A n ca w h1 h2 h3 h4 h5 h6=>ih l css A n ca (q-1) w (by omega) (by omega) h1 h2 h3 h4 h5 h6)
  obtain ⟨g,hg⟩:∃ g,bK (r+1) l=g:=⟨_,rfl⟩
  have HGG:=aW hg;rw [hg];clear hS hR hC hln hq hr ih hg;go_enter Tryz.func45,Tryz.ntmps45;go_upto_region 4 with fail;go_loopg [5] n (λ gk s5 wr => ∃ (i:Nat),gk=n-i/\i<=n/\s5=Zi Zq (i:Int)/\True/\Hid (Below w.heap.size w wr)/\Hid (bK (r+1) (l.take i)=true))
  case atStart=>exact ⟨0,by go_num,Nat.zero_le _,rfl,trivial,aW (Below.refl _ _),aW (by rw [List.take_zero];rfl)⟩
  case round =>
   obtain ⟨i,hgk,hin,rfl,_,HWB,HMA⟩:=hrel;have HGK:=aW hgk;clear hgk;by_cases hlt:i<n
   ·obtain ⟨x,hx⟩:∃ x,l[i]? = some x:=⟨_,List.getElem?_eq_getElem (by rw [HNK.out];exact hlt)⟩
    have hxm:=List.mem_of_getElem? hx;have hcx:=HCL.out x hxm;have HTK:=aW (show l.take (i+1)=l.take i++[x] by rw [List.take_add_one,hx];rfl);have HNOF:=aW (λ (h:iY (r+1) x=false)=>show g=false by rw [← HGG.out];exact wG hxm h);have hS1:SRs wr TT css l:=RR.imp HKD.out.1 λ c y hc=>hc.bel HWB.out
    have hR1:RdF wr TT A css.flatten:=HKD.out.2.keep (af.of_below HWB.out);obtain ⟨k,s,a,b,body,els⟩:=x;obtain ⟨bl,o,ka,kva,nva,sva,Ava,nka,cka,Bva,nya,cya,sa,Ca,nxa,cxa,kb,kvb,nvb,svb,Avb,nkb,ckb,Bvb,nyb,cyb,sb,Cb,nxb,cxb,BA,LA,cb,cl,bss,lss,rfl,hbl,_,hEA,hEB,⟨hb1,hb2,hb3⟩,⟨he1,he2,he3⟩,hSR,hz⟩:=eu hS1 hR1 hx;unfold j3 at hcx;obtain ⟨hik,hsl,hca,hcb,hbl4,hel4,hcbo,hcel⟩:=hcx;obtain ⟨nb,hnb⟩:∃ q,body.length=q:=⟨_,rfl⟩
    obtain ⟨nl,hnl⟩:∃ q,els.length=q:=⟨_,rfl⟩
    have HMS:=aW (show iY (r+1) (.mk k s a b body els)=(decide (gW a) && (if k=1 then decide (gW b) && decide (s=[]/\body.length+els.length=0) else if k=2 then dN b && (decide (s=[]) && (bK r body && bK r els)) else if k=3 then dN b && (dB s && (bK r body && decide (els.length=0))) else false)) by
     rw [iY,decide_eq_true (show r+1≠0 by omega),Bool.true_and];rfl)
    have HNB:=aW (And.intro hnb hnl);rw [hnb] at hb2 hbl4 hz hSR;rw [hnl] at he2 hel4 hz hSR;have HRG:=aW (show wr.rangeAt bl (o+i*20) [Zi Zq k,Zt ⟨s.toArray⟩,Zi Zq ka,Zi Zq kva,Zi Zq nva,Zt sva,Zs Ava nka cka,Zs Bva nya cya,Zt sa,Zs Ca nxa cxa,Zi Zq kb,Zi Zq kvb,Zi Zq nvb,Zt svb,Zs Avb nkb ckb,Zs Bvb nyb cyb,Zt sb,Zs Cb nxb cxb,Zs BA nb cb,Zs LA nl cl] from λ j v hv=>by rw [Nat.add_assoc];exact hz j v hv);have hlb:bl<wr.heap.size:=hbl;have HFA:=aW (λ (W:World) (h:Below wr.heap.size wr W)=>xH a [Zi Zq ka,Zi Zq kva,Zi Zq nva,Zt sva,Zs Ava nka cka,Zs Bva nya cya,Zt sa,Zs Ca nxa cxa] W (hEA.bel h) hca);have HFB:=aW (λ (W:World) (h:Below wr.heap.size wr W)=>xH b [Zi Zq kb,Zi Zq kvb,Zi Zq nvb,Zt svb,Zs Avb nkb ckb,Zs Bvb nyb cyb,Zt sb,Zs Cb nxb cxb] W (hEB.bel h) hcb);have HBB:=aW (λ (W:World) (h:Below wr.heap.size wr W)=>yE b [Zi Zq kb,Zi Zq kvb,Zi Zq nvb,Zt svb,Zs Avb nkb ckb,Zs Bvb nyb cyb,Zt sb,Zs Cb nxb cxb] W (hEB.bel h));have HRB:=aW (λ (W:World) (h:Below wr.heap.size wr W)=>HIH.out body bss BA nb cb W (RR.imp hb1 λ c y (hc:SR _ _ c y)=>hc.bel h) hnb hb2 (hb3.keep (af.of_below h)) hcbo hbl4);have HRL:=aW (λ (W:World) (h:Below wr.heap.size wr W)=>HIH.out els lss LA nl cl W (RR.imp he1 λ c y (hc:SR _ _ c y)=>hc.bel h) hnl he2 (he3.keep (af.of_below h)) hcel hel4);have HH1:=aW ((az.nil wr).push 48 #[Zi Zq k,Zt ⟨s.toArray⟩,Zi Zq ka,Zi Zq kva,Zi Zq nva,Zt sva,Zs Ava nka cka,Zs Bva nya cya,Zt sa,Zs Ca nxa cxa,Zi Zq kb,Zi Zq kvb,Zi Zq nvb,Zt svb,Zs Avb nkb ckb,Zs Bvb nyb cyb,Zt sb,Zs Cb nxb cxb,Zs BA nb cb,Zs LA nl cl] (g:=wr.heap.size) rfl);obtain ⟨W1,hW1⟩:∃ W1,wr.alloc (.cells #[Zi Zq k,Zt ⟨s.toArray⟩,Zi Zq ka,Zi Zq kva,Zi Zq nva,Zt sva,Zs Ava nka cka,Zs Bva nya cya,Zt sa,Zs Ca nxa cxa,Zi Zq kb,Zi Zq kvb,Zi Zq nvb,Zt svb,Zs Avb nkb ckb,Zs Bvb nyb cyb,Zt sb,Zs Cb nxb cxb,Zs BA nb cb,Zs LA nl cl] 48)=W1:=⟨_,rfl⟩
    rw [hW1] at HH1;have HW1:=aW hW1;clear hz hSR hEA hEB hb1 hb2 hb3 he1 he2 he3 hca hcb hbl4 hel4 hcbo hcel hnb hnl hx hxm hbl hS1 hR1 hW1 hik hsl;go_upto_region 6 with fail
    first | (go_step;go_step;go_step;go_step;go_step;go_step;go_step;go_step;go_step;go_step;refine wpList_load_mid rfl 48 (.tmp 23) rfl bl (o+i*20) rfl [Zi Zq k,Zt ⟨s.toArray⟩,Zi Zq ka,Zi Zq kva,Zi Zq nva,Zt sva,Zs Ava nka cka,Zs Bva nya cya,Zt sa,Zs Ca nxa cxa,Zi Zq kb,Zi Zq kvb,Zi Zq nvb,Zt svb,Zs Avb nkb ckb,Zs Bvb nyb cyb,Zt sb,Zs Cb nxb cxb,Zs BA nb cb,Zs LA nl cl] _ HRG.out Tryz.underlying48 rfl (by kernel_rfl) ?_) | (go_step;go_step;go_step;go_step;go_step;go_step;go_step;go_step;go_step;refine wpList_load_mid rfl 48 (.tmp 23) rfl bl (o+i*20) rfl [Zi Zq k,Zt ⟨s.toArray⟩,Zi Zq ka,Zi Zq kva,Zi Zq nva,Zt sva,Zs Ava nka cka,Zs Bva nya cya,Zt sa,Zs Ca nxa cxa,Zi Zq kb,Zi Zq kvb,Zi Zq nvb,Zt svb,Zs Avb nkb ckb,Zs Bvb nyb cyb,Zt sb,Zs Cb nxb cxb,Zs BA nb cb,Zs LA nl cl] _ HRG.out Tryz.underlying48 rfl (by kernel_rfl) ?_) | (go_step;go_step;go_step;go_step;go_step;go_step;go_step;go_step;go_step;go_step;go_step;refine wpList_load_mid rfl 48 (.tmp 23) rfl bl (o+i*20) rfl [Zi Zq k,Zt ⟨s.toArray⟩,Zi Zq ka,Zi Zq kva,Zi Zq nva,Zt sva,Zs Ava nka cka,Zs Bva nya cya,Zt sa,Zs Ca nxa cxa,Zi Zq kb,Zi Zq kvb,Zi Zq nvb,Zt svb,Zs Avb nkb ckb,Zs Bvb nyb cyb,Zt sb,Zs Cb nxb cxb,Zs BA nb cb,Zs LA nl cl] _ HRG.out Tryz.underlying48 rfl (by kernel_rfl) ?_) | (go_step;go_step;go_step;go_step;go_step;go_step;go_step;go_step;refine wpList_load_mid rfl 48 (.tmp 23) rfl bl (o+i*20) rfl [Zi Zq k,Zt ⟨s.toArray⟩,Zi Zq ka,Zi Zq kva,Zi Zq nva,Zt sva,Zs Ava nka cka,Zs Bva nya cya,Zt sa,Zs Ca nxa cxa,Zi Zq kb,Zi Zq kvb,Zi Zq nvb,Zt svb,Zs Avb nkb ckb,Zs Bvb nyb cyb,Zt sb,Zs Cb nxb cxb,Zs BA nb cb,Zs LA nl cl] _ HRG.out Tryz.underlying48 rfl (by kernel_rfl) ?_) | (go_step;go_step;go_step;go_step;go_step;go_step;go_step;go_step;go_step;go_step;go_step;go_step;refine wpList_load_mid rfl 48 (.tmp 23) rfl bl (o+i*20) rfl [Zi Zq k,Zt ⟨s.toArray⟩,Zi Zq ka,Zi Zq kva,Zi Zq nva,Zt sva,Zs Ava nka cka,Zs Bva nya cya,Zt sa,Zs Ca nxa cxa,Zi Zq kb,Zi Zq kvb,Zi Zq nvb,Zt svb,Zs Avb nkb ckb,Zs Bvb nyb cyb,Zt sb,Zs Cb nxb cxb,Zs BA nb cb,Zs LA nl cl] _ HRG.out Tryz.underlying48 rfl (by kernel_rfl) ?_) | (go_step;go_step;go_step;go_step;go_step;go_step;go_step;refine wpList_load_mid rfl 48 (.tmp 23) rfl bl (o+i*20) rfl [Zi Zq k,Zt ⟨s.toArray⟩,Zi Zq ka,Zi Zq kva,Zi Zq nva,Zt sva,Zs Ava nka cka,Zs Bva nya cya,Zt sa,Zs Ca nxa cxa,Zi Zq kb,Zi Zq kvb,Zi Zq nvb,Zt svb,Zs Avb nkb ckb,Zs Bvb nyb cyb,Zt sb,Zs Cb nxb cxb,Zs BA nb cb,Zs LA nl cl] _ HRG.out Tryz.underlying48 rfl (by kernel_rfl) ?_)
    go_step;go_step;go_step;refine eC rfl 48 (.tmp 6) (.tmp 24) rfl _ _ rfl rfl (by kernel_rfl) (by kernel_rfl) (by first | kernel_rfl | simp [Value.oneCell']) ?_;rw [HW1.out];clear HW1 HRG hlb;obtain ⟨fa,hfa⟩:∃ q,decide (gW a)=q:=⟨_,rfl⟩
    rw [hfa] at HMS HFA;clear hfa;obtain ⟨c0,f0,l0⟩:=HH1.out.b0.rules;go_upto_region 7 with fail;go_wp2_with fail;refine (HFA.out _ HH1.out.1).mono ?_;rintro e w2 ⟨rfl,hb⟩;have HH2:=aW (HH1.out.keep hb);clear hb c0 f0 l0;obtain ⟨c0,f0,l0⟩:=HH2.out.b0.rules;cases fa with
    |false =>
     obtain rfl:g=false:=HNOF.out (by rw [HMS.out];rfl);clear HGG;go_wp2;go_ret;exact ⟨rfl,HWB.out.trans (HH2.out.1.mono HWB.out.size)⟩
    | true =>
    by_cases hk1:k=1
    ·subst hk1;obtain ⟨fb,hfb⟩:∃ q,decide (gW b)=q:=⟨_,rfl⟩
     rw [hfb] at HMS HFB;clear hfb;go_wp2_with fail;refine (HFB.out _ HH2.out.1).mono ?_;rintro e w3 ⟨rfl,hb⟩;have HH3:=aW (HH2.out.keep hb);clear hb c0 f0 l0;obtain ⟨c0,f0,l0⟩:=HH3.out.b0.rules;cases fb with
     |false =>
      obtain rfl:g=false:=HNOF.out (by rw [HMS.out];simp);clear HGG;go_wp2;go_ret;exact ⟨rfl,HWB.out.trans (HH3.out.1.mono HWB.out.size)⟩
     | true =>
     by_cases hs:s=[];rotate_left
     ·have hse:s.isEmpty=false:=by simpa using hs
      obtain rfl:g=false:=HNOF.out (by rw [HMS.out];simp [hs]);clear HGG;go_wp2;go_ret;exact ⟨rfl,HWB.out.trans (HH3.out.1.mono HWB.out.size)⟩
     subst hs;by_cases hb0:nb=0;rotate_left
     ·have e3:((nb:Int) == 0)=false:=by simp;omega
      obtain rfl:g=false:=HNOF.out (by rw [HMS.out];rw [HNB.out.1,HNB.out.2];simp;omega);clear HGG;go_wp2;go_ret;exact ⟨rfl,HWB.out.trans (HH3.out.1.mono HWB.out.size)⟩
     subst hb0;by_cases hl0:nl=0;rotate_left
     ·have e3:((nl:Int) == 0)=false:=by simp;omega
      obtain rfl:g=false:=HNOF.out (by rw [HMS.out];rw [HNB.out.1,HNB.out.2];simp;omega);clear HGG;go_wp2;go_ret;exact ⟨rfl,HWB.out.trans (HH3.out.1.mono HWB.out.size)⟩
     subst hl0;have HM2:=aW (show bK (r+1) (l.take (i+1))=true by
      rw [HTK.out,iI,HMA.out,HMS.out];rw [HNB.out.1,HNB.out.2];simp)
     go_wp2;go_roundg (n-(i+1))
     case measure=>have:=HGK.out;omega
     case rel=>exact ⟨i+1,rfl,by omega,by go_num,trivial,aW (HWB.out.trans (HH3.out.1.mono HWB.out.size)),HM2⟩
    have e1:(k == 1)=false:=by simp [hk1]
    by_cases hk2:k=2
    ·subst hk2;obtain ⟨bb,hbb⟩:∃ q,dN b=q:=⟨_,rfl⟩
     rw [hbb] at HMS HBB;clear hbb;go_wp2_with fail;refine (HBB.out _ HH2.out.1).mono ?_;rintro e w3 ⟨rfl,hb⟩;have HH3:=aW (HH2.out.keep hb);clear hb c0 f0 l0;obtain ⟨c0,f0,l0⟩:=HH3.out.b0.rules;cases bb with
     |false =>
      obtain rfl:g=false:=HNOF.out (by rw [HMS.out];simp);clear HGG;go_wp2;go_ret;exact ⟨rfl,HWB.out.trans (HH3.out.1.mono HWB.out.size)⟩
     | true =>
     by_cases hs:s=[];rotate_left
     ·have hse:s.isEmpty=false:=by simpa using hs
      obtain rfl:g=false:=HNOF.out (by rw [HMS.out];simp [hs]);clear HGG;go_wp2;go_ret;exact ⟨rfl,HWB.out.trans (HH3.out.1.mono HWB.out.size)⟩
     subst hs;obtain ⟨m1,hm1⟩:∃ q,bK r body=q:=⟨_,rfl⟩
     rw [hm1] at HMS HRB;clear hm1;go_wp2_with fail;refine (HRB.out _ HH3.out.1).mono ?_;rintro e w4 ⟨rfl,hb⟩;have HH4:=aW (HH3.out.keep hb);clear hb c0 f0 l0;obtain ⟨c0,f0,l0⟩:=HH4.out.b0.rules;cases m1 with
     |false =>
      obtain rfl:g=false:=HNOF.out (by rw [HMS.out];simp);clear HGG;go_wp2;go_ret;exact ⟨rfl,HWB.out.trans (HH4.out.1.mono HWB.out.size)⟩
     | true =>
     obtain ⟨m2,hm2⟩:∃ q,bK r els=q:=⟨_,rfl⟩
     rw [hm2] at HMS HRL;clear hm2;go_wp2_with fail;refine (HRL.out _ HH4.out.1).mono ?_;rintro e w5 ⟨rfl,hb⟩;have HH5:=aW (HH4.out.keep hb);clear hb c0 f0 l0;obtain ⟨c0,f0,l0⟩:=HH5.out.b0.rules;cases m2 with
     |false =>
      obtain rfl:g=false:=HNOF.out (by rw [HMS.out];simp);clear HGG;go_wp2;go_ret;exact ⟨rfl,HWB.out.trans (HH5.out.1.mono HWB.out.size)⟩
     | true =>
     have HM2:=aW (show bK (r+1) (l.take (i+1))=true by
      rw [HTK.out,iI,HMA.out,HMS.out];simp)
     go_wp2;go_roundg (n-(i+1))
     case measure=>have:=HGK.out;omega
     case rel=>exact ⟨i+1,rfl,by omega,by go_num,trivial,aW (HWB.out.trans (HH5.out.1.mono HWB.out.size)),HM2⟩
    have e2:(k == 2)=false:=by simp [hk2]
    by_cases hk3:k=3
    ·subst hk3;obtain ⟨bb,hbb⟩:∃ q,dN b=q:=⟨_,rfl⟩
     rw [hbb] at HMS HBB;clear hbb;go_wp2_with fail;refine (HBB.out _ HH2.out.1).mono ?_;rintro e w3 ⟨rfl,hb⟩;have HH3:=aW (HH2.out.keep hb);clear hb c0 f0 l0;obtain ⟨c0,f0,l0⟩:=HH3.out.b0.rules;cases bb with
     |false =>
      obtain rfl:g=false:=HNOF.out (by rw [HMS.out];simp);clear HGG;go_wp2;go_ret;exact ⟨rfl,HWB.out.trans (HH3.out.1.mono HWB.out.size)⟩
     | true =>
     obtain ⟨nm,hnm⟩:∃ q,dB s=q:=⟨_,rfl⟩
     have HNA:=aW (λ (W:World)=>show Calls Tryz.prog 78 #[Zt ⟨s.toArray⟩] W (λ e w'=>e=.returned (.bool nm)/\W=w') by rw [← hnm];exact iM _ W);rw [hnm] at HMS;clear hnm;go_wp2_with fail;refine (HNA.out _).mono ?_;rintro e w4 ⟨rfl,rfl⟩;cases nm with
     |false =>
      obtain rfl:g=false:=HNOF.out (by rw [HMS.out];simp);clear HGG;go_wp2;go_ret;exact ⟨rfl,HWB.out.trans (HH3.out.1.mono HWB.out.size)⟩
     | true =>
     by_cases hl0:nl=0;rotate_left
     ·have e3:((nl:Int) == 0)=false:=by simp;omega
      obtain rfl:g=false:=HNOF.out (by rw [HMS.out];rw [HNB.out.2];simp;omega);clear HGG;go_wp2;go_ret;exact ⟨rfl,HWB.out.trans (HH3.out.1.mono HWB.out.size)⟩
     subst hl0;obtain ⟨m1,hm1⟩:∃ q,bK r body=q:=⟨_,rfl⟩
     rw [hm1] at HMS HRB;clear hm1;go_wp2_with fail;refine (HRB.out _ HH3.out.1).mono ?_;rintro e w4 ⟨rfl,hb⟩;have HH4:=aW (HH3.out.keep hb);clear hb c0 f0 l0;obtain ⟨c0,f0,l0⟩:=HH4.out.b0.rules;cases m1 with
     |false =>
      obtain rfl:g=false:=HNOF.out (by rw [HMS.out];simp);clear HGG;go_wp2;go_ret;exact ⟨rfl,HWB.out.trans (HH4.out.1.mono HWB.out.size)⟩
     | true =>
     have HM2:=aW (show bK (r+1) (l.take (i+1))=true by
      rw [HTK.out,iI,HMA.out,HMS.out];rw [HNB.out.2];simp)
     go_wp2;go_roundg (n-(i+1))
     case measure=>have:=HGK.out;omega
     case rel=>exact ⟨i+1,rfl,by omega,by go_num,trivial,aW (HWB.out.trans (HH4.out.1.mono HWB.out.size)),HM2⟩
    have e3:(k == 3)=false:=by simp [hk3]
    obtain rfl:g=false:=HNOF.out (by rw [HMS.out];rw [if_neg hk1,if_neg hk2,if_neg hk3];rfl);clear HGG;go_wp2;go_ret;exact ⟨rfl,HWB.out.trans (HH2.out.1.mono HWB.out.size)⟩
   ·obtain rfl:i=n:=by omega
    obtain rfl:g=true:=by
     have:=HMA.out;rw [List.take_of_length_le (Nat.le_of_eq HNK.out),HGG.out] at this;exact this
    clear HGG;go_wp2;go_ret;exact ⟨rfl,HWB.out⟩
end
section
open Go.RowKit
theorem wX (l:List SJ) (css:List (List Value)) (A:Option Addr) (n ca:Nat) (w:World) (hS:SRs w TT css l) (hln:l.length=n) (hnc:n<=ca) (hR:RdF w TT A css.flatten) (hC:bY l) (hn:n<=4194304) :
  Calls Tryz.prog 17 #[.agg #[Zs A n ca]] w (dl (lX l) w):=by
 have HC:=aW (λ (W:World) (h:Below w.heap.size w W)=>wY 12 l css A n ca 12 W rfl (Nat.le_refl _) (RR.imp hS λ c x (hc:SR _ _ c x)=>hc.bel h) hln hnc (hR.keep (af.of_below h)) hC hn);have HH0:=aW ((az.nil w).push 24 #[Zs A n ca] (g:=w.heap.size) rfl);obtain ⟨g,hg⟩:∃ g,bK 12 l=g:=⟨_,rfl⟩
 have hgp:lX l=g:=hg;rw [hg] at HC;rw [hgp];clear hS hln hnc hR hC hn hg hgp;obtain ⟨c0,f0,l0⟩:=HH0.out.b0.rules;go_enter Tryz.func17,Tryz.ntmps17;go_wp2_with fail;refine (HC.out _ HH0.out.1).mono ?_;rintro e w1 ⟨rfl,hb1⟩;have HH1:=aW (HH0.out.keep hb1);clear hb1 c0 f0 l0;go_wp2;go_ret;exact ⟨rfl,HH1.out.1⟩
end
end Go.Proofs.YtgmnmnnoahdjnaaGreatDoor
