import Derived.Test.YtgmnmnnoahdjnaaGreatDoorC40
import Derived.Test.YtgmnmnnoahdjnaaGreatDoorC39
open Go.Value renaming int → Zi, slice → Zs, string → Zt, pointer → Zp
open Go.IntKind renaming i64 → Zq
set_option maxRecDepth 100000
set_option maxHeartbeats 16000000
set_option linter.unusedVariables false
set_option linter.unusedSimpArgs false
namespace Go.Proofs.YtgmnmnnoahdjnaaGreatDoor
section
open Go.RowKit
attribute [local go_sem] aa ac ae ab
theorem wK (r:Nat) (ih:jJ r):kS r (λ k=>1<=k/\k<=15):=by
 intro k v s kids cs f w g row n st hk hW hx hc hd hf hlen;by_cases h1:k=1
 ·exact Bb r k v s kids cs f w g row n st h1 hW hx hc hd hf hlen
 by_cases h2:k=2
 ·exact Ac r k v s kids cs f w g row n st h2 hW hx hc hd hf hlen
 by_cases h3:k=3
 ·exact Ad r ih k v s kids cs f w g row n st h3 hW hx hc hd hf hlen
 by_cases h4:k=4
 ·exact Ab r ih k v s kids cs f w g row n st h4 hW hx hc hd hf hlen
 by_cases h5:k<=7
 ·exact yq r ih k v s kids cs f w g row n st ⟨by omega,h5⟩ hW hx hc hd hf hlen
 by_cases h8:11<=k/\k<=13
 ·exact z9 r ih k v s kids cs f w g row n st h8 hW hx hc hd hf hlen
 ·refine Aa (a8 k) ?_ r ih k v s kids cs f w g row n st ⟨rfl,by omega,hk.2⟩ hW hx hc hd hf hlen;obtain rfl | rfl | rfl | rfl | rfl:k=8∨k=9∨k=10∨k=14∨k=15:=by omega
  all_goals decide
theorem AY {k:Int} {v:JV} {s:List UInt8} {n:Nat} (h:okX k v s n=true):1<=k/\k<=15:=by
 apply Decidable.byContradiction;intro hn;unfold okX at h;rw [if_neg (by omega)] at h;split at h
 ·cases h
 ·rw [if_neg (by omega),if_neg (by omega),if_neg (by omega),if_neg (by omega),if_neg (by omega)] at h;cases h
theorem Ae (r:Nat) (ih:jJ r):jJ (r+1):=by
 intro x cs f w g row n st hW hx hc hd hf hlen;obtain ⟨k,v,s,kids⟩:=x;have hk:=AY (cG hd).2.1;by_cases hlf:f<=a8 k
 ·have e:aw f (.mk k v s kids)=cI k v s (cW kids):=if_neg (show ¬ a8 k<f by omega);rw [e] at hlen ⊢;exact wK r ih k v s kids cs f w g row n st hk hW hx hc hd hlf hlen
 have e:aw f (.mk k v s kids)=ap [40]::(cI k v s (cW kids)++[ap [41]]):=if_pos (show a8 k<f by omega);rw [e] at hlen ⊢;rw [cM,cx];rw [aj,aG,aj,bm] at hlen;have h40:(ay (ap [40])).length=1:=rfl;have h41:(ay (ap [41])).length=1:=rfl;have hn:=hW.own.1;subst hn;obtain ⟨k1,n1,s1,A1,na1,ca1,B1,nb1,cb1,A,ca,css,rfl,hv,h1,h2,h3,h4⟩:=hx.out;obtain ⟨S,hS⟩:∃ S:ByteArray,⟨s.toArray⟩=S:=⟨_,rfl⟩
 obtain ⟨nk,hnk⟩:∃ q,kids.length=q:=⟨_,rfl⟩
 rw [hS,hnk] at hx ⊢;have hL1:1<=a8 k:=by unfold a8;(repeat' split)<;>omega
 have HH0:=aW ((aT.nil w).push 45 #[Zi Zq k,Zi Zq k1,Zi Zq n1,Zt s1,Zs A1 na1 ca1,Zs B1 nb1 cb1,Zt S,Zs A nk ca] (g:=w.heap.size) rfl);have HLV:=aW (λ W (h:Below w.heap.size w W)=>iq k k1 n1 s1 A1 na1 ca1 B1 nb1 cb1 S A nk ca W (hW.goe.keep h));unfold oL at HLV;obtain ⟨L,hL⟩:∃ L,a8 k=L:=⟨_,rfl⟩
 rw [hL] at HLV hlf hL1;have hlt:(L:Int)<(f:Int):=by omega
 have HST:=aW (λ (W3:World) hb=>eV (W1:=w) (W3:=W3) (O:=#[]) (X:=#[Zi Zq k,Zi Zq k1,Zi Zq n1,Zt s1,Zs A1 na1 ca1,Zs B1 nb1 cb1,Zt S,Zs A nk ca]) hW h1 h4 hb);have hp1:=cU st [40];simp only [List.length_cons,List.length_nil] at hp1;have hp2:=bi (cI k v s (cW kids)) (bc st [40]);have HP0:=aW (λ W p (h:Below w.heap.size w W) (hp:p=W.heap.size)=>(iM [40] W p g row st.1.length st.1 st.2 (hW.keep h) hp (by simp) (by simp only [List.length_cons,List.length_nil];omega)));have HE:=aW (λ W row' (hm:MG g row w row' W) (h:WP W g row' (bc st [40]).1.length (bc st [40]).1 (bc st [40]).2)=>wK r ih k v s kids _ 1 W g row' _ (bc st [40]) hk h (hx.mg hm) hc hd (by omega) (by omega));have HP9:=aW (λ W p row' (h:WP W g row' (aH (cI k v s (cW kids)) (bc st [40])).1.length (aH (cI k v s (cW kids)) (bc st [40])).1 (aH (cI k v s (cW kids)) (bc st [40])).2) (hp:p=W.heap.size)=>iM [41] W p g row' _ _ _ h hp (by simp) (by simp only [List.length_cons,List.length_nil];omega));have HWP:=aW hW;clear hW hx hc hd hv h1 h2 h3 h4 hlen h40 h41 hp1 hp2 hS hnk hL hk e;obtain ⟨c0,f0,l0⟩:=HH0.out.b0.rules;go_enter Tryz.func74,Tryz.ntmps74;go_wp2_with (first
  | (go_at_call 112;refine (HLV.out _ HH0.out.1).mono ?_;rintro e w1 ⟨rfl,hb1⟩)
  | (go_at_call 73;refine (HP9.out _ _ _ hw4 rfl).mono ?_;rintro e w5 ⟨rfl,row5,n5,hw5,hm5⟩)
  | (go_at_call 74;refine (HE.out _ _ hmw hw2).mono ?_;rintro e w4 ⟨rfl,row4,n4,hw4,hm4⟩;have hn4:=hw4.own.1;subst hn4)
  | (go_at_call 73;refine (HP0.out _ _ (HH0.out.1.trans (hb1.mono HH0.out.1.size)) rfl).mono ?_;rintro e w2 ⟨rfl,row2,n2,hw2,hm2⟩;have hn2:=hw2.own.1;subst hn2;have hmw:=(MG.bel (mb:=g) (a:=row) (HH0.out.1.trans (hb1.mono HH0.out.1.size))).trans hm2;obtain ⟨d0,d1,d2⟩:=(hm2.blk (HH0.out.keep hb1).b0 (by have:=HWP.out.blk.lt;omega) (λ e=>by have:=(HWP.out.ge _ e.symm).2;omega)).rules))
 go_end0;exact ⟨rfl,row5,n5,hw5,(hmw.trans hm4).trans hm5⟩
theorem ze:∀ r,jJ r
 | 0=>λ x cs f w g row n st _ _ _ hd=>by obtain ⟨k,v,s,kids⟩:=x;exact absurd rfl (cG hd).1
 | r+1=>Ae r (ze r)
theorem SRs.mgK {mb:Nat} {a b:Value} {w w1:World} {css:List (List Value)} {l:List SJ} (h:SRs w (PbM mb a w) css l) (g:MG mb a w b w1):SRs w1 (PbM mb b w1) css l:=RR.imp h λ c x hc=>hc.mg g
structure PT (w W:World) (g:Nat) (row0 row:Value) (st:List UInt8 × Bool) (bs:Nat) (S:Array Value):Prop where
 wp:WP W g row st.1.length st.1 st.2
 mg:MG g row0 w row W
 x:PB W g row bs 48 S
section
variable {w W W':World} {g:Nat} {row0 row row':Value} {st st':List UInt8 × Bool} {bs:Nat} {S:Array Value}
theorem PT.step (h:PT w W g row0 row st bs S) (hg:MG g row W row' W') (hw:WP W' g row' st'.1.length st'.1 st'.2):PT w W' g row0 row' st' bs S:=⟨hw,h.mg.trans hg,h.x.mg hg⟩
theorem PT.bel (h:PT w W g row0 row st bs S) (hb:Below W.heap.size W W'):PT w W' g row0 row st bs S:=h.step (MG.bel hb) (h.wp.keep hb)
theorem PT.put (h:PT w W g row0 row st bs S) {e:Ending} (hp:gM g row st' W e W'):e=.returned (.tuple #[])/\∃ row',PT w W' g row0 row' st' bs S:=by
 obtain ⟨rfl,row',n',h1,h2⟩:=hp;have hn:=h1.own.1;subst hn;exact ⟨rfl,row',h.step h2 h1⟩
theorem PT.fin (h:PT w W g row0 row st bs S):gM g row0 st w (.returned (.tuple #[])) W:=⟨rfl,row,_,h.wp,h.mg⟩
end
theorem Aw (s t u:List UInt8) (W:World) (p g:Nat) (row:Value) (n:Nat) (out:List UInt8) (num:Bool) (hW:WP W g row n out num) (hp:p=W.heap.size) (hs:s≠[]) (ht:t≠[]) (hu:u≠[]) (hl:n+((s.length+1)+((t.length+1)+(u.length+1)))<=100000000000) :
  Calls Tryz.prog 73 #[Zp (some ⟨g,0,none⟩),Zs (some ⟨p,0,none⟩) 3 3] (W.alloc (.cells #[Zt ⟨s.toArray⟩,Zt ⟨t.toArray⟩,Zt ⟨u.toArray⟩] 9)) (gM g row (bc (bc (bc (out,num) s) t) u) W):=by
 subst hp;have hb:=(Below.refl W.heap.size W).alloc (Nat.le_refl _) (.cells #[Zt ⟨s.toArray⟩,Zt ⟨t.toArray⟩,Zt ⟨u.toArray⟩] 9);refine (xA [s,t,u] (some ⟨W.heap.size,0,none⟩) 3 3 _ g row n out num (hW.keep hb) (RdF.of_blkP (Blk.new W 9 #[Zt ⟨s.toArray⟩,Zt ⟨t.toArray⟩,Zt ⟨u.toArray⟩]) (pp hW _)) rfl (by decide) (by simp [hs,ht,hu]) (by simpa using hl)).mono ?_;rintro e w' ⟨rfl,row',n',h1,h2⟩;exact ⟨rfl,row',n',h1,(MG.bel hb).trans h2⟩
def uV (d:Nat):Prop:=∀ (l:List SJ) (css:List (List Value)) (A:Option Addr) (nl ca:Nat) (w:World) (g:Nat) (row:Value) (n:Nat) (st:List UInt8 × Bool),WP w g row n st.1 st.2->SRs w (PbM g row w) css l->l.length=nl->nl<=ca->RdF w (PbM g row w) A css.flatten->cF d l=true->aK l->nl<=4194304->st.1.length+bT (aq l)<=100000000000 ->
 Calls Tryz.prog 44 #[Zp (some ⟨g,0,none⟩),Zs A nl ca] w (gM g row (aH (aq l) st) w)
def cE (l:List SJ):List LX:=ap [123]::(aq l++[ap [125]])
def uU (d:Nat):Prop:=∀ (l:List SJ) (css:List (List Value)) (A:Option Addr) (nl ca:Nat) (w:World) (g:Nat) (row:Value) (n:Nat) (st:List UInt8 × Bool),WP w g row n st.1 st.2->SRs w (PbM g row w) css l->l.length=nl->nl<=ca->RdF w (PbM g row w) A css.flatten->cF d l=true->aK l->nl<=4194304->st.1.length+bT (cE l)<=100000000000 ->
 Calls Tryz.prog 75 #[Zp (some ⟨g,0,none⟩),Zs A nl ca] w (gM g row (aH (cE l) st) w)
def PTP (w:World) (g:Nat) (row0:Value) (st:List UInt8 × Bool) (bs:Nat) (S:Array Value) (e:Ending) (W':World):Prop:=e=.returned (.tuple #[])/\∃ row',PT w W' g row0 row' st bs S
section
variable {w W:World} {g:Nat} {row0 row:Value} {st st':List UInt8 × Bool} {bs:Nat} {S:Array Value}
theorem PT.put1 (h:PT w W g row0 row st bs S) (s:List UInt8) (p:Nat) (hp:p=W.heap.size) (hs:s≠[]) (hl:st.1.length+(s.length+1)<=100000000000) (he:bc st s=st') :
  Calls Tryz.prog 73 #[Zp (some ⟨g,0,none⟩),Zs (some ⟨p,0,none⟩) 1 1] (W.alloc (.cells #[Zt ⟨s.toArray⟩] 9)) (PTP w g row0 st' bs S):=by
 subst he;exact (iM s W p g row _ st.1 st.2 h.wp hp hs hl).mono λ e W' hq=>h.put hq
theorem PT.put3 (h:PT w W g row0 row st bs S) (s t u:List UInt8) (p:Nat) (hp:p=W.heap.size) (hs:s≠[]) (ht:t≠[]) (hu:u≠[]) (hl:st.1.length+((s.length+1)+((t.length+1)+(u.length+1)))<=100000000000) (he:bc (bc (bc st s) t) u=st') :
  Calls Tryz.prog 73 #[Zp (some ⟨g,0,none⟩),Zs (some ⟨p,0,none⟩) 3 3] (W.alloc (.cells #[Zt ⟨s.toArray⟩,Zt ⟨t.toArray⟩,Zt ⟨u.toArray⟩] 9)) (PTP w g row0 st' bs S):=by
 subst he;exact (Aw s t u W p g row _ st.1 st.2 h.wp hp hs ht hu hl).mono λ e W' hq=>h.put hq
theorem PT.exprK (h:PT w W g row0 row st bs S) {x:EJ} {cs:List Value} (hx:ER W (PbM g row W) cs x) (hc:cd x) (hd:bw 12 x≠0) (hl:st.1.length+bT (aw 1 x)<=100000000000) (he:aH (aw 1 x) st=st') :
  Calls Tryz.prog 74 #[Zp (some ⟨g,0,none⟩),.agg cs.toArray,Zi Zq 1] W (PTP w g row0 st' bs S):=by
 subst he;exact (ze 12 x cs 1 W g row _ st h.wp hx hc hd (by decide) hl).mono λ e W' hq=>h.put hq
theorem PT.blockK {d:Nat} (ih:uU d) (h:PT w W g row0 row st bs S) {l:List SJ} {css:List (List Value)} {A:Option Addr} {nl ca:Nat} (hS:SRs w (PbM g row0 w) css l) (hR:RdF w (PbM g row0 w) A css.flatten) (hn:l.length=nl) (hca:nl<=ca) (hm:cF d l=true) (hc:aK l) (hn4:nl<=4194304)
  (hl:st.1.length+bT (cE l)<=100000000000) (he:aH (cE l) st=st') :
  Calls Tryz.prog 75 #[Zp (some ⟨g,0,none⟩),Zs A nl ca] W (PTP w g row0 st' bs S):=by
 subst he;exact (ih l css A nl ca W g row _ st h.wp (hS.mgK h.mg) hn hca (hR.mg h.mg) hm hc hn4 hl).mono λ e W' hq=>h.put hq
end
theorem yr (d:Nat) (ih:uV d):uU d:=by
 intro l css A nl ca w g row n st hW hS hl hca hR hm hc hn4 hlen;have hn:=hW.own.1;subst hn;unfold cE at hlen ⊢;rw [cM,cx];rw [aj,aG,aj,bm] at hlen;have h1:(ay (ap [123])).length=1:=rfl;have h2:(ay (ap [125])).length=1:=rfl;have hp1:=cU st [123];have hf:=bi (aq l) (bc st [123]);simp only [List.length_cons,List.length_nil] at hp1;have HP1:=aW (iM [123] w w.heap.size g row _ st.1 st.2 hW rfl (by simp) (by simp only [List.length_cons,List.length_nil];omega));have HIH:=aW (λ (W:World) (row':Value) n' (h:WP W g row' n' (bc st [123]).1 (bc st [123]).2) (hg:MG g row w row' W)=>ih l css A nl ca W g row' n' (bc st [123]) h (hS.mgK hg) hl hca (hR.mg hg) hm hc hn4 (by omega));have HP2:=aW (λ (W:World) (row':Value) n' p (hp:p=W.heap.size) (h:WP W g row' n' (aH (aq l) (bc st [123])).1 (aH (aq l) (bc st [123])).2)=>iM [125] W p g row' n' _ _ h hp (by simp) (by have:=h.own.1;simp only [List.length_cons,List.length_nil];omega));clear hS hR hm hc hlen h1 h2 hp1 hf hl hca ih;go_enter Tryz.func75,Tryz.ntmps75;go_wp2_with (first
  | (go_at_call 44;refine (HIH.out _ _ _ hq1 hm1).mono ?_;rintro e w2 ⟨rfl,row2,n2,hq2,hm2⟩)
  | (go_at_call 73;refine (HP2.out _ _ _ _ (by first | rfl | simp) hq2).mono ?_;rintro e w3 ⟨rfl,row3,n3,hq3,hm3⟩)
  | (go_at_call 73;refine HP1.out.mono ?_;rintro e w1 ⟨rfl,row1,n1,hq1,hm1⟩))
 go_end0;exact ⟨rfl,row3,n3,hq3,(hm1.trans hm2).trans hm3⟩
set_option maxHeartbeats 32000000 in
theorem tu (d:Nat) (ih:d≠0->uU (d-1)):uV d:=by
 intro l css A nl ca w g row n st hW hS hln hnc hR hmay hC hn4 hlen;have hn:=hW.own.1;subst hn;have HKD:=aW (And.intro hS hR);have HNK:=aW hln;have HCL:=aW (cV.1 hC);have HML:=aW (my.1 hmay);have HLEN:=aW hlen;have HW0:=aW hW;clear hW hS hln hR hmay hC hlen;go_enter Tryz.func44,Tryz.ntmps44;go_wp2;go_loopg [8] nl (λ gk s8 wr => ∃ (i:Nat) (row1:Value),i<=nl/\gk=nl-i/\s8=Zi Zq (i:Int)/\Hid (WP wr g row1 (aH (aq (l.take i)) st).1.length (aH (aq (l.take i)) st).1 (aH (aq (l.take i)) st).2)/\Hid (MG g row w row1 wr))
 case atStart=>exact ⟨0,row,Nat.zero_le _,by go_num,rfl,aW (by rw [List.take_zero,aq];exact HW0.out),aW (MG.refl _ _ _)⟩
 case round =>
  obtain ⟨i,row1,hi,hgk,rfl,HM,HG⟩:=hrel;have HGK:=aW hgk;clear hgk;by_cases hin:i<nl
  ·obtain ⟨x,hx⟩:∃ x,l[i]? = some x:=⟨_,List.getElem?_eq_getElem (by rw [HNK.out];exact hin)⟩
   have hxm:=List.mem_of_getElem? hx;have hcx:=HCL.out x hxm;have hmx:=HML.out x hxm;have htk:l.take (i+1)=l.take i++[x]:=by rw [List.take_add_one,hx];rfl
   have htt:aq (l.take (i+1))=aq (l.take i)++dA x:=by rw [htk,kQ,aq,aq,List.append_nil]
   have HTK:=aW (show aH (aq (l.take (i+1))) st=aH (dA x) (aH (aq (l.take i)) st) by rw [htt,cx]);have hlen1:(aH (aq (l.take i)) st).1.length+bT (dA x)<=100000000000:=by
    have h1:=bi (aq (l.take i)) st;have h2:bT (aq (l.take (i+1)))<=bT (aq l):=by
     have h3:=congrArg bT (congrArg aq (List.take_append_drop (i+1) l));rw [kQ,aG] at h3;omega
    rw [htt,aG] at h2;have h4:=HLEN.out;omega
   obtain ⟨st1,hst1⟩:∃ q,aH (aq (l.take i)) st=q:=⟨_,rfl⟩
   rw [hst1] at HM HTK hlen1;clear hst1 htk htt;have hS1:=SRs.mgK HKD.out.1 HG.out;have hR1:=RdF.mg HKD.out.2 HG.out;obtain ⟨k,s,a,b,body,els⟩:=x;obtain ⟨bl,o,ka,kva,nva,sva,Ava,nka,cka,Bva,nya,cya,sa,Ca,nxa,cxa,kb,kvb,nvb,svb,Avb,nkb,ckb,Bvb,nyb,cyb,sb,Cb,nxb,cxb,BA,LA,cb,cl,bss,lss,rfl,hbl,_,hEA,hEB,⟨hb1,hb2_,hb3⟩,⟨he1,he2,he3⟩,hSR,hz⟩:=fC hS1 hR1 hx;unfold fy at hcx;obtain ⟨hik,hsl,hca,hcb,hbl4,hel4,hcbo,hcel⟩:=hcx;obtain ⟨nb,hnb⟩:∃ q,body.length=q:=⟨_,rfl⟩
   obtain ⟨nl2,hnl2⟩:∃ q,els.length=q:=⟨_,rfl⟩
   have hnb4:nb<=4194304:=by omega
   have hnl4:nl2<=4194304:=by omega
   rw [hnb] at hb2_ hz;rw [hnl2] at he2 hz;have hd0:d≠0/\o4 a/\(if k=1 then decide (o4 b) && decide (s=[]/\body.length+els.length=0) else if k=2 then fW b && (decide (s=[]) && (cF (d-1) body && cF (d-1) els)) else if k=3 then fW b && (fe s && (cF (d-1) body && decide (els.length=0))) else false)=true:=by
    unfold ly at hmx;rw [Bool.and_eq_true,Bool.and_eq_true,decide_eq_true_eq,decide_eq_true_eq] at hmx;exact ⟨hmx.1,hmx.2.1,hmx.2.2⟩
   obtain ⟨hd0,hfa,hmk⟩:=hd0;have HIH:=aW (ih hd0);have HRG:=aW (show wr.rangeAt bl (o+i*20) [Zi Zq k,Zt ⟨s.toArray⟩,Zi Zq ka,Zi Zq kva,Zi Zq nva,Zt sva,Zs Ava nka cka,Zs Bva nya cya,Zt sa,Zs Ca nxa cxa,Zi Zq kb,Zi Zq kvb,Zi Zq nvb,Zt svb,Zs Avb nkb ckb,Zs Bvb nyb cyb,Zt sb,Zs Cb nxb cxb,Zs BA nb cb,Zs LA nl2 cl] from λ j v hv=>by rw [Nat.add_assoc];exact hz j v hv);have HMK:=aW hmk;have hlb:bl<wr.heap.size:=hbl;have HW9:=aW HM.out;clear hz hSR hx hxm hbl hS1 hR1 hmx hik hsl hbl4 hel4 hd0;obtain ⟨W1,hW1⟩:∃ W1,wr.alloc (.cells #[Zi Zq k,Zt ⟨s.toArray⟩,Zi Zq ka,Zi Zq kva,Zi Zq nva,Zt sva,Zs Ava nka cka,Zs Bva nya cya,Zt sa,Zs Ca nxa cxa,Zi Zq kb,Zi Zq kvb,Zi Zq nvb,Zt svb,Zs Avb nkb ckb,Zs Bvb nyb cyb,Zt sb,Zs Cb nxb cxb,Zs BA nb cb,Zs LA nl2 cl] 48)=W1:=⟨_,rfl⟩
   have hbA:Below wr.heap.size wr W1:=by rw [← hW1];exact (Below.refl _ _).alloc (Nat.le_refl _) _
   have HP1:=aW (show PT wr W1 g row1 row1 st1 wr.heap.size #[Zi Zq k,Zt ⟨s.toArray⟩,Zi Zq ka,Zi Zq kva,Zi Zq nva,Zt sva,Zs Ava nka cka,Zs Bva nya cya,Zt sa,Zs Ca nxa cxa,Zi Zq kb,Zi Zq kvb,Zi Zq nvb,Zt svb,Zs Avb nkb ckb,Zs Bvb nyb cyb,Zt sb,Zs Cb nxb cxb,Zs BA nb cb,Zs LA nl2 cl] from ⟨HM.out.keep hbA,MG.bel hbA,by rw [← hW1];exact PB.new HM.out _ _⟩);have HW1:=aW hW1;clear hbA hW1;go_upto_region 2 with fail;go_step;go_step;go_step;go_step;refine wpList_load_mid rfl 48 (.tmp 10) rfl bl (o+i*20) rfl [Zi Zq k,Zt ⟨s.toArray⟩,Zi Zq ka,Zi Zq kva,Zi Zq nva,Zt sva,Zs Ava nka cka,Zs Bva nya cya,Zt sa,Zs Ca nxa cxa,Zi Zq kb,Zi Zq kvb,Zi Zq nvb,Zt svb,Zs Avb nkb ckb,Zs Bvb nyb cyb,Zt sb,Zs Cb nxb cxb,Zs BA nb cb,Zs LA nl2 cl] _ HRG.out Tryz.underlying48 rfl (by kernel_rfl) ?_;go_step;go_step;go_step;refine cz rfl 48 (.tmp 5) (.tmp 11) rfl _ _ rfl rfl (by kernel_rfl) (by kernel_rfl) (by first | kernel_rfl | simp [Value.oneCell']) ?_;rw [HW1.out];clear HW1 HRG hlb;have HLX:=aW hlen1;by_cases hk1:k=1
   ·subst hk1;have hfb:o4 b:=by have h:=hmk;rw [if_pos rfl,Bool.and_eq_true,decide_eq_true_eq] at h;exact h.1
    have hT:dA (.mk 1 s a b body els)=aS dF::(aw 1 a++ap [44]::(aw 1 b++[ap [59]])):=by rw [dA,if_pos rfl]
    have hl1:=HLX.out;rw [hT,aj,aG,aj,aG,aj,bm,show (ay (aS dF)).length=4 from rfl,show (ay (ap [44])).length=1 from rfl,show (ay (ap [59])).length=1 from rfl] at hl1;have HTX:=aW (show aH (dA (.mk 1 s a b body els)) st1=(bc (aH (aw 1 b) (bc (aH (aw 1 a) (bc st1 [101,109,105,116])) [44])) [59]) by rw [hT];simp only [cM,cx,List.cons_append,List.append_assoc,List.nil_append];rfl);have q0:=cU st1 [101,109,105,116];simp only [List.length_cons,List.length_nil] at q0;obtain ⟨s1,hs1⟩:∃ q,bc st1 [101,109,105,116]=q:=⟨_,rfl⟩
    rw [hs1] at HTX q0;have q1:=bi (aw 1 a) s1;obtain ⟨s2,hs2⟩:∃ q,aH (aw 1 a) s1=q:=⟨_,rfl⟩
    rw [hs2] at HTX q1;have q2:=cU s2 [44];simp only [List.length_cons,List.length_nil] at q2;obtain ⟨s3,hs3⟩:∃ q,bc s2 [44]=q:=⟨_,rfl⟩
    rw [hs3] at HTX q2;have q3:=bi (aw 1 b) s3;obtain ⟨s4,hs4⟩:∃ q,aH (aw 1 b) s3=q:=⟨_,rfl⟩
    rw [hs4] at HTX q3;have q4:=cU s4 [59];simp only [List.length_cons,List.length_nil] at q4;obtain ⟨s5,hs5⟩:∃ q,bc s4 [59]=q:=⟨_,rfl⟩
    rw [hs5] at HTX q4;have HC1:=aW (λ W row' p (hp:p=W.heap.size) (h:PT wr W g row1 row' st1 wr.heap.size #[Zi Zq 1,Zt ⟨s.toArray⟩,Zi Zq ka,Zi Zq kva,Zi Zq nva,Zt sva,Zs Ava nka cka,Zs Bva nya cya,Zt sa,Zs Ca nxa cxa,Zi Zq kb,Zi Zq kvb,Zi Zq nvb,Zt svb,Zs Avb nkb ckb,Zs Bvb nyb cyb,Zt sb,Zs Cb nxb cxb,Zs BA nb cb,Zs LA nl2 cl])=>h.put1 [101,109,105,116] p hp (by simp) (by simp only [List.length_cons,List.length_nil];omega) hs1);have HC2:=aW (λ W row' (h:PT wr W g row1 row' s1 wr.heap.size #[Zi Zq 1,Zt ⟨s.toArray⟩,Zi Zq ka,Zi Zq kva,Zi Zq nva,Zt sva,Zs Ava nka cka,Zs Bva nya cya,Zt sa,Zs Ca nxa cxa,Zi Zq kb,Zi Zq kvb,Zi Zq nvb,Zt svb,Zs Avb nkb ckb,Zs Bvb nyb cyb,Zt sb,Zs Cb nxb cxb,Zs BA nb cb,Zs LA nl2 cl])=>h.exprK (hEA.mg h.mg) hca hfa (by omega) hs2);have HC3:=aW (λ W row' p (hp:p=W.heap.size) (h:PT wr W g row1 row' s2 wr.heap.size #[Zi Zq 1,Zt ⟨s.toArray⟩,Zi Zq ka,Zi Zq kva,Zi Zq nva,Zt sva,Zs Ava nka cka,Zs Bva nya cya,Zt sa,Zs Ca nxa cxa,Zi Zq kb,Zi Zq kvb,Zi Zq nvb,Zt svb,Zs Avb nkb ckb,Zs Bvb nyb cyb,Zt sb,Zs Cb nxb cxb,Zs BA nb cb,Zs LA nl2 cl])=>h.put1 [44] p hp (by simp) (by simp only [List.length_cons,List.length_nil];omega) hs3);have HC4:=aW (λ W row' (h:PT wr W g row1 row' s3 wr.heap.size #[Zi Zq 1,Zt ⟨s.toArray⟩,Zi Zq ka,Zi Zq kva,Zi Zq nva,Zt sva,Zs Ava nka cka,Zs Bva nya cya,Zt sa,Zs Ca nxa cxa,Zi Zq kb,Zi Zq kvb,Zi Zq nvb,Zt svb,Zs Avb nkb ckb,Zs Bvb nyb cyb,Zt sb,Zs Cb nxb cxb,Zs BA nb cb,Zs LA nl2 cl])=>h.exprK (hEB.mg h.mg) hcb hfb (by omega) hs4);have HC5:=aW (λ W row' p (hp:p=W.heap.size) (h:PT wr W g row1 row' s4 wr.heap.size #[Zi Zq 1,Zt ⟨s.toArray⟩,Zi Zq ka,Zi Zq kva,Zi Zq nva,Zt sva,Zs Ava nka cka,Zs Bva nya cya,Zt sa,Zs Ca nxa cxa,Zi Zq kb,Zi Zq kvb,Zi Zq nvb,Zt svb,Zs Avb nkb ckb,Zs Bvb nyb cyb,Zt sb,Zs Cb nxb cxb,Zs BA nb cb,Zs LA nl2 cl])=>h.put1 [59] p hp (by simp) (by simp only [List.length_cons,List.length_nil];omega) hs5);have HPT:=aW (show PT wr W1 g row1 row1 st1 wr.heap.size #[Zi Zq 1,Zt ⟨s.toArray⟩,Zi Zq ka,Zi Zq kva,Zi Zq nva,Zt sva,Zs Ava nka cka,Zs Bva nya cya,Zt sa,Zs Ca nxa cxa,Zi Zq kb,Zi Zq kvb,Zi Zq nvb,Zt svb,Zs Avb nkb ckb,Zs Bvb nyb cyb,Zt sb,Zs Cb nxb cxb,Zs BA nb cb,Zs LA nl2 cl] from HP1.out);clear q0 hs1 q1 hs2 q2 hs3 q3 hs4 q4 hs5 hl1 hT hEA hEB hb1 hb3 he1 he3 hca hcb hcbo hcel hfa hmk HMK HP1 hlen1;obtain ⟨c0,f0,l0⟩:=HPT.out.x.1.rules;go_wp2_with (first
     | (go_at_call 73;refine (HC5.out _ _ _ (by first | rfl | simp) h5).mono ?_;rintro e w6 ⟨rfl,row6,h6⟩;have HX:=aW h6;obtain ⟨c5,f5,l5⟩:=h6.x.1.rules)
     | (go_at_call 74;refine (HC4.out _ _ h4).mono ?_;rintro e w5 ⟨rfl,row5,h5⟩;obtain ⟨c4,f4,l4⟩:=h5.x.1.rules)
     | (go_at_call 73;refine (HC3.out _ _ _ (by first | rfl | simp) h3).mono ?_;rintro e w4 ⟨rfl,row4,h4⟩;obtain ⟨c3,f3,l3⟩:=h4.x.1.rules)
     | (go_at_call 74;refine (HC2.out _ _ h2).mono ?_;rintro e w3 ⟨rfl,row3,h3⟩;obtain ⟨c2,f2,l2⟩:=h3.x.1.rules)
     | (go_at_call 73;refine (HC1.out _ _ _ (by first | rfl | simp) HPT.out).mono ?_;rintro e w2 ⟨rfl,row2,h2⟩;obtain ⟨c1,f1,l1⟩:=h2.x.1.rules))
    go_wp2;go_roundg (nl-(i+1))
    case measure=>have:=HGK.out;omega
    case rel=>exact ⟨i+1,_,hin,rfl,by go_num,aW (by rw [HTK.out,HTX.out];exact HX.out.wp),aW (HG.out.trans HX.out.mg)⟩
   have ek1:(k == 1)=false:=by simp [hk1]
   by_cases hk3:k=3
   ·subst hk3;have hh:=hmk;rw [if_neg (by decide),if_neg (by decide),if_pos rfl,Bool.and_eq_true,Bool.and_eq_true,Bool.and_eq_true,decide_eq_true_eq] at hh;obtain ⟨_,hnm,hmb,hle⟩:=hh;have hsne:s≠[]:=by rintro rfl;exact absurd hnm (by decide)
    have hT:dA (.mk 3 s a b body els)=[aS fJ,eR s,aS wIn]++(aw 1 a++cE body):=by rw [dA,if_neg (by decide),if_pos rfl,if_pos hle];rfl
    have hl1:=HLX.out;rw [hT,aG,aj,aj,aj,bm,aG,show (ay (aS fJ)).length=3 from rfl,show (ay (aS wIn)).length=2 from rfl,show (ay (eR s)).length=s.length from rfl] at hl1;clear hnm hle;have HTX:=aW (show aH (dA (.mk 3 s a b body els)) st1=(aH (cE body) (aH (aw 1 a) (bc (bc (bc st1 [102,111,114]) s) [105,110]))) by rw [hT];simp only [cM,cx,List.cons_append,List.append_assoc,List.nil_append];rfl);have q0:(bc (bc (bc st1 [102,111,114]) s) [105,110]).1.length<=st1.1.length+((([102,111,114]:List UInt8).length+1)+(((s:List UInt8).length+1)+(([105,110]:List UInt8).length+1))):=by
     have h1:=cU st1 [102,111,114];have h2:=cU (bc st1 [102,111,114]) s;have h3:=cU (bc (bc st1 [102,111,114]) s) [105,110];omega
    simp only [List.length_cons,List.length_nil] at q0;obtain ⟨s1,hs1⟩:∃ q,bc (bc (bc st1 [102,111,114]) s) [105,110]=q:=⟨_,rfl⟩
    rw [hs1] at HTX q0;have q1:=bi (aw 1 a) s1;obtain ⟨s2,hs2⟩:∃ q,aH (aw 1 a) s1=q:=⟨_,rfl⟩
    rw [hs2] at HTX q1;have q2:=bi (cE body) s2;obtain ⟨s3,hs3⟩:∃ q,aH (cE body) s2=q:=⟨_,rfl⟩
    rw [hs3] at HTX q2;have HC1:=aW (λ W row' p (hp:p=W.heap.size) (h:PT wr W g row1 row' st1 wr.heap.size #[Zi Zq 3,Zt ⟨s.toArray⟩,Zi Zq ka,Zi Zq kva,Zi Zq nva,Zt sva,Zs Ava nka cka,Zs Bva nya cya,Zt sa,Zs Ca nxa cxa,Zi Zq kb,Zi Zq kvb,Zi Zq nvb,Zt svb,Zs Avb nkb ckb,Zs Bvb nyb cyb,Zt sb,Zs Cb nxb cxb,Zs BA nb cb,Zs LA nl2 cl])=>h.put3 [102,111,114] s [105,110] p hp (by simp) hsne (by simp) (by simp only [List.length_cons,List.length_nil];omega) hs1);have HC2:=aW (λ W row' (h:PT wr W g row1 row' s1 wr.heap.size #[Zi Zq 3,Zt ⟨s.toArray⟩,Zi Zq ka,Zi Zq kva,Zi Zq nva,Zt sva,Zs Ava nka cka,Zs Bva nya cya,Zt sa,Zs Ca nxa cxa,Zi Zq kb,Zi Zq kvb,Zi Zq nvb,Zt svb,Zs Avb nkb ckb,Zs Bvb nyb cyb,Zt sb,Zs Cb nxb cxb,Zs BA nb cb,Zs LA nl2 cl])=>h.exprK (hEA.mg h.mg) hca hfa (by omega) hs2);have HC3:=aW (λ W row' (h:PT wr W g row1 row' s2 wr.heap.size #[Zi Zq 3,Zt ⟨s.toArray⟩,Zi Zq ka,Zi Zq kva,Zi Zq nva,Zt sva,Zs Ava nka cka,Zs Bva nya cya,Zt sa,Zs Ca nxa cxa,Zi Zq kb,Zi Zq kvb,Zi Zq nvb,Zt svb,Zs Avb nkb ckb,Zs Bvb nyb cyb,Zt sb,Zs Cb nxb cxb,Zs BA nb cb,Zs LA nl2 cl])=>PT.blockK HIH.out h hb1 hb3 hnb hb2_ hmb hcbo hnb4 (by omega) hs3);have HPT:=aW (show PT wr W1 g row1 row1 st1 wr.heap.size #[Zi Zq 3,Zt ⟨s.toArray⟩,Zi Zq ka,Zi Zq kva,Zi Zq nva,Zt sva,Zs Ava nka cka,Zs Bva nya cya,Zt sa,Zs Ca nxa cxa,Zi Zq kb,Zi Zq kvb,Zi Zq nvb,Zt svb,Zs Avb nkb ckb,Zs Bvb nyb cyb,Zt sb,Zs Cb nxb cxb,Zs BA nb cb,Zs LA nl2 cl] from HP1.out);clear q0 hs1 q1 hs2 q2 hs3 hl1 hT hEA hEB hb1 hb3 he1 he3 hca hcb hcbo hcel hfa hmk HMK HP1 hlen1;obtain ⟨c0,f0,l0⟩:=HPT.out.x.1.rules;clear hmb;go_wp2_with (first
     | (go_at_call 75;refine (HC3.out _ _ h3).mono ?_;rintro e w4 ⟨rfl,row4,h4⟩;have HX:=aW h4;obtain ⟨c3,f3,l3⟩:=h4.x.1.rules)
     | (go_at_call 74;refine (HC2.out _ _ h2).mono ?_;rintro e w3 ⟨rfl,row3,h3⟩;obtain ⟨c2,f2,l2⟩:=h3.x.1.rules)
     | (go_at_call 73;refine (HC1.out _ _ _ (by first | rfl | simp) HPT.out).mono ?_;rintro e w2 ⟨rfl,row2,h2⟩;obtain ⟨c1,f1,l1⟩:=h2.x.1.rules))
    go_wp2;go_roundg (nl-(i+1))
    case measure=>have:=HGK.out;omega
    case rel=>exact ⟨i+1,_,hin,rfl,by go_num,aW (by rw [HTK.out,HTX.out];exact HX.out.wp),aW (HG.out.trans HX.out.mg)⟩
   have ek3:(k == 3)=false:=by simp [hk3]
   have hk2:k=2:=by
    have h:=hmk;rw [if_neg hk1] at h;by_cases h2:k=2
    ·exact h2
    ·rw [if_neg h2,if_neg hk3] at h;cases h
   subst hk2;have hh:=hmk;rw [if_neg (by decide),if_pos rfl,Bool.and_eq_true,Bool.and_eq_true,Bool.and_eq_true] at hh;obtain ⟨_,_,hmb,hme⟩:=hh;clear hk1 hk3 ek1 ek3;by_cases hle:els.length=0
   ·have hT:dA (.mk 2 s a b body els)=[aS wIf]++(aw 1 a++cE body):=by rw [dA,if_neg (by decide),if_neg (by decide),if_pos hle];rfl
    have hl1:=HLX.out;rw [hT,aG,aj,bm,aG,show (ay (aS wIf)).length=2 from rfl] at hl1;have h0l:¬ (0:Int)<(nl2:Int):=by omega
    have HTX:=aW (show aH (dA (.mk 2 s a b body els)) st1=(aH (cE body) (aH (aw 1 a) (bc st1 [105,102]))) by rw [hT];simp only [cM,cx,List.cons_append,List.append_assoc,List.nil_append];rfl);have q0:=cU st1 [105,102];simp only [List.length_cons,List.length_nil] at q0;obtain ⟨s1,hs1⟩:∃ q,bc st1 [105,102]=q:=⟨_,rfl⟩
    rw [hs1] at HTX q0;have q1:=bi (aw 1 a) s1;obtain ⟨s2,hs2⟩:∃ q,aH (aw 1 a) s1=q:=⟨_,rfl⟩
    rw [hs2] at HTX q1;have q2:=bi (cE body) s2;obtain ⟨s3,hs3⟩:∃ q,aH (cE body) s2=q:=⟨_,rfl⟩
    rw [hs3] at HTX q2;have HC1:=aW (λ W row' p (hp:p=W.heap.size) (h:PT wr W g row1 row' st1 wr.heap.size #[Zi Zq 2,Zt ⟨s.toArray⟩,Zi Zq ka,Zi Zq kva,Zi Zq nva,Zt sva,Zs Ava nka cka,Zs Bva nya cya,Zt sa,Zs Ca nxa cxa,Zi Zq kb,Zi Zq kvb,Zi Zq nvb,Zt svb,Zs Avb nkb ckb,Zs Bvb nyb cyb,Zt sb,Zs Cb nxb cxb,Zs BA nb cb,Zs LA nl2 cl])=>h.put1 [105,102] p hp (by simp) (by simp only [List.length_cons,List.length_nil];omega) hs1);have HC2:=aW (λ W row' (h:PT wr W g row1 row' s1 wr.heap.size #[Zi Zq 2,Zt ⟨s.toArray⟩,Zi Zq ka,Zi Zq kva,Zi Zq nva,Zt sva,Zs Ava nka cka,Zs Bva nya cya,Zt sa,Zs Ca nxa cxa,Zi Zq kb,Zi Zq kvb,Zi Zq nvb,Zt svb,Zs Avb nkb ckb,Zs Bvb nyb cyb,Zt sb,Zs Cb nxb cxb,Zs BA nb cb,Zs LA nl2 cl])=>h.exprK (hEA.mg h.mg) hca hfa (by omega) hs2);have HC3:=aW (λ W row' (h:PT wr W g row1 row' s2 wr.heap.size #[Zi Zq 2,Zt ⟨s.toArray⟩,Zi Zq ka,Zi Zq kva,Zi Zq nva,Zt sva,Zs Ava nka cka,Zs Bva nya cya,Zt sa,Zs Ca nxa cxa,Zi Zq kb,Zi Zq kvb,Zi Zq nvb,Zt svb,Zs Avb nkb ckb,Zs Bvb nyb cyb,Zt sb,Zs Cb nxb cxb,Zs BA nb cb,Zs LA nl2 cl])=>PT.blockK HIH.out h hb1 hb3 hnb hb2_ hmb hcbo hnb4 (by omega) hs3);have HPT:=aW (show PT wr W1 g row1 row1 st1 wr.heap.size #[Zi Zq 2,Zt ⟨s.toArray⟩,Zi Zq ka,Zi Zq kva,Zi Zq nva,Zt sva,Zs Ava nka cka,Zs Bva nya cya,Zt sa,Zs Ca nxa cxa,Zi Zq kb,Zi Zq kvb,Zi Zq nvb,Zt svb,Zs Avb nkb ckb,Zs Bvb nyb cyb,Zt sb,Zs Cb nxb cxb,Zs BA nb cb,Zs LA nl2 cl] from HP1.out);clear q0 hs1 q1 hs2 q2 hs3 hl1 hT hEA hEB hb1 hb3 he1 he3 hca hcb hcbo hcel hfa hmk HMK HP1 hlen1;obtain ⟨c0,f0,l0⟩:=HPT.out.x.1.rules;clear hmb hme hle;go_wp2_with (first
     | (go_at_call 75;refine (HC3.out _ _ h3).mono ?_;rintro e w4 ⟨rfl,row4,h4⟩;have HX:=aW h4;obtain ⟨c3,f3,l3⟩:=h4.x.1.rules)
     | (go_at_call 74;refine (HC2.out _ _ h2).mono ?_;rintro e w3 ⟨rfl,row3,h3⟩;obtain ⟨c2,f2,l2⟩:=h3.x.1.rules)
     | (go_at_call 73;refine (HC1.out _ _ _ (by first | rfl | simp) HPT.out).mono ?_;rintro e w2 ⟨rfl,row2,h2⟩;obtain ⟨c1,f1,l1⟩:=h2.x.1.rules))
    go_wp2;go_roundg (nl-(i+1))
    case measure=>have:=HGK.out;omega
    case rel=>exact ⟨i+1,_,hin,rfl,by go_num,aW (by rw [HTK.out,HTX.out];exact HX.out.wp),aW (HG.out.trans HX.out.mg)⟩
   ·have hT:dA (.mk 2 s a b body els)=[aS wIf]++(aw 1 a++(cE body++aS dc::cE els)):=by rw [dA,if_neg (by decide),if_neg (by decide),if_neg hle];unfold cE;simp
    have hl1:=HLX.out;rw [hT,aG,aj,bm,aG,aG,aj,show (ay (aS wIf)).length=2 from rfl,show (ay (aS dc)).length=4 from rfl] at hl1;have h0l:(0:Int)<(nl2:Int):=by omega
    have HTX:=aW (show aH (dA (.mk 2 s a b body els)) st1=(aH (cE els) (bc (aH (cE body) (aH (aw 1 a) (bc st1 [105,102]))) [101,108,115,101])) by rw [hT];simp only [cM,cx,List.cons_append,List.append_assoc,List.nil_append];rfl);have q0:=cU st1 [105,102];simp only [List.length_cons,List.length_nil] at q0;obtain ⟨s1,hs1⟩:∃ q,bc st1 [105,102]=q:=⟨_,rfl⟩
    rw [hs1] at HTX q0;have q1:=bi (aw 1 a) s1;obtain ⟨s2,hs2⟩:∃ q,aH (aw 1 a) s1=q:=⟨_,rfl⟩
    rw [hs2] at HTX q1;have q2:=bi (cE body) s2;obtain ⟨s3,hs3⟩:∃ q,aH (cE body) s2=q:=⟨_,rfl⟩
    rw [hs3] at HTX q2;have q3:=cU s3 [101,108,115,101];simp only [List.length_cons,List.length_nil] at q3;obtain ⟨s4,hs4⟩:∃ q,bc s3 [101,108,115,101]=q:=⟨_,rfl⟩
    rw [hs4] at HTX q3;have q4:=bi (cE els) s4;obtain ⟨s5,hs5⟩:∃ q,aH (cE els) s4=q:=⟨_,rfl⟩
    rw [hs5] at HTX q4;have HC1:=aW (λ W row' p (hp:p=W.heap.size) (h:PT wr W g row1 row' st1 wr.heap.size #[Zi Zq 2,Zt ⟨s.toArray⟩,Zi Zq ka,Zi Zq kva,Zi Zq nva,Zt sva,Zs Ava nka cka,Zs Bva nya cya,Zt sa,Zs Ca nxa cxa,Zi Zq kb,Zi Zq kvb,Zi Zq nvb,Zt svb,Zs Avb nkb ckb,Zs Bvb nyb cyb,Zt sb,Zs Cb nxb cxb,Zs BA nb cb,Zs LA nl2 cl])=>h.put1 [105,102] p hp (by simp) (by simp only [List.length_cons,List.length_nil];omega) hs1);have HC2:=aW (λ W row' (h:PT wr W g row1 row' s1 wr.heap.size #[Zi Zq 2,Zt ⟨s.toArray⟩,Zi Zq ka,Zi Zq kva,Zi Zq nva,Zt sva,Zs Ava nka cka,Zs Bva nya cya,Zt sa,Zs Ca nxa cxa,Zi Zq kb,Zi Zq kvb,Zi Zq nvb,Zt svb,Zs Avb nkb ckb,Zs Bvb nyb cyb,Zt sb,Zs Cb nxb cxb,Zs BA nb cb,Zs LA nl2 cl])=>h.exprK (hEA.mg h.mg) hca hfa (by omega) hs2);have HC3:=aW (λ W row' (h:PT wr W g row1 row' s2 wr.heap.size #[Zi Zq 2,Zt ⟨s.toArray⟩,Zi Zq ka,Zi Zq kva,Zi Zq nva,Zt sva,Zs Ava nka cka,Zs Bva nya cya,Zt sa,Zs Ca nxa cxa,Zi Zq kb,Zi Zq kvb,Zi Zq nvb,Zt svb,Zs Avb nkb ckb,Zs Bvb nyb cyb,Zt sb,Zs Cb nxb cxb,Zs BA nb cb,Zs LA nl2 cl])=>PT.blockK HIH.out h hb1 hb3 hnb hb2_ hmb hcbo hnb4 (by omega) hs3);have HC4:=aW (λ W row' p (hp:p=W.heap.size) (h:PT wr W g row1 row' s3 wr.heap.size #[Zi Zq 2,Zt ⟨s.toArray⟩,Zi Zq ka,Zi Zq kva,Zi Zq nva,Zt sva,Zs Ava nka cka,Zs Bva nya cya,Zt sa,Zs Ca nxa cxa,Zi Zq kb,Zi Zq kvb,Zi Zq nvb,Zt svb,Zs Avb nkb ckb,Zs Bvb nyb cyb,Zt sb,Zs Cb nxb cxb,Zs BA nb cb,Zs LA nl2 cl])=>h.put1 [101,108,115,101] p hp (by simp) (by simp only [List.length_cons,List.length_nil];omega) hs4);have HC5:=aW (λ W row' (h:PT wr W g row1 row' s4 wr.heap.size #[Zi Zq 2,Zt ⟨s.toArray⟩,Zi Zq ka,Zi Zq kva,Zi Zq nva,Zt sva,Zs Ava nka cka,Zs Bva nya cya,Zt sa,Zs Ca nxa cxa,Zi Zq kb,Zi Zq kvb,Zi Zq nvb,Zt svb,Zs Avb nkb ckb,Zs Bvb nyb cyb,Zt sb,Zs Cb nxb cxb,Zs BA nb cb,Zs LA nl2 cl])=>PT.blockK HIH.out h he1 he3 hnl2 he2 hme hcel hnl4 (by omega) hs5);have HPT:=aW (show PT wr W1 g row1 row1 st1 wr.heap.size #[Zi Zq 2,Zt ⟨s.toArray⟩,Zi Zq ka,Zi Zq kva,Zi Zq nva,Zt sva,Zs Ava nka cka,Zs Bva nya cya,Zt sa,Zs Ca nxa cxa,Zi Zq kb,Zi Zq kvb,Zi Zq nvb,Zt svb,Zs Avb nkb ckb,Zs Bvb nyb cyb,Zt sb,Zs Cb nxb cxb,Zs BA nb cb,Zs LA nl2 cl] from HP1.out);clear q0 hs1 q1 hs2 q2 hs3 q3 hs4 q4 hs5 hl1 hT hEA hEB hb1 hb3 he1 he3 hca hcb hcbo hcel hfa hmk HMK HP1 hlen1;obtain ⟨c0,f0,l0⟩:=HPT.out.x.1.rules;clear hmb hme hle;go_wp2_with (first
     | (go_at_call 75;refine (HC5.out _ _ h5).mono ?_;rintro e w6 ⟨rfl,row6,h6⟩;have HX:=aW h6;obtain ⟨c5,f5,l5⟩:=h6.x.1.rules)
     | (go_at_call 73;refine (HC4.out _ _ _ (by first | rfl | simp) h4).mono ?_;rintro e w5 ⟨rfl,row5,h5⟩;obtain ⟨c4,f4,l4⟩:=h5.x.1.rules)
     | (go_at_call 75;refine (HC3.out _ _ h3).mono ?_;rintro e w4 ⟨rfl,row4,h4⟩;obtain ⟨c3,f3,l3⟩:=h4.x.1.rules)
     | (go_at_call 74;refine (HC2.out _ _ h2).mono ?_;rintro e w3 ⟨rfl,row3,h3⟩;obtain ⟨c2,f2,l2⟩:=h3.x.1.rules)
     | (go_at_call 73;refine (HC1.out _ _ _ (by first | rfl | simp) HPT.out).mono ?_;rintro e w2 ⟨rfl,row2,h2⟩;obtain ⟨c1,f1,l1⟩:=h2.x.1.rules))
    go_wp2;go_roundg (nl-(i+1))
    case measure=>have:=HGK.out;omega
    case rel=>exact ⟨i+1,_,hin,rfl,by go_num,aW (by rw [HTK.out,HTX.out];exact HX.out.wp),aW (HG.out.trans HX.out.mg)⟩
  ·obtain rfl:i=nl:=by omega
   have HF:=aW (show aq (l.take i)=aq l by rw [List.take_of_length_le (Nat.le_of_eq HNK.out)]);go_wp2;go_end0;exact ⟨rfl,row1,_,by rw [← HF.out];exact HM.out,HG.out⟩
end
end Go.Proofs.YtgmnmnnoahdjnaaGreatDoor
