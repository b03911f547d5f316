import Derived.Test.YtgmnmnnoahdjnaaGreatDoorB37
import Derived.Test.YtgmnmnnoahdjnaaGreatDoorB39
set_option maxRecDepth 100000
set_option maxHeartbeats 16000000
set_option linter.unusedVariables false
set_option linter.unusedSimpArgs false
namespace Go.Proofs.YtgmnmnnoahdjnaaGreatDoor
section
open Go.RowKit
attribute [local go_sem] aa ac ae ab
theorem uA (r:Nat) (ih:gE r):gK r (fun k=>1≤k∧k≤15):=by
 intro k v s kids cs f w g row n st hk hW hx hc hd hf hlen;by_cases h1:k=1
 ·exact yN r k v s kids cs f w g row n st h1 hW hx hc hd hf hlen
 by_cases h2:k=2
 ·exact xP r k v s kids cs f w g row n st h2 hW hx hc hd hf hlen
 by_cases h3:k=3
 ·exact xQ r ih k v s kids cs f w g row n st h3 hW hx hc hd hf hlen
 by_cases h4:k=4
 ·exact xO r ih k v s kids cs f w g row n st h4 hW hx hc hd hf hlen
 by_cases h5:k≤7
 ·exact vX r ih k v s kids cs f w g row n st ⟨by omega,h5⟩ hW hx hc hd hf hlen
 by_cases h6:k≤8
 ·exact xN r ih k v s kids cs f w g row n st ⟨by omega,h6⟩ hW hx hc hd hf hlen
 by_cases h7:k≤10
 ·exact xM r ih k v s kids cs f w g row n st ⟨by omega,h7⟩ hW hx hc hd hf hlen
 by_cases h8:k≤13
 ·exact xL r ih k v s kids cs f w g row n st ⟨by omega,h8⟩ hW hx hc hd hf hlen
 by_cases h9:k≤14
 ·exact xK r ih k v s kids cs f w g row n st ⟨by omega,h9⟩ hW hx hc hd hf hlen
 ·exact xJ r ih k v s kids cs f w g row n st ⟨by omega,hk.2⟩ hW hx hc hd hf hlen
theorem yF {k:Int} {v:JV} {s:List UInt8} {n:Nat} (h:okX k v s n=true):1≤k∧k≤15:=by
 apply Decidable.byContradiction;intro hn;unfold okX at h;rw [if_neg (by omega)] at h;split at h
 ·cases h
 ·rw [if_neg (by omega),if_neg (by omega),if_neg (by omega),if_neg (by omega),if_neg (by omega)] at h;cases h
theorem xR (r:Nat) (ih:gE r):gE (r+1):=by
 intro x cs f w g row n st hW hx hc hd hf hlen;obtain ⟨k,v,s,kids⟩:=x;have hk:=yF (bR hd).2.1;by_cases hlf:f≤aE k
 ·have e:ar f (.mk k v s kids)=cn k v s (cD kids):=if_neg (show ¬ aE k<f by omega);rw [e] at hlen ⊢;exact uA r ih k v s kids cs f w g row n st hk hW hx hc hd hlf hlen
 have e:ar f (.mk k v s kids)=ap [40]::(cn k v s (cD kids)++[ap [41]]):=if_pos (show aE k<f by omega);rw [e] at hlen ⊢;rw [bT,bM];rw [aj,aC,aj,bm] at hlen;have h40:(ay (ap [40])).length=1:=rfl;have h41:(ay (ap [41])).length=1:=rfl;have hn:=hW.own.1;subst hn;obtain ⟨k1,n1,s1,A1,na1,ca1,B1,nb1,cb1,A,ca,css,rfl,hv,h1,h2,h3,h4⟩:=hx.out;obtain ⟨S,hS⟩:∃ S:ByteArray,⟨s.toArray⟩=S:=⟨_,rfl⟩
 obtain ⟨nk,hnk⟩:∃ q,kids.length=q:=⟨_,rfl⟩
 rw [hS,hnk] at hx ⊢;have hL1:1≤aE k:=by unfold aE;(repeat' split)<;>omega
 have HH0:=aW ((aL.nil w).push 45 #[.int .i64 k,.int .i64 k1,.int .i64 n1,.string s1,.slice A1 na1 ca1,.slice B1 nb1 cb1,.string S,.slice A nk ca] (g:=w.heap.size) rfl);have HLV:=aW (fun W (h:Below w.heap.size w W)=>eY k k1 n1 s1 A1 na1 ca1 B1 nb1 cb1 S A nk ca W (hW.goe.keep h));unfold kC at HLV;obtain ⟨L,hL⟩:∃ L,aE k=L:=⟨_,rfl⟩
 rw [hL] at HLV hlf hL1;have hlt:(L:Int)<(f:Int):=by omega
 have HST:=aW (fun (W3:World) hb=>dl (W1:=w) (W3:=W3) (O:=#[]) (X:=#[.int .i64 k,.int .i64 k1,.int .i64 n1,.string s1,.slice A1 na1 ca1,.slice B1 nb1 cb1,.string S,.slice A nk ca]) hW h1 h4 hb);have hp1:=cm st [40];simp only [List.length_cons,List.length_nil] at hp1;have hp2:=aI (cn k v s (cD kids)) (a9 st [40]);have HP0:=aW (fun W p (h:Below w.heap.size w W) (hp:p=W.heap.size)=>(io [40] W p g row st.1.length st.1 st.2 (hW.keep h) hp (by simp) (by simp only [List.length_cons,List.length_nil];omega)));have HE:=aW (fun W row' (hm:MG g row w row' W) (h:WP W g row' (a9 st [40]).1.length (a9 st [40]).1 (a9 st [40]).2)=>uA r ih k v s kids _ 1 W g row' _ (a9 st [40]) hk h (hx.mg hm) hc hd (by omega) (by omega));have HP9:=aW (fun W p row' (h:WP W g row' (aF (cn k v s (cD kids)) (a9 st [40])).1.length (aF (cn k v s (cD kids)) (a9 st [40])).1 (aF (cn k v s (cD kids)) (a9 st [40])).2) (hp:p=W.heap.size)=>io [41] W p g row' _ _ _ h hp (by simp) (by simp only [List.length_cons,List.length_nil];omega));have HWP:=aW hW;clear hW hx hc hd hv h1 h2 h3 h4 hlen h40 h41 hp1 hp2 hS hnk hL hk e;obtain ⟨c0,f0,l0⟩:=HH0.out.b0.rules;go_enter Tryz.func74,Tryz.ntmps74;go_wp2_with (first
  | (go_at_call 112;refine (HLV.out _ HH0.out.1).mono ?_;rintro e w1 ⟨rfl,hb1⟩)
  | (go_at_call 73;refine (HP9.out _ _ _ hw4 rfl).mono ?_;rintro e w5 ⟨rfl,row5,n5,hw5,hm5⟩)
  | (go_at_call 74;refine (HE.out _ _ hmw hw2).mono ?_;rintro e w4 ⟨rfl,row4,n4,hw4,hm4⟩;have hn4:=hw4.own.1;subst hn4)
  | (go_at_call 73;refine (HP0.out _ _ (HH0.out.1.trans (hb1.mono HH0.out.1.size)) rfl).mono ?_;rintro e w2 ⟨rfl,row2,n2,hw2,hm2⟩;have hn2:=hw2.own.1;subst hn2;have hmw:=(MG.bel (mb:=g) (a:=row) (HH0.out.1.trans (hb1.mono HH0.out.1.size))).trans hm2;obtain ⟨d0,d1,d2⟩:=(hm2.blk (HH0.out.keep hb1).b0 (by have:=HWP.out.blk.lt;omega) (fun e=>by have:=(HWP.out.ge _ e.symm).2;omega)).rules))
 go_end0;exact ⟨rfl,row5,n5,hw5,(hmw.trans hm4).trans hm5⟩
theorem wM:∀ r,gE r
 | 0=>fun x cs f w g row n st _ _ _ hd=>by obtain ⟨k,v,s,kids⟩:=x;exact absurd rfl (bR hd).1
 | r+1=>xR r (wM r)
theorem SRs.mgK {mb:Nat} {a b:Value} {w w1:World} {css:List (List Value)} {l:List SJ} (h:SRs w (PbM mb a w) css l) (g:MG mb a w b w1):SRs w1 (PbM mb b w1) css l:=RR.imp h fun c x hc=>hc.mg g
structure PT (w W:World) (g:Nat) (row0 row:Value) (st:List UInt8 × Bool) (bs:Nat) (S:Array Value):Prop where
 wp:WP W g row st.1.length st.1 st.2
 mg:MG g row0 w row W
 x:PB W g row bs 48 S
section
variable {w W W':World} {g:Nat} {row0 row row':Value} {st st':List UInt8 × Bool} {bs:Nat} {S:Array Value}
theorem PT.step (h:PT w W g row0 row st bs S) (hg:MG g row W row' W') (hw:WP W' g row' st'.1.length st'.1 st'.2):PT w W' g row0 row' st' bs S:=⟨hw,h.mg.trans hg,h.x.mg hg⟩
theorem PT.bel (h:PT w W g row0 row st bs S) (hb:Below W.heap.size W W'):PT w W' g row0 row st bs S:=h.step (MG.bel hb) (h.wp.keep hb)
theorem PT.put (h:PT w W g row0 row st bs S) {e:Ending} (hp:gj g row st' W e W'):e=.returned (.tuple #[])∧∃ row',PT w W' g row0 row' st' bs S:=by
 obtain ⟨rfl,row',n',h1,h2⟩:=hp;have hn:=h1.own.1;subst hn;exact ⟨rfl,row',h.step h2 h1⟩
theorem PT.fin (h:PT w W g row0 row st bs S):gj g row0 st w (.returned (.tuple #[])) W:=⟨rfl,row,_,h.wp,h.mg⟩
end
theorem yg (s t u:List UInt8) (W:World) (p g:Nat) (row:Value) (n:Nat) (out:List UInt8) (num:Bool) (hW:WP W g row n out num) (hp:p=W.heap.size) (hs:s≠[]) (ht:t≠[]) (hu:u≠[]) (hl:n+((s.length+1)+((t.length+1)+(u.length+1)))≤100000000000) :
  Calls Tryz.prog 73 #[.pointer (some ⟨g,0,none⟩),.slice (some ⟨p,0,none⟩) 3 3] (W.alloc (.cells #[.string ⟨s.toArray⟩,.string ⟨t.toArray⟩,.string ⟨u.toArray⟩] 9)) (gj g row (a9 (a9 (a9 (out,num) s) t) u) W):=by
 subst hp;have hb:=(Below.refl W.heap.size W).alloc (Nat.le_refl _) (.cells #[.string ⟨s.toArray⟩,.string ⟨t.toArray⟩,.string ⟨u.toArray⟩] 9);refine (vi [s,t,u] (some ⟨W.heap.size,0,none⟩) 3 3 _ g row n out num (hW.keep hb) (RdF.of_blkP (Blk.new W 9 #[.string ⟨s.toArray⟩,.string ⟨t.toArray⟩,.string ⟨u.toArray⟩]) (oq hW _)) rfl (by decide) (by simp [hs,ht,hu]) (by simpa using hl)).mono ?_;rintro e w' ⟨rfl,row',n',h1,h2⟩;exact ⟨rfl,row',n',h1,(MG.bel hb).trans h2⟩
def tj (d:Nat):Prop:=∀ (l:List SJ) (css:List (List Value)) (A:Option Addr) (nl ca:Nat) (w:World) (g:Nat) (row:Value) (n:Nat) (st:List UInt8 × Bool),WP w g row n st.1 st.2→SRs w (PbM g row w) css l→l.length=nl→nl≤ca→RdF w (PbM g row w) A css.flatten→cF d l=true→bg l→nl≤4194304→st.1.length+bO (aq l)≤100000000000 →
 Calls Tryz.prog 44 #[.pointer (some ⟨g,0,none⟩),.slice A nl ca] w (gj g row (aF (aq l) st) w)
def cE (l:List SJ):List LX:=ap [123]::(aq l++[ap [125]])
def ti (d:Nat):Prop:=∀ (l:List SJ) (css:List (List Value)) (A:Option Addr) (nl ca:Nat) (w:World) (g:Nat) (row:Value) (n:Nat) (st:List UInt8 × Bool),WP w g row n st.1 st.2→SRs w (PbM g row w) css l→l.length=nl→nl≤ca→RdF w (PbM g row w) A css.flatten→cF d l=true→bg l→nl≤4194304→st.1.length+bO (cE l)≤100000000000 →
 Calls Tryz.prog 75 #[.pointer (some ⟨g,0,none⟩),.slice A nl ca] w (gj g row (aF (cE l) st) w)
def PTP (w:World) (g:Nat) (row0:Value) (st:List UInt8 × Bool) (bs:Nat) (S:Array Value) (e:Ending) (W':World):Prop:=e=.returned (.tuple #[])∧∃ row',PT w W' g row0 row' st bs S
section
variable {w W:World} {g:Nat} {row0 row:Value} {st st':List UInt8 × Bool} {bs:Nat} {S:Array Value}
theorem PT.put1 (h:PT w W g row0 row st bs S) (s:List UInt8) (p:Nat) (hp:p=W.heap.size) (hs:s≠[]) (hl:st.1.length+(s.length+1)≤100000000000) (he:a9 st s=st') :
  Calls Tryz.prog 73 #[.pointer (some ⟨g,0,none⟩),.slice (some ⟨p,0,none⟩) 1 1] (W.alloc (.cells #[.string ⟨s.toArray⟩] 9)) (PTP w g row0 st' bs S):=by
 subst he;exact (io s W p g row _ st.1 st.2 h.wp hp hs hl).mono fun e W' hq=>h.put hq
theorem PT.put3 (h:PT w W g row0 row st bs S) (s t u:List UInt8) (p:Nat) (hp:p=W.heap.size) (hs:s≠[]) (ht:t≠[]) (hu:u≠[]) (hl:st.1.length+((s.length+1)+((t.length+1)+(u.length+1)))≤100000000000) (he:a9 (a9 (a9 st s) t) u=st') :
  Calls Tryz.prog 73 #[.pointer (some ⟨g,0,none⟩),.slice (some ⟨p,0,none⟩) 3 3] (W.alloc (.cells #[.string ⟨s.toArray⟩,.string ⟨t.toArray⟩,.string ⟨u.toArray⟩] 9)) (PTP w g row0 st' bs S):=by
 subst he;exact (yg s t u W p g row _ st.1 st.2 h.wp hp hs ht hu hl).mono fun e W' hq=>h.put hq
theorem PT.exprK (h:PT w W g row0 row st bs S) {x:EJ} {cs:List Value} (hx:ER W (PbM g row W) cs x) (hc:bB x) (hd:bi 12 x≠0) (hl:st.1.length+bO (ar 1 x)≤100000000000) (he:aF (ar 1 x) st=st') :
  Calls Tryz.prog 74 #[.pointer (some ⟨g,0,none⟩),.agg cs.toArray,.int .i64 1] W (PTP w g row0 st' bs S):=by
 subst he;exact (wM 12 x cs 1 W g row _ st h.wp hx hc hd (by decide) hl).mono fun e W' hq=>h.put hq
theorem PT.blockK {d:Nat} (ih:ti d) (h:PT w W g row0 row st bs S) {l:List SJ} {css:List (List Value)} {A:Option Addr} {nl ca:Nat} (hS:SRs w (PbM g row0 w) css l) (hR:RdF w (PbM g row0 w) A css.flatten) (hn:l.length=nl) (hca:nl≤ca) (hm:cF d l=true) (hc:bg l) (hn4:nl≤4194304)
  (hl:st.1.length+bO (cE l)≤100000000000) (he:aF (cE l) st=st') :
  Calls Tryz.prog 75 #[.pointer (some ⟨g,0,none⟩),.slice A nl ca] W (PTP w g row0 st' bs S):=by
 subst he;exact (ih l css A nl ca W g row _ st h.wp (hS.mgK h.mg) hn hca (hR.mg h.mg) hm hc hn4 hl).mono fun e W' hq=>h.put hq
end
theorem vY (d:Nat) (ih:tj d):ti d:=by
 intro l css A nl ca w g row n st hW hS hl hca hR hm hc hn4 hlen;have hn:=hW.own.1;subst hn;unfold cE at hlen ⊢;rw [bT,bM];rw [aj,aC,aj,bm] at hlen;have h1:(ay (ap [123])).length=1:=rfl;have h2:(ay (ap [125])).length=1:=rfl;have hp1:=cm st [123];have hf:=aI (aq l) (a9 st [123]);simp only [List.length_cons,List.length_nil] at hp1;have HP1:=aW (io [123] w w.heap.size g row _ st.1 st.2 hW rfl (by simp) (by simp only [List.length_cons,List.length_nil];omega));have HIH:=aW (fun (W:World) (row':Value) n' (h:WP W g row' n' (a9 st [123]).1 (a9 st [123]).2) (hg:MG g row w row' W)=>ih l css A nl ca W g row' n' (a9 st [123]) h (hS.mgK hg) hl hca (hR.mg hg) hm hc hn4 (by omega));have HP2:=aW (fun (W:World) (row':Value) n' p (hp:p=W.heap.size) (h:WP W g row' n' (aF (aq l) (a9 st [123])).1 (aF (aq l) (a9 st [123])).2)=>io [125] W p g row' n' _ _ h hp (by simp) (by have:=h.own.1;simp only [List.length_cons,List.length_nil];omega));clear hS hR hm hc hlen h1 h2 hp1 hf hl hca ih;go_enter Tryz.func75,Tryz.ntmps75;go_wp2_with (first
  | (go_at_call 44;refine (HIH.out _ _ _ hq1 hm1).mono ?_;rintro e w2 ⟨rfl,row2,n2,hq2,hm2⟩)
  | (go_at_call 73;refine (HP2.out _ _ _ _ (by first | rfl | simp) hq2).mono ?_;rintro e w3 ⟨rfl,row3,n3,hq3,hm3⟩)
  | (go_at_call 73;refine HP1.out.mono ?_;rintro e w1 ⟨rfl,row1,n1,hq1,hm1⟩))
 go_end0;exact ⟨rfl,row3,n3,hq3,(hm1.trans hm2).trans hm3⟩
set_option maxHeartbeats 32000000 in
theorem rJ (d:Nat) (ih:d≠0→ti (d-1)):tj d:=by
 intro l css A nl ca w g row n st hW hS hln hnc hR hmay hC hn4 hlen;have hn:=hW.own.1;subst hn;have HKD:=aW (And.intro hS hR);have HNK:=aW hln;have HCL:=aW (bZ.1 hC);have HML:=aW (lI.1 hmay);have HLEN:=aW hlen;have HW0:=aW hW;clear hW hS hln hR hmay hC hlen;go_enter Tryz.func44,Tryz.ntmps44;go_wp2;go_loopg [8] nl (fun gk s8 wr => ∃ (i:Nat) (row1:Value),i≤nl∧gk=nl-i∧s8=.int .i64 (i:Int)∧Hid (WP wr g row1 (aF (aq (l.take i)) st).1.length (aF (aq (l.take i)) st).1 (aF (aq (l.take i)) st).2)∧Hid (MG g row w row1 wr))
 case atStart=>exact ⟨0,row,Nat.zero_le _,by go_num,rfl,aW (by rw [List.take_zero,aq];exact HW0.out),aW (MG.refl _ _ _)⟩
 case round =>
  obtain ⟨i,row1,hi,hgk,rfl,HM,HG⟩:=hrel;have HGK:=aW hgk;clear hgk;by_cases hin:i<nl
  ·obtain ⟨x,hx⟩:∃ x,l[i]? = some x:=⟨_,List.getElem?_eq_getElem (by rw [HNK.out];exact hin)⟩
   have hxm:=List.mem_of_getElem? hx;have hcx:=HCL.out x hxm;have hmx:=HML.out x hxm;have htk:l.take (i+1)=l.take i++[x]:=by rw [List.take_add_one,hx];rfl
   have htt:aq (l.take (i+1))=aq (l.take i)++dn x:=by rw [htk,kf,aq,aq,List.append_nil]
   have HTK:=aW (show aF (aq (l.take (i+1))) st=aF (dn x) (aF (aq (l.take i)) st) by rw [htt,bM]);have hlen1:(aF (aq (l.take i)) st).1.length+bO (dn x)≤100000000000:=by
    have h1:=aI (aq (l.take i)) st;have h2:bO (aq (l.take (i+1)))≤bO (aq l):=by
     have h3:=congrArg bO (congrArg aq (List.take_append_drop (i+1) l));rw [kf,aC] at h3;omega
    rw [htt,aC] at h2;have h4:=HLEN.out;omega
   obtain ⟨st1,hst1⟩:∃ q,aF (aq (l.take i)) st=q:=⟨_,rfl⟩
   rw [hst1] at HM HTK hlen1;clear hst1 htk htt;have hS1:=SRs.mgK HKD.out.1 HG.out;have hR1:=RdF.mg HKD.out.2 HG.out;obtain ⟨k,s,a,b,body,els⟩:=x;obtain ⟨bl,o,ka,kva,nva,sva,Ava,nka,cka,Bva,nya,cya,sa,Ca,nxa,cxa,kb,kvb,nvb,svb,Avb,nkb,ckb,Bvb,nyb,cyb,sb,Cb,nxb,cxb,BA,LA,cb,cl,bss,lss,rfl,hbl,_,hEA,hEB,⟨hb1,hb2_,hb3⟩,⟨he1,he2,he3⟩,hSR,hz⟩:=ec hS1 hR1 hx;unfold fG at hcx;obtain ⟨hik,hsl,hca,hcb,hbl4,hel4,hcbo,hcel⟩:=hcx;obtain ⟨nb,hnb⟩:∃ q,body.length=q:=⟨_,rfl⟩
   obtain ⟨nl2,hnl2⟩:∃ q,els.length=q:=⟨_,rfl⟩
   have hnb4:nb≤4194304:=by omega
   have hnl4:nl2≤4194304:=by omega
   rw [hnb] at hb2_ hz;rw [hnl2] at he2 hz;have hd0:d≠0∧nV a∧(if k=1 then decide (nV b) && decide (s=[]∧body.length+els.length=0) else if k=2 then fF b && (decide (s=[]) && (cF (d-1) body && cF (d-1) els)) else if k=3 then fF b && (eC s && (cF (d-1) body && decide (els.length=0))) else false)=true:=by
    unfold kH at hmx;rw [Bool.and_eq_true,Bool.and_eq_true,decide_eq_true_eq,decide_eq_true_eq] at hmx;exact ⟨hmx.1,hmx.2.1,hmx.2.2⟩
   obtain ⟨hd0,hfa,hmk⟩:=hd0;have HIH:=aW (ih hd0);have HRG:=aW (show wr.rangeAt bl (o+i*20) [.int .i64 k,.string ⟨s.toArray⟩,.int .i64 ka,.int .i64 kva,.int .i64 nva,.string sva,.slice Ava nka cka,.slice Bva nya cya,.string sa,.slice Ca nxa cxa,.int .i64 kb,.int .i64 kvb,.int .i64 nvb,.string svb,.slice Avb nkb ckb,.slice Bvb nyb cyb,.string sb,.slice Cb nxb cxb,.slice BA nb cb,.slice LA nl2 cl] from fun j v hv=>by rw [Nat.add_assoc];exact hz j v hv);have HMK:=aW hmk;have hlb:bl<wr.heap.size:=hbl;have HW9:=aW HM.out;clear hz hSR hx hxm hbl hS1 hR1 hmx hik hsl hbl4 hel4 hd0;obtain ⟨W1,hW1⟩:∃ W1,wr.alloc (.cells #[.int .i64 k,.string ⟨s.toArray⟩,.int .i64 ka,.int .i64 kva,.int .i64 nva,.string sva,.slice Ava nka cka,.slice Bva nya cya,.string sa,.slice Ca nxa cxa,.int .i64 kb,.int .i64 kvb,.int .i64 nvb,.string svb,.slice Avb nkb ckb,.slice Bvb nyb cyb,.string sb,.slice Cb nxb cxb,.slice BA nb cb,.slice LA nl2 cl] 48)=W1:=⟨_,rfl⟩
   have hbA:Below wr.heap.size wr W1:=by rw [← hW1];exact (Below.refl _ _).alloc (Nat.le_refl _) _
   have HP1:=aW (show PT wr W1 g row1 row1 st1 wr.heap.size #[.int .i64 k,.string ⟨s.toArray⟩,.int .i64 ka,.int .i64 kva,.int .i64 nva,.string sva,.slice Ava nka cka,.slice Bva nya cya,.string sa,.slice Ca nxa cxa,.int .i64 kb,.int .i64 kvb,.int .i64 nvb,.string svb,.slice Avb nkb ckb,.slice Bvb nyb cyb,.string sb,.slice Cb nxb cxb,.slice BA nb cb,.slice LA nl2 cl] from ⟨HM.out.keep hbA,MG.bel hbA,by rw [← hW1];exact PB.new HM.out _ _⟩);have HW1:=aW hW1;clear hbA hW1;go_upto_region 2 with fail;go_step;go_step;go_step;go_step;refine wpList_load_mid rfl 48 (.tmp 10) rfl bl (o+i*20) rfl [.int .i64 k,.string ⟨s.toArray⟩,.int .i64 ka,.int .i64 kva,.int .i64 nva,.string sva,.slice Ava nka cka,.slice Bva nya cya,.string sa,.slice Ca nxa cxa,.int .i64 kb,.int .i64 kvb,.int .i64 nvb,.string svb,.slice Avb nkb ckb,.slice Bvb nyb cyb,.string sb,.slice Cb nxb cxb,.slice BA nb cb,.slice LA nl2 cl] _ HRG.out Tryz.underlying48 rfl (by kernel_rfl) ?_;go_step;go_step;go_step;refine cO rfl 48 (.tmp 5) (.tmp 11) rfl _ _ rfl rfl (by kernel_rfl) (by kernel_rfl) (by first | kernel_rfl | simp [Value.oneCell']) ?_;rw [HW1.out];clear HW1 HRG hlb;have HLX:=aW hlen1;by_cases hk1:k=1
   ·subst hk1;have hfb:nV b:=by have h:=hmk;rw [if_pos rfl,Bool.and_eq_true,decide_eq_true_eq] at h;exact h.1
    have hT:dn (.mk 1 s a b body els)=aS dv::(ar 1 a++ap [44]::(ar 1 b++[ap [59]])):=by rw [dn,if_pos rfl]
    have hl1:=HLX.out;rw [hT,aj,aC,aj,aC,aj,bm,show (ay (aS dv)).length=4 from rfl,show (ay (ap [44])).length=1 from rfl,show (ay (ap [59])).length=1 from rfl] at hl1;have HTX:=aW (show aF (dn (.mk 1 s a b body els)) st1=(a9 (aF (ar 1 b) (a9 (aF (ar 1 a) (a9 st1 [101,109,105,116])) [44])) [59]) by rw [hT];simp only [bT,bM,List.cons_append,List.append_assoc,List.nil_append];rfl);have q0:=cm st1 [101,109,105,116];simp only [List.length_cons,List.length_nil] at q0;obtain ⟨s1,hs1⟩:∃ q,a9 st1 [101,109,105,116]=q:=⟨_,rfl⟩
    rw [hs1] at HTX q0;have q1:=aI (ar 1 a) s1;obtain ⟨s2,hs2⟩:∃ q,aF (ar 1 a) s1=q:=⟨_,rfl⟩
    rw [hs2] at HTX q1;have q2:=cm s2 [44];simp only [List.length_cons,List.length_nil] at q2;obtain ⟨s3,hs3⟩:∃ q,a9 s2 [44]=q:=⟨_,rfl⟩
    rw [hs3] at HTX q2;have q3:=aI (ar 1 b) s3;obtain ⟨s4,hs4⟩:∃ q,aF (ar 1 b) s3=q:=⟨_,rfl⟩
    rw [hs4] at HTX q3;have q4:=cm s4 [59];simp only [List.length_cons,List.length_nil] at q4;obtain ⟨s5,hs5⟩:∃ q,a9 s4 [59]=q:=⟨_,rfl⟩
    rw [hs5] at HTX q4;have HC1:=aW (fun W row' p (hp:p=W.heap.size) (h:PT wr W g row1 row' st1 wr.heap.size #[.int .i64 1,.string ⟨s.toArray⟩,.int .i64 ka,.int .i64 kva,.int .i64 nva,.string sva,.slice Ava nka cka,.slice Bva nya cya,.string sa,.slice Ca nxa cxa,.int .i64 kb,.int .i64 kvb,.int .i64 nvb,.string svb,.slice Avb nkb ckb,.slice Bvb nyb cyb,.string sb,.slice Cb nxb cxb,.slice BA nb cb,.slice LA nl2 cl])=>h.put1 [101,109,105,116] p hp (by simp) (by simp only [List.length_cons,List.length_nil];omega) hs1);have HC2:=aW (fun W row' (h:PT wr W g row1 row' s1 wr.heap.size #[.int .i64 1,.string ⟨s.toArray⟩,.int .i64 ka,.int .i64 kva,.int .i64 nva,.string sva,.slice Ava nka cka,.slice Bva nya cya,.string sa,.slice Ca nxa cxa,.int .i64 kb,.int .i64 kvb,.int .i64 nvb,.string svb,.slice Avb nkb ckb,.slice Bvb nyb cyb,.string sb,.slice Cb nxb cxb,.slice BA nb cb,.slice LA nl2 cl])=>h.exprK (hEA.mg h.mg) hca hfa (by omega) hs2);have HC3:=aW (fun W row' p (hp:p=W.heap.size) (h:PT wr W g row1 row' s2 wr.heap.size #[.int .i64 1,.string ⟨s.toArray⟩,.int .i64 ka,.int .i64 kva,.int .i64 nva,.string sva,.slice Ava nka cka,.slice Bva nya cya,.string sa,.slice Ca nxa cxa,.int .i64 kb,.int .i64 kvb,.int .i64 nvb,.string svb,.slice Avb nkb ckb,.slice Bvb nyb cyb,.string sb,.slice Cb nxb cxb,.slice BA nb cb,.slice LA nl2 cl])=>h.put1 [44] p hp (by simp) (by simp only [List.length_cons,List.length_nil];omega) hs3);have HC4:=aW (fun W row' (h:PT wr W g row1 row' s3 wr.heap.size #[.int .i64 1,.string ⟨s.toArray⟩,.int .i64 ka,.int .i64 kva,.int .i64 nva,.string sva,.slice Ava nka cka,.slice Bva nya cya,.string sa,.slice Ca nxa cxa,.int .i64 kb,.int .i64 kvb,.int .i64 nvb,.string svb,.slice Avb nkb ckb,.slice Bvb nyb cyb,.string sb,.slice Cb nxb cxb,.slice BA nb cb,.slice LA nl2 cl])=>h.exprK (hEB.mg h.mg) hcb hfb (by omega) hs4);have HC5:=aW (fun W row' p (hp:p=W.heap.size) (h:PT wr W g row1 row' s4 wr.heap.size #[.int .i64 1,.string ⟨s.toArray⟩,.int .i64 ka,.int .i64 kva,.int .i64 nva,.string sva,.slice Ava nka cka,.slice Bva nya cya,.string sa,.slice Ca nxa cxa,.int .i64 kb,.int .i64 kvb,.int .i64 nvb,.string svb,.slice Avb nkb ckb,.slice Bvb nyb cyb,.string sb,.slice Cb nxb cxb,.slice BA nb cb,.slice LA nl2 cl])=>h.put1 [59] p hp (by simp) (by simp only [List.length_cons,List.length_nil];omega) hs5);have HPT:=aW (show PT wr W1 g row1 row1 st1 wr.heap.size #[.int .i64 1,.string ⟨s.toArray⟩,.int .i64 ka,.int .i64 kva,.int .i64 nva,.string sva,.slice Ava nka cka,.slice Bva nya cya,.string sa,.slice Ca nxa cxa,.int .i64 kb,.int .i64 kvb,.int .i64 nvb,.string svb,.slice Avb nkb ckb,.slice Bvb nyb cyb,.string sb,.slice Cb nxb cxb,.slice BA nb cb,.slice LA nl2 cl] from HP1.out);clear q0 hs1 q1 hs2 q2 hs3 q3 hs4 q4 hs5 hl1 hT hEA hEB hb1 hb3 he1 he3 hca hcb hcbo hcel hfa hmk HMK HP1 hlen1;obtain ⟨c0,f0,l0⟩:=HPT.out.x.1.rules;go_wp2_with (first
     | (go_at_call 73;refine (HC5.out _ _ _ (by first | rfl | simp) h5).mono ?_;rintro e w6 ⟨rfl,row6,h6⟩;have HX:=aW h6;obtain ⟨c5,f5,l5⟩:=h6.x.1.rules)
     | (go_at_call 74;refine (HC4.out _ _ h4).mono ?_;rintro e w5 ⟨rfl,row5,h5⟩;obtain ⟨c4,f4,l4⟩:=h5.x.1.rules)
     | (go_at_call 73;refine (HC3.out _ _ _ (by first | rfl | simp) h3).mono ?_;rintro e w4 ⟨rfl,row4,h4⟩;obtain ⟨c3,f3,l3⟩:=h4.x.1.rules)
     | (go_at_call 74;refine (HC2.out _ _ h2).mono ?_;rintro e w3 ⟨rfl,row3,h3⟩;obtain ⟨c2,f2,l2⟩:=h3.x.1.rules)
     | (go_at_call 73;refine (HC1.out _ _ _ (by first | rfl | simp) HPT.out).mono ?_;rintro e w2 ⟨rfl,row2,h2⟩;obtain ⟨c1,f1,l1⟩:=h2.x.1.rules))
    go_wp2;go_roundg (nl-(i+1))
    case measure=>have:=HGK.out;omega
    case rel=>exact ⟨i+1,_,hin,rfl,by go_num,aW (by rw [HTK.out,HTX.out];exact HX.out.wp),aW (HG.out.trans HX.out.mg)⟩
   have ek1:(k == 1)=false:=by simp [hk1]
   by_cases hk3:k=3
   ·subst hk3;have hh:=hmk;rw [if_neg (by decide),if_neg (by decide),if_pos rfl,Bool.and_eq_true,Bool.and_eq_true,Bool.and_eq_true,decide_eq_true_eq] at hh;obtain ⟨_,hnm,hmb,hle⟩:=hh;have hsne:s≠[]:=by rintro rfl;exact absurd hnm (by decide)
    have hT:dn (.mk 3 s a b body els)=[aS fj,eq s,aS wIn]++(ar 1 a++cE body):=by rw [dn,if_neg (by decide),if_pos rfl,if_pos hle];rfl
    have hl1:=HLX.out;rw [hT,aC,aj,aj,aj,bm,aC,show (ay (aS fj)).length=3 from rfl,show (ay (aS wIn)).length=2 from rfl,show (ay (eq s)).length=s.length from rfl] at hl1;clear hnm hle;have HTX:=aW (show aF (dn (.mk 3 s a b body els)) st1=(aF (cE body) (aF (ar 1 a) (a9 (a9 (a9 st1 [102,111,114]) s) [105,110]))) by rw [hT];simp only [bT,bM,List.cons_append,List.append_assoc,List.nil_append];rfl);have q0:(a9 (a9 (a9 st1 [102,111,114]) s) [105,110]).1.length≤st1.1.length+((([102,111,114]:List UInt8).length+1)+(((s:List UInt8).length+1)+(([105,110]:List UInt8).length+1))):=by
     have h1:=cm st1 [102,111,114];have h2:=cm (a9 st1 [102,111,114]) s;have h3:=cm (a9 (a9 st1 [102,111,114]) s) [105,110];omega
    simp only [List.length_cons,List.length_nil] at q0;obtain ⟨s1,hs1⟩:∃ q,a9 (a9 (a9 st1 [102,111,114]) s) [105,110]=q:=⟨_,rfl⟩
    rw [hs1] at HTX q0;have q1:=aI (ar 1 a) s1;obtain ⟨s2,hs2⟩:∃ q,aF (ar 1 a) s1=q:=⟨_,rfl⟩
    rw [hs2] at HTX q1;have q2:=aI (cE body) s2;obtain ⟨s3,hs3⟩:∃ q,aF (cE body) s2=q:=⟨_,rfl⟩
    rw [hs3] at HTX q2;have HC1:=aW (fun W row' p (hp:p=W.heap.size) (h:PT wr W g row1 row' st1 wr.heap.size #[.int .i64 3,.string ⟨s.toArray⟩,.int .i64 ka,.int .i64 kva,.int .i64 nva,.string sva,.slice Ava nka cka,.slice Bva nya cya,.string sa,.slice Ca nxa cxa,.int .i64 kb,.int .i64 kvb,.int .i64 nvb,.string svb,.slice Avb nkb ckb,.slice Bvb nyb cyb,.string sb,.slice Cb nxb cxb,.slice BA nb cb,.slice LA nl2 cl])=>h.put3 [102,111,114] s [105,110] p hp (by simp) hsne (by simp) (by simp only [List.length_cons,List.length_nil];omega) hs1);have HC2:=aW (fun W row' (h:PT wr W g row1 row' s1 wr.heap.size #[.int .i64 3,.string ⟨s.toArray⟩,.int .i64 ka,.int .i64 kva,.int .i64 nva,.string sva,.slice Ava nka cka,.slice Bva nya cya,.string sa,.slice Ca nxa cxa,.int .i64 kb,.int .i64 kvb,.int .i64 nvb,.string svb,.slice Avb nkb ckb,.slice Bvb nyb cyb,.string sb,.slice Cb nxb cxb,.slice BA nb cb,.slice LA nl2 cl])=>h.exprK (hEA.mg h.mg) hca hfa (by omega) hs2);have HC3:=aW (fun W row' (h:PT wr W g row1 row' s2 wr.heap.size #[.int .i64 3,.string ⟨s.toArray⟩,.int .i64 ka,.int .i64 kva,.int .i64 nva,.string sva,.slice Ava nka cka,.slice Bva nya cya,.string sa,.slice Ca nxa cxa,.int .i64 kb,.int .i64 kvb,.int .i64 nvb,.string svb,.slice Avb nkb ckb,.slice Bvb nyb cyb,.string sb,.slice Cb nxb cxb,.slice BA nb cb,.slice LA nl2 cl])=>PT.blockK HIH.out h hb1 hb3 hnb hb2_ hmb hcbo hnb4 (by omega) hs3);have HPT:=aW (show PT wr W1 g row1 row1 st1 wr.heap.size #[.int .i64 3,.string ⟨s.toArray⟩,.int .i64 ka,.int .i64 kva,.int .i64 nva,.string sva,.slice Ava nka cka,.slice Bva nya cya,.string sa,.slice Ca nxa cxa,.int .i64 kb,.int .i64 kvb,.int .i64 nvb,.string svb,.slice Avb nkb ckb,.slice Bvb nyb cyb,.string sb,.slice Cb nxb cxb,.slice BA nb cb,.slice LA nl2 cl] from HP1.out);clear q0 hs1 q1 hs2 q2 hs3 hl1 hT hEA hEB hb1 hb3 he1 he3 hca hcb hcbo hcel hfa hmk HMK HP1 hlen1;obtain ⟨c0,f0,l0⟩:=HPT.out.x.1.rules;clear hmb;go_wp2_with (first
     | (go_at_call 75;refine (HC3.out _ _ h3).mono ?_;rintro e w4 ⟨rfl,row4,h4⟩;have HX:=aW h4;obtain ⟨c3,f3,l3⟩:=h4.x.1.rules)
     | (go_at_call 74;refine (HC2.out _ _ h2).mono ?_;rintro e w3 ⟨rfl,row3,h3⟩;obtain ⟨c2,f2,l2⟩:=h3.x.1.rules)
     | (go_at_call 73;refine (HC1.out _ _ _ (by first | rfl | simp) HPT.out).mono ?_;rintro e w2 ⟨rfl,row2,h2⟩;obtain ⟨c1,f1,l1⟩:=h2.x.1.rules))
    go_wp2;go_roundg (nl-(i+1))
    case measure=>have:=HGK.out;omega
    case rel=>exact ⟨i+1,_,hin,rfl,by go_num,aW (by rw [HTK.out,HTX.out];exact HX.out.wp),aW (HG.out.trans HX.out.mg)⟩
   have ek3:(k == 3)=false:=by simp [hk3]
   have hk2:k=2:=by
    have h:=hmk;rw [if_neg hk1] at h;by_cases h2:k=2
    ·exact h2
    ·rw [if_neg h2,if_neg hk3] at h;cases h
   subst hk2;have hh:=hmk;rw [if_neg (by decide),if_pos rfl,Bool.and_eq_true,Bool.and_eq_true,Bool.and_eq_true] at hh;obtain ⟨_,_,hmb,hme⟩:=hh;clear hk1 hk3 ek1 ek3;by_cases hle:els.length=0
   ·have hT:dn (.mk 2 s a b body els)=[aS wIf]++(ar 1 a++cE body):=by rw [dn,if_neg (by decide),if_neg (by decide),if_pos hle];rfl
    have hl1:=HLX.out;rw [hT,aC,aj,bm,aC,show (ay (aS wIf)).length=2 from rfl] at hl1;have h0l:¬ (0:Int)<(nl2:Int):=by omega
    have HTX:=aW (show aF (dn (.mk 2 s a b body els)) st1=(aF (cE body) (aF (ar 1 a) (a9 st1 [105,102]))) by rw [hT];simp only [bT,bM,List.cons_append,List.append_assoc,List.nil_append];rfl);have q0:=cm st1 [105,102];simp only [List.length_cons,List.length_nil] at q0;obtain ⟨s1,hs1⟩:∃ q,a9 st1 [105,102]=q:=⟨_,rfl⟩
    rw [hs1] at HTX q0;have q1:=aI (ar 1 a) s1;obtain ⟨s2,hs2⟩:∃ q,aF (ar 1 a) s1=q:=⟨_,rfl⟩
    rw [hs2] at HTX q1;have q2:=aI (cE body) s2;obtain ⟨s3,hs3⟩:∃ q,aF (cE body) s2=q:=⟨_,rfl⟩
    rw [hs3] at HTX q2;have HC1:=aW (fun W row' p (hp:p=W.heap.size) (h:PT wr W g row1 row' st1 wr.heap.size #[.int .i64 2,.string ⟨s.toArray⟩,.int .i64 ka,.int .i64 kva,.int .i64 nva,.string sva,.slice Ava nka cka,.slice Bva nya cya,.string sa,.slice Ca nxa cxa,.int .i64 kb,.int .i64 kvb,.int .i64 nvb,.string svb,.slice Avb nkb ckb,.slice Bvb nyb cyb,.string sb,.slice Cb nxb cxb,.slice BA nb cb,.slice LA nl2 cl])=>h.put1 [105,102] p hp (by simp) (by simp only [List.length_cons,List.length_nil];omega) hs1);have HC2:=aW (fun W row' (h:PT wr W g row1 row' s1 wr.heap.size #[.int .i64 2,.string ⟨s.toArray⟩,.int .i64 ka,.int .i64 kva,.int .i64 nva,.string sva,.slice Ava nka cka,.slice Bva nya cya,.string sa,.slice Ca nxa cxa,.int .i64 kb,.int .i64 kvb,.int .i64 nvb,.string svb,.slice Avb nkb ckb,.slice Bvb nyb cyb,.string sb,.slice Cb nxb cxb,.slice BA nb cb,.slice LA nl2 cl])=>h.exprK (hEA.mg h.mg) hca hfa (by omega) hs2);have HC3:=aW (fun W row' (h:PT wr W g row1 row' s2 wr.heap.size #[.int .i64 2,.string ⟨s.toArray⟩,.int .i64 ka,.int .i64 kva,.int .i64 nva,.string sva,.slice Ava nka cka,.slice Bva nya cya,.string sa,.slice Ca nxa cxa,.int .i64 kb,.int .i64 kvb,.int .i64 nvb,.string svb,.slice Avb nkb ckb,.slice Bvb nyb cyb,.string sb,.slice Cb nxb cxb,.slice BA nb cb,.slice LA nl2 cl])=>PT.blockK HIH.out h hb1 hb3 hnb hb2_ hmb hcbo hnb4 (by omega) hs3);have HPT:=aW (show PT wr W1 g row1 row1 st1 wr.heap.size #[.int .i64 2,.string ⟨s.toArray⟩,.int .i64 ka,.int .i64 kva,.int .i64 nva,.string sva,.slice Ava nka cka,.slice Bva nya cya,.string sa,.slice Ca nxa cxa,.int .i64 kb,.int .i64 kvb,.int .i64 nvb,.string svb,.slice Avb nkb ckb,.slice Bvb nyb cyb,.string sb,.slice Cb nxb cxb,.slice BA nb cb,.slice LA nl2 cl] from HP1.out);clear q0 hs1 q1 hs2 q2 hs3 hl1 hT hEA hEB hb1 hb3 he1 he3 hca hcb hcbo hcel hfa hmk HMK HP1 hlen1;obtain ⟨c0,f0,l0⟩:=HPT.out.x.1.rules;clear hmb hme hle;go_wp2_with (first
     | (go_at_call 75;refine (HC3.out _ _ h3).mono ?_;rintro e w4 ⟨rfl,row4,h4⟩;have HX:=aW h4;obtain ⟨c3,f3,l3⟩:=h4.x.1.rules)
     | (go_at_call 74;refine (HC2.out _ _ h2).mono ?_;rintro e w3 ⟨rfl,row3,h3⟩;obtain ⟨c2,f2,l2⟩:=h3.x.1.rules)
     | (go_at_call 73;refine (HC1.out _ _ _ (by first | rfl | simp) HPT.out).mono ?_;rintro e w2 ⟨rfl,row2,h2⟩;obtain ⟨c1,f1,l1⟩:=h2.x.1.rules))
    go_wp2;go_roundg (nl-(i+1))
    case measure=>have:=HGK.out;omega
    case rel=>exact ⟨i+1,_,hin,rfl,by go_num,aW (by rw [HTK.out,HTX.out];exact HX.out.wp),aW (HG.out.trans HX.out.mg)⟩
   ·have hT:dn (.mk 2 s a b body els)=[aS wIf]++(ar 1 a++(cE body++aS cS::cE els)):=by rw [dn,if_neg (by decide),if_neg (by decide),if_neg hle];unfold cE;simp
    have hl1:=HLX.out;rw [hT,aC,aj,bm,aC,aC,aj,show (ay (aS wIf)).length=2 from rfl,show (ay (aS cS)).length=4 from rfl] at hl1;have h0l:(0:Int)<(nl2:Int):=by omega
    have HTX:=aW (show aF (dn (.mk 2 s a b body els)) st1=(aF (cE els) (a9 (aF (cE body) (aF (ar 1 a) (a9 st1 [105,102]))) [101,108,115,101])) by rw [hT];simp only [bT,bM,List.cons_append,List.append_assoc,List.nil_append];rfl);have q0:=cm st1 [105,102];simp only [List.length_cons,List.length_nil] at q0;obtain ⟨s1,hs1⟩:∃ q,a9 st1 [105,102]=q:=⟨_,rfl⟩
    rw [hs1] at HTX q0;have q1:=aI (ar 1 a) s1;obtain ⟨s2,hs2⟩:∃ q,aF (ar 1 a) s1=q:=⟨_,rfl⟩
    rw [hs2] at HTX q1;have q2:=aI (cE body) s2;obtain ⟨s3,hs3⟩:∃ q,aF (cE body) s2=q:=⟨_,rfl⟩
    rw [hs3] at HTX q2;have q3:=cm s3 [101,108,115,101];simp only [List.length_cons,List.length_nil] at q3;obtain ⟨s4,hs4⟩:∃ q,a9 s3 [101,108,115,101]=q:=⟨_,rfl⟩
    rw [hs4] at HTX q3;have q4:=aI (cE els) s4;obtain ⟨s5,hs5⟩:∃ q,aF (cE els) s4=q:=⟨_,rfl⟩
    rw [hs5] at HTX q4;have HC1:=aW (fun W row' p (hp:p=W.heap.size) (h:PT wr W g row1 row' st1 wr.heap.size #[.int .i64 2,.string ⟨s.toArray⟩,.int .i64 ka,.int .i64 kva,.int .i64 nva,.string sva,.slice Ava nka cka,.slice Bva nya cya,.string sa,.slice Ca nxa cxa,.int .i64 kb,.int .i64 kvb,.int .i64 nvb,.string svb,.slice Avb nkb ckb,.slice Bvb nyb cyb,.string sb,.slice Cb nxb cxb,.slice BA nb cb,.slice LA nl2 cl])=>h.put1 [105,102] p hp (by simp) (by simp only [List.length_cons,List.length_nil];omega) hs1);have HC2:=aW (fun W row' (h:PT wr W g row1 row' s1 wr.heap.size #[.int .i64 2,.string ⟨s.toArray⟩,.int .i64 ka,.int .i64 kva,.int .i64 nva,.string sva,.slice Ava nka cka,.slice Bva nya cya,.string sa,.slice Ca nxa cxa,.int .i64 kb,.int .i64 kvb,.int .i64 nvb,.string svb,.slice Avb nkb ckb,.slice Bvb nyb cyb,.string sb,.slice Cb nxb cxb,.slice BA nb cb,.slice LA nl2 cl])=>h.exprK (hEA.mg h.mg) hca hfa (by omega) hs2);have HC3:=aW (fun W row' (h:PT wr W g row1 row' s2 wr.heap.size #[.int .i64 2,.string ⟨s.toArray⟩,.int .i64 ka,.int .i64 kva,.int .i64 nva,.string sva,.slice Ava nka cka,.slice Bva nya cya,.string sa,.slice Ca nxa cxa,.int .i64 kb,.int .i64 kvb,.int .i64 nvb,.string svb,.slice Avb nkb ckb,.slice Bvb nyb cyb,.string sb,.slice Cb nxb cxb,.slice BA nb cb,.slice LA nl2 cl])=>PT.blockK HIH.out h hb1 hb3 hnb hb2_ hmb hcbo hnb4 (by omega) hs3);have HC4:=aW (fun W row' p (hp:p=W.heap.size) (h:PT wr W g row1 row' s3 wr.heap.size #[.int .i64 2,.string ⟨s.toArray⟩,.int .i64 ka,.int .i64 kva,.int .i64 nva,.string sva,.slice Ava nka cka,.slice Bva nya cya,.string sa,.slice Ca nxa cxa,.int .i64 kb,.int .i64 kvb,.int .i64 nvb,.string svb,.slice Avb nkb ckb,.slice Bvb nyb cyb,.string sb,.slice Cb nxb cxb,.slice BA nb cb,.slice LA nl2 cl])=>h.put1 [101,108,115,101] p hp (by simp) (by simp only [List.length_cons,List.length_nil];omega) hs4);have HC5:=aW (fun W row' (h:PT wr W g row1 row' s4 wr.heap.size #[.int .i64 2,.string ⟨s.toArray⟩,.int .i64 ka,.int .i64 kva,.int .i64 nva,.string sva,.slice Ava nka cka,.slice Bva nya cya,.string sa,.slice Ca nxa cxa,.int .i64 kb,.int .i64 kvb,.int .i64 nvb,.string svb,.slice Avb nkb ckb,.slice Bvb nyb cyb,.string sb,.slice Cb nxb cxb,.slice BA nb cb,.slice LA nl2 cl])=>PT.blockK HIH.out h he1 he3 hnl2 he2 hme hcel hnl4 (by omega) hs5);have HPT:=aW (show PT wr W1 g row1 row1 st1 wr.heap.size #[.int .i64 2,.string ⟨s.toArray⟩,.int .i64 ka,.int .i64 kva,.int .i64 nva,.string sva,.slice Ava nka cka,.slice Bva nya cya,.string sa,.slice Ca nxa cxa,.int .i64 kb,.int .i64 kvb,.int .i64 nvb,.string svb,.slice Avb nkb ckb,.slice Bvb nyb cyb,.string sb,.slice Cb nxb cxb,.slice BA nb cb,.slice LA nl2 cl] from HP1.out);clear q0 hs1 q1 hs2 q2 hs3 q3 hs4 q4 hs5 hl1 hT hEA hEB hb1 hb3 he1 he3 hca hcb hcbo hcel hfa hmk HMK HP1 hlen1;obtain ⟨c0,f0,l0⟩:=HPT.out.x.1.rules;clear hmb hme hle;go_wp2_with (first
     | (go_at_call 75;refine (HC5.out _ _ h5).mono ?_;rintro e w6 ⟨rfl,row6,h6⟩;have HX:=aW h6;obtain ⟨c5,f5,l5⟩:=h6.x.1.rules)
     | (go_at_call 73;refine (HC4.out _ _ _ (by first | rfl | simp) h4).mono ?_;rintro e w5 ⟨rfl,row5,h5⟩;obtain ⟨c4,f4,l4⟩:=h5.x.1.rules)
     | (go_at_call 75;refine (HC3.out _ _ h3).mono ?_;rintro e w4 ⟨rfl,row4,h4⟩;obtain ⟨c3,f3,l3⟩:=h4.x.1.rules)
     | (go_at_call 74;refine (HC2.out _ _ h2).mono ?_;rintro e w3 ⟨rfl,row3,h3⟩;obtain ⟨c2,f2,l2⟩:=h3.x.1.rules)
     | (go_at_call 73;refine (HC1.out _ _ _ (by first | rfl | simp) HPT.out).mono ?_;rintro e w2 ⟨rfl,row2,h2⟩;obtain ⟨c1,f1,l1⟩:=h2.x.1.rules))
    go_wp2;go_roundg (nl-(i+1))
    case measure=>have:=HGK.out;omega
    case rel=>exact ⟨i+1,_,hin,rfl,by go_num,aW (by rw [HTK.out,HTX.out];exact HX.out.wp),aW (HG.out.trans HX.out.mg)⟩
  ·obtain rfl:i=nl:=by omega
   have HF:=aW (show aq (l.take i)=aq l by rw [List.take_of_length_le (Nat.le_of_eq HNK.out)]);go_wp2;go_end0;exact ⟨rfl,row1,_,by rw [← HF.out];exact HM.out,HG.out⟩
end
section
open Go.RowKit
theorem kX:∀ (r:Nat) (x:EJ),bB x→bB (dF r x)
 |0,.mk k v s kids,h=>by
  unfold bB at h;unfold dF bB;exact ⟨h.1,h.2.1,by rw [List.length_take];omega,by simp,trivial⟩
 |r+1,.mk k v s kids,h=>by
  unfold bB at h;unfold dF bB;refine ⟨h.1,h.2.1,by rw [List.length_take];omega,by simp;omega,bf.2 fun x hx=>?_⟩;obtain ⟨y,hy,rfl⟩:=List.mem_map.1 hx;exact kX r y (bf.1 h.2.2.2.2 y (List.mem_of_mem_take hy))
theorem mf:∀ (r:Nat) (x:EJ),ff (dF r x)≤ff x
 |0,.mk k v s kids=>by
  unfold dF ff;rw [List.length_take];show _+cQ []≤_
  unfold cQ;omega
 |r+1,.mk k v s kids=>by
  unfold dF ff;rw [List.length_take];have h1:=pQ (f:=dF r) (kids.take 6) fun y _=>mf r y
  have h2:=ma 6 kids;omega
theorem le (r:Nat) (l:List SJ):(dq r l).length≤5:=by
 cases r with
 | zero=>simp [dq]
 | succ r=>simp [dq];omega
theorem kY:∀ (r:Nat) (l:List SJ),bg l→bg (dq r l)
 | 0,l,h=>trivial
 |r+1,l,h=>bZ.2 fun x hx=>by
  unfold dq at hx;obtain ⟨y,hy,rfl⟩:=List.mem_map.1 hx;have h1:=bZ.1 h y (List.mem_of_mem_take hy);obtain ⟨k,s,a,b,body,els⟩:=y;unfold fG at h1;obtain ⟨g1,g2,g3,g4,g5,g6,g7,g8⟩:=h1;unfold fq fG;have e1:=le r body;have e2:=le r els;exact ⟨g1,by rw [List.length_take];omega,kX 14 a g3,kX 14 b g4,by omega,by omega,kY r body g7,kY r els g8⟩
theorem mh:∀ (r:Nat) (l:List SJ),cJ (dq r l)≤cJ l
 | 0,l=>by unfold dq;exact Nat.zero_le _
 |r+1,l=>by
  unfold dq;have h1:=pR (f:=fq (dq r)) (l.take 5) fun y _=>by
   obtain ⟨k,s,a,b,body,els⟩:=y;unfold fq gJ;have e1:=mf 14 a;have e2:=mf 14 b;have e3:=mh r body;have e4:=mh r els;rw [List.length_take];omega
  have h2:=mc 5 l;omega
def vl (l:List SJ) (F:Nat→Prop) (w:World) (e:Ending) (w':World):Prop:=∃ (A:Option Addr) (n ca:Nat) (css:List (List Value)),e=.returned (.agg #[.slice A n ca])∧n=l.length∧n≤ca∧(A=none→ca=0)∧SRs w' (FN F w) css l∧RdF w' (FN F w) A css.flatten∧Below w.heap.size w w'
theorem yC (F:Nat→Prop) (l:List SJ) (A:Option Addr) (n ca:Nat) (css:List (List Value)) (w:World) (hF:∀ b,F b→b<w.heap.size) (hS:SRs w F css l) (hR:RdF w F A css.flatten) (hln:l.length=n) (hnc:n≤ca) (hC:bg l) (hn:n≤4194304) :
  Calls Tryz.prog 15 #[.agg #[.slice A n ca]] w (vl (dq 14 l) F w):=by
 have HC:=aW (fun (W:World) (hb:Below w.heap.size w W)=>vP F 14 l A n ca css 14 W rfl (fun b h=>Nat.lt_of_lt_of_le (hF b h) hb.size) (RR.imp hS fun c x hc=>hc.bel hb) (hR.keep (ah.of_below hb)) hln hnc hC hn (Nat.le_refl _));have HH0:=aW (((aL.nil w).push 24 #[.slice A n ca] (g:=w.heap.size) rfl).push 24 #[.slice none 0 0] (g:=w.heap.size+1) (by simp));have hF0:=hF;clear hF hS hR hln hC;go_enter Tryz.func15,Tryz.ntmps15;go_wp2_with fail;refine (HC.out _ HH0.out.1).mono ?_;rintro e w1 ⟨A1,n1,ca1,css1,rfl,h1,h2,h3,h4,h5,h6⟩;have HH1:=aW (HH0.out.keep h6);have hsz:w.heap.size+1<w1.heap.size:=HH1.out.b0.lt;have HX:=aW (show vl (dq 14 l) F w (.returned (.agg #[.slice A1 n1 ca1])) (w1.setCell ⟨w.heap.size+1,0,none⟩ (.slice A1 n1 ca1)) from
  ⟨A1,n1,ca1,css1,rfl,h1,h2,h3,(RR.imp h4 fun c x hc=>(hc.keep (ah.set ah.refl (fun b hb=>by
   rcases hb with hb | hb
   ·exact Nat.ne_of_lt (Nat.lt_succ_of_lt (hF0 b hb))
   ·simp at hb;omega) 0 _)).mono fun b _ hb=>hb.imp id fun hb=>by simp at hb;omega),(h5.keep (ah.set ah.refl (fun b hb=>by
   rcases hb with hb | hb
   ·exact Nat.ne_of_lt (Nat.lt_succ_of_lt (hF0 b hb))
   ·simp at hb;omega) 0 _)).mono fun b _ hb=>hb.imp id fun hb=>by simp at hb;omega,HH1.out.1.setCell (p:=⟨w.heap.size+1,0,none⟩) (Nat.le_succ _) _⟩)
 obtain ⟨c0,f0,l0⟩:=HH1.out.b0.rules;clear h1 h2 h3 h4 h5 h6;go_wp2;refine bodyPost_ret (v:=.agg #[.slice A1 n1 ca1]) (by simp only [results,Tryz.results15];go_simp) rfl ?_;exact HX.out
end
end Go.Proofs.YtgmnmnnoahdjnaaGreatDoor
