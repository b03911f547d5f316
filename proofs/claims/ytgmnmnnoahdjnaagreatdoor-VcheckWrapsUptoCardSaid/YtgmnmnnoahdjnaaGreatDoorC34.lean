import Derived.Test.YtgmnmnnoahdjnaaGreatDoorC32
open Go.Value renaming int → Zi, slice → Zs, string → Zt, pointer → Zp
open Go.IntKind renaming i64 → Zq
set_option maxRecDepth 100000
set_option maxHeartbeats 16000000
set_option linter.unusedVariables false
set_option linter.unusedSimpArgs false
namespace Go.Proofs.YtgmnmnnoahdjnaaGreatDoor
section
open Go.RowKit
attribute [local go_sem] aa ac ae ab
def tE (ss:List (List UInt8)):List Value:=ss.map λ s=>Zt ⟨s.toArray⟩
theorem xg {ss:List (List UInt8)} {i:Nat} {s:List UInt8} (h:ss[i]? = some s):(tE ss)[i]? = some (Zt ⟨s.toArray⟩):=by unfold tE;simp [h]
def gM (g:Nat) (row:Value) (st:List UInt8 × Bool) (w:World) (e:Ending) (w':World):Prop:=e=.returned (.tuple #[])/\∃ row' n',WP w' g row' n' st.1 st.2/\MG g row w row' w'
def gap (out:List UInt8) (num:Bool) (s:List UInt8):Bool:=decide (out≠[]/\((cQ (out.getLastD 0)=true/\cQ (s.headD 0)=true)∨(num=true/\s.headD 0=46)))
theorem wL (out:List UInt8) (num:Bool) (s:List UInt8):bc (out,num) s=(out++((if gap out num s=true then [32] else [])++s),a9 (s.headD 0)):=by
 unfold bc gap;simp only [decide_eq_true_eq]
theorem jh.last {base n:Nat} {row:Value} {l:List UInt8} {w:World} (h:jh base row (n+1) l w):∃ b o cap c,row=Zs (some ⟨b,o,none⟩) (n+1) cap/\b<w.heap.size/\w.cell? ⟨b,o+n,none⟩=some (Zi .u8 (c:UInt8).toNat)/\l.getLastD 0=c:=by
 obtain ⟨hl,ho,hb⟩:=h;obtain ⟨A,cap,rfl,h1,h2,h3⟩:=bW ho;have hne:am l≠[]:=by
  intro e;have:=congrArg List.length e;rw [aB,hl] at this;simp at this
 obtain ⟨b,o,rfl,hlt,_,hc⟩:=h3 hne;have hn:n<l.length:=by omega
 have hg:l[n]? = some l[n]:=List.getElem?_eq_getElem hn;refine ⟨b,o,cap,l[n],rfl,hlt,?_,?_⟩
 ·have hnb:n<(am l).length:=by rw [aB];exact hn
  rw [hc n hnb];unfold am;exact congrArg some (List.getElem_map ..)
 ·rw [List.getLastD_eq_getLast?,List.getLast?_eq_getElem?,show l.length-1=n by omega,hg];rfl
theorem MG.gr {mb:Nat} {a b:Value} {w w1:World} (h:Gr a w b w1):MG mb a w b w1:=⟨h.1.os,h.1.tape,h.1.output,h.1.size,λ k hk _ hne=>h.1.block k hk hne,h.2⟩
theorem WP.grow {w w2:World} {g n n2:Nat} {row row2:Value} {out out2:List UInt8} {num:Bool} (h:WP w g row n out num) (ho:jh (g+1) row2 n2 out2 w2) (hg:Gr row w row2 w2):WP (w2.setCell ⟨g,0,none⟩ row2) g row2 n2 out2 num/\MG g row w row2 (w2.setCell ⟨g,0,none⟩ row2):=by
 have hm:MG g row w row2 (w2.setCell ⟨g,0,none⟩ row2):=(MG.gr hg).set 0 row2;refine ⟨h.step hm ((hg.blk h.blk h.ne).set_ 0 _) ⟨ho.1,?_,by have:=ho.2.2;simpa [World.setCell] using this⟩,hm⟩;refine ho.2.1.kept (bC (ec w2 (some g)) 0 row2) ?_;rcases hro:row2.ownBlock with _ | j
 ·exact .inl rfl
 ·refine .inr λ e=>?_
  have:=(ho.2.1.lt j hro).1;injection e with e
  omega
theorem WP.setNum {w:World} {g n:Nat} {row:Value} {out:List UInt8} {num:Bool} (h:WP w g row n out num) (b:Bool):WP (w.setCell ⟨g,1,none⟩ (.bool b)) g row n out b/\MG g row w row (w.setCell ⟨g,1,none⟩ (.bool b)):=by
 have hm:MG g row w row (w.setCell ⟨g,1,none⟩ (.bool b)):=(MG.refl g row w).set 1 _;refine ⟨h.step hm (h.blk.set_ 1 _) ⟨h.own.1,?_,by have:=h.own.2.2;simpa [World.setCell] using this⟩,hm⟩;refine h.own.2.1.kept (bC (ec w (some g)) 1 (.bool b)) ?_;rcases hro:row.ownBlock with _ | j
 ·exact .inl rfl
 ·refine .inr λ e=>?_
  have:=(h.ge j hro).1;injection e with e
  omega
theorem nN {w w6:World} {g n m:Nat} {row row6:Value} {out s:List UInt8} {S:ByteArray} (ho:jh (g+1) row n out w) (hS:(⟨s.toArray⟩:ByteArray)=S) (hm:n+S.size=m) (h1:w6.ownsRow (g+1) 5 1 row6 m (am out++Lib.strCells S)) (h2:w.grownBy w6 row.ownBlock) (h3:row6.ownBlock=row.ownBlock∨∃ k,row6.ownBlock=some k/\w.heap.size<=k):jh (g+1) row6 m (out++s) w6/\Gr row w row6 w6:=by
 subst hS hm;rw [mW,← iN] at h1;exact ⟨⟨by rw [List.length_append,ho.1];simp [ByteArray.size],h1,Nat.le_trans ho.2.2 h2.size⟩,h2,h3⟩
theorem xA (ss:List (List UInt8)) (A:Option Addr) (k ca:Nat) (w:World) (g:Nat) (row:Value) (n:Nat) (out:List UInt8) (num:Bool) (hW:WP w g row n out num) (hR:RdF w (PbM g row w) A (tE ss)) (hk:ss.length=k) (hk3:k<=3) (hne:∀ s ∈ ss,s≠[])
  (hlen:n+(ss.map λ s=>s.length+1).sum<=100000000000) :
  Calls Tryz.prog 73 #[Zp (some ⟨g,0,none⟩),Zs A k ca] w (gM g row (ss.foldl bc (out,num)) w):=by
 obtain ⟨i0,hi,hz0,hz1,hz2⟩:=info_parts uc;have HI:=aW hi;have HW:=aW hW;have HR:=aW hR;have HK:=aW hk;have HNE:=aW hne;have HLEN:=aW hlen;clear hW hR hk hne hlen hi;go_enter Tryz.func73,Tryz.ntmps73;go_wp2;go_loopg [5,6,9] k (λ gk s5 s6 s9 wr => ∃ (i:Nat) (row':Value) (n':Nat) (out':List UInt8) (num':Bool),i<=k/\gk=k-i/\s9=Zi Zq (i:Int)/\Hid ((out',num')=(ss.take i).foldl bc (out,num))/\Hid (WP wr g row' n' out' num')/\Hid (MG g row w row' wr)/\Hid (n'+((ss.drop i).map λ s=>s.length+1).sum<=100000000000))
 case atStart=>exact ⟨0,row,n,out,num,Nat.zero_le _,rfl,rfl,aW rfl,HW,aW (MG.refl _ _ _),HLEN⟩
 case round =>
  obtain ⟨i,row',n',out',num',hik,hgk,rfl,HST,HWP,HMG,HLN⟩:=hrel;have HGK:=aW hgk;clear hgk;by_cases hlt:i<k
  ·obtain ⟨s,hs⟩:∃ s,ss[i]? = some s:=⟨_,List.getElem?_eq_getElem (by rw [HK.out];exact hlt)⟩
   have hsne:=HNE.out s (List.mem_of_getElem? hs);obtain ⟨c,sr,rfl⟩:∃ c sr,s=c::sr:=by cases s with | nil=>exact absurd rfl hsne | cons c sr=>exact ⟨c,sr,rfl⟩
   have HST1:=aW (show bc (out',num') (c::sr)=(ss.take (i+1)).foldl bc (out,num) by rw [List.take_add_one,hs,List.foldl_append,← HST.out];rfl);have hdr:ss.drop i=(c::sr)::ss.drop (i+1):=by
    have h9:=(List.getElem?_eq_some_iff.1 hs)
    rw [List.drop_eq_getElem_cons h9.1,h9.2]
   have hln:=HLN.out;rw [hdr,List.map_cons,List.sum_cons] at hln;have HLN1:=aW hln;have hlr:=RdF.mg HR.out HMG.out;have hsx:(tE ss)[i]? = some (Zt ⟨(c::sr).toArray⟩):=xg hs;obtain ⟨hix,hie⟩:=List.getElem?_eq_some_iff.1 hsx;obtain ⟨b,o,rfl,hb,hF,hc⟩:=hlr (by intro e;rw [e] at hix;exact absurd hix (Nat.not_lt_zero _));have hcell:=hc i hix;rw [hie] at hcell;have hix0:=λ W=>rV (s:=c::sr) (i:=0) (a:=c) rfl W
   obtain ⟨S,hS⟩:∃ S:ByteArray,⟨(c::sr).toArray⟩=S:=⟨_,rfl⟩
   have hsz:S.size=sr.length+1:=by rw [← hS];simp [ByteArray.size]
   have HS:=aW hS;have hS0:∀ h:0<S.size,((S[0]'h).toNat)=c.toNat:=by subst hS;intro h;rfl
   rw [hS] at hcell hix0;obtain ⟨cN,hcN⟩:∃ q,c.toNat=q:=⟨_,rfl⟩
   have HCN:=aW hcN;rw [hcN] at hix0 hS0;have HGP:=aW (wL out' num' (c::sr));obtain ⟨gp,hgp⟩:∃ q,gap out' num' (c::sr)=q:=⟨_,rfl⟩
   rw [hgp] at HGP;have HGQ:=aW hgp;obtain ⟨x0,x1,x2⟩:=HWP.out.blk.rules;obtain ⟨RA,rc,rfl,hrc,hrn,hrr⟩:=bW HWP.out.own.2.1;clear hs hsne hdr hln hlr hsx hix hie hc hS hcN hgp hrn hrr;go_upto_region 4 with fail;go_cut [49] (λ s49 wx=>s49=.bool gp/\wx=wr)
   case first =>
    cases hn0:n' with
    |zero =>
     subst hn0;have HGF:=aW (show gp=false by
      rw [← HGQ.out];unfold gap;have h0:=HWP.out.own.1;rw [List.length_eq_zero_iff.1 h0];simp)
     go_wp2;go_meet
     case rel=>exact ⟨by rw [HGF.out],rfl⟩
    |succ m =>
     subst hn0;obtain ⟨lb,lo,lcap,cl,hrl,hlb,hlc,hll⟩:=HWP.out.own.last;injection hrl with e1 e2 e3
     subst e1 e3;obtain ⟨clN,hclN⟩:∃ q,cl.toNat=q:=⟨_,rfl⟩
     obtain ⟨b1,hb1⟩:∃ q,cQ cl=q:=⟨_,rfl⟩
     obtain ⟨b2,hb2⟩:∃ q,cQ c=q:=⟨_,rfl⟩
     obtain ⟨dt,hdt⟩:∃ q,decide (cN=46)=q:=⟨_,rfl⟩
     have HW1:=aW (λ W=>tM cl W);have HW2:=aW (λ W=>tM c W);rw [hclN,hb1] at HW1;rw [HCN.out,hb2] at HW2;rw [hclN] at hlc;have HGE:=aW (show gp=((b1 && b2) || (num' && dt)) by
      have hne:out'≠[]:=by intro e;have h0:=HWP.out.own.1;rw [e] at h0;simp at h0
      have hc46:(c=46) ↔ (cN=46):=by rw [← UInt8.toNat_inj,HCN.out];exact Iff.rfl
      rw [← HGQ.out,← hdt,← hb1,← hb2];unfold gap;rw [hll];show decide (out'≠[]/\((cQ cl=true/\cQ c=true)∨(num'=true/\c=46)))=_
      rw [Bool.eq_iff_iff];simp [hne,hc46])
     have hd1:((cN:Int) == 46)=dt:=by rw [← hdt];rw [Bool.eq_iff_iff];simp;omega
     have hm9:m+1<=100000000000:=by have:=HLN1.out;omega
     have HWA:=aW (show ∀ (q:Nat) (b:Bool) (W:World),((q=clN/\b=b1)∨(q=cN/\b=b2))->Calls Tryz.prog 111 #[Zi .u8 (q:Int)] W λ e w'=>e=.returned (.bool b)/\w'=W by
      rintro q b W (⟨rfl,rfl⟩ | ⟨rfl,rfl⟩)
      ·exact HW1.out W
      ·exact HW2.out W)
     clear hclN hb1 hb2 hdt hll HGQ e2 HW1 HW2;cases b1<;>cases b2<;>cases num'<;>cases dt
     all_goals
      go_wp2_with (go_at_call 111;refine (HWA.out _ _ _ (by first | exact Or.inl ⟨rfl,rfl⟩ | exact Or.inr ⟨rfl,rfl⟩)).mono ?_;rintro e w2 ⟨rfl,rfl⟩);go_meet
      case rel=>exact ⟨by rw [HGE.out];rfl,rfl⟩
   case rest =>
    obtain ⟨rfl,hwx⟩:=hcut;have hwy:=hwx.symm;clear hwx;subst hwy;have hln1:=HLN1.out;simp only [List.length_cons] at hln1;go_upto_if 49 with fail;go_cut [] (λ wy => ∃ (row1:Value) (n1:Nat) (W:World),W=wy/\n1<=n'+1/\Hid (WP W g row1 n1 (out'++(if gp=true then [32] else [])) num')/\Hid (MG g (Zs RA n' rc) wr row1 W))
    case first =>
     cases gp
     ·go_wp2;go_meet
      case rel=>exact ⟨_,n',_,rfl,Nat.le_succ _,aW (by simpa using HWP.out),aW (MG.refl _ _ _)⟩
     ·have HA3:=aW (HWP.out.own.2.1.alloc (.cells #[Zi .u8 32] 5));have HR3:=aW (Rd.of_blk (Blk.new wr 5 #[Zi .u8 32]));have HB3:=aW (show g+1<=(wr.alloc (.cells #[Zi .u8 32] 5)).heap.size by have:=HWP.out.own.2.2;simp;omega);go_wp2_with (at_builtin;refine cX _ rfl _ _ 67 rfl (g+1) 5 i0 _ 1 1 Tryz.underlying67 HI.out hz0 hz1 hz2 rfl (by decide) (Zs RA n' rc) n' (am out') rfl HA3.out (some ⟨wr.heap.size,0,none⟩) 1 1 (λ h=>by cases h) [Zi .u8 32] rfl rfl HR3.out (nC [32]) (by unfold maxLen;omega) (by omega) HB3.out ?_;intro row3 w3 hown3 hgr3 hob3;obtain ⟨RA3,rc3,rfl,hrc3,hrn3,hrr3⟩:=bW hown3;obtain ⟨y0,y1,y2⟩:=((HWP.out.blk.keep ((Below.refl _ wr).alloc (Nat.le_refl _) (.cells #[Zi .u8 32] 5))).grown hgr3 HWP.out.ne).rules);have H3P:=aW (HWP.out.own.post (m:=[32]) (M:=1) hown3 rfl hgr3 hob3);have H3G:=aW (HWP.out.grow H3P.out.1 H3P.out.2);go_meet
      case rel=>exact ⟨_,n'+1,_,rfl,Nat.le_refl _,aW H3G.out.1,aW H3G.out.2⟩
    case rest =>
     obtain ⟨row1,n1,W1,rfl,hn1,HW1,HM1⟩:=hcut;clear x0 x1 x2;obtain ⟨RA1,rc1,rfl,hrc1,hrn1,hrr1⟩:=bW HW1.out.own.2.1;have HO1:=aW (HW1.out.own.bel ((Below.refl _ W1).drew));have HB1:=aW (HW1.out.blk.keep ((Below.refl _ W1).drew));have HLN9:=aW (show n1+S.size+((ss.drop (i+1)).map λ s=>s.length+1).sum<=100000000000 by rw [hsz];omega);have HW0:=HW1;clear HW1;have HW1:=aW (HW0.out.keep ((Below.refl _ W1).drew));have HM0:=HM1;clear HM1;have HM1:=aW (HM0.out.trans (MG.bel (mb:=g) (a:=Zs RA1 n1 rc1) ((Below.refl _ W1).drew)));clear HW0 HM0 hrc1 hrn1 hrr1 HWP;go_upto_region 6 with fail;by_cases h48:48<=cN
     ·have h48i:(48:Int)<=(cN:Int):=by omega
      obtain ⟨d7,hd7⟩:∃ b,decide ((cN:Int)<=57)=b:=⟨_,rfl⟩
      refine wp_region_held_drew (S:=λ _=>True) (by kernel_rfl) trivial (λ hHeld=>?_);refine tA 0 61 (Zp (some ⟨g,0,none⟩)) rfl ?_;refine tA 1 62 (Zp (some ⟨g,0,none⟩)) rfl ?_;refine tA 2 63 (Zp (some ⟨g,0,none⟩)) rfl ?_;refine tA 3 64 (Zp (some ⟨g,0,none⟩)) rfl ?_;refine tA 4 65 (Zp (some ⟨g,0,none⟩)) rfl ?_;refine tA 5 66 (Zp (some ⟨g,0,none⟩)) rfl ?_;refine tA 7 68 (Zt S) rfl ?_;refine tA 9 70 (Zt S) rfl ?_;refine tA 10 71 (Zi .u8 (cN:Int)) rfl ?_;refine tA 11 72 (.bool true) rfl ?_;refine aV 6 67 rfl (λ K hK=>?_);obtain ⟨y0,y1,y2⟩:=HB1.out.rules;go_simp;refine hK.out _ _ trivial (λ hHeld=>?_);clear hK K y0 y1 y2
      try simp only [pU]
      refine aV 8 69 rfl (λ K hK=>?_);rw [if_pos (by kernel_rfl)];refine jn _ (.tmp 67) (.tmp 68) 67 9 rfl (g+1) 5 i0 Tryz.underlying67 Tryz.underlying9 HI.out hz0 hz1 hz2 (Zs RA1 n1 rc1) n1 (am (out'++(if gp=true then [32] else []))) rfl HO1.out.2.1 S rfl (by rw [hsz];unfold maxLen;omega) (by rw [hsz];omega) HO1.out.2.2 ?_;intro row6 w6 hown6 hgr6 hob6;obtain ⟨n6,hn6⟩:∃ q,n1+S.size=q:=⟨_,rfl⟩
      rw [hn6] at hown6;have HN6:=aW hn6;clear hn6;obtain ⟨RA6,rc6,rfl,hrc6,hrn6,hrr6⟩:=bW hown6;have H6:=aW (nN HO1.out HS.out HN6.out hown6 hgr6 hob6);have H6S:=aW (HW1.out.grow H6.out.1 H6.out.2);obtain ⟨y0,y1,y2⟩:=(H6.out.2.blk HW1.out.blk HW1.out.ne).rules;clear hown6 hgr6 hob6 hrc6 hrn6 hrr6;refine hK.out _ _ trivial (λ hHeld=>?_);clear hK K
      try simp only [pU]
      refine tA 12 73 (.bool true) rfl ?_;refine tA 13 74 (Zt S) rfl ?_;refine tA 14 75 (Zi .u8 (cN:Int)) rfl ?_;refine tA 15 76 (.bool d7) rfl ?_;refine tA 16 77 (.bool d7) rfl ?_;refine tA 17 78 (Zp (some ⟨g,0,none⟩)) rfl ?_;refine tA 18 79 (Zp (some ⟨g,0,none⟩)) rfl ?_;refine tA 19 80 (Zp (some ⟨g,0,none⟩)) rfl ?_;refine aU 20 rfl (λ K hK=>?_);go_simp;refine hK.out _ _ trivial (λ hHeld=>?_);clear hK K
      try simp only [pU]
      refine tA 21 81 (Zp (some ⟨g,0,none⟩)) rfl ?_;refine tA 22 82 (Zp (some ⟨g,0,none⟩)) rfl ?_;refine tA 23 83 (Zp (some ⟨g,1,none⟩)) rfl ?_;refine aU 24 rfl (λ K hK=>?_);obtain ⟨W8,hW8⟩:∃ W',w6.setCell ⟨g,0,none⟩ (Zs RA6 n6 rc6)=W':=⟨_,rfl⟩
      rw [hW8] at H6S ⊢;obtain ⟨v0,v1,v2⟩:=H6S.out.1.blk.rules;go_simp;refine hK.out _ _ trivial (λ hHeld=>?_);clear hK K
      try simp only [pU]
      refine aX ?_;have HZ:=aW (H6S.out.1.setNum d7);have HN9:=aW (show a9 c=d7 by unfold a9;rw [HCN.out,← hd7,Bool.eq_iff_iff];simp;omega);obtain ⟨W9,hW9⟩:∃ W',W8.setCell ⟨g,1,none⟩ (.bool d7)=W':=⟨_,rfl⟩
      rw [hW9] at HZ ⊢;clear hW8 hW9 v0 v1 v2 y0 y1 y2;have HST9:=aW (show ((out'++(if gp=true then [32] else []))++(c::sr),d7)=(ss.take (i+1)).foldl bc (out,num) by rw [← HST1.out,HGP.out,← HN9.out,List.append_assoc];rfl);go_wp2;go_roundg (k-(i+1))
      case measure=>have:=HGK.out;omega
      case rel=>exact ⟨i+1,_,_,_,d7,by omega,rfl,by go_num,HST9,aW HZ.out.1,aW ((HMG.out.trans HM1.out).trans (H6S.out.2.trans HZ.out.2)),aW (by rw [← HN6.out];exact HLN9.out)⟩
     ·have h48i:¬ (48:Int)<=(cN:Int):=by omega
      refine wp_region_held_drew (S:=λ _=>True) (by kernel_rfl) trivial (λ hHeld=>?_);refine tA 0 61 (Zp (some ⟨g,0,none⟩)) rfl ?_;refine tA 1 62 (Zp (some ⟨g,0,none⟩)) rfl ?_;refine tA 2 63 (Zp (some ⟨g,0,none⟩)) rfl ?_;refine tA 3 64 (Zp (some ⟨g,0,none⟩)) rfl ?_;refine tA 4 65 (Zp (some ⟨g,0,none⟩)) rfl ?_;refine tA 5 66 (Zp (some ⟨g,0,none⟩)) rfl ?_;refine tA 7 68 (Zt S) rfl ?_;refine tA 9 70 (Zt S) rfl ?_;refine tA 10 71 (Zi .u8 (cN:Int)) rfl ?_;refine tA 11 72 (.bool false) rfl ?_;refine aV 6 67 rfl (λ K hK=>?_);obtain ⟨y0,y1,y2⟩:=HB1.out.rules;go_simp;refine hK.out _ _ trivial (λ hHeld=>?_);clear hK K y0 y1 y2
      try simp only [pU]
      refine aV 8 69 rfl (λ K hK=>?_);rw [if_pos (by kernel_rfl)];refine jn _ (.tmp 67) (.tmp 68) 67 9 rfl (g+1) 5 i0 Tryz.underlying67 Tryz.underlying9 HI.out hz0 hz1 hz2 (Zs RA1 n1 rc1) n1 (am (out'++(if gp=true then [32] else []))) rfl HO1.out.2.1 S rfl (by rw [hsz];unfold maxLen;omega) (by rw [hsz];omega) HO1.out.2.2 ?_;intro row6 w6 hown6 hgr6 hob6;obtain ⟨n6,hn6⟩:∃ q,n1+S.size=q:=⟨_,rfl⟩
      rw [hn6] at hown6;have HN6:=aW hn6;clear hn6;obtain ⟨RA6,rc6,rfl,hrc6,hrn6,hrr6⟩:=bW hown6;have H6:=aW (nN HO1.out HS.out HN6.out hown6 hgr6 hob6);have H6S:=aW (HW1.out.grow H6.out.1 H6.out.2);obtain ⟨y0,y1,y2⟩:=(H6.out.2.blk HW1.out.blk HW1.out.ne).rules;clear hown6 hgr6 hob6 hrc6 hrn6 hrr6;refine hK.out _ _ trivial (λ hHeld=>?_);clear hK K
      try simp only [pU]
      refine tA 12 73 (.bool false) rfl ?_;refine tN 13 74 undef rfl ?_;refine tN 14 75 undef rfl ?_;refine tN 15 76 undef rfl ?_;refine tA 16 77 (.bool false) rfl ?_;refine tA 17 78 (Zp (some ⟨g,0,none⟩)) rfl ?_;refine tA 18 79 (Zp (some ⟨g,0,none⟩)) rfl ?_;refine tA 19 80 (Zp (some ⟨g,0,none⟩)) rfl ?_;refine aU 20 rfl (λ K hK=>?_);go_simp;refine hK.out _ _ trivial (λ hHeld=>?_);clear hK K
      try simp only [pU]
      refine tA 21 81 (Zp (some ⟨g,0,none⟩)) rfl ?_;refine tA 22 82 (Zp (some ⟨g,0,none⟩)) rfl ?_;refine tA 23 83 (Zp (some ⟨g,1,none⟩)) rfl ?_;refine aU 24 rfl (λ K hK=>?_);obtain ⟨W8,hW8⟩:∃ W',w6.setCell ⟨g,0,none⟩ (Zs RA6 n6 rc6)=W':=⟨_,rfl⟩
      rw [hW8] at H6S ⊢;obtain ⟨v0,v1,v2⟩:=H6S.out.1.blk.rules;go_simp;refine hK.out _ _ trivial (λ hHeld=>?_);clear hK K
      try simp only [pU]
      refine aX ?_;have HZ:=aW (H6S.out.1.setNum false);have HN9:=aW (show a9 c=false by unfold a9;rw [HCN.out];simp;try omega);obtain ⟨W9,hW9⟩:∃ W',W8.setCell ⟨g,1,none⟩ (.bool false)=W':=⟨_,rfl⟩
      rw [hW9] at HZ ⊢;clear hW8 hW9 v0 v1 v2 y0 y1 y2;have HST9:=aW (show ((out'++(if gp=true then [32] else []))++(c::sr),false)=(ss.take (i+1)).foldl bc (out,num) by rw [← HST1.out,HGP.out,← HN9.out,List.append_assoc];rfl);go_wp2;go_roundg (k-(i+1))
      case measure=>have:=HGK.out;omega
      case rel=>exact ⟨i+1,_,_,_,false,by omega,rfl,by go_num,HST9,aW HZ.out.1,aW ((HMG.out.trans HM1.out).trans (H6S.out.2.trans HZ.out.2)),aW (by rw [← HN6.out];exact HLN9.out)⟩
  ·obtain rfl:i=k:=by omega
   rw [List.take_of_length_le (Nat.le_of_eq HK.out)] at HST;go_wp2;go_end0;exact ⟨rfl,_,_,by rw [← HST.out];exact HWP.out,HMG.out⟩
end
end Go.Proofs.YtgmnmnnoahdjnaaGreatDoor
