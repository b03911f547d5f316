import Derived.Test.YtgmnmnnoahdjnaaGreatDoorQ32
import Derived.Test.YtgmnmnnoahdjnaaGreatDoorQ36
import Derived.Test.YtgmnmnnoahdjnaaGreatDoorQ33
open Go.Value renaming int → Zi, slice → Zs, string → Zt, pointer → Zp
open Go.IntKind renaming i64 → Zq
set_option maxRecDepth 100000
set_option maxHeartbeats 16000000
set_option linter.unusedVariables false
set_option linter.unusedSimpArgs false
namespace Go.Proofs.YtgmnmnnoahdjnaaGreatDoor
section
open Go.RowKit
attribute [local go_sem] aa ac ae ab
theorem jt:∀ (l m:List (List LX)),l≠[]->m≠[]->cm (l++m)=cm l++aA [44]::cm m
 | [],_,h,_=>absurd rfl h
 | [a],b::m,_,_=>rfl
 | [_],[],_,h=>absurd rfl h
 |a::b::r,m,_,h=>by
  show a++aA [44]::cm (b::r++m)=_
  rw [jt (b::r) m (by simp) h];show _=(a++aA [44]::cm (b::r))++_
  simp
theorem rB (l:List (List LX)) (a:List LX):cm (l++[a])=if l=[] then a else cm l++aA [44]::a:=by
 by_cases h:l=[]
 ·rw [if_pos h,h];rfl
 ·rw [if_neg h,jt l [a] h (by simp)];rfl
theorem rC (l:List (List LX)) (j:Nat):bt (cm (l.take j))<=bt (cm l):=by
 by_cases h1:l.take j=[]
 ·rw [h1];show 0<=_;omega
 by_cases h2:l.drop j=[]
 ·have h:=List.take_append_drop j l;rw [h2,List.append_nil] at h;rw [h];exact Nat.le_refl _
 ·have h:=jt _ _ h1 h2;rw [List.take_append_drop] at h;rw [h,al];omega
theorem PS.putG {w W W':World} {g:Nat} {row0 row:Value} {st st':List UInt8 × Bool} {bx bo:Nat} {X O:Array Value} {A:Option Addr} {css:List (List Value)} {kids:List EJ} (h:PS w W g row0 row st bx bo X O A css kids) {e:Ending} (hp:gN g row st' W e W'):e=.returned (.tuple #[])/\∃ row',PS w W' g row0 row' st' bx bo X O A css kids/\MG g row W row' W':=by
 obtain ⟨rfl,row',n',h1,h2⟩:=hp;have hn:=h1.own.1;subst hn;exact ⟨rfl,row',h.step h2 h1,h2⟩
def bq (kids:List EJ) (i:Nat):List LX:=aA [91]::cm ((kids.take i).map (az 1))
theorem kG {kids:List EJ} {y:EJ} (h:kids[0]? = some y):bq kids (0+1)=bq kids 0++az 1 y:=by
 unfold bq;rw [List.take_add_one,h];rfl
theorem jz {kids:List EJ} {i:Nat} {y:EJ} (h:kids[i+1]? = some y):bq kids (i+1+1)=bq kids (i+1)++aA [44]::az 1 y:=by
 unfold bq;rw [List.take_add_one (i:=i+1),h];show _::cm ((kids.take (i+1)++[y]).map (az 1))=_
 rw [List.map_append];show _::cm (_++[az 1 y])=_
 rw [rB,if_neg]
 ·rfl
 ·intro e;have:=congrArg List.length e;have h9:=(List.getElem?_eq_some_iff.1 h).1;simp at this;rw [this] at h9;exact absurd h9 (Nat.not_lt_zero _)
theorem kF (kids:List EJ) (i:Nat):bt (bq kids i)<=bt (aA [91]::cm (kids.map (az 1))):=by
 unfold bq;rw [ai,ai,List.map_take];have:=rC (kids.map (az 1)) i;omega
theorem zI (r:Nat) (ih:ia r):ii r (λ k=>k=4):=by
 intro k v s kids cs f w g row n st hk hW hx hc hd hf hlen;subst hk;obtain ⟨k1,n1,s1,A1,na1,ca1,B1,nb1,cb1,A,ca,css,rfl,hv,h1,h2,h3,h4⟩:=hx.out;have hc':=hc;unfold bh at hc';obtain ⟨_,hcv,hsl,hck,hcl⟩:=hc';have hcl:=aK.1 hcl;obtain ⟨_,hok,hdk⟩:=aR hd;have hdk:∀ x ∈ kids,bj r x≠0:=hdk;have HCK:=aW hck;have hbody:bK 4 v s (bR kids)=bq kids kids.length++[aA [93]]:=by
  rw [gH];refine ((if_neg (by decide)).trans ((if_neg (by decide)).trans ((if_neg (by decide)).trans (if_pos rfl)))).trans ?_;unfold bq;rw [List.take_length,List.map_map];rfl
 rw [hbody] at hlen ⊢;rw [bP];clear hbody;obtain ⟨S,hS⟩:∃ S:ByteArray,⟨s.toArray⟩=S:=⟨_,rfl⟩
 rw [hS];have HSS:=aW hS;obtain ⟨nk,hnk⟩:∃ q,kids.length=q:=⟨_,rfl⟩
 rw [hnk];have HNK:=aW hnk;have HH0:=aW ((aH.nil w).push 45 #[Zi Zq 4,Zi Zq k1,Zi Zq n1,Zt s1,Zs A1 na1 ca1,Zs B1 nb1 cb1,Zt S,Zs A nk ca] (g:=w.heap.size) rfl);have HLV:=aW (λ W (h:Below w.heap.size w W)=>fs 4 k1 n1 s1 A1 na1 ca1 B1 nb1 cb1 S A nk ca W (hW.goe.keep h));have HOF:=aW (λ W (h:Below w.heap.size w W)=>eOf 4 W (hW.goe.keep h));unfold OfP at HOF;rw [kK (by omega)] at HOF;unfold cx fJ at HOF;simp only at HOF;unfold lC at HLV;obtain ⟨L,hL⟩:∃ L,ay 4=L:=⟨_,rfl⟩
 rw [hL] at hf HLV;have HLK:=aW hL;have hlt:¬ (L:Int)<(f:Int):=by omega
 have HST:=aW (λ (W3:World) hb=>dx (W1:=w) (W3:=W3) (X:=#[Zi Zq 4,Zi Zq k1,Zi Zq n1,Zt s1,Zs A1 na1 ca1,Zs B1 nb1 cb1,Zt S,Zs A nk ca]) (O:=#[Zt ⟨#[]⟩,Zi Zq 0,Zi Zq 0]) hW h1 h4 hb);have HKD:=aW (And.intro hcl hdk);have HLEN:=aW hlen;have HOP:=aW trivial;clear hW hx hc hd hok hdk hv h1 h4 hcv hcl hS hnk hL hlen hck hsl h2 h3;obtain ⟨c0,f0,l0⟩:=HH0.out.b0.rules;go_enter Tryz.func74,Tryz.ntmps74;go_upto_block 0 with (first
  | (go_at_call 112;refine (HLV.out _ HH0.out.1).mono ?_;rintro e w1 ⟨rfl,hb1⟩;obtain ⟨c1,f1,l1⟩:=(HH0.out.keep hb1).b0.rules)
  | (go_at_call 113;refine (HOF.out _ (HH0.out.1.trans (hb1.mono HH0.out.1.size))).mono ?_;rintro e w3 ⟨rfl,hb3⟩))
 have HS:=aW (HST.out _ (hb1.trans (hb3.mono hb1.size)));obtain ⟨W4,hW4⟩:∃ W',w3.alloc (.cells #[Zt ⟨#[]⟩,Zi Zq 0,Zi Zq 0] 154)=W':=⟨_,rfl⟩
 rw [hW4] at HS ⊢;obtain ⟨bo,hbo⟩:∃ q,w3.heap.size=q:=⟨_,rfl⟩
 rw [hbo] at HS ⊢;obtain ⟨x0,x1,x2⟩:=HS.out.x.1.rules;obtain ⟨p0,p1,p2⟩:=HS.out.o.1.rules;clear c0 f0 l0 c1 f1 l1 hb1 hb3 HH0 hW4 hbo;rw [HNK.out] at HLEN HCK;have hl1:=HLEN.out;rw [al,ai,bd] at hl1;have hl2:(aF (aA [93])).length=1:=rfl;have HLI:=aW (show ∀ i,i<=nk->bt (bq kids i)<=bt (bq kids nk) from λ i _=>by
  have h1:=kF kids i;have h2:bq kids nk=aA [91]::cm (kids.map (az 1)):=by unfold bq;rw [List.take_of_length_le (Nat.le_of_eq HNK.out)]
  rw [h2];exact h1)
 have HLN:=aW (show st.1.length+(bt (bq kids nk)+2)<=100000000000 by omega);have hl0:st.1.length+(1+1)<=100000000000:=by omega
 have HP0:=aW (HS.out.put1 [91] W4.heap.size rfl (by simp) hl0);clear hl1 hl2 hl0;go_wp2_with (go_at_call 73;refine HP0.out.mono ?_;rintro e w5 ⟨rfl,row5,hs5⟩;obtain ⟨v0,v1,v2⟩:=hs5.x.1.rules);have HS5:=aW hs5;clear v0 v1 v2 hs5 x0 x1 x2 p0 p1 p2 HP0;go_loopg [7,8,95] nk (λ gk s7 s8 s95 wr => ∃ (i:Nat) (row':Value),i<=nk/\gk=nk-i/\s95=Zi Zq (i:Int)/\Hid (PS w wr g row row' (aJ (bq kids i) st) w.heap.size bo #[Zi Zq 4,Zi Zq k1,Zi Zq n1,Zt s1,Zs A1 na1 ca1,Zs B1 nb1 cb1,Zt S,Zs A nk ca] #[Zt ⟨#[]⟩,Zi Zq 0,Zi Zq 0] A css kids))
 case atStart=>exact ⟨0,row5,Nat.zero_le _,rfl,rfl,HS5⟩
 case round =>
  obtain ⟨i,row1,hik,hgk,rfl,HS1⟩:=hrel;have HGK:=aW hgk;clear hgk HS5;by_cases hlt:i<nk
  ·obtain ⟨y,hy⟩:∃ y,kids[i]? = some y:=⟨_,List.getElem?_eq_getElem (by rw [HNK.out];exact hlt)⟩
   have hym:=List.mem_of_getElem? hy;have HYC:=aW (And.intro (HKD.out.1 y hym) (HKD.out.2 y hym));obtain ⟨b,o,k',k1',n1',s1',A1',na1',ca1',B1',nb1',cb1',s',A2',n2',ca2',rfl,hb,hER,hz⟩:=br HS1.out.ks HS1.out.rd hy;obtain ⟨z0,z1,z2,z3,z4,z5,z6,z7⟩:=hz _ ah.refl;have hba:=(Below.refl wr.heap.size wr).alloc (Nat.le_refl _) (.cells ([Zi Zq k',Zi Zq k1',Zi Zq n1',Zt s1',Zs A1' na1' ca1',Zs B1' nb1' cb1',Zt s',Zs A2' n2' ca2']).toArray 45);have HS8:=aW (HS1.out.bel hba);have HB8:=aW (And.intro (PB.new HS1.out.wp ([Zi Zq k',Zi Zq k1',Zi Zq n1',Zt s1',Zs A1' na1' ca1',Zs B1' nb1' cb1',Zt s',Zs A2' n2' ca2']).toArray 45) (hER.mg (MG.bel (mb:=g) (a:=row1) hba)));have hfl:=aN (bq kids i) st;have hli:=HLI.out i hik;clear hz hER hym hba;by_cases hi0:i=0
   ·have h0i:¬ (0:Int)<(i:Int):=by omega
    have HT:=aW (show bq kids (i+1)=bq kids i++az 1 y by rw [hi0] at hy ⊢;exact kG hy);have HI0:=aW hi0;clear hi0;have h9:=HLI.out (i+1) hlt;rw [HT.out,al] at h9;have hm9:=HLN.out;have HE:=aW (ih y _ 1 _ g row1 _ _ HS8.out.wp HB8.out.2 HYC.out.1 HYC.out.2 (by decide) (by omega));clear h9 hfl hli hy hm9;go_wp2_with (go_at_call 74;refine HE.out.mono ?_;intro e w9 hp;obtain ⟨rfl,row9,hs9,hm9⟩:=HS8.out.putG hp);have HS9:=aW (show PS w w9 g row row9 (aJ (bq kids (i+1)) st) w.heap.size bo _ _ _ _ _ by rw [HT.out,bP];exact hs9);go_roundg (nk-(i+1))
    case measure=>have:=HGK.out;omega
    case rel=>exact ⟨i+1,row9,hlt,rfl,by go_num,HS9⟩
   ·have h0i:(0:Int)<(i:Int):=by omega
    have hi9:i<=4194304:=Nat.le_trans hik HCK.out;have HT:=aW (show bq kids (i+1)=bq kids i++aA [44]::az 1 y by
     obtain ⟨m,rfl⟩:∃ m,i=m+1:=⟨i-1,by omega⟩
     exact jz hy)
    have h9:=HLI.out (i+1) hlt;rw [HT.out,al,ai] at h9;have h8:(aF (aA [44])).length=1:=rfl;have hm9:=HLN.out;have hpl:=cz (aJ (bq kids (i)) st) [44];simp only [List.length_cons,List.length_nil] at hpl;have HP1:=aW (λ W p (hp:p=W.heap.size) (h:WP W g row1 (aJ (bq kids (i)) st).1.length (aJ (bq kids (i)) st).1 (aJ (bq kids (i)) st).2)=>iM [44] W p g row1 _ _ _ h hp (by simp) (by simp only [List.length_cons,List.length_nil];omega));have HE:=aW (λ W' row' X9 O9 A9 c9 k9 (h:PS w W' g row row' (bi (aJ (bq kids (i)) st) [44]) w.heap.size bo X9 O9 A9 c9 k9) (hER:ER W' (PbM g row' W') [Zi Zq k',Zi Zq k1',Zi Zq n1',Zt s1',Zs A1' na1' ca1',Zs B1' nb1' cb1',Zt s',Zs A2' n2' ca2'] y)=>ih y _ 1 W' g row' _ _ h.wp hER HYC.out.1 HYC.out.2 (by decide) (by omega));clear h9 h8 hfl hli hy hpl hm9;go_wp2_with (first
     | (go_at_call 73;refine (HP1.out _ _ (by simp) HS8.out.wp).mono ?_;intro e w6 hp;obtain ⟨rfl,row6,hs6,hm6⟩:=HS8.out.putG hp;have hb6:=HB8.out.1.mg hm6;have HE6:=aW (HE.out _ _ _ _ _ _ _ hs6 (HB8.out.2.mg hm6));obtain ⟨q0,q1,q2⟩:=hb6.1.rules)
     | (go_at_call 74;refine HE6.out.mono ?_;intro e w9 hp;obtain ⟨rfl,row9,hs9,hm9⟩:=hs6.putG hp))
    have HS9:=aW (show PS w w9 g row row9 (aJ (bq kids (i+1)) st) w.heap.size bo _ _ _ _ _ by rw [HT.out,bP,bU];exact hs9);go_roundg (nk-(i+1))
    case measure=>have:=HGK.out;omega
    case rel=>exact ⟨i+1,row9,hlt,rfl,by go_num,HS9⟩
  ·obtain rfl:i=nk:=by omega
   have hfl:=aN (bq kids i) st;have hm9:=HLN.out;have HP9:=aW (HS1.out.put1 [93] wr.heap.size rfl (by simp) (by simp only [List.length_cons,List.length_nil];omega));clear hfl hm9;go_wp2_with (go_at_call 73;refine HP9.out.mono ?_;rintro e w6 ⟨rfl,row6,hs6⟩);go_end0;exact hs6.fin
end
section
open Go.RowKit
theorem lX:∀ (r:Nat) (x:EJ),bh x->bh (dR r x)
 |0,.mk k v s kids,h=>by
  unfold bh at h;unfold dR bh;exact ⟨h.1,h.2.1,by rw [List.length_take];omega,by simp,trivial⟩
 |r+1,.mk k v s kids,h=>by
  unfold bh at h;unfold dR bh;refine ⟨h.1,h.2.1,by rw [List.length_take];omega,by simp;omega,aK.2 λ x hx=>?_⟩;obtain ⟨y,hy,rfl⟩:=List.mem_map.1 hx;exact lX r y (aK.1 h.2.2.2.2 y (List.mem_of_mem_take hy))
theorem nt:∀ (r:Nat) (x:EJ),fE (dR r x)<=fE x
 |0,.mk k v s kids=>by
  unfold dR fE;rw [List.length_take];show _+cZ []<=_
  unfold cZ;omega
 |r+1,.mk k v s kids=>by
  unfold dR fE;rw [List.length_take];have h1:=ra (f:=dR r) (kids.take 6) λ y _=>nt r y
  have h2:=np 6 kids;omega
theorem mh (r:Nat) (l:List SJ):(dJ r l).length<=5:=by
 cases r with
 | zero=>simp [dJ]
 | succ r=>simp [dJ];omega
theorem lY:∀ (r:Nat) (l:List SJ),a9 l->a9 (dJ r l)
 | 0,l,h=>trivial
 |r+1,l,h=>cM.2 λ x hx=>by
  unfold dJ at hx;obtain ⟨y,hy,rfl⟩:=List.mem_map.1 hx;have h1:=cM.1 h y (List.mem_of_mem_take hy);obtain ⟨k,s,a,b,body,els⟩:=y;unfold fX at h1;obtain ⟨g1,g2,g3,g4,g5,g6,g7,g8⟩:=h1;unfold fO fX;have e1:=mh r body;have e2:=mh r els;exact ⟨g1,by rw [List.length_take];omega,lX 14 a g3,lX 14 b g4,by omega,by omega,lY r body g7,lY r els g8⟩
theorem nu:∀ (r:Nat) (l:List SJ),cq (dJ r l)<=cq l
 | 0,l=>by unfold dJ;exact Nat.zero_le _
 |r+1,l=>by
  unfold dJ;have h1:=re (f:=fO (dJ r)) (l.take 5) λ y _=>by
   obtain ⟨k,s,a,b,body,els⟩:=y;unfold fO ig;have e1:=nt 14 a;have e2:=nt 14 b;have e3:=nu r body;have e4:=nu r els;rw [List.length_take];omega
  have h2:=ns 5 l;omega
def wV (l:List SJ) (F:Nat->Prop) (w:World) (e:Ending) (w':World):Prop:=∃ (A:Option Addr) (n ca:Nat) (css:List (List Value)),e=.returned (.agg #[Zs A n ca])/\n=l.length/\n<=ca/\(A=none->ca=0)/\SRs w' (FN F w) css l/\RdF w' (FN F w) A css.flatten/\Below w.heap.size w w'
theorem AD (F:Nat->Prop) (l:List SJ) (A:Option Addr) (n ca:Nat) (css:List (List Value)) (w:World) (hF:∀ b,F b->b<w.heap.size) (hS:SRs w F css l) (hR:RdF w F A css.flatten) (hln:l.length=n) (hnc:n<=ca) (hC:a9 l) (hn:n<=4194304) :
  Calls Tryz.prog 15 #[.agg #[Zs A n ca]] w (wV (dJ 14 l) F w):=by
 have HC:=aW (λ (W:World) (hb:Below w.heap.size w W)=>xB F 14 l A n ca css 14 W rfl (λ b h=>Nat.lt_of_lt_of_le (hF b h) hb.size) (RR.imp hS λ c x hc=>hc.bel hb) (hR.keep (ah.of_below hb)) hln hnc hC hn (Nat.le_refl _));have HH0:=aW (((aH.nil w).push 24 #[Zs A n ca] (g:=w.heap.size) rfl).push 24 #[Zs none 0 0] (g:=w.heap.size+1) (by simp));have hF0:=hF;clear hF hS hR hln hC;go_enter Tryz.func15,Tryz.ntmps15;go_wp2_with fail;refine (HC.out _ HH0.out.1).mono ?_;rintro e w1 ⟨A1,n1,ca1,css1,rfl,h1,h2,h3,h4,h5,h6⟩;have HH1:=aW (HH0.out.keep h6);have hsz:w.heap.size+1<w1.heap.size:=HH1.out.b0.lt;have HX:=aW (show wV (dJ 14 l) F w (.returned (.agg #[Zs A1 n1 ca1])) (w1.setCell ⟨w.heap.size+1,0,none⟩ (Zs A1 n1 ca1)) from
  ⟨A1,n1,ca1,css1,rfl,h1,h2,h3,(RR.imp h4 λ c x hc=>(hc.keep (ah.set ah.refl (λ b hb=>by
   rcases hb with hb | hb
   ·exact Nat.ne_of_lt (Nat.lt_succ_of_lt (hF0 b hb))
   ·simp at hb;omega) 0 _)).mono λ b _ hb=>hb.imp id λ hb=>by simp at hb;omega),(h5.keep (ah.set ah.refl (λ b hb=>by
   rcases hb with hb | hb
   ·exact Nat.ne_of_lt (Nat.lt_succ_of_lt (hF0 b hb))
   ·simp at hb;omega) 0 _)).mono λ b _ hb=>hb.imp id λ hb=>by simp at hb;omega,HH1.out.1.setCell (p:=⟨w.heap.size+1,0,none⟩) (Nat.le_succ _) _⟩)
 obtain ⟨c0,f0,l0⟩:=HH1.out.b0.rules;clear h1 h2 h3 h4 h5 h6;go_wp2;refine bodyPost_ret (v:=.agg #[Zs A1 n1 ca1]) (by simp only [results,Tryz.results15];go_simp) rfl ?_;exact HX.out
end
section
open Go.RowKit
attribute [local go_sem] aa ac ae ab
theorem iF (k:Int) (w:World):Calls Tryz.prog 125 #[Zi Zq k] w λ e w'=>e=.returned (Zi Zq (ay k))/\w'=w:=by
 by_cases h15:k=15
 ·subst h15;go_enter Tryz.func125,Tryz.ntmps125;go_wp2;go_ret;exact ⟨rfl,rfl⟩
 by_cases h14:k=14
 ·subst h14;go_enter Tryz.func125,Tryz.ntmps125;go_wp2;go_ret;exact ⟨rfl,rfl⟩
 by_cases h5:k=5
 ·subst h5;go_enter Tryz.func125,Tryz.ntmps125;go_wp2;go_ret;exact ⟨rfl,rfl⟩
 by_cases h11:k=11
 ·subst h11;go_enter Tryz.func125,Tryz.ntmps125;go_wp2;go_ret;exact ⟨rfl,rfl⟩
 by_cases h12:k=12
 ·subst h12;go_enter Tryz.func125,Tryz.ntmps125;go_wp2;go_ret;exact ⟨rfl,rfl⟩
 by_cases h13:k=13
 ·subst h13;go_enter Tryz.func125,Tryz.ntmps125;go_wp2;go_ret;exact ⟨rfl,rfl⟩
 by_cases h9:k=9
 ·subst h9;go_enter Tryz.func125,Tryz.ntmps125;go_wp2;go_ret;exact ⟨rfl,rfl⟩
 by_cases h10:k=10
 ·subst h10;go_enter Tryz.func125,Tryz.ntmps125;go_wp2;go_ret;exact ⟨rfl,rfl⟩
 by_cases h8:k=8
 ·subst h8;go_enter Tryz.func125,Tryz.ntmps125;go_wp2;go_ret;exact ⟨rfl,rfl⟩
 by_cases h6:k=6
 ·subst h6;go_enter Tryz.func125,Tryz.ntmps125;go_wp2;go_ret;exact ⟨rfl,rfl⟩
 by_cases h7:k=7
 ·subst h7;go_enter Tryz.func125,Tryz.ntmps125;go_wp2;go_ret;exact ⟨rfl,rfl⟩
 by_cases h3:k=3
 ·subst h3;go_enter Tryz.func125,Tryz.ntmps125;go_wp2;go_ret;exact ⟨rfl,rfl⟩
 have HL:=aW (show (ay k:Int)=9 by unfold ay;(repeat' split)<;>omega);have e15:(k == 15)=false:=by simp [h15]
 have e14:(k == 14)=false:=by simp [h14]
 have e5:(k == 5)=false:=by simp [h5]
 have e11:(k == 11)=false:=by simp [h11]
 have e12:(k == 12)=false:=by simp [h12]
 have e13:(k == 13)=false:=by simp [h13]
 have e9:(k == 9)=false:=by simp [h9]
 have e10:(k == 10)=false:=by simp [h10]
 have e8:(k == 8)=false:=by simp [h8]
 have e6:(k == 6)=false:=by simp [h6]
 have e7:(k == 7)=false:=by simp [h7]
 have e3:(k == 3)=false:=by simp [h3]
 go_enter Tryz.func125,Tryz.ntmps125;go_wp2;go_ret;exact ⟨by rw [HL.out];rfl,rfl⟩
theorem wj (k:Int) (w:World) (hk:5<=k/\k<=15):Calls Tryz.prog 127 #[Zi Zq k] w λ e w'=>e=.returned (Zt ⟨(aF (opK k)).toArray⟩)/\w'=w:=by
 rcases (by omega:k=15∨k=14∨k=5∨k=11∨k=12∨k=13∨k=9∨k=10∨k=8∨k=6∨k=7) with rfl | rfl | rfl | rfl | rfl | rfl | rfl | rfl | rfl | rfl | rfl
 all_goals
  go_enter Tryz.func127,Tryz.ntmps127;go_wp2;go_ret;exact ⟨rfl,rfl⟩
theorem tm (c:UInt8) (w:World):Calls Tryz.prog 48 #[Zi .u8 c.toNat] w λ e w'=>e=.returned (.bool (bE c))/\w'=w:=by
 have hc:=c.toNat_lt;obtain ⟨n,hn⟩:∃ n,c.toNat=n:=⟨_,rfl⟩
 have HB:=aW (show bE c=(decide (97<=n/\n<=122) || decide (48<=n/\n<=57)) by unfold bE aL bc;rw [hn]);rw [hn] at hc ⊢;clear hn;by_cases h1:48<=n
 ·by_cases h2:n<=57
  ·have HT:=aW (show bE c=true by rw [HB.out];simp;omega);go_enter Tryz.func48,Tryz.ntmps48;go_wp2;go_ret;exact ⟨am (by rw [HT.out]),rfl⟩
  ·by_cases h3:97<=n
   ·by_cases h4:n<=122
    ·have HT:=aW (show bE c=true by rw [HB.out];simp;omega);go_enter Tryz.func48,Tryz.ntmps48;go_wp2;go_ret;exact ⟨am (by rw [HT.out];try (simp;omega)),rfl⟩
    ·have HT:=aW (show bE c=false by rw [HB.out];simp;omega);go_enter Tryz.func48,Tryz.ntmps48;go_wp2;go_ret;exact ⟨am (by rw [HT.out];try (simp;omega)),rfl⟩
   ·have HT:=aW (show bE c=false by rw [HB.out];simp;omega);go_enter Tryz.func48,Tryz.ntmps48;go_wp2;go_ret;exact ⟨am (by rw [HT.out];try (simp;omega)),rfl⟩
 ·have h3:¬ 97<=n:=by omega
  have HT:=aW (show bE c=false by rw [HB.out];simp;omega);go_enter Tryz.func48,Tryz.ntmps48;go_wp2;go_ret;exact ⟨am (by rw [HT.out];try (simp;omega)),rfl⟩
theorem AQ (v:JV) (cs:List Value) (F:Nat->Prop) (w:World) (hv:VR w F cs v) (hc:cW v) (hl:dM v=true) :
  Calls Tryz.prog 126 #[.agg cs.toArray] w (lS (aF (fI v)) w):=by
 obtain ⟨k,m,s,kids,keys⟩:=v;obtain ⟨A,B,ca,cb,css,rfl,_⟩:=VR.out hv;obtain ⟨_,him,hsl,_⟩:=hc.out;have hp:=ou hl;obtain ⟨nk,hnk⟩:∃ q,kids.length=q:=⟨_,rfl⟩
 obtain ⟨nq,hnq⟩:∃ q,keys.length=q:=⟨_,rfl⟩
 rw [hnk,hnq];have HH0:=aW ((aH.nil w).push 42 #[Zi Zq k,Zi Zq m,Zt ⟨s.toArray⟩,Zs A nk ca,Zs B nq cb] (g:=w.heap.size) rfl);clear hv hc hl hnk hnq;obtain ⟨c0,f0,l0⟩:=HH0.out.b0.rules;unfold lS;rcases hp with rfl | ⟨rfl,htx⟩ | rfl | ⟨rfl,hn⟩
 ·have HT:=aW (show aF (fI (.mk 3 m s kids keys))=cQ m from rfl);rw [HT.out];have HIM:=aW him;clear him;unfold iw at HIM;go_enter Tryz.func126,Tryz.ntmps126;go_wp2_with (go_at_call 164;refine (Bt m HIM.out _).mono ?_;unfold lS;rintro e w2 ⟨rfl,hb2⟩);go_ret;exact ⟨rfl,HH0.out.1.trans (hb2.mono HH0.out.1.size)⟩
 ·have HT:=aW (show aF (fI (.mk 4 m s kids keys))=jB s from rfl);rw [HT.out];obtain ⟨hcp,hs⟩:=lz htx;obtain ⟨S,hS⟩:∃ S:ByteArray,(⟨s.toArray⟩:ByteArray)=S:=⟨_,rfl⟩
  have HSS:=aW hS;rw [hS] at HH0 ⊢;obtain ⟨W0,hW0⟩:∃ W',w.alloc (.cells #[Zi Zq 4,Zi Zq m,Zt S,Zs A nk ca,Zs B nq cb] 42)=W':=⟨_,rfl⟩
  rw [hW0] at HH0;have HW0:=aW hW0;have hHW:=HH0.out;obtain ⟨cap,W1,hcv,hcap,hb1,_,hr1⟩:=fq (P:=Tryz.prog) W0 9 67 5 S Tryz.underlying9 Tryz.underlying67 Tryz.underlying5;have hSs:sl S=s:=by rw [← hS]
  have hSn:S.size=s.length:=by rw [← hSs,cA]
  rw [hSs] at hr1;rw [hSn] at hcv hcap;have hcn:(eb s).length<=s.length:=mf _ _;have HP:=aW (Bu (Zs (some ⟨W0.heap.size,0,none⟩) s.length cap) (eb s) W1 hcp (by rw [← hs];exact ⟨_,_,rfl,hcap,hr1⟩) (by rw [← hs];exact hsl));have HQ:=aW (λ A cap W hcap hr=>xR A (eb s).length cap (eb s) W rfl hcap hr hcp (Nat.le_trans hcn hsl));have HB1:=aW hb1;obtain ⟨n,hn⟩:∃ n,s.length=n:=⟨_,rfl⟩
  obtain ⟨mm,hm⟩:∃ m,(eb s).length=m:=⟨_,rfl⟩
  rw [hn] at HP hcv;rw [hm] at HQ;have HM:=aW hm;have HQT:=aW (show jB s=34::(eb s).flatMap aE++[34] from rfl);clear hcp hs hSs hSn hr1 hcap hcn hn hm htx hsl HH0 c0 f0 l0 hW0 hS;go_enter Tryz.func126,Tryz.ntmps126;go_upto_region 10 with fail;rw [HW0.out];have hk0:=hHW.b0;obtain ⟨c0,f0,l0⟩:=hk0.rules;have HHW:=aW hHW.1;clear hHW hk0;go_wp2_with fail;refine (HP.out).mono ?_;rintro e w2 ⟨⟨A2,c2,rfl,hc2,hr2⟩,hb2⟩;rw [HM.out] at hc2 ⊢;have HR2:=aW hr2;have HC2:=aW hc2;have HB2:=aW hb2;clear hc2 hr2 hb2 hcv;go_wp2_with fail;refine (HQ.out A2 c2 w2 HC2.out HR2.out).mono ?_;rintro e w3 ⟨rfl,hb3⟩;go_wp2;go_ret;exact ⟨by rw [HQT.out];rfl,HHW.out.trans ((HB1.out.trans (HB2.out.mono HB1.out.size)).trans (hb3.mono (HB1.out.trans (HB2.out.mono HB1.out.size)).size) |>.mono HHW.out.size)⟩
 ·go_enter Tryz.func126,Tryz.ntmps126;go_wp2;go_ret;exact ⟨rfl,HH0.out.1⟩
 ·rcases hn with rfl | rfl
  ·go_enter Tryz.func126,Tryz.ntmps126;go_wp2;go_ret;exact ⟨rfl,HH0.out.1⟩
  ·go_enter Tryz.func126,Tryz.ntmps126;go_wp2;go_ret;exact ⟨rfl,HH0.out.1⟩
end
end Go.Proofs.YtgmnmnnoahdjnaaGreatDoor
