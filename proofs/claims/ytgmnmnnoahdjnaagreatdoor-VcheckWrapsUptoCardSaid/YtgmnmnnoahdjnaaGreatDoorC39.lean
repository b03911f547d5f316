import Derived.Test.YtgmnmnnoahdjnaaGreatDoorC38
open Go.Value renaming int → Zi, slice → Zs, string → Zt, pointer → Zp
open Go.IntKind renaming i64 → Zq
set_option maxRecDepth 100000
set_option maxHeartbeats 16000000
set_option linter.unusedVariables false
set_option linter.unusedSimpArgs false
namespace Go.Proofs.YtgmnmnnoahdjnaaGreatDoor
section
open Go.RowKit
attribute [local go_sem] aa ac ae ab
theorem jq:∀ (l m:List (List LX)),l≠[]->m≠[]->bg (l++m)=bg l++ap [44]::bg m
 | [],_,h,_=>absurd rfl h
 | [a],b::m,_,_=>rfl
 | [_],[],_,h=>absurd rfl h
 |a::b::r,m,_,h=>by
  show a++ap [44]::bg (b::r++m)=_
  rw [jq (b::r) m (by simp) h];show _=(a++ap [44]::bg (b::r))++_
  simp
theorem rE (l:List (List LX)) (a:List LX):bg (l++[a])=if l=[] then a else bg l++ap [44]::a:=by
 by_cases h:l=[]
 ·rw [if_pos h,h];rfl
 ·rw [if_neg h,jq l [a] h (by simp)];rfl
theorem rF (l:List (List LX)) (j:Nat):bT (bg (l.take j))<=bT (bg l):=by
 by_cases h1:l.take j=[]
 ·rw [h1];show 0<=_;omega
 by_cases h2:l.drop j=[]
 ·have h:=List.take_append_drop j l;rw [h2,List.append_nil] at h;rw [h];exact Nat.le_refl _
 ·have h:=jq _ _ h1 h2;rw [List.take_append_drop] at h;rw [h,aG];omega
theorem PS.putG {w W W':World} {g:Nat} {row0 row:Value} {st st':List UInt8 × Bool} {bx bo:Nat} {X O:Array Value} {A:Option Addr} {css:List (List Value)} {kids:List EJ} (h:PS w W g row0 row st bx bo X O A css kids) {e:Ending} (hp:gM g row st' W e W'):e=.returned (.tuple #[])/\∃ row',PS w W' g row0 row' st' bx bo X O A css kids/\MG g row W row' W':=by
 obtain ⟨rfl,row',n',h1,h2⟩:=hp;have hn:=h1.own.1;subst hn;exact ⟨rfl,row',h.step h2 h1,h2⟩
def cK (kids:List EJ) (i:Nat):List LX:=ap [91]::bg ((kids.take i).map (aw 1))
theorem uh {kids:List EJ} {y:EJ} (h:kids[0]? = some y):cK kids (0+1)=cK kids 0++aw 1 y:=by
 unfold cK;rw [List.take_add_one,h];rfl
theorem r5 {kids:List EJ} {i:Nat} {y:EJ} (h:kids[i+1]? = some y):cK kids (i+1+1)=cK kids (i+1)++ap [44]::aw 1 y:=by
 unfold cK;rw [List.take_add_one (i:=i+1),h];show _::bg ((kids.take (i+1)++[y]).map (aw 1))=_
 rw [List.map_append];show _::bg (_++[aw 1 y])=_
 rw [rE,if_neg]
 ·rfl
 ·intro e;have:=congrArg List.length e;have h9:=(List.getElem?_eq_some_iff.1 h).1;simp at this;rw [this] at h9;exact absurd h9 (Nat.not_lt_zero _)
theorem ug (kids:List EJ) (i:Nat):bT (cK kids i)<=bT (ap [91]::bg (kids.map (aw 1))):=by
 unfold cK;rw [aj,aj,List.map_take];have:=rF (kids.map (aw 1)) i;omega
theorem Ab (r:Nat) (ih:jJ r):kS r (λ k=>k=4):=by
 intro k v s kids cs f w g row n st hk hW hx hc hd hf hlen;subst hk;obtain ⟨k1,n1,s1,A1,na1,ca1,B1,nb1,cb1,A,ca,css,rfl,hv,h1,h2,h3,h4⟩:=hx.out;have hc':=hc;unfold cd at hc';obtain ⟨_,hcv,hsl,hck,hcl⟩:=hc';have hcl:=cc.1 hcl;obtain ⟨_,hok,hdk⟩:=cG hd;have hdk:∀ x ∈ kids,bw r x≠0:=hdk;have HCK:=aW hck;have hbody:cI 4 v s (cW kids)=cK kids kids.length++[ap [93]]:=by
  rw [jf];refine ((if_neg (by decide)).trans ((if_neg (by decide)).trans ((if_neg (by decide)).trans (if_pos rfl)))).trans ?_;unfold cK;rw [List.take_length,List.map_map];rfl
 rw [hbody] at hlen ⊢;rw [cx];clear hbody;obtain ⟨S,hS⟩:∃ S:ByteArray,⟨s.toArray⟩=S:=⟨_,rfl⟩
 rw [hS];have HSS:=aW hS;obtain ⟨nk,hnk⟩:∃ q,kids.length=q:=⟨_,rfl⟩
 rw [hnk];have HNK:=aW hnk;have HH0:=aW ((aT.nil w).push 45 #[Zi Zq 4,Zi Zq k1,Zi Zq n1,Zt s1,Zs A1 na1 ca1,Zs B1 nb1 cb1,Zt S,Zs A nk ca] (g:=w.heap.size) rfl);have HLV:=aW (λ W (h:Below w.heap.size w W)=>iq 4 k1 n1 s1 A1 na1 ca1 B1 nb1 cb1 S A nk ca W (hW.goe.keep h));have HOF:=aW (λ W (h:Below w.heap.size w W)=>eOf 4 W (hW.goe.keep h));unfold OfP at HOF;rw [kF (by omega)] at HOF;unfold cT fH at HOF;simp only at HOF;unfold oL at HLV;obtain ⟨L,hL⟩:∃ L,a8 4=L:=⟨_,rfl⟩
 rw [hL] at hf HLV;have HLK:=aW hL;have hlt:¬ (L:Int)<(f:Int):=by omega
 have HST:=aW (λ (W3:World) hb=>eV (W1:=w) (W3:=W3) (X:=#[Zi Zq 4,Zi Zq k1,Zi Zq n1,Zt s1,Zs A1 na1 ca1,Zs B1 nb1 cb1,Zt S,Zs A nk ca]) (O:=#[Zt ⟨#[]⟩,Zi Zq 0,Zi Zq 0]) hW h1 h4 hb);have HKD:=aW (And.intro hcl hdk);have HLEN:=aW hlen;have HOP:=aW trivial;clear hW hx hc hd hok hdk hv h1 h4 hcv hcl hS hnk hL hlen hck hsl h2 h3;obtain ⟨c0,f0,l0⟩:=HH0.out.b0.rules;go_enter Tryz.func74,Tryz.ntmps74;go_upto_block 0 with (first
  | (go_at_call 112;refine (HLV.out _ HH0.out.1).mono ?_;rintro e w1 ⟨rfl,hb1⟩;obtain ⟨c1,f1,l1⟩:=(HH0.out.keep hb1).b0.rules)
  | (go_at_call 113;refine (HOF.out _ (HH0.out.1.trans (hb1.mono HH0.out.1.size))).mono ?_;rintro e w3 ⟨rfl,hb3⟩))
 have HS:=aW (HST.out _ (hb1.trans (hb3.mono hb1.size)));obtain ⟨W4,hW4⟩:∃ W',w3.alloc (.cells #[Zt ⟨#[]⟩,Zi Zq 0,Zi Zq 0] 154)=W':=⟨_,rfl⟩
 rw [hW4] at HS ⊢;obtain ⟨bo,hbo⟩:∃ q,w3.heap.size=q:=⟨_,rfl⟩
 rw [hbo] at HS ⊢;obtain ⟨x0,x1,x2⟩:=HS.out.x.1.rules;obtain ⟨p0,p1,p2⟩:=HS.out.o.1.rules;clear c0 f0 l0 c1 f1 l1 hb1 hb3 HH0 hW4 hbo;rw [HNK.out] at HLEN HCK;have hl1:=HLEN.out;rw [aG,aj,bm] at hl1;have hl2:(ay (ap [93])).length=1:=rfl;have HLI:=aW (show ∀ i,i<=nk->bT (cK kids i)<=bT (cK kids nk) from λ i _=>by
  have h1:=ug kids i;have h2:cK kids nk=ap [91]::bg (kids.map (aw 1)):=by unfold cK;rw [List.take_of_length_le (Nat.le_of_eq HNK.out)]
  rw [h2];exact h1)
 have HLN:=aW (show st.1.length+(bT (cK kids nk)+2)<=100000000000 by omega);have hl0:st.1.length+(1+1)<=100000000000:=by omega
 have HP0:=aW (HS.out.put1 [91] W4.heap.size rfl (by simp) hl0);clear hl1 hl2 hl0;go_wp2_with (go_at_call 73;refine HP0.out.mono ?_;rintro e w5 ⟨rfl,row5,hs5⟩;obtain ⟨v0,v1,v2⟩:=hs5.x.1.rules);have HS5:=aW hs5;clear v0 v1 v2 hs5 x0 x1 x2 p0 p1 p2 HP0;go_loopg [7,8,95] nk (λ gk s7 s8 s95 wr => ∃ (i:Nat) (row':Value),i<=nk/\gk=nk-i/\s95=Zi Zq (i:Int)/\Hid (PS w wr g row row' (aH (cK kids i) st) w.heap.size bo #[Zi Zq 4,Zi Zq k1,Zi Zq n1,Zt s1,Zs A1 na1 ca1,Zs B1 nb1 cb1,Zt S,Zs A nk ca] #[Zt ⟨#[]⟩,Zi Zq 0,Zi Zq 0] A css kids))
 case atStart=>exact ⟨0,row5,Nat.zero_le _,rfl,rfl,HS5⟩
 case round =>
  obtain ⟨i,row1,hik,hgk,rfl,HS1⟩:=hrel;have HGK:=aW hgk;clear hgk HS5;by_cases hlt:i<nk
  ·obtain ⟨y,hy⟩:∃ y,kids[i]? = some y:=⟨_,List.getElem?_eq_getElem (by rw [HNK.out];exact hlt)⟩
   have hym:=List.mem_of_getElem? hy;have HYC:=aW (And.intro (HKD.out.1 y hym) (HKD.out.2 y hym));obtain ⟨b,o,k',k1',n1',s1',A1',na1',ca1',B1',nb1',cb1',s',A2',n2',ca2',rfl,hb,hER,hz⟩:=dv HS1.out.ks HS1.out.rd hy;obtain ⟨z0,z1,z2,z3,z4,z5,z6,z7⟩:=hz _ ah.refl;have hba:=(Below.refl wr.heap.size wr).alloc (Nat.le_refl _) (.cells ([Zi Zq k',Zi Zq k1',Zi Zq n1',Zt s1',Zs A1' na1' ca1',Zs B1' nb1' cb1',Zt s',Zs A2' n2' ca2']).toArray 45);have HS8:=aW (HS1.out.bel hba);have HB8:=aW (And.intro (PB.new HS1.out.wp ([Zi Zq k',Zi Zq k1',Zi Zq n1',Zt s1',Zs A1' na1' ca1',Zs B1' nb1' cb1',Zt s',Zs A2' n2' ca2']).toArray 45) (hER.mg (MG.bel (mb:=g) (a:=row1) hba)));have hfl:=bi (cK kids i) st;have hli:=HLI.out i hik;clear hz hER hym hba;by_cases hi0:i=0
   ·have h0i:¬ (0:Int)<(i:Int):=by omega
    have HT:=aW (show cK kids (i+1)=cK kids i++aw 1 y by rw [hi0] at hy ⊢;exact uh hy);have HI0:=aW hi0;clear hi0;have h9:=HLI.out (i+1) hlt;rw [HT.out,aG] at h9;have hm9:=HLN.out;have HE:=aW (ih y _ 1 _ g row1 _ _ HS8.out.wp HB8.out.2 HYC.out.1 HYC.out.2 (by decide) (by omega));clear h9 hfl hli hy hm9;go_wp2_with (go_at_call 74;refine HE.out.mono ?_;intro e w9 hp;obtain ⟨rfl,row9,hs9,hm9⟩:=HS8.out.putG hp);have HS9:=aW (show PS w w9 g row row9 (aH (cK kids (i+1)) st) w.heap.size bo _ _ _ _ _ by rw [HT.out,cx];exact hs9);go_roundg (nk-(i+1))
    case measure=>have:=HGK.out;omega
    case rel=>exact ⟨i+1,row9,hlt,rfl,by go_num,HS9⟩
   ·have h0i:(0:Int)<(i:Int):=by omega
    have hi9:i<=4194304:=Nat.le_trans hik HCK.out;have HT:=aW (show cK kids (i+1)=cK kids i++ap [44]::aw 1 y by
     obtain ⟨m,rfl⟩:∃ m,i=m+1:=⟨i-1,by omega⟩
     exact r5 hy)
    have h9:=HLI.out (i+1) hlt;rw [HT.out,aG,aj] at h9;have h8:(ay (ap [44])).length=1:=rfl;have hm9:=HLN.out;have hpl:=cU (aH (cK kids (i)) st) [44];simp only [List.length_cons,List.length_nil] at hpl;have HP1:=aW (λ W p (hp:p=W.heap.size) (h:WP W g row1 (aH (cK kids (i)) st).1.length (aH (cK kids (i)) st).1 (aH (cK kids (i)) st).2)=>iM [44] W p g row1 _ _ _ h hp (by simp) (by simp only [List.length_cons,List.length_nil];omega));have HE:=aW (λ W' row' X9 O9 A9 c9 k9 (h:PS w W' g row row' (bc (aH (cK kids (i)) st) [44]) w.heap.size bo X9 O9 A9 c9 k9) (hER:ER W' (PbM g row' W') [Zi Zq k',Zi Zq k1',Zi Zq n1',Zt s1',Zs A1' na1' ca1',Zs B1' nb1' cb1',Zt s',Zs A2' n2' ca2'] y)=>ih y _ 1 W' g row' _ _ h.wp hER HYC.out.1 HYC.out.2 (by decide) (by omega));clear h9 h8 hfl hli hy hpl hm9;go_wp2_with (first
     | (go_at_call 73;refine (HP1.out _ _ (by simp) HS8.out.wp).mono ?_;intro e w6 hp;obtain ⟨rfl,row6,hs6,hm6⟩:=HS8.out.putG hp;have hb6:=HB8.out.1.mg hm6;have HE6:=aW (HE.out _ _ _ _ _ _ _ hs6 (HB8.out.2.mg hm6));obtain ⟨q0,q1,q2⟩:=hb6.1.rules)
     | (go_at_call 74;refine HE6.out.mono ?_;intro e w9 hp;obtain ⟨rfl,row9,hs9,hm9⟩:=hs6.putG hp))
    have HS9:=aW (show PS w w9 g row row9 (aH (cK kids (i+1)) st) w.heap.size bo _ _ _ _ _ by rw [HT.out,cx,cM];exact hs9);go_roundg (nk-(i+1))
    case measure=>have:=HGK.out;omega
    case rel=>exact ⟨i+1,row9,hlt,rfl,by go_num,HS9⟩
  ·obtain rfl:i=nk:=by omega
   have hfl:=bi (cK kids i) st;have hm9:=HLN.out;have HP9:=aW (HS1.out.put1 [93] wr.heap.size rfl (by simp) (by simp only [List.length_cons,List.length_nil];omega));clear hfl hm9;go_wp2_with (go_at_call 73;refine HP9.out.mono ?_;rintro e w6 ⟨rfl,row6,hs6⟩);go_end0;exact hs6.fin
end
end Go.Proofs.YtgmnmnnoahdjnaaGreatDoor
