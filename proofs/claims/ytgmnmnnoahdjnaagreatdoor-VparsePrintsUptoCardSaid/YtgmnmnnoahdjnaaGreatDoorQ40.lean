import Derived.Test.YtgmnmnnoahdjnaaGreatDoorQ37
import Derived.Test.YtgmnmnnoahdjnaaGreatDoorQ38
open Go.Value renaming int → Zi, slice → Zs, string → Zt, pointer → Zp
open Go.IntKind renaming i64 → Zq
set_option maxRecDepth 100000
set_option maxHeartbeats 16000000
set_option linter.unusedVariables false
set_option linter.unusedSimpArgs false
namespace Go.Proofs.YtgmnmnnoahdjnaaGreatDoor
section
open Go.RowKit
attribute [local go_sem] aa ac ae ab
theorem vZ (r:Nat) (ih:ia r):ii r (λ k=>1<=k/\k<=15):=by
 intro k v s kids cs f w g row n st hk hW hx hc hd hf hlen;by_cases h1:k=1
 ·exact AM r k v s kids cs f w g row n st h1 hW hx hc hd hf hlen
 by_cases h2:k=2
 ·exact zJ r k v s kids cs f w g row n st h2 hW hx hc hd hf hlen
 by_cases h3:k=3
 ·exact zK r ih k v s kids cs f w g row n st h3 hW hx hc hd hf hlen
 by_cases h4:k=4
 ·exact zI r ih k v s kids cs f w g row n st h4 hW hx hc hd hf hlen
 by_cases h5:k<=7
 ·exact xO r ih k v s kids cs f w g row n st ⟨by omega,h5⟩ hW hx hc hd hf hlen
 by_cases h6:k<=8
 ·exact zH r ih k v s kids cs f w g row n st ⟨by omega,h6⟩ hW hx hc hd hf hlen
 by_cases h7:k<=10
 ·exact zG r ih k v s kids cs f w g row n st ⟨by omega,h7⟩ hW hx hc hd hf hlen
 by_cases h8:k<=13
 ·exact zF r ih k v s kids cs f w g row n st ⟨by omega,h8⟩ hW hx hc hd hf hlen
 by_cases h9:k<=14
 ·exact zE r ih k v s kids cs f w g row n st ⟨by omega,h9⟩ hW hx hc hd hf hlen
 ·exact zD r ih k v s kids cs f w g row n st ⟨by omega,hk.2⟩ hW hx hc hd hf hlen
theorem yE {k:Int} {v:JV} {s:List UInt8} {n:Nat} (h:okX k v s n=true):1<=k/\k<=15:=by
 apply Decidable.byContradiction;intro hn;unfold okX at h;rw [if_neg (by omega)] at h;split at h
 ·cases h
 ·rw [if_neg (by omega),if_neg (by omega),if_neg (by omega),if_neg (by omega),if_neg (by omega)] at h;cases h
theorem zL (r:Nat) (ih:ia r):ia (r+1):=by
 intro x cs f w g row n st hW hx hc hd hf hlen;obtain ⟨k,v,s,kids⟩:=x;have hk:=yE (aR hd).2.1;by_cases hlf:f<=ay k
 ·have e:az f (.mk k v s kids)=bK k v s (bR kids):=if_neg (show ¬ ay k<f by omega);rw [e] at hlen ⊢;exact vZ r ih k v s kids cs f w g row n st hk hW hx hc hd hlf hlen
 have e:az f (.mk k v s kids)=aA [40]::(bK k v s (bR kids)++[aA [41]]):=if_pos (show ay k<f by omega);rw [e] at hlen ⊢;rw [bU,bP];rw [ai,al,ai,bd] at hlen;have h40:(aF (aA [40])).length=1:=rfl;have h41:(aF (aA [41])).length=1:=rfl;have hn:=hW.own.1;subst hn;obtain ⟨k1,n1,s1,A1,na1,ca1,B1,nb1,cb1,A,ca,css,rfl,hv,h1,h2,h3,h4⟩:=hx.out;obtain ⟨S,hS⟩:∃ S:ByteArray,⟨s.toArray⟩=S:=⟨_,rfl⟩
 obtain ⟨nk,hnk⟩:∃ q,kids.length=q:=⟨_,rfl⟩
 rw [hS,hnk] at hx ⊢;have hL1:1<=ay k:=by unfold ay;(repeat' split)<;>omega
 have HH0:=aW ((aH.nil w).push 45 #[Zi Zq k,Zi Zq k1,Zi Zq n1,Zt s1,Zs A1 na1 ca1,Zs B1 nb1 cb1,Zt S,Zs A nk ca] (g:=w.heap.size) rfl);have HLV:=aW (λ W (h:Below w.heap.size w W)=>fs k k1 n1 s1 A1 na1 ca1 B1 nb1 cb1 S A nk ca W (hW.goe.keep h));unfold lC at HLV;obtain ⟨L,hL⟩:∃ L,ay k=L:=⟨_,rfl⟩
 rw [hL] at HLV hlf hL1;have hlt:(L:Int)<(f:Int):=by omega
 have HST:=aW (λ (W3:World) hb=>dx (W1:=w) (W3:=W3) (O:=#[]) (X:=#[Zi Zq k,Zi Zq k1,Zi Zq n1,Zt s1,Zs A1 na1 ca1,Zs B1 nb1 cb1,Zt S,Zs A nk ca]) hW h1 h4 hb);have hp1:=cz st [40];simp only [List.length_cons,List.length_nil] at hp1;have hp2:=aN (bK k v s (bR kids)) (bi st [40]);have HP0:=aW (λ W p (h:Below w.heap.size w W) (hp:p=W.heap.size)=>(iM [40] W p g row st.1.length st.1 st.2 (hW.keep h) hp (by simp) (by simp only [List.length_cons,List.length_nil];omega)));have HE:=aW (λ W row' (hm:MG g row w row' W) (h:WP W g row' (bi st [40]).1.length (bi st [40]).1 (bi st [40]).2)=>vZ r ih k v s kids _ 1 W g row' _ (bi st [40]) hk h (hx.mg hm) hc hd (by omega) (by omega));have HP9:=aW (λ W p row' (h:WP W g row' (aJ (bK k v s (bR kids)) (bi st [40])).1.length (aJ (bK k v s (bR kids)) (bi st [40])).1 (aJ (bK k v s (bR kids)) (bi st [40])).2) (hp:p=W.heap.size)=>iM [41] W p g row' _ _ _ h hp (by simp) (by simp only [List.length_cons,List.length_nil];omega));have HWP:=aW hW;clear hW hx hc hd hv h1 h2 h3 h4 hlen h40 h41 hp1 hp2 hS hnk hL hk e;obtain ⟨c0,f0,l0⟩:=HH0.out.b0.rules;go_enter Tryz.func74,Tryz.ntmps74;go_wp2_with (first
  | (go_at_call 112;refine (HLV.out _ HH0.out.1).mono ?_;rintro e w1 ⟨rfl,hb1⟩)
  | (go_at_call 73;refine (HP9.out _ _ _ hw4 rfl).mono ?_;rintro e w5 ⟨rfl,row5,n5,hw5,hm5⟩)
  | (go_at_call 74;refine (HE.out _ _ hmw hw2).mono ?_;rintro e w4 ⟨rfl,row4,n4,hw4,hm4⟩;have hn4:=hw4.own.1;subst hn4)
  | (go_at_call 73;refine (HP0.out _ _ (HH0.out.1.trans (hb1.mono HH0.out.1.size)) rfl).mono ?_;rintro e w2 ⟨rfl,row2,n2,hw2,hm2⟩;have hn2:=hw2.own.1;subst hn2;have hmw:=(MG.bel (mb:=g) (a:=row) (HH0.out.1.trans (hb1.mono HH0.out.1.size))).trans hm2;obtain ⟨d0,d1,d2⟩:=(hm2.blk (HH0.out.keep hb1).b0 (by have:=HWP.out.blk.lt;omega) (λ e=>by have:=(HWP.out.ge _ e.symm).2;omega)).rules))
 go_end0;exact ⟨rfl,row5,n5,hw5,(hmw.trans hm4).trans hm5⟩
theorem yH:∀ r,ia r
 | 0=>λ x cs f w g row n st _ _ _ hd=>by obtain ⟨k,v,s,kids⟩:=x;exact absurd rfl (aR hd).1
 | r+1=>zL r (yH r)
theorem qy:(Tryz.prog.info? 9).map (λ i=>(i.zero,i.size,i.bytes))=some (some (.string ⟨#[]⟩),1,16):=by kernel_rfl
def dc (base:Nat) (row:Value) (l:List (List UInt8)) (W:World):Prop:=(∃ A ca,row=.slice A l.length ca/\l.length<=ca/\(A=none->ca=0))/\W.ownsRow base 9 1 row l.length (cS l)/\base<=W.heap.size
theorem ur (a b:List (List UInt8)):cS (a++b)=cS a++cS b:=by unfold cS;rw [List.map_append]
theorem kP (l:List (List UInt8)):(cS l).length=l.length:=by unfold cS;rw [List.length_map]
theorem oN (l:List (List UInt8)):∀ u ∈ cS l,u.oneCell'=true:=λ u hu=>by
 unfold cS at hu;obtain ⟨s,_,rfl⟩:=List.mem_map.1 hu;rfl
section
variable {w W W':World} {base:Nat} {row:Value} {l m:List (List UInt8)}
theorem dc.bel (h:dc base row l W) (hb:Below W.heap.size W W'):dc base row l W':=⟨h.1,mQ h.2.1 hb,Nat.le_trans h.2.2 hb.size⟩
theorem dc.low {b:Nat} (h:dc base row l W) (hb:b<=base):dc b row l W :=
 ⟨h.1,⟨h.2.1.1,h.2.1.2.imp id λ ⟨g,cap,cur,e,h1,r⟩=>⟨g,cap,cur,e,Nat.le_trans hb h1,r⟩⟩,Nat.le_trans hb h.2.2⟩
theorem dc.rd (h:dc base row l W):∃ A ca,row=.slice A l.length ca/\(A=none->l.length=0)/\Rd W A (cS l):=by
 obtain ⟨A,ca,rfl,h1,h2⟩:=h.1;obtain ⟨A',ca',e,_,h3⟩:=Rd.of_own h.2.1;injection e with e1 e2 e3
 subst e1;exact ⟨A,ca,rfl,λ e=>by have:=h2 e;omega,h3⟩
theorem dc.nil (W:World):dc W.heap.size (.slice none 0 0) [] W:=⟨⟨none,0,rfl,Nat.le_refl _,λ _=>rfl⟩,World.ownsRow_nil _ _ _ _,Nat.le_refl _⟩
theorem dc.lit (W:World) {b n:Nat} (hb:b<=W.heap.size) (hn:l.length=n) (hn5:n<=5) {o:Obj} (ho:o=.cells (cS l).toArray 9) {p:Nat} (hp:p=W.heap.size):dc b (.slice (some ⟨p,0,none⟩) n n) l (W.alloc o):=by
 subst hn ho hp;have h:=World.ownsRow_lit (base:=b) (size:=1) (e:=9) W (cS l).toArray l.length hb (by unfold maxLen;omega) (by simp [kP]);exact ⟨⟨_,_,rfl,Nat.le_refl _,λ e=>by cases e⟩,by simpa using h,by rw [World.size_alloc];omega⟩
end
theorem yv {w:World} {base:Nat} {row row':Value} {l m:List (List UInt8)} {w':World} (hown:dc base row l w) (h2:w'.ownsRow base 9 1 row' (l.length+m.length) (cS l++cS m)) (h3:w.grownBy w' row.ownBlock):dc base row' (l++m) w'/\Below base w w':=by
 obtain ⟨A,ca,e,h4,h5,_⟩:=cj h2;refine ⟨⟨⟨A,ca,?_,?_,h5⟩,?_,Nat.le_trans hown.2.2 h3.size⟩,(Below.refl base w).grown h3 hown.2.2 λ k e=>(hown.2.1.lt k e).1⟩
 ·rw [List.length_append];exact e
 ·rw [List.length_append];exact h4
 ·rw [List.length_append,ur];exact h2
theorem fG {w:World} {o:Oper} {a:Act} {K:Act->World->Prop} {Q:Exit->Act->World->Prop} (s x:Operand) (ho:o.op=.call { callee:=.builtin .append,args:=#[s,x],argTypes:=#[40,40] }) (hty:o.type=40)
  {base:Nat} {row:Value} {l:List (List UInt8)} (hown:dc base row l w) (hs:a.eval s=row) (m:List (List UInt8)) (A:Option Addr) (n ca:Nat) (hn:n=m.length) (hx:a.eval x=.slice A n ca) (hA:A=none->m.length=0) (hr:Rd w A (cS m)) (hl:l.length+m.length<=100000000000)
  (h:∀ v' w',dc base v' (l++m) w'->Below base w w'->K (a.put o.dst v') w'):o.wp Tryz.prog a w K Q:=by
 subst hn;obtain ⟨i0,hi,hz0,hz1,hz2⟩:=info_parts qy;refine gY w s x 40 ho base 9 i0 _ 1 16 Tryz.underlying40 hi hz0 hz1 hz2 rfl (by decide) row l.length (cS l) hs hown.2.1 A m.length ca hA (cS m) hx (by rw [kP];omega) hr (oN m) (by unfold maxLen;omega) (by omega) hown.2.2 λ v' w' h2 h3 _=>?_
 obtain ⟨h5,h6⟩:=yv hown h2 h3;exact h v' w' h5 h6
theorem cP {w:World} {ops:Array Oper} {rest:List Oper} {o:Oper} {a:Act} {Q:Exit->Act->World->Prop} (hgd:o.guard=none) (s x:Operand) (ho:o.op=.call { callee:=.builtin .append,args:=#[s,x],argTypes:=#[40,40] }) (hty:o.type=40)
  {base:Nat} {row:Value} {l:List (List UInt8)} (hown:dc base row l w) (hs:a.eval s=row) (m:List (List UInt8)) (A:Option Addr) (n ca:Nat) (hn:n=m.length) (hx:a.eval x=.slice A n ca) (hA:A=none->m.length=0) (hr:Rd w A (cS m)) (hl:l.length+m.length<=100000000000)
  (h:∀ v' w',dc base v' (l++m) w'->Below base w w'->wpList Tryz.prog ops Q rest (a.put o.dst v') w'):wpList Tryz.prog ops Q (o::rest) a w :=
 wpList_plain hgd λ _ hK=>fG s x ho hty hown hs m A n ca hn hx hA hr hl λ v' w' h1 h2=>hK _ _ (h v' w' h1 h2)
def jQ (l:List (List UInt8)) (w:World) (e:Ending) (w':World):Prop:=∃ row,e=.returned row/\dc w.heap.size row l w'/\Below w.heap.size w w'
structure TX (w W:World) (t:TypeId) (X:Array Value):Prop where
 bel:Below w.heap.size w W
 blk:Blk W w.heap.size t X
section
variable {w W W':World} {t:TypeId} {X:Array Value}
theorem TX.new (w:World) (t:TypeId) (X:Array Value):TX w (w.alloc (.cells X t)) t X:=⟨(Below.refl _ w).alloc (Nat.le_refl _) _,Blk.new w t X⟩
theorem TX.keep (h:TX w W t X) (hb:Below W.heap.size W W'):TX w W' t X:=⟨h.bel.trans (hb.mono h.bel.size),h.blk.keep hb⟩
theorem TX.up (h:TX w W t X) (hb:Below (w.heap.size+1) W W'):TX w W' t X:=⟨h.bel.trans (hb.mono (Nat.le_succ _)),h.blk.below hb (Nat.lt_succ_self _)⟩
theorem TX.le (h:TX w W t X):w.heap.size+1<=W.heap.size:=h.blk.lt
end
def jJ (r:Nat):Prop:=∀ (x:EJ) (cs:List Value) (f:Nat) (F:Nat->Prop) (w:World),ER w F cs x->bh x->bj r x≠0->f<=9->bt (az f x)<=100000000000 ->
 Calls Tryz.prog 82 #[.agg cs.toArray,.int .i64 (f:Int)] w (jQ ((az f x).map aF) w)
def kU (r:Nat) (P:Int->Prop):Prop:=∀ (k:Int) (v:JV) (s:List UInt8) (kids:List EJ) (cs:List Value) (f:Nat) (F:Nat->Prop) (w:World),P k->ER w F cs (.mk k v s kids)->bh (.mk k v s kids)->bj (r+1) (.mk k v s kids)≠0->f<=ay k->bt (bK k v s (bR kids))<=100000000000 ->
 Calls Tryz.prog 82 #[.agg cs.toArray,.int .i64 (f:Int)] w (jQ ((bK k v s (bR kids)).map aF) w)
theorem dL (l:List LX):(l.map aF).length<=bt l:=by
 induction l with
 | nil=>exact Nat.le_refl _
 | cons x r ih=>rw [List.map_cons,List.length_cons,ai];omega
theorem AS (r:Nat):kU r (λ k=>k=1):=by
 intro k v s kids cs f F w hk hx hc hd hf hlen;subst hk;obtain ⟨k1,n1,s1,A1,na1,ca1,B1,nb1,cb1,A,ca,css,rfl,hv,h1,h2,h3,h4⟩:=hx.out;have hc':=hc;unfold bh at hc';obtain ⟨_,hcv,hsl,hck,hcl⟩:=hc';have hcl:=aK.1 hcl;obtain ⟨_,hok,hdk⟩:=aR hd;have hdk:∀ x ∈ kids,bj r x≠0:=hdk;have hlit:dM v=true:=by
  unfold okX at hok;rw [if_pos rfl] at hok;simp only [Bool.and_eq_true] at hok;exact hok.1
 have hbody:bK 1 v s (bR kids)=[fI v]:=if_pos rfl;rw [hbody] at hlen ⊢;have HSD:=aW (λ (W:World) (h:Below w.heap.size w W)=>AQ v _ F W (hv.bel h) hcv hlit);unfold lS at HSD;obtain ⟨S,hS⟩:∃ S:ByteArray,⟨s.toArray⟩=S:=⟨_,rfl⟩
 rw [hS];have HSS:=aW hS;obtain ⟨nk,hnk⟩:∃ q,kids.length=q:=⟨_,rfl⟩
 rw [hnk];have HNK:=aW hnk;have HT0:=aW (TX.new w 45 #[.int .i64 1,.int .i64 k1,.int .i64 n1,.string s1,.slice A1 na1 ca1,.slice B1 nb1 cb1,.string S,.slice A nk ca]);have HLV:=aW (λ W=>iF 1 W);obtain ⟨L,hL⟩:∃ L,ay 1=L:=⟨_,rfl⟩
 rw [hL] at hf HLV;have HLK:=aW hL;have hlt:¬ (L:Int)<(f:Int):=by omega
 have HLEN:=aW hlen;clear hbody hlit;clear hx hc hd hok hdk hv h1 h4 hcv hcl hS hnk hL hlen hck hsl h2 h3 hf;obtain ⟨c0,f0,l0⟩:=HT0.out.blk.rules;go_enter Tryz.func82,Tryz.ntmps82;go_wp2_with (first
  | (go_at_call 125;refine (HLV.out _).mono ?_;rintro e wl ⟨rfl,hwl⟩;rw [hwl];clear hwl)
  | (go_at_call 126;refine (HSD.out _ HT0.out.bel).mono ?_;rintro e w2 ⟨rfl,hb2⟩))
 go_ret;have hb:=HT0.out.bel.trans (hb2.mono HT0.out.bel.size);exact ⟨_,rfl,dc.lit (l:=[aF (fI v)]) (n:=1) _ hb.size rfl (by decide) rfl (by first | rfl | simp),hb.alloc hb.size _⟩
theorem zR (r:Nat):kU r (λ k=>k=2):=by
 intro k v s kids cs f F w hk hx hc hd hf hlen;subst hk;obtain ⟨k1,n1,s1,A1,na1,ca1,B1,nb1,cb1,A,ca,css,rfl,hv,h1,h2,h3,h4⟩:=hx.out;have hc':=hc;unfold bh at hc';obtain ⟨_,hcv,hsl,hck,hcl⟩:=hc';have hcl:=aK.1 hcl;obtain ⟨_,hok,hdk⟩:=aR hd;have hdk:∀ x ∈ kids,bj r x≠0:=hdk;have hbody:bK 2 v s (bR kids)=[eW s]:=(if_neg (by decide)).trans (if_pos rfl);rw [hbody] at hlen ⊢;obtain ⟨S,hS⟩:∃ S:ByteArray,⟨s.toArray⟩=S:=⟨_,rfl⟩
 rw [hS];have HSS:=aW hS;obtain ⟨nk,hnk⟩:∃ q,kids.length=q:=⟨_,rfl⟩
 rw [hnk];have HNK:=aW hnk;have HT0:=aW (TX.new w 45 #[.int .i64 2,.int .i64 k1,.int .i64 n1,.string s1,.slice A1 na1 ca1,.slice B1 nb1 cb1,.string S,.slice A nk ca]);have HLV:=aW (λ W=>iF 2 W);obtain ⟨L,hL⟩:∃ L,ay 2=L:=⟨_,rfl⟩
 rw [hL] at hf HLV;have HLK:=aW hL;have hlt:¬ (L:Int)<(f:Int):=by omega
 have HLEN:=aW hlen;clear hbody;clear hx hc hd hok hdk hv h1 h4 hcv hcl hS hnk hL hlen hck hsl h2 h3 hf;obtain ⟨c0,f0,l0⟩:=HT0.out.blk.rules;go_enter Tryz.func82,Tryz.ntmps82;go_wp2_with (go_at_call 125;refine (HLV.out _).mono ?_;rintro e wl ⟨rfl,hwl⟩;rw [hwl];clear hwl);go_ret;exact ⟨_,rfl,dc.lit (l:=[s]) (n:=1) (o:=.cells #[.string S] 9) _ HT0.out.bel.size rfl (by decide) (by rw [← HSS.out];rfl) (by first | rfl | simp),HT0.out.bel.alloc HT0.out.bel.size _⟩
theorem zS (r:Nat) (ih:jJ r):kU r (λ k=>k=3):=by
 intro k v s kids cs f F w hk hx hc hd hf hlen;subst hk;obtain ⟨k1,n1,s1,A1,na1,ca1,B1,nb1,cb1,A,ca,css,rfl,hv,h1,h2,h3,h4⟩:=hx.out;have hc':=hc;unfold bh at hc';obtain ⟨_,hcv,hsl,hck,hcl⟩:=hc';have hcl:=aK.1 hcl;obtain ⟨_,hok,hdk⟩:=aR hd;have hdk:∀ x ∈ kids,bj r x≠0:=hdk;have hsne:s≠[]/\kids.length=1:=by
  unfold okX at hok;rw [if_neg (by decide)] at hok;split at hok
  ·cases hok
  ·rw [if_neg (by decide),if_pos rfl] at hok;simp only [Bool.and_eq_true,decide_eq_true_eq] at hok;exact ⟨by rintro rfl;exact absurd hok.1 (by decide),hok.2⟩
 obtain ⟨hsne,hn1⟩:=hsne;obtain ⟨y,hy⟩:∃ y,kids=[y]:=List.length_eq_one_iff.1 hn1;have hbody:bK 3 v s (bR kids)=az 8 y++[aA [46],eW s]:=by rw [hy];exact (if_neg (by decide)).trans ((if_neg (by decide)).trans (if_pos rfl))
 rw [hbody] at hlen ⊢;obtain ⟨b,o,k',k1',n1',s1',A1',na1',ca1',B1',nb1',cb1',s',A2',n2',ca2',rfl,hb,hER,hz⟩:=bW h1 h4 (i:=0) (x:=y) (by rw [hy];rfl);simp only [Nat.zero_mul,Nat.add_zero,Nat.one_mul] at hz;have hly:bt (az 8 y)<=100000000000-2:=by rw [al,ai,ai,bd] at hlen;omega
 have HE:=aW (λ (W:World) (h:Below w.heap.size w W)=>ih y _ 8 F W (hER.bel h) (hcl y (by rw [hy];simp)) (hdk y (by rw [hy];simp)) (by omega) (by omega));obtain ⟨l,hl⟩:∃ l,(az 8 y).map aF=l:=⟨_,rfl⟩
 rw [hl] at HE;have HTT:=aW (show (az 8 y++[aA [46],eW s]).map aF=l++[[46],s] by rw [List.map_append,hl];rfl);have HLL:=aW (show l.length+2<=100000000000 by have:=dL (az 8 y);rw [hl] at this;omega);unfold jQ at HE;obtain ⟨S,hS⟩:∃ S:ByteArray,⟨s.toArray⟩=S:=⟨_,rfl⟩
 rw [hS];have HSS:=aW hS;obtain ⟨nk,hnk⟩:∃ q,kids.length=q:=⟨_,rfl⟩
 rw [hnk];have HNK:=aW hnk;have HT0:=aW (TX.new w 45 #[Zi Zq 3,Zi Zq k1,Zi Zq n1,Zt s1,Zs A1 na1 ca1,Zs B1 nb1 cb1,Zt S,Zs (some ⟨b,o,none⟩) nk ca]);have HLV:=aW (λ W=>iF 3 W);obtain ⟨L,hL⟩:∃ L,ay 3=L:=⟨_,rfl⟩
 rw [hL] at hf HLV;have HLK:=aW hL;have hlt:¬ (L:Int)<(f:Int):=by omega
 have HLEN:=aW hlen;have hnk1:nk=1:=by rw [← HNK.out];exact hn1
 subst hnk1;clear hbody hl hn1 hy hER hly hsne;clear hx hc hd hok hdk hv h1 h4 hcv hcl hS hnk hL hlen hck hsl h2 h3 hf;obtain ⟨c0,f0,l0⟩:=HT0.out.blk.rules;go_enter Tryz.func82,Tryz.ntmps82;go_upto_region 10 with (go_at_call 125;refine (HLV.out _).mono ?_;rintro e wl ⟨rfl,hwl⟩;rw [hwl];clear hwl);refine wp_region_held_drew (S:=λ W'=>TX w W' 45 #[Zi Zq 3,Zi Zq k1,Zi Zq n1,Zt s1,Zs A1 na1 ca1,Zs B1 nb1 cb1,Zt S,Zs (some ⟨b,o,none⟩) 1 ca]) (by kernel_rfl) (by exact ⟨HT0.out.bel.drew,HT0.out.blk.drew⟩) (λ hHeld=>?_);refine ap (λ Z0 hw=>?_);have HT:=aW (show TX w Z0 45 #[Zi Zq 3,Zi Zq k1,Zi Zq n1,Zt s1,Zs A1 na1 ca1,Zs B1 nb1 cb1,Zt S,Zs (some ⟨b,o,none⟩) 1 ca] by rw [hw];exact ⟨HT0.out.bel.drew,HT0.out.blk.drew⟩);clear hw hHeld;have hHeld:=HT.out;refine tA 0 43 (Zp (some ⟨w.heap.size,7,none⟩)) rfl ?_;refine aY 1 44 (Zs (some ⟨b,o,none⟩) 1 ca) rfl ?_ ?_
 ·intro W hSw;obtain ⟨c8,f8,l8⟩:=hSw.blk.rules;go_simp
 refine tA 2 45 (Zp (some ⟨b,o,none⟩)) rfl ?_;refine aY 3 46 (.agg #[Zi Zq k',Zi Zq k1',Zi Zq n1',Zt s1',Zs A1' na1' ca1',Zs B1' nb1' cb1',Zt s',Zs A2' n2' ca2']) rfl ?_ ?_
 ·intro W hSw;obtain ⟨z0,z1,z2,z3,z4,z5,z6,z7⟩:=hz W hSw.bel;go_simp
 refine tA 5 48 (Zp (some ⟨w.heap.size,6,none⟩)) rfl ?_;refine aY 6 49 (Zt S) rfl ?_ ?_
 ·intro W hSw;obtain ⟨c8,f8,l8⟩:=hSw.blk.rules;go_simp
 refine wpAnyH_ready (rs:=[4,7]) (by kernel_rfl) (by simp) ?_;refine AllReadyH.cons (o:=⟨some 47,_,_,_,_,_⟩) rfl (λ K hK=>?_) (AllReadyH.cons (o:=⟨some 50,_,_,_,_,_⟩) rfl (λ K hK=>?_) AllReadyH.nil)
 ·go_simp;refine (HE.out _ HT.out.bel).mono ?_;rintro e Z1 ⟨row,rfl,hrow,hb⟩;have HR:=aW hrow;have HRB:=aW HT.out.le;have HRS:=aW hb.size;have h9:=aW (HT.out.keep hb);clear HT;have HT:=h9;clear h9;clear hb hrow;refine hK.out _ _ (by exact HT.out) (λ hHeld2=>?_);clear hK K hHeld;have hHeld:=hHeld2;clear hHeld2
  try simp only [pU]
  replace hHeld:=HT.out;refine aV 7 50 rfl (λ K hK=>?_);go_simp;have hbA:=(Below.refl _ Z1).alloc (Nat.le_refl _) (.cells #[Zt ⟨#[46]⟩,Zt S] 9);have HA:=aW (Blk.new Z1 9 #[Zt ⟨#[46]⟩,Zt S]);have h9:=aW (HT.out.keep hbA);clear HT;have HT:=h9;clear h9;have h9:=aW (HR.out.bel hbA);clear HR;have HR:=h9;clear h9;clear hbA;refine hK.out _ _ (by exact HT.out) (λ hHeld2=>?_);clear hK K hHeld;have hHeld:=hHeld2;clear hHeld2
  try simp only [pU]
  refine ap (λ Z2 hY=>?_);obtain ⟨b9,hbb⟩:∃ b,Z1.heap.size=b:=⟨_,rfl⟩
  rw [hbb] at HA ⊢;rw [← hY] at HA HT HR;clear hY hbb;replace hHeld:=HT.out;refine aV 8 51 rfl (λ K hK=>?_);rw [if_pos (by kernel_rfl)];refine fG (.tmp 47) (.tmp 50) rfl rfl HR.out rfl ([[46],s]) (some ⟨b9,0,none⟩) 2 2 rfl rfl (λ e=>by cases e) (by have h9:=Rd.of_blk HA.out;rw [← HSS.out] at h9;exact h9) HLL.out ?_;intro row3 Z3 hown hb;have HR9:=aW hown;have ht:=aW (HT.out.up (hb.mono HRB.out));have HB9:=aW (hb.mono HRB.out);clear HT hown hb;have HT:=ht;clear ht;refine hK.out _ _ (by exact HT.out) (λ hHeld2=>?_);clear hK K hHeld;have hHeld:=hHeld2;clear hHeld2
  try simp only [pU]
  replace hHeld:=HT.out;refine tA 9 4 row3 rfl ?_;refine aX ?_;go_wp2;go_ret;exact ⟨_,rfl,by rw [HTT.out];exact HR9.out.low (Nat.le_trans (Nat.le_succ _) HRB.out),HT.out.bel⟩
 ·go_simp;have hbA:=(Below.refl _ Z0).alloc (Nat.le_refl _) (.cells #[Zt ⟨#[46]⟩,Zt S] 9);have HA:=aW (Blk.new Z0 9 #[Zt ⟨#[46]⟩,Zt S]);have h9:=aW (HT.out.keep hbA);clear HT;have HT:=h9;clear h9;clear hbA;refine hK.out _ _ (by exact HT.out) (λ hHeld2=>?_);clear hK K hHeld;have hHeld:=hHeld2;clear hHeld2
  try simp only [pU]
  refine ap (λ Z4 hY=>?_);obtain ⟨b9,hbb⟩:∃ b,Z0.heap.size=b:=⟨_,rfl⟩
  rw [hbb] at HA ⊢;rw [← hY] at HA HT;clear hY hbb;replace hHeld:=HT.out;refine aV 4 47 rfl (λ K hK=>?_);go_simp;refine (HE.out _ HT.out.bel).mono ?_;rintro e Z5 ⟨row,rfl,hrow,hb⟩;have HR:=aW hrow;have HRB:=aW HT.out.le;have HRS:=aW hb.size;have h9:=aW (HT.out.keep hb);clear HT;have HT:=h9;clear h9;have h9:=aW (HA.out.keep hb);clear HA;have HA:=h9;clear h9;clear hb hrow;refine hK.out _ _ (by exact HT.out) (λ hHeld2=>?_);clear hK K hHeld;have hHeld:=hHeld2;clear hHeld2
  try simp only [pU]
  replace hHeld:=HT.out;refine aV 8 51 rfl (λ K hK=>?_);rw [if_pos (by kernel_rfl)];refine fG (.tmp 47) (.tmp 50) rfl rfl HR.out rfl ([[46],s]) (some ⟨b9,0,none⟩) 2 2 rfl rfl (λ e=>by cases e) (by have h9:=Rd.of_blk HA.out;rw [← HSS.out] at h9;exact h9) HLL.out ?_;intro row3 Z3 hown hb;have HR9:=aW hown;have ht:=aW (HT.out.up (hb.mono HRB.out));have HB9:=aW (hb.mono HRB.out);clear HT hown hb;have HT:=ht;clear ht;refine hK.out _ _ (by exact HT.out) (λ hHeld2=>?_);clear hK K hHeld;have hHeld:=hHeld2;clear hHeld2
  try simp only [pU]
  replace hHeld:=HT.out;refine tA 9 4 row3 rfl ?_;refine aX ?_;go_wp2;go_ret;exact ⟨_,rfl,by rw [HTT.out];exact HR9.out.low (Nat.le_trans (Nat.le_succ _) HRB.out),HT.out.bel⟩
theorem dc.rdA {base n ca:Nat} {A:Option Addr} {l:List (List UInt8)} {W:World} (h:dc base (.slice A n ca) l W):n=l.length/\(A=none->l.length=0)/\Rd W A (cS l):=by
 obtain ⟨A',ca',e,h1,h2⟩:=h.rd;injection e with e1 e2 e3
 subst e1;exact ⟨e2,h1,h2⟩
theorem dc.sl {base:Nat} {row:Value} {l:List (List UInt8)} {W:World} (h:dc base row l W):∃ A ca,row=.slice A l.length ca:=by
 obtain ⟨⟨A,ca,e,_⟩,_⟩:=h;exact ⟨A,ca,e⟩
theorem xZ (r:Nat) (ih:jJ r):kU r (λ k=>5<=k/\k<=7):=by
 intro k v s kids cs f F w hk hx hc hd hf hlen;have hkk:=hk;obtain ⟨k1,n1,s1,A1,na1,ca1,B1,nb1,cb1,A,ca,css,rfl,hv,h1,h2,h3,h4⟩:=hx.out;have hc':=hc;unfold bh at hc';obtain ⟨_,hcv,hsl,hck,hcl⟩:=hc';have hcl:=aK.1 hcl;obtain ⟨_,hok,hdk⟩:=aR hd;have hdk:∀ x ∈ kids,bj r x≠0:=hdk;have hn1:kids.length=1:=by
  unfold okX at hok;rw [if_neg (by omega)] at hok;split at hok
  ·cases hok
  ·rw [if_neg (by omega),if_neg (by omega),if_neg (by omega)] at hok
   first
    | (simp only [decide_eq_true_eq] at hok;exact hok.2)
    | (rw [if_pos (by omega)] at hok;simp only [decide_eq_true_eq] at hok;exact hok.2)
    | (rw [if_neg (by omega),if_pos (by omega)] at hok;simp only [decide_eq_true_eq] at hok;exact hok.2)
 obtain ⟨y,hy⟩:∃ y,kids=[y]:=List.length_eq_one_iff.1 hn1;have hbody:bK k v s (bR kids)=opK k::az (ay k) y:=by rw [hy];exact (if_neg (by omega)).trans ((if_neg (by omega)).trans ((if_neg (by omega)).trans (if_neg (by omega))))
 have hL9:ay k<=9:=by unfold ay;(repeat' split)<;>omega
 rw [hbody] at hlen ⊢;obtain ⟨b,o,k',k1',n1',s1',A1',na1',ca1',B1',nb1',cb1',s',A2',n2',ca2',rfl,hb,hER,hz⟩:=bW h1 h4 (i:=0) (x:=y) (by rw [hy];rfl);simp only [Nat.zero_mul,Nat.add_zero,Nat.one_mul] at hz;have hly:bt (az (ay k) y)+1<=100000000000:=by rw [ai] at hlen;omega
 have HE:=aW (λ (W:World) (h:Below w.heap.size w W)=>ih y _ (ay k) F W (hER.bel h) (hcl y (by rw [hy];simp)) (hdk y (by rw [hy];simp)) hL9 (by omega));obtain ⟨l,hl⟩:∃ l,(az (ay k) y).map aF=l:=⟨_,rfl⟩
 rw [hl] at HE;obtain ⟨t,ht⟩:∃ t,aF (opK k)=t:=⟨_,rfl⟩
 have HTT:=aW (show (opK k::az (ay k) y).map aF=[t]++l by rw [List.map_cons,hl,ht];rfl);have HLL:=aW (show ([t]:List (List UInt8)).length+l.length<=100000000000 by have:=dL (az (ay k) y);rw [hl] at this;simp only [List.length_cons,List.length_nil];omega);unfold jQ at HE;have HWD:=aW (λ (W:World)=>wj k W (by omega));rw [ht] at HWD;obtain ⟨wst,hws⟩:∃ wst:ByteArray,⟨t.toArray⟩=wst:=⟨_,rfl⟩
 rw [hws] at HWD;have HWS:=aW hws;have e1:(k == 1)=false:=by rw [beq_eq_false_iff_ne];omega
 have e2:(k == 2)=false:=by rw [beq_eq_false_iff_ne];omega
 have e3:(k == 3)=false:=by rw [beq_eq_false_iff_ne];omega
 have e4:(k == 4)=false:=by rw [beq_eq_false_iff_ne];omega
 obtain ⟨S,hS⟩:∃ S:ByteArray,⟨s.toArray⟩=S:=⟨_,rfl⟩
 rw [hS];have HSS:=aW hS;obtain ⟨nk,hnk⟩:∃ q,kids.length=q:=⟨_,rfl⟩
 rw [hnk];have HNK:=aW hnk;have HT0:=aW (TX.new w 45 #[.int .i64 k,.int .i64 k1,.int .i64 n1,.string s1,.slice A1 na1 ca1,.slice B1 nb1 cb1,.string S,.slice (some ⟨b,o,none⟩) nk ca]);have HLV:=aW (λ W=>iF k W);obtain ⟨L,hL⟩:∃ L,ay k=L:=⟨_,rfl⟩
 rw [hL] at hf HLV;have HLK:=aW hL;have hlt:¬ (L:Int)<(f:Int):=by omega
 have HLEN:=aW hlen;rw [hL] at HE;have hnk1:nk=1:=by rw [← HNK.out];exact hn1
 subst hnk1;clear hbody hl hn1 hy hER hly ht hws hkk hk hL9;clear hx hc hd hok hdk hv h1 h4 hcv hcl hS hnk hL hlen hck hsl h2 h3 hf;obtain ⟨c0,f0,l0⟩:=HT0.out.blk.rules;go_enter Tryz.func82,Tryz.ntmps82;go_upto_region 21 with (go_at_call 125;refine (HLV.out _).mono ?_;rintro e wl ⟨rfl,hwl⟩;rw [hwl];clear hwl);refine wp_region_held_drew (S:=λ W'=>TX w W' 45 #[.int .i64 k,.int .i64 k1,.int .i64 n1,.string s1,.slice A1 na1 ca1,.slice B1 nb1 cb1,.string S,.slice (some ⟨b,o,none⟩) 1 ca]) (by kernel_rfl) (by exact ⟨HT0.out.bel.drew,HT0.out.blk.drew⟩) (λ hHeld=>?_);refine ap (λ Z0 hw=>?_);have HT:=aW (show TX w Z0 45 #[.int .i64 k,.int .i64 k1,.int .i64 n1,.string s1,.slice A1 na1 ca1,.slice B1 nb1 cb1,.string S,.slice (some ⟨b,o,none⟩) 1 ca] by rw [hw];exact ⟨HT0.out.bel.drew,HT0.out.blk.drew⟩);clear hw hHeld;have hHeld:=HT.out;refine tA 0 85 (.pointer (some ⟨w.heap.size,0,none⟩)) rfl ?_;refine aY 1 86 (.int .i64 k) rfl ?_ ?_
 ·intro W hSw;obtain ⟨c8,f8,l8⟩:=hSw.blk.rules;go_simp
 refine tA 4 89 (.pointer (some ⟨w.heap.size,7,none⟩)) rfl ?_;refine aY 5 90 (.slice (some ⟨b,o,none⟩) 1 ca) rfl ?_ ?_
 ·intro W hSw;obtain ⟨c8,f8,l8⟩:=hSw.blk.rules;go_simp
 refine tA 6 91 (.pointer (some ⟨b,o,none⟩)) rfl ?_;refine aY 7 92 (.agg #[.int .i64 k',.int .i64 k1',.int .i64 n1',.string s1',.slice A1' na1' ca1',.slice B1' nb1' cb1',.string s',.slice A2' n2' ca2']) rfl ?_ ?_
 ·intro W hSw;obtain ⟨z0,z1,z2,z3,z4,z5,z6,z7⟩:=hz W hSw.bel;go_simp
 refine tA 8 93 (.int .i64 (L:Int)) rfl ?_;refine aV 2 87 rfl (λ K hK=>?_);go_simp;refine (HWD.out _).mono ?_;rintro e Wn ⟨rfl,hwn⟩;rw [hwn];clear hwn Wn;refine hK.out _ _ (by exact HT.out) (λ hHeld2=>?_);clear hK K hHeld;have hHeld:=hHeld2;clear hHeld2
 try simp only [pU]
 replace hHeld:=HT.out;refine wpAnyH_ready (rs:=[3,9]) (by kernel_rfl) (by simp) ?_;refine AllReadyH.cons (o:=⟨some 88,_,_,_,_,_⟩) rfl (λ K hK=>?_) (AllReadyH.cons (o:=⟨some 94,_,_,_,_,_⟩) rfl (λ K hK=>?_) AllReadyH.nil)
 ·go_simp;have hbA:=(Below.refl _ Z0).alloc (Nat.le_refl _) (.cells #[.string wst] 9);have HA:=aW (Blk.new Z0 9 #[.string wst]);have HO:=aW (dc.lit (l:=[t]) (n:=1) (b:=w.heap.size+1) (o:=.cells #[.string wst] 9) Z0 HT.out.le rfl (by decide) (by rw [← HWS.out];rfl) (p:=Z0.heap.size) rfl);have h9:=aW (HT.out.keep hbA);clear HT;have HT:=h9;clear h9;clear hbA;refine hK.out _ _ (by exact HT.out) (λ hHeld2=>?_);clear hK K hHeld;have hHeld:=hHeld2;clear hHeld2
  try simp only [pU]
  refine ap (λ Z1 hY=>?_);obtain ⟨b9,hbb⟩:∃ b,Z0.heap.size=b:=⟨_,rfl⟩
  rw [hbb] at HA HO ⊢;rw [← hY] at HA HT HO;clear hY hbb;replace hHeld:=HT.out;refine aV 9 94 rfl (λ K hK=>?_);go_simp;refine (HE.out _ HT.out.bel).mono ?_;rintro e Z2 ⟨row,rfl,hrow,hb⟩;obtain ⟨RA,rca,rfl⟩:=hrow.sl;have HR:=aW hrow;have HRB:=aW HT.out.le;have HRS:=aW hb.size;have h9:=aW (HT.out.keep hb);clear HT;have HT:=h9;clear h9;have h9:=aW (HA.out.keep hb);clear HA;have HA:=h9;clear h9;have h9:=aW (HO.out.bel hb);clear HO;have HO:=h9;clear h9;clear hb hrow;refine hK.out _ _ (by exact HT.out) (λ hHeld2=>?_);clear hK K hHeld;have hHeld:=hHeld2;clear hHeld2
  try simp only [pU]
  replace hHeld:=HT.out;refine aV 10 95 rfl (λ K hK=>?_);rw [if_pos (by kernel_rfl)];refine fG (.tmp 88) (.tmp 94) rfl rfl HO.out rfl (l) RA l.length rca rfl rfl HR.out.rdA.2.1 HR.out.rdA.2.2 HLL.out ?_;intro row3 Z3 hown hb;have HR9:=aW hown;have ht:=aW (HT.out.up (hb.mono (Nat.le_refl _)));have HB9:=aW (hb.mono (Nat.le_refl _));clear HT hown hb;have HT:=ht;clear ht;refine hK.out _ _ (by exact HT.out) (λ hHeld2=>?_);clear hK K hHeld;have hHeld:=hHeld2;clear hHeld2
  try simp only [pU]
  replace hHeld:=HT.out;refine tA 11 4 row3 rfl ?_;refine aX ?_;go_wp2;go_ret;exact ⟨_,rfl,by rw [HTT.out];exact HR9.out.low (Nat.le_succ _),HT.out.bel⟩
 ·go_simp;refine (HE.out _ HT.out.bel).mono ?_;rintro e Z4 ⟨row,rfl,hrow,hb⟩;obtain ⟨RA,rca,rfl⟩:=hrow.sl;have HR:=aW hrow;have HRB:=aW HT.out.le;have HRS:=aW hb.size;have h9:=aW (HT.out.keep hb);clear HT;have HT:=h9;clear h9;clear hb hrow;refine hK.out _ _ (by exact HT.out) (λ hHeld2=>?_);clear hK K hHeld;have hHeld:=hHeld2;clear hHeld2
  try simp only [pU]
  replace hHeld:=HT.out;refine aV 3 88 rfl (λ K hK=>?_);go_simp;have hbA:=(Below.refl _ Z4).alloc (Nat.le_refl _) (.cells #[.string wst] 9);have HA:=aW (Blk.new Z4 9 #[.string wst]);have HO:=aW (dc.lit (l:=[t]) (n:=1) (b:=w.heap.size+1) (o:=.cells #[.string wst] 9) Z4 HT.out.le rfl (by decide) (by rw [← HWS.out];rfl) (p:=Z4.heap.size) rfl);have h9:=aW (HT.out.keep hbA);clear HT;have HT:=h9;clear h9;have h9:=aW (HR.out.bel hbA);clear HR;have HR:=h9;clear h9;clear hbA;refine hK.out _ _ (by exact HT.out) (λ hHeld2=>?_);clear hK K hHeld;have hHeld:=hHeld2;clear hHeld2
  try simp only [pU]
  refine ap (λ Z5 hY=>?_);obtain ⟨b9,hbb⟩:∃ b,Z4.heap.size=b:=⟨_,rfl⟩
  rw [hbb] at HA HO ⊢;rw [← hY] at HA HT HO HR;clear hY hbb;replace hHeld:=HT.out;refine aV 10 95 rfl (λ K hK=>?_);rw [if_pos (by kernel_rfl)];refine fG (.tmp 88) (.tmp 94) rfl rfl HO.out rfl (l) RA l.length rca rfl rfl HR.out.rdA.2.1 HR.out.rdA.2.2 HLL.out ?_;intro row3 Z6 hown hb;have HR9:=aW hown;have ht:=aW (HT.out.up (hb.mono (Nat.le_refl _)));have HB9:=aW (hb.mono (Nat.le_refl _));clear HT hown hb;have HT:=ht;clear ht;refine hK.out _ _ (by exact HT.out) (λ hHeld2=>?_);clear hK K hHeld;have hHeld:=hHeld2;clear hHeld2
  try simp only [pU]
  replace hHeld:=HT.out;refine tA 11 4 row3 rfl ?_;refine aX ?_;go_wp2;go_ret;exact ⟨_,rfl,by rw [HTT.out];exact HR9.out.low (Nat.le_succ _),HT.out.bel⟩
end
end Go.Proofs.YtgmnmnnoahdjnaaGreatDoor
