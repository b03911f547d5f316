import Derived.Test.YtgmnmnnoahdjnaaGreatDoorC36
open Go.Value renaming int → Zi, slice → Zs, string → Zt, pointer → Zp
open Go.IntKind renaming i64 → Zq
set_option maxRecDepth 100000
set_option maxHeartbeats 16000000
set_option linter.unusedVariables false
set_option linter.unusedSimpArgs false
namespace Go.Proofs.YtgmnmnnoahdjnaaGreatDoor
section
open Go.RowKit Go.Shelf
attribute [local go_sem] aa ac ae ab Oper.semAt_some
attribute [local go_sem] ew ev
def loX (B:Nat):GoX Nat:={ g:=loG,ob:=some B,Sx:=λ st W=>Blk W B 3 #[Zi Zq (st:Int)]/\st<=8388608,ms:=λ _=>0,f1:=66,f2:=67,b1:=#[],b2:=#[Zp (some ⟨B,0,none⟩)] }
theorem ja {B:Nat} {W:World} {t:TypeId} {x:Int} (h:Blk W B t #[Zi Zq x]) {k:Nat} (ho:bh (some B) W k):k=B:=by
 obtain ⟨b,e,h1 | ⟨v,h1,h2⟩⟩:=ho
 ·injection e with e;rw [h1,e]
 ·injection e with e
  subst e;rw [h.cell 0] at h1;simp at h1;subst h1;simp [Value.ownBlock] at h2
theorem vH {B:Nat} {W:World} {t:TypeId} {x y:Int} (h:Blk W B t #[Zi Zq x]):FrO (some B) W (W.setCell ⟨B,0,none⟩ (Zi Zq y)):=by
 have h2:=h.set_ 0 (Zi Zq y);refine ⟨rfl,rfl,rfl,by simp,λ k hk hn=>Below.heap_setCell W ⟨B,0,none⟩ _ k (λ e=>hn ⟨B,rfl,.inl e⟩),λ k hk=>.inl ⟨B,rfl,.inl (ja (t:=t) (x:=y) ?_ hk)⟩⟩;simpa using h2
theorem zP (B:Nat):(loX B).Ok:=by
 refine ⟨⟨λ st A C hk h=>⟨hk.blk h.1,h.2⟩,λ st A k h ho=>?_⟩,λ _ _ _ _ _=>Nat.zero_le _,λ _ _ _ _ _=>Nat.zero_le _,?_,?_,enters_of Tryz.func66 (by kernel_rfl) rfl,enters_of Tryz.func67 (by kernel_rfl) rfl⟩
 ·have hb:Blk A B 3 _:=h.1;rw [ja hb ho];exact ⟨_,hb,rfl⟩
 ·intro m st t bd A n ca W hS _ _ _ _;have HS:=aW hS;clear hS;show CallsIn fb m Tryz.prog 66 #[Zt ⟨t.toArray⟩,Zs A n ca] W _
  refine callsIn_of_wp Tryz.func66 rfl (aI (by kernel_rfl)) ?_ rfl;simp only [Tryz.ntmps66,List.size_toArray,List.length_cons,List.length_nil,Nat.reduceAdd,Nat.reduceSub,Array.replicate_succ,Array.replicate_zero,List.push_toArray,List.append_toArray,List.nil_append,List.cons_append];gi_wp2;go_end0;exact ⟨.refl _ _,rfl,HS.out⟩
 ·intro m st t bd A n ca W hS _ hl hn _;have HS:=aW hS;have hmx:∀ (a b:Int),max a b=if a<=b then b else a:=λ a b=>Int.max_def a b
  obtain ⟨c0,f0,l0⟩:=(show Blk W B 3 #[Zi Zq (st:Int)] from hS.1).rules;have hst:st<=8388608:=hS.2;have HF:=aW (λ y=>vH (y:=y) (show Blk W B 3 #[Zi Zq (st:Int)] from hS.1));have HB:=aW (λ y:Int=>(show Blk W B 3 #[Zi Zq (st:Int)] from hS.1).set_ 0 (Zi Zq y));clear hS;show CallsIn fb m Tryz.prog 67 #[Zt ⟨t.toArray⟩,Zs A n ca,Zp (some ⟨B,0,none⟩)] W _
  have HL:=aW (show (loX B).g.lp st t bd=.ok (max st (n+1)) by rw [← hl];rfl);clear hl;refine callsIn_of_wp Tryz.func67 rfl (aI (by kernel_rfl)) ?_ rfl;simp only [Tryz.ntmps67,List.size_toArray,List.length_cons,List.length_nil,Nat.reduceAdd,Nat.reduceSub,Array.replicate_succ,Array.replicate_zero,List.push_toArray,List.append_toArray,List.nil_append,List.cons_append];by_cases hc:(st:Int)<=(n:Int)+1
  ·have hc2:¬ (n:Int)+1<(st:Int):=by omega
   have hc3:((max st (n+1):Nat):Int)=(n:Int)+1:=by omega
   have HC3:=aW hc3;clear hc3;gi_wp2;go_end0;refine ⟨HF.out _,?_⟩;rw [HL.out];refine ⟨rfl,?_,by omega⟩;have:=HB.out ((n:Int)+1);show Blk _ B 3 #[Zi Zq ((max st (n+1):Nat):Int)]
   rw [HC3.out];simpa using this
  ·have hc2:(n:Int)+1<(st:Int):=by omega
   have hc3:((max st (n+1):Nat):Int)=(st:Int):=by omega
   have HC3:=aW hc3;clear hc3;gi_wp2;go_end0;refine ⟨HF.out _,?_⟩;rw [HL.out];refine ⟨rfl,?_,by omega⟩;have:=HB.out (st:Int);show Blk _ B 3 #[Zi Zq ((max st (n+1):Nat):Int)]
   rw [HC3.out];simpa using this
theorem FrO.belowN {ob:Option Nat} {A C:World} {N:Nat} (h:FrO ob A C) (hN:N<=A.heap.size) (ho:∀ k,bh ob A k->N<=k):Below N A C :=
 ⟨h.os,h.tape,h.output,h.size,λ k hk=>h.block k (Nat.lt_of_lt_of_le hk hN) λ h'=>by have:=ho k h';omega⟩
theorem tD {w W:World} {F:Nat->Prop} {ob:Option Nat} {css:List (List Value)} {l:List SJ} (h:SRs w F css l) (hb:Below w.heap.size w W) (ho:∀ k,bh ob W k->w.heap.size<=k):SRs W (λ b=>¬ bh ob W b) css l :=
 RR.imp h λ c x hc=>((hc.mono (F':=λ b=>b<w.heap.size) λ b hb _=>hb).bel hb).mono λ b _ hb h'=>by have:=ho b h';omega
theorem tv {w W:World} {F:Nat->Prop} {ob:Option Nat} {A:Option Addr} {xs:List Value} (h:RdF w F A xs) (hb:Below w.heap.size w W) (ho:∀ k,bh ob W k->w.heap.size<=k):RdF W (λ b=>¬ bh ob W b) A xs :=
 ((h.mono (F':=λ b=>b<w.heap.size) λ b hb _=>hb).keep (ah.of_below hb)).mono λ b _ hb h'=>by have:=ho b h';omega
theorem wg (l:List SJ):gvL loG [] l 0=.ok (fd l):=by
 unfold fd;rw [gV];rfl
def sQ (l:List SJ) (w:World) (e:Ending) (w':World):Prop:=e=.returned (.tuple #[Zi Zq ((if fG l=true then fd l else 0:Nat):Int),Zi Zq (eq l)])/\Below w.heap.size w w'
theorem xP (l:List SJ) (css:List (List Value)) (A:Option Addr) (n ca:Nat) (F:Nat->Prop) (w:World) (hG:GOE w) (hS:SRs w F css l) (hln:l.length=n) (hnc:n<=ca) (hR:RdF w F A css.flatten) (hC:aK l) (hs:aA l<4194304) :
  Calls Tryz.prog 30 #[.agg #[Zs A n ca]] w (sQ l w):=by
 have hmf:∀ (fn:Fn) (first cap:Array Value) (w:World),(Instr.makeFunc fn first cap).run Tryz.prog w=.ok (.func fn first cap) w:=λ _ _ _ _=>rfl
 have hn4:n<=4194304:=by have:=fx l;omega
 have HM:=aW (λ (W:World) (h:Below w.heap.size w W)=>lX l css A n ca F W (hG.keep h) (RR.imp hS λ c x hc=>hc.bel h) hln hnc (hR.keep (ah.of_below h)) hC hn4);have HST:=aW (λ (W:World) (B gb:Nat) (h:Below w.heap.size w W) (hB:w.heap.size<=B) (hgB:gb≠B) (hbk:Blk W B 3 #[Zi Zq 0]) (hgb:Blk W gb 95 #[.func (.func 66) #[] #[],.func (.func 67) #[] #[Zp (some ⟨B,0,none⟩)]]) =>
  jt (lE (zP B) (aA l+1) l [] css A n ca none 0 0 (0:Nat) W gb (Nat.lt_succ_self _) (tD hS h λ k hk=>by rw [ja hbk hk];exact hB) hln hnc (tv hR h λ k hk=>by rw [ja hbk hk];exact hB) rfl (by omega) (Nat.le_refl _) (.inl ⟨rfl,rfl⟩) RdF.nil hgb (λ hk=>hgB (ja hbk hk)) ⟨hbk,Nat.zero_le _⟩ (by show 0+aA l<=_;omega)))
 have HH0:=aW ((aT.nil w).push 24 #[Zs A n ca] (g:=w.heap.size) rfl);clear hG hS hln hnc hR hC hs;cases hm:fG l
 ·have hq:eq l=332:=by unfold eq;rw [hm];rfl
  rw [hq] at HM;have HL:=aW (show ∀ W,Below w.heap.size w W->sQ l w (.returned (.tuple #[Zi Zq 0,Zi Zq 332])) W from λ W h=>⟨by rw [hm,hq];rfl,h⟩);clear hq hm;go_enter Tryz.func30,Tryz.ntmps30;go_wp2_with fail;refine (HM.out _ HH0.out.1).mono ?_;rintro e w1 ⟨rfl,hb1⟩;have HH1:=aW (HH0.out.keep hb1);clear hb1;go_wp2;refine bodyPost_ret (v:=.tuple #[Zi Zq 0,Zi Zq 332]) (by simp only [results,Tryz.results30];go_simp) rfl ?_;exact HL.out _ HH1.out.1
 ·have hq:eq l=0:=by unfold eq;rw [hm];rfl
  rw [hq] at HM;have HL:=aW (show ∀ W,Below w.heap.size w W->sQ l w (.returned (.tuple #[Zi Zq (fd l:Nat),Zi Zq 0])) W from λ W h=>⟨by rw [hm,hq];rfl,h⟩);clear hq hm;go_enter Tryz.func30,Tryz.ntmps30;go_wp2_with fail;refine (HM.out _ HH0.out.1).mono ?_;rintro e w1 ⟨rfl,hb1⟩;have HH1:=aW (HH0.out.keep hb1);clear hb1;obtain ⟨B,hB⟩:∃ B,w1.heap.size=B:=⟨_,rfl⟩
  obtain ⟨W2,hW2⟩:∃ W2,(w1.alloc (.cells #[Zi Zq 0] 3)).alloc (.cells #[.func (.func 66) #[] #[],.func (.func 67) #[] #[Zp (some ⟨B,0,none⟩)]] 95)=W2:=⟨_,rfl⟩
  have hb2:Below w1.heap.size w1 W2:=by rw [← hW2];exact ((Below.refl _ _).alloc (Nat.le_refl _) _).alloc (by simp) _
  have hbk:Blk W2 B 3 #[Zi Zq 0]:=by rw [← hW2,← hB];exact (Blk.new _ _ _).alloc _
  have hgb:Blk W2 (B+1) 95 #[.func (.func 66) #[] #[],.func (.func 67) #[] #[Zp (some ⟨B,0,none⟩)]]:=by
   have h9:=Blk.new (w1.alloc (.cells #[Zi Zq 0] 3)) 95 #[.func (.func 66) #[] #[],.func (.func 67) #[] #[Zp (some ⟨B,0,none⟩)]];rw [World.size_alloc,hB] at h9;rw [← hW2];exact h9
  have HH2:=aW (HH1.out.keep hb2);have hBw:w.heap.size<=B:=by rw [← hB];exact HH1.out.1.size
  have HC:=aW (HST.out W2 B (B+1) HH2.out.1 hBw (by omega) hbk hgb);have HOB:=aW (λ k (hk:bh (some B) W2 k)=>show w.heap.size<=k by rw [ja hbk hk];exact hBw);have HW2:=aW hW2;have HBB:=aW hB;obtain ⟨c0,f0,l0⟩:=HH1.out.b0.rules;clear hW2 hb2 hbk hgb hB;go_upto_region 6 with fail;rw [HBB.out,HW2.out];clear c0 f0 l0;obtain ⟨c0,f0,l0⟩:=HH2.out.b0.rules;go_wp2_with fail;refine HC.out.mono ?_;rintro e w3 ⟨hf,hc⟩;rw [show gvL (loX B).g [] l 0=.ok (fd l) from wg l] at hc;obtain ⟨rfl,hk,_⟩:=hc;have hbe:Below w.heap.size w w3:=HH2.out.1.trans (FrO.belowN hf HH2.out.1.size HOB.out);have HE:=aW hbe;obtain ⟨d0,d1,d2⟩:=(show Blk w3 B 3 #[Zi Zq (fd l:Nat)] from hk).rules;clear c0 f0 l0 hf hk hbe;go_wp2;refine bodyPost_ret (v:=.tuple #[Zi Zq (fd l:Nat),Zi Zq 0]) (by simp only [results,Tryz.results30];go_simp) rfl ?_;exact HL.out _ HE.out
end
section
open Go.RowKit
attribute [local go_sem] aa ac ae ab
def aH (l:List LX) (st:List UInt8 × Bool):List UInt8 × Bool:=(l.map ay).foldl bc st
theorem cx (l m:List LX) (st:List UInt8 × Bool):aH (l++m) st=aH m (aH l st):=by unfold aH;rw [List.map_append,List.foldl_append]
theorem cM (x:LX) (l:List LX) (st:List UInt8 × Bool):aH (x::l) st=aH l (bc st (ay x)):=rfl
theorem bi (l:List LX) (st:List UInt8 × Bool):(aH l st).1.length<=st.1.length+bT l:=qT l st
def PB (w:World) (g:Nat) (row:Value) (b:Nat) (t:TypeId) (cs:Array Value):Prop:=Blk w b t cs/\PbM g row w b
theorem PB.mg {w w':World} {g b:Nat} {row row':Value} {t:TypeId} {cs:Array Value} (h:PB w g row b t cs) (hg:MG g row w row' w'):PB w' g row' b t cs:=⟨hg.blk h.1 h.2.2.1 h.2.2.2,hg.pb h.2⟩
theorem PB.new {W:World} {g n:Nat} {row:Value} {out:List UInt8} {num:Bool} (hW:WP W g row n out num) (cs:Array Value) (t:TypeId):PB (W.alloc (.cells cs t)) g row W.heap.size t cs:=⟨Blk.new W t cs,pp hW _⟩
structure PS (w W:World) (g:Nat) (row0 row:Value) (st:List UInt8 × Bool) (bx bo:Nat) (X O:Array Value) (A:Option Addr) (css:List (List Value)) (kids:List EJ):Prop where
 wp:WP W g row st.1.length st.1 st.2
 mg:MG g row0 w row W
 x:PB W g row bx 45 X
 o:PB W g row bo 154 O
 ks:ERs W (PbM g row W) css kids
 rd:RdF W (PbM g row W) A css.flatten
section
variable {w W W':World} {g:Nat} {row0 row row':Value} {st st':List UInt8 × Bool} {bx bo:Nat} {X O:Array Value} {A:Option Addr} {css:List (List Value)} {kids:List EJ}
theorem PS.step (h:PS w W g row0 row st bx bo X O A css kids) (hg:MG g row W row' W') (hw:WP W' g row' st'.1.length st'.1 st'.2):PS w W' g row0 row' st' bx bo X O A css kids :=
 ⟨hw,h.mg.trans hg,h.x.mg hg,h.o.mg hg,RR.imp h.ks λ c y hc=>hc.mg hg,h.rd.mg hg⟩
theorem PS.bel (h:PS w W g row0 row st bx bo X O A css kids) (hb:Below W.heap.size W W'):PS w W' g row0 row st bx bo X O A css kids:=h.step (MG.bel hb) (h.wp.keep hb)
theorem PS.put (h:PS w W g row0 row st bx bo X O A css kids) {e:Ending} (hp:gM g row st' W e W'):e=.returned (.tuple #[])/\∃ row',PS w W' g row0 row' st' bx bo X O A css kids:=by
 obtain ⟨rfl,row',n',h1,h2⟩:=hp;have hn:=h1.own.1;subst hn;exact ⟨rfl,row',h.step h2 h1⟩
theorem PS.fin (h:PS w W g row0 row st bx bo X O A css kids):gM g row0 st w (.returned (.tuple #[])) W:=⟨rfl,row,_,h.wp,h.mg⟩
theorem PS.put1 (h:PS w W g row0 row st bx bo X O A css kids) (s:List UInt8) (p:Nat) (hp:p=W.heap.size) (hs:s≠[]) (hl:st.1.length+(s.length+1)<=100000000000) :
  Calls Tryz.prog 73 #[Zp (some ⟨g,0,none⟩),Zs (some ⟨p,0,none⟩) 1 1] (W.alloc (.cells #[Zt ⟨s.toArray⟩] 9)) (λ e W'=>e=.returned (.tuple #[])/\∃ row',PS w W' g row0 row' (bc st s) bx bo X O A css kids) :=
 (iM s W p g row _ st.1 st.2 h.wp hp hs hl).mono λ e W' hq=>h.put hq
theorem PS.put2 (h:PS w W g row0 row st bx bo X O A css kids) (s t:List UInt8) (p:Nat) (hp:p=W.heap.size) (hs:s≠[]) (ht:t≠[]) (hl:st.1.length+((s.length+1)+(t.length+1))<=100000000000) :
  Calls Tryz.prog 73 #[Zp (some ⟨g,0,none⟩),Zs (some ⟨p,0,none⟩) 2 2] (W.alloc (.cells #[Zt ⟨s.toArray⟩,Zt ⟨t.toArray⟩] 9)) (λ e W'=>e=.returned (.tuple #[])/\∃ row',PS w W' g row0 row' (bc (bc st s) t) bx bo X O A css kids) :=
 (Av s t W p g row _ st.1 st.2 h.wp hp hs ht hl).mono λ e W' hq=>h.put hq
end
theorem dv {W:World} {g:Nat} {row:Value} {css:List (List Value)} {xs:List EJ} {A:Option Addr} (h:ERs W (PbM g row W) css xs) (hr:RdF W (PbM g row W) A css.flatten) {i:Nat} {x:EJ} (hx:xs[i]? = some x) :
  ∃ (b o:Nat) (k k1 n1:Int) (s1:ByteArray) (A1:Option Addr) (na1 ca1:Nat) (B1:Option Addr) (nb1 cb1:Nat) (s:ByteArray) (A2:Option Addr) (n2 ca2:Nat),A=some ⟨b,o,none⟩/\b<W.heap.size /\
   ER W (PbM g row W) [Zi Zq k,Zi Zq k1,Zi Zq n1,Zt s1,Zs A1 na1 ca1,Zs B1 nb1 cb1,Zt s,Zs A2 n2 ca2] x /\
   ∀ W',ah (PbM g row W) W W'->W'.cell? ⟨b,o+i*8,none⟩=some (Zi Zq k)/\W'.cell? ⟨b,o+i*8+1,none⟩=some (Zi Zq k1)/\W'.cell? ⟨b,o+i*8+2,none⟩=some (Zi Zq n1)/\W'.cell? ⟨b,o+i*8+3,none⟩=some (Zt s1) /\
    W'.cell? ⟨b,o+i*8+4,none⟩=some (Zs A1 na1 ca1)/\W'.cell? ⟨b,o+i*8+5,none⟩=some (Zs B1 nb1 cb1)/\W'.cell? ⟨b,o+i*8+6,none⟩=some (Zt s)/\W'.cell? ⟨b,o+i*8+7,none⟩=some (Zs A2 n2 ca2):=by
 obtain ⟨b,o,c,rfl,hb,hF,hc,hv,hz⟩:=h.cell (λ c x h=>h.len) (by decide) hr hx;obtain ⟨k,k1,n1,s1,A1,na1,ca1,B1,nb1,cb1,s,A2,n2,ca2,rfl⟩:=hv.form;refine ⟨b,o,k,k1,n1,s1,A1,na1,ca1,B1,nb1,cb1,s,A2,n2,ca2,rfl,hb,hv,λ W' hW=>?_⟩;have z:=λ (j:Nat) u (hj:j<8) hu=>(show W'.cell? ⟨b,o+(i*8+j),none⟩=W.cell? ⟨b,o+(i*8+j),none⟩ from World.cell?_of_block (hW.2 b hF hb)).trans (hz j u hj hu)
 exact ⟨z 0 _ (by decide) rfl,z 1 _ (by decide) rfl,z 2 _ (by decide) rfl,z 3 _ (by decide) rfl,z 4 _ (by decide) rfl,z 5 _ (by decide) rfl,z 6 _ (by decide) rfl,z 7 _ (by decide) rfl⟩
theorem PS.putM {w W W':World} {g:Nat} {row0 row:Value} {st st':List UInt8 × Bool} {bx bo:Nat} {X O:Array Value} {A:Option Addr} {css:List (List Value)} {kids:List EJ} (h:PS w W g row0 row st bx bo X O A css kids) {e:Ending} (hp:gM g row st' W e W'):e=.returned (.tuple #[])/\∃ row',PS w W' g row0 row' st' bx bo X O A css kids/\ah (PbM g row W) W W':=by
 obtain ⟨rfl,row',n',h1,h2⟩:=hp;have hn:=h1.own.1;subst hn;exact ⟨rfl,row',h.step h2 h1,h2.keepF⟩
def jJ (r:Nat):Prop:=∀ (x:EJ) (cs:List Value) (f:Nat) (w:World) (g:Nat) (row:Value) (n:Nat) (st:List UInt8 × Bool),WP w g row n st.1 st.2->ER w (PbM g row w) cs x->cd x->bw r x≠0->f<=9->st.1.length+bT (aw f x)<=100000000000 ->
 Calls Tryz.prog 74 #[Zp (some ⟨g,0,none⟩),.agg cs.toArray,Zi Zq (f:Int)] w (gM g row (aH (aw f x) st) w)
def kS (r:Nat) (P:Int->Prop):Prop:=∀ (k:Int) (v:JV) (s:List UInt8) (kids:List EJ) (cs:List Value) (f:Nat) (w:World) (g:Nat) (row:Value) (n:Nat) (st:List UInt8 × Bool),P k->WP w g row n st.1 st.2->ER w (PbM g row w) cs (.mk k v s kids)->cd (.mk k v s kids)->bw (r+1) (.mk k v s kids)≠0->f<=a8 k->st.1.length+bT (cI k v s (cW kids))<=100000000000 ->
 Calls Tryz.prog 74 #[Zp (some ⟨g,0,none⟩),.agg cs.toArray,Zi Zq (f:Int)] w (gM g row (aH (cI k v s (cW kids)) st) w)
theorem eV {w W1 W3:World} {g:Nat} {row:Value} {n:Nat} {st:List UInt8 × Bool} {X O:Array Value} {A:Option Addr} {css:List (List Value)} {kids:List EJ} (hW:WP w g row n st.1 st.2) (h1:ERs w (PbM g row w) css kids) (h4:RdF w (PbM g row w) A css.flatten)
  (hb:Below (w.alloc (.cells X 45)).heap.size (w.alloc (.cells X 45)) W3):PS w (W3.alloc (.cells O 154)) g row row st w.heap.size W3.heap.size X O A css kids:=by
 have hn:=hW.own.1;subst hn;have ha:=(Below.refl w.heap.size w).alloc (Nat.le_refl _) (.cells X 45);have hm:=MG.bel (mb:=g) (a:=row) ha;have hm3:=MG.bel (mb:=g) (a:=row) hb;have hw3:=(hW.keep ha).keep hb;have hm4:=MG.bel (mb:=g) (a:=row) ((Below.refl W3.heap.size W3).alloc (Nat.le_refl _) (.cells O 154));have hmm:=(hm.trans hm3).trans hm4;exact ⟨hw3.keep ((Below.refl W3.heap.size W3).alloc (Nat.le_refl _) _),hmm,((PB.new hW X _).mg hm3).mg hm4,PB.new hw3 O _,RR.imp h1 λ c y hc=>hc.mg hmm,h4.mg hmm⟩
theorem Bb (r:Nat):kS r (λ k=>k=1):=by
 intro k v s kids cs f w g row n st hk hW hx hc hd hf hlen;subst hk;obtain ⟨k1,n1,s1,A1,na1,ca1,B1,nb1,cb1,A,ca,css,rfl,hv,h1,h2,h3,h4⟩:=hx.out;have hc':=hc;unfold cd at hc';obtain ⟨_,hcv,hsl,hck,hcl⟩:=hc';have hok:=(cG hd).2.1;have hlit:fR v=true:=by
  unfold okX at hok;rw [if_pos rfl] at hok;simp only [Bool.and_eq_true] at hok;exact hok.1
 have hbody:cI 1 v s (cW kids)=[gU v]:=if_pos rfl;rw [hbody] at hlen ⊢;obtain ⟨nk,hnk⟩:∃ q,kids.length=q:=⟨_,rfl⟩
 rw [hnk];have HH0:=aW ((aT.nil w).push 45 #[Zi Zq 1,Zi Zq k1,Zi Zq n1,Zt s1,Zs A1 na1 ca1,Zs B1 nb1 cb1,Zt ⟨s.toArray⟩,Zs A nk ca] (g:=w.heap.size) rfl);have HLV:=aW (λ W (h:Below w.heap.size w W)=>iq 1 k1 n1 s1 A1 na1 ca1 B1 nb1 cb1 ⟨s.toArray⟩ A nk ca W (hW.goe.keep h));have HOF:=aW (λ W (h:Below w.heap.size w W)=>eOf 1 W (hW.goe.keep h));unfold OfP at HOF;rw [kF (by omega)] at HOF;unfold cT fH at HOF;simp only at HOF;unfold oL at HLV;have HST:=aW (λ (W3:World) hb=>eV (W1:=w) (W3:=W3) (X:=#[Zi Zq 1,Zi Zq k1,Zi Zq n1,Zt s1,Zs A1 na1 ca1,Zs B1 nb1 cb1,Zt ⟨s.toArray⟩,Zs A nk ca]) (O:=#[Zt ⟨#[]⟩,Zi Zq 0,Zi Zq 0]) hW h1 h4 hb);have HVL:=aW (And.intro hv (And.intro hcv hlit));have HLEN:=aW hlen;obtain ⟨L,hL⟩:∃ L,a8 1=L:=⟨_,rfl⟩
 rw [hL] at hf HLV;have hlt:¬ (L:Int)<(f:Int):=by omega
 clear hW hx hc hd hok hlit hv h1 h4 hcv hcl hnk hL hlen hbody hck hsl h2 h3;obtain ⟨c0,f0,l0⟩:=HH0.out.b0.rules;go_enter Tryz.func74,Tryz.ntmps74;go_upto_block 0 with (first
  | (go_at_call 112;refine (HLV.out _ HH0.out.1).mono ?_;rintro e w1 ⟨rfl,hb1⟩;obtain ⟨c1,f1,l1⟩:=(HH0.out.keep hb1).b0.rules)
  | (go_at_call 113;refine (HOF.out _ (HH0.out.1.trans (hb1.mono HH0.out.1.size))).mono ?_;rintro e w3 ⟨rfl,hb3⟩))
 have HS:=aW (HST.out _ (hb1.trans (hb3.mono hb1.size)));obtain ⟨W4,hW4⟩:∃ W',w3.alloc (.cells #[Zt ⟨#[]⟩,Zi Zq 0,Zi Zq 0] 154)=W':=⟨_,rfl⟩
 rw [hW4] at HS;have HL2:=aW (Bu v _ _ W4 g row _ st.1 st.2 HS.out.wp (HVL.out.1.mg HS.out.mg) HVL.out.2.1 HVL.out.2.2 (by have:=HLEN.out;rw [aj,bm] at this;omega));obtain ⟨x0,x1,x2⟩:=HS.out.x.1.rules;clear c0 f0 l0 c1 f1 l1 hb1 hb3 HH0;go_wp2_with (go_at_call 114;refine HL2.out.mono ?_;intro e w5 hp;obtain ⟨rfl,row5,hs5⟩:=HS.out.put hp);go_end0;exact hs5.fin
theorem Ac (r:Nat):kS r (λ k=>k=2):=by
 intro k v s kids cs f w g row n st hk hW hx hc hd hf hlen;subst hk;obtain ⟨k1,n1,s1,A1,na1,ca1,B1,nb1,cb1,A,ca,css,rfl,hv,h1,h2,h3,h4⟩:=hx.out;have hc':=hc;unfold cd at hc';obtain ⟨_,hcv,hsl,hck,hcl⟩:=hc';have hcl:=cc.1 hcl;obtain ⟨_,hok,hdk⟩:=cG hd;have hdk:∀ x ∈ kids,bw r x≠0:=hdk;have hsne:s≠[]:=by
  unfold okX at hok;rintro rfl;rw [if_neg (by decide)] at hok;split at hok
  ·cases hok
  ·rw [if_pos rfl] at hok;simp only [Bool.and_eq_true] at hok;exact absurd hok.1 (by decide)
 have hbody:cI 2 v s (cW kids)=[eR s]:=(if_neg (by decide)).trans (if_pos rfl);rw [hbody] at hlen ⊢;clear hbody;obtain ⟨S,hS⟩:∃ S:ByteArray,⟨s.toArray⟩=S:=⟨_,rfl⟩
 rw [hS];have HSS:=aW hS;obtain ⟨nk,hnk⟩:∃ q,kids.length=q:=⟨_,rfl⟩
 rw [hnk];have HNK:=aW hnk;have HH0:=aW ((aT.nil w).push 45 #[Zi Zq 2,Zi Zq k1,Zi Zq n1,Zt s1,Zs A1 na1 ca1,Zs B1 nb1 cb1,Zt S,Zs A nk ca] (g:=w.heap.size) rfl);have HLV:=aW (λ W (h:Below w.heap.size w W)=>iq 2 k1 n1 s1 A1 na1 ca1 B1 nb1 cb1 S A nk ca W (hW.goe.keep h));have HOF:=aW (λ W (h:Below w.heap.size w W)=>eOf 2 W (hW.goe.keep h));unfold OfP at HOF;rw [kF (by omega)] at HOF;unfold cT fH at HOF;simp only at HOF;unfold oL at HLV;obtain ⟨L,hL⟩:∃ L,a8 2=L:=⟨_,rfl⟩
 rw [hL] at hf HLV;have HLK:=aW hL;have hlt:¬ (L:Int)<(f:Int):=by omega
 have HST:=aW (λ (W3:World) hb=>eV (W1:=w) (W3:=W3) (X:=#[Zi Zq 2,Zi Zq k1,Zi Zq n1,Zt s1,Zs A1 na1 ca1,Zs B1 nb1 cb1,Zt S,Zs A nk ca]) (O:=#[Zt ⟨#[]⟩,Zi Zq 0,Zi Zq 0]) hW h1 h4 hb);have HKD:=aW (And.intro hcl hdk);have HLEN:=aW hlen;have HOP:=aW trivial;clear hW hx hc hd hok hdk hv h1 h4 hcv hcl hS hnk hL hlen hck hsl h2 h3;obtain ⟨c0,f0,l0⟩:=HH0.out.b0.rules;go_enter Tryz.func74,Tryz.ntmps74;go_upto_block 0 with (first
  | (go_at_call 112;refine (HLV.out _ HH0.out.1).mono ?_;rintro e w1 ⟨rfl,hb1⟩;obtain ⟨c1,f1,l1⟩:=(HH0.out.keep hb1).b0.rules)
  | (go_at_call 113;refine (HOF.out _ (HH0.out.1.trans (hb1.mono HH0.out.1.size))).mono ?_;rintro e w3 ⟨rfl,hb3⟩))
 have HS:=aW (HST.out _ (hb1.trans (hb3.mono hb1.size)));obtain ⟨W4,hW4⟩:∃ W',w3.alloc (.cells #[Zt ⟨#[]⟩,Zi Zq 0,Zi Zq 0] 154)=W':=⟨_,rfl⟩
 rw [hW4] at HS ⊢;obtain ⟨bo,hbo⟩:∃ q,w3.heap.size=q:=⟨_,rfl⟩
 rw [hbo] at HS ⊢;obtain ⟨x0,x1,x2⟩:=HS.out.x.1.rules;obtain ⟨p0,p1,p2⟩:=HS.out.o.1.rules;clear c0 f0 l0 c1 f1 l1 hb1 hb3 HH0 hW4 hbo;have HP1:=aW (HS.out.put1 s W4.heap.size rfl hsne (by have:=HLEN.out;rw [aj,bm] at this;exact Nat.le_trans (by show _<=st.1.length+(s.length+1+0);omega) this));rw [HSS.out] at HP1;go_wp2_with (go_at_call 73;refine HP1.out.mono ?_;rintro e w5 ⟨rfl,row5,hs5⟩);go_end0;exact hs5.fin
theorem Ad (r:Nat) (ih:jJ r):kS r (λ k=>k=3):=by
 intro k v s kids cs f w g row n st hk hW hx hc hd hf hlen;subst hk;obtain ⟨k1,n1,s1,A1,na1,ca1,B1,nb1,cb1,A,ca,css,rfl,hv,h1,h2,h3,h4⟩:=hx.out;have hc':=hc;unfold cd at hc';obtain ⟨_,hcv,hsl,hck,hcl⟩:=hc';have hcl:=cc.1 hcl;obtain ⟨_,hok,hdk⟩:=cG hd;have hdk:∀ x ∈ kids,bw r x≠0:=hdk;have hsne:s≠[]/\kids.length=1:=by
  unfold okX at hok;rw [if_neg (by decide)] at hok;split at hok
  ·cases hok
  ·rw [if_neg (by decide),if_pos rfl] at hok;simp only [Bool.and_eq_true,decide_eq_true_eq] at hok;exact ⟨by rintro rfl;exact absurd hok.1 (by decide),hok.2⟩
 obtain ⟨hsne,hn1⟩:=hsne;obtain ⟨y,hy⟩:∃ y,kids=[y]:=List.length_eq_one_iff.1 hn1;have hbody:cI 3 v s (cW kids)=aw 8 y++[ap [46],eR s]:=by rw [hy];exact (if_neg (by decide)).trans ((if_neg (by decide)).trans (if_pos rfl))
 rw [hbody] at hlen ⊢;rw [cx];have HY:=aW hy;clear hbody hn1 hy;obtain ⟨S,hS⟩:∃ S:ByteArray,⟨s.toArray⟩=S:=⟨_,rfl⟩
 rw [hS];have HSS:=aW hS;obtain ⟨nk,hnk⟩:∃ q,kids.length=q:=⟨_,rfl⟩
 rw [hnk];have HNK:=aW hnk;have HH0:=aW ((aT.nil w).push 45 #[Zi Zq 3,Zi Zq k1,Zi Zq n1,Zt s1,Zs A1 na1 ca1,Zs B1 nb1 cb1,Zt S,Zs A nk ca] (g:=w.heap.size) rfl);have HLV:=aW (λ W (h:Below w.heap.size w W)=>iq 3 k1 n1 s1 A1 na1 ca1 B1 nb1 cb1 S A nk ca W (hW.goe.keep h));have HOF:=aW (λ W (h:Below w.heap.size w W)=>eOf 3 W (hW.goe.keep h));unfold OfP at HOF;rw [kF (by omega)] at HOF;unfold cT fH at HOF;simp only at HOF;unfold oL at HLV;obtain ⟨L,hL⟩:∃ L,a8 3=L:=⟨_,rfl⟩
 rw [hL] at hf HLV;have HLK:=aW hL;have hlt:¬ (L:Int)<(f:Int):=by omega
 have HST:=aW (λ (W3:World) hb=>eV (W1:=w) (W3:=W3) (X:=#[Zi Zq 3,Zi Zq k1,Zi Zq n1,Zt s1,Zs A1 na1 ca1,Zs B1 nb1 cb1,Zt S,Zs A nk ca]) (O:=#[Zt ⟨#[]⟩,Zi Zq 0,Zi Zq 0]) hW h1 h4 hb);have HKD:=aW (And.intro hcl hdk);have HLEN:=aW hlen;have HOP:=aW trivial;clear hW hx hc hd hok hdk hv h1 h4 hcv hcl hS hnk hL hlen hck hsl h2 h3;obtain ⟨c0,f0,l0⟩:=HH0.out.b0.rules;go_enter Tryz.func74,Tryz.ntmps74;go_upto_block 0 with (first
  | (go_at_call 112;refine (HLV.out _ HH0.out.1).mono ?_;rintro e w1 ⟨rfl,hb1⟩;obtain ⟨c1,f1,l1⟩:=(HH0.out.keep hb1).b0.rules)
  | (go_at_call 113;refine (HOF.out _ (HH0.out.1.trans (hb1.mono HH0.out.1.size))).mono ?_;rintro e w3 ⟨rfl,hb3⟩))
 have HS:=aW (HST.out _ (hb1.trans (hb3.mono hb1.size)));obtain ⟨W4,hW4⟩:∃ W',w3.alloc (.cells #[Zt ⟨#[]⟩,Zi Zq 0,Zi Zq 0] 154)=W':=⟨_,rfl⟩
 rw [hW4] at HS ⊢;obtain ⟨bo,hbo⟩:∃ q,w3.heap.size=q:=⟨_,rfl⟩
 rw [hbo] at HS ⊢;obtain ⟨x0,x1,x2⟩:=HS.out.x.1.rules;obtain ⟨p0,p1,p2⟩:=HS.out.o.1.rules;clear c0 f0 l0 c1 f1 l1 hb1 hb3 HH0 hW4 hbo;obtain ⟨b,o,k',k1',n1',s1',A1',na1',ca1',B1',nb1',cb1',s',A2',n2',ca2',rfl,hb,hER,hz⟩:=gT HS.out.ks HS.out.rd (i:=0) (x:=y) (by rw [HY.out];rfl);obtain ⟨z0,z1,z2,z3,z4,z5,z6,z7⟩:=hz _ (Below.refl _ _);simp only [Nat.zero_mul,Nat.add_zero,Nat.one_mul] at z0 z1 z2 z3 z4 z5 z6 z7;have hl1:=HLEN.out;rw [aG,aj,aj,bm] at hl1;have hl2:(ay (ap [46])).length=1:=rfl;have hl3:(ay (eR s)).length=s.length:=rfl;have hl4:=bi (aw 8 y) st;have HE:=aW (ih y _ 8 W4 g row _ st HS.out.wp hER (HKD.out.1 y (by rw [HY.out];simp)) (HKD.out.2 y (by rw [HY.out];simp)) (by omega) (by omega));have HPT:=aW (λ W' row' X9 O9 A9 c9 k9 (h:PS w W' g row row' (aH (aw 8 y) st) w.heap.size bo X9 O9 A9 c9 k9)=>h.put2 [46] s W'.heap.size rfl (by simp) hsne (by simp only [List.length_cons,List.length_nil];omega));rw [HSS.out] at HPT;have hnk1:nk=1:=by rw [← HNK.out,HY.out];rfl
 subst hnk1;clear hz hER hl1 hl2 hl3 hl4 HKD;go_wp2_with (first
  | (go_at_call 74;refine HE.out.mono ?_;intro e w5 hp;obtain ⟨rfl,row5,hs5⟩:=HS.out.put hp;obtain ⟨v0,v1,v2⟩:=hs5.x.1.rules)
  | (go_at_call 73;refine (HPT.out _ _ _ _ _ _ _ hs5).mono ?_;rintro e w6 ⟨rfl,row6,hs6⟩))
 go_end0;exact hs6.fin
theorem yq (r:Nat) (ih:jJ r):kS r (λ k=>5<=k/\k<=7):=by
 intro k v s kids cs f w g row n st hk hW hx hc hd hf hlen;have hop:=hk;obtain ⟨k1,n1,s1,A1,na1,ca1,B1,nb1,cb1,A,ca,css,rfl,hv,h1,h2,h3,h4⟩:=hx.out;have hc':=hc;unfold cd at hc';obtain ⟨_,hcv,hsl,hck,hcl⟩:=hc';have hcl:=cc.1 hcl;obtain ⟨_,hok,hdk⟩:=cG hd;have hdk:∀ x ∈ kids,bw r x≠0:=hdk;have hop9:ig v=true/\s=[]/\kids.length=1:=by
  unfold okX at hok;rw [if_neg (by omega)] at hok;split at hok
  ·cases hok
  ·rename_i hz9
   rw [if_neg (by omega),if_neg (by omega),if_neg (by omega)] at hok
   first
    | (simp only [decide_eq_true_eq] at hok;exact ⟨by simpa using hz9,hok⟩)
    | (rw [if_pos (by omega)] at hok;simp only [decide_eq_true_eq] at hok;exact ⟨by simpa using hz9,hok⟩)
    | (rw [if_neg (by omega),if_pos (by omega)] at hok;simp only [decide_eq_true_eq] at hok;exact ⟨by simpa using hz9,hok⟩)
 obtain ⟨_,_,hn1⟩:=hop9;have e1:(k == 1)=false:=by rw [beq_eq_false_iff_ne];omega
 have e2:(k == 2)=false:=by rw [beq_eq_false_iff_ne];omega
 have e3:(k == 3)=false:=by rw [beq_eq_false_iff_ne];omega
 have e4:(k == 4)=false:=by rw [beq_eq_false_iff_ne];omega
 obtain ⟨y,hy⟩:∃ y,kids=[y]:=List.length_eq_one_iff.1 hn1;have hbody:cI k v s (cW kids)=opK k::aw (a8 k) y:=by rw [hy];exact (if_neg (by omega)).trans ((if_neg (by omega)).trans ((if_neg (by omega)).trans (if_neg (by omega))))
 have HL9:=aW (show a8 k<=9 by unfold a8;(repeat' split)<;>omega);have HAL:=aW (show (decide (((a8 k:Nat):Int)=3∨((a8 k:Nat):Int)=7))=true by
  obtain rfl | rfl | rfl:k=5∨k=6∨k=7:=by omega
  all_goals rfl)
 rw [hbody] at hlen ⊢;rw [cM];have HY:=aW hy;clear hbody hn1 hy;obtain ⟨S,hS⟩:∃ S:ByteArray,⟨s.toArray⟩=S:=⟨_,rfl⟩
 rw [hS];have HSS:=aW hS;obtain ⟨nk,hnk⟩:∃ q,kids.length=q:=⟨_,rfl⟩
 rw [hnk];have HNK:=aW hnk;have HH0:=aW ((aT.nil w).push 45 #[Zi Zq k,Zi Zq k1,Zi Zq n1,Zt s1,Zs A1 na1 ca1,Zs B1 nb1 cb1,Zt S,Zs A nk ca] (g:=w.heap.size) rfl);have HLV:=aW (λ W (h:Below w.heap.size w W)=>iq k k1 n1 s1 A1 na1 ca1 B1 nb1 cb1 S A nk ca W (hW.goe.keep h));have HOF:=aW (λ W (h:Below w.heap.size w W)=>eOf k W (hW.goe.keep h));unfold OfP at HOF;obtain ⟨t,hof,htne,hts⟩:=lJ ⟨by omega,by omega⟩ (k:=k);rw [hof] at HOF;unfold cT at HOF;simp only at HOF;have HTS:=aW (And.intro htne hts);obtain ⟨T,hT⟩:∃ T:ByteArray,⟨t.toArray⟩=T:=⟨_,rfl⟩
 rw [hT] at HOF;have HTT:=aW hT;unfold oL at HLV;obtain ⟨L,hL⟩:∃ L,a8 k=L:=⟨_,rfl⟩
 rw [hL] at hf HLV HOF hlen ⊢;have HLK:=aW hL;have hlt:¬ (L:Int)<(f:Int):=by omega
 have HST:=aW (λ (W3:World) hb=>eV (W1:=w) (W3:=W3) (X:=#[Zi Zq k,Zi Zq k1,Zi Zq n1,Zt s1,Zs A1 na1 ca1,Zs B1 nb1 cb1,Zt S,Zs A nk ca]) (O:=#[Zt T,Zi Zq k,Zi Zq L]) hW h1 h4 hb);have HKD:=aW (And.intro hcl hdk);have HLEN:=aW hlen;have HOP:=aW hop;clear hW hx hc hd hok hdk hv h1 h4 hcv hcl hS hnk hL hlen hck hsl h2 h3 hop hof htne hts hT hk;obtain ⟨c0,f0,l0⟩:=HH0.out.b0.rules;go_enter Tryz.func74,Tryz.ntmps74;go_upto_block 0 with (first
  | (go_at_call 112;refine (HLV.out _ HH0.out.1).mono ?_;rintro e w1 ⟨rfl,hb1⟩;obtain ⟨c1,f1,l1⟩:=(HH0.out.keep hb1).b0.rules)
  | (go_at_call 113;refine (HOF.out _ (HH0.out.1.trans (hb1.mono HH0.out.1.size))).mono ?_;rintro e w3 ⟨rfl,hb3⟩))
 have HS:=aW (HST.out _ (hb1.trans (hb3.mono hb1.size)));obtain ⟨W4,hW4⟩:∃ W',w3.alloc (.cells #[Zt T,Zi Zq k,Zi Zq L] 154)=W':=⟨_,rfl⟩
 rw [hW4] at HS ⊢;obtain ⟨bo,hbo⟩:∃ q,w3.heap.size=q:=⟨_,rfl⟩
 rw [hbo] at HS ⊢;obtain ⟨x0,x1,x2⟩:=HS.out.x.1.rules;obtain ⟨p0,p1,p2⟩:=HS.out.o.1.rules;clear c0 f0 l0 c1 f1 l1 hb1 hb3 HH0 hW4 hbo;rw [HLK.out] at HAL HL9;rw [HTS.out.2] at ⊢;have hl1:=HLEN.out;rw [aj,HTS.out.2] at hl1;have hnk1:nk=1:=by rw [← HNK.out,HY.out];rfl
 subst hnk1;have HP1:=aW (λ W row9 X9 O9 A9 c9 k9 (h:PS w W g row row9 st w.heap.size bo X9 O9 A9 c9 k9)=>h.put1 t W.heap.size rfl HTS.out.1 (by omega));rw [HTT.out] at HP1;have HAH:=aW (λ W=>oW T k (L:Int) W);rw [HAL.out] at HAH;go_wp2_with (first
  | (go_at_call 115;refine (HAH.out _).mono ?_;rintro e wa ⟨rfl,hba⟩;have hsa:=HS.out.bel hba;obtain ⟨x0,x1,x2⟩:=hsa.x.1.rules;obtain ⟨p0,p1,p2⟩:=hsa.o.1.rules)
  | (go_at_call 73;refine (HP1.out _ _ _ _ _ _ _ hsa).mono ?_;rintro e w5 ⟨rfl,row5,hs5⟩))
 have hl4:=cU st t;have hs6:=hs5.bel ((Below.refl _ _).drew);have HS6:=aW hs6;obtain ⟨b,o,k',k1',n1',s1',A1',na1',ca1',B1',nb1',cb1',s',A2',n2',ca2',rfl,hb,hER,hz⟩:=dv hs6.ks hs6.rd (i:=0) (x:=y) (by rw [HY.out];rfl);simp only [Nat.zero_mul,Nat.add_zero,Nat.one_mul] at hz;obtain ⟨z0,z1,z2,z3,z4,z5,z6,z7⟩:=hz _ ah.refl;have HZ:=aW hz;have HE:=aW (ih y _ L _ g row5 _ _ hs6.wp hER (HKD.out.1 y (by rw [HY.out];simp)) (HKD.out.2 y (by rw [HY.out];simp)) (by have:=HL9.out;omega) (by omega));have q7:=hs6.x.1.cell 7;have q2:=hs6.o.1.cell 2;simp at q7 q2;clear hz hER HKD x0 x1 x2 p0 p1 p2 hs6;go_region_held3 (λ w'=>w'.cell? ⟨w.heap.size,7,none⟩=some (Zs (some ⟨b,o,none⟩) 1 ca)/\w'.cell? ⟨bo,2,none⟩=some (Zi Zq L)/\w'.cell? ⟨b,o,none⟩=some (Zi Zq k')/\w'.cell? ⟨b,o+1,none⟩=some (Zi Zq k1')/\w'.cell? ⟨b,o+2,none⟩=some (Zi Zq n1')/\w'.cell? ⟨b,o+3,none⟩=some (Zt s1')/\w'.cell? ⟨b,o+4,none⟩=some (Zs A1' na1' ca1')/\w'.cell? ⟨b,o+5,none⟩=some (Zs B1' nb1' cb1')/\w'.cell? ⟨b,o+6,none⟩=some (Zt s')/\w'.cell? ⟨b,o+7,none⟩=some (Zs A2' n2' ca2')) (go_keep) ((go_at_call 74;refine HE.out.mono ?_;intro e w7 hp;obtain ⟨rfl,row7,hs7,hk7⟩:=HS6.out.putM hp;obtain ⟨y0,y1,y2,y3,y4,y5,y6,y7⟩:=HZ.out _ hk7;have r7:=hs7.x.1.cell 7;have r2:=hs7.o.1.cell 2;simp at r7 r2));go_wp2;go_end0;exact hs7.fin
end
end Go.Proofs.YtgmnmnnoahdjnaaGreatDoor
