import Derived.Test.YtgmnmnnoahdjnaaGreatDoorC38
import Derived.Test.YtgmnmnnoahdjnaaGreatDoorC31
open Go.Value renaming int → Zi, slice → Zs, string → Zt, pointer → Zp
open Go.IntKind renaming i64 → Zq
set_option maxRecDepth 100000
set_option maxHeartbeats 16000000
set_option linter.unusedVariables false
set_option linter.unusedSimpArgs false
namespace Go.Proofs.YtgmnmnnoahdjnaaGreatDoor
section
open Go.RowKit Go.Shelf
attribute [local go_sem] aa ac ae ab Oper.semAt_some
attribute [local go_sem] ew ev
def FrS (B:Nat) (st:List (List UInt8)) (W:World):Prop:=∃ row,Blk W B 40 #[row]/\W.ownsRow (B+1) 9 1 row st.length (bY st)
theorem ur {W W':World} {base:Nat} {e:TypeId} {size n:Nat} {v:Value} {xs:List Value} (h:W.ownsRow base e size v n xs) (hk:ij W W'):W'.ownsRow base e size v n xs :=
 ⟨h.1,h.2.imp id λ ⟨g,cap,cur,e1,e2,hh,r⟩=>⟨g,cap,cur,e1,e2,hk.2 g _ hh rfl,r⟩⟩
theorem FrS.keep {B:Nat} {st:List (List UInt8)} {W W':World} (h:FrS B st W) (hk:ij W W'):FrS B st W':=by
 obtain ⟨row,h1,h2⟩:=h;exact ⟨row,hk.blk h1,ur h2 hk⟩
theorem po {B:Nat} {W:World} {t:TypeId} {row:Value} (h:Blk W B t #[row]) {k:Nat} (ho:bh (some B) W k):k=B∨row.ownBlock=some k:=by
 obtain ⟨b,e,h1 | ⟨v,h1,h2⟩⟩:=ho
 ·injection e with e;exact .inl (by rw [h1,e])
 ·injection e with e
  subst e;rw [h.cell 0] at h1;simp at h1;subst h1;exact .inr h2
theorem pv {W:World} {base:Nat} {e:TypeId} {size n:Nat} {v:Value} {xs:List Value} (h:W.ownsRow base e size v n xs) {k:Nat} (hk:v.ownBlock=some k):base<=k/\∃ o,W.heap[k]? = some o/\o.isCells=true:=by
 rcases h.2 with ⟨rfl,_⟩ | ⟨g,cap,cur,rfl,hb,hh,_⟩
 ·simp [Value.ownBlock] at hk
 ·have:g=k:=by simpa [Value.ownBlock] using hk
  subst this;exact ⟨hb,_,hh,rfl⟩
def frX (B:Nat):GoX (List (List UInt8)):={ g:=frG,ob:=some B,Sx:=FrS B,ms:=List.length,f1:=63,f2:=64,b1:=#[Zp (some ⟨B,0,none⟩)],b2:=#[] }
theorem uT {F:Fence} {m:Nat} {w:World} {o:Oper} {a:Act} {K:Act->World->Prop} {Q:Exit->Act->World->Prop} (s x:Operand) (ho:o.op=.call { callee:=.builtin .append,args:=#[s,x],argTypes:=#[40,40] })
  (l:List (List UInt8)) (base:Nat) (row:Value) (t:List UInt8) (b9:Nat) (hO:w.ownsRow base 9 1 row l.length (bY l)) (hb:base<=w.heap.size)
  (hc:w.cell? ⟨b9,0,none⟩=some (Zt ⟨t.toArray⟩)) (hb9:b9<w.heap.size) (hn:l.length<=100000000) (hs:a.eval s=row) (hx:a.eval x=Zs (some ⟨b9,0,none⟩) 1 1)
  (h:∀ v' w',w'.ownsRow base 9 1 v' (l.length+1) (bY (l++[t]))->w.grownBy w' row.ownBlock->(v'.ownBlock=row.ownBlock∨v'.ownBlock=some w.heap.size)->K (a.put o.dst v') w'):o.wpIn F m Tryz.prog a w K Q:=by
 obtain ⟨i0,hi,hz,h1,h2⟩:=qw;have e:bY (l++[t])=bY l++[Zt ⟨t.toArray⟩]:=by simp [bY]
 obtain ⟨v',w',hrun,g1,g2,g3⟩:=gd (P:=Tryz.prog) w base 40 o.type 9 i0 _ 1 16 Tryz.underlying40 hi hz h1 h2 rfl (by decide) row l.length (bY l) hO
   (some ⟨b9,0,none⟩) 1 1 (λ e=>by cases e) [Zt ⟨t.toArray⟩] rfl (λ _=>⟨b9,0,rfl,hb9,λ i hi=>(by
    have h0:i=0:=by simpa using hi
    subst h0;exact hc)⟩) (by simp [Value.oneCell']) (by unfold maxLen;omega) (by omega) hb
 unfold Oper.wpIn;refine ⟨λ f hf=>by simp [Oper.about,ho,resolve,Sem.run_pure,Target.leads] at hf,?_⟩;rw [Oper.semAt_eq _ _ _ (by rw [ho];simp)];unfold execOp;simp only [ho,resolve,invoke,builtin,Sem.run_bind,Sem.run_pure,Result.andThen_ok,List.map_toArray,List.map_cons,List.map_nil,hs,hx,hrun];exact h v' w' (by rw [e];exact g1) g2 g3
theorem vG (B:Nat):(frX B).Ok:=by
 refine ⟨⟨λ st A C hk h=>FrS.keep h hk,λ st A k h ho=>?_⟩,λ st t bd st' h=>?_,λ st t bd st' h=>?_,?_,?_,enters_of Tryz.func63 (by kernel_rfl) rfl,enters_of Tryz.func64 (by kernel_rfl) rfl⟩
 ·obtain ⟨row,h1,h2⟩:=h;rcases po h1 ho with rfl | hk
  ·exact ⟨_,h1,rfl⟩
  ·exact (pv h2 hk).2
 ·injection (show (Except.ok (if t ∈ bd then st else st++[t]):Except Int _)=.ok st' from h) with h
  subst h;show (if t ∈ bd then st else st++[t]).length<=st.length+1
  split<;>simp
 ·injection (show (Except.ok st:Except Int _)=.ok st' from h) with h
  subst h;exact Nat.le_refl _
 ·intro m st t bd A n ca W hS hms hl hn hr;obtain ⟨row,hbk,hrow⟩:=hS;obtain ⟨c,hc⟩:∃ c:Bool,c=true ↔ t ∈ bd:=by
   by_cases h:t ∈ bd
   ·exact ⟨true,by simp [h]⟩
   ·exact ⟨false,by simp [h]⟩
  have hms:st.length<=16777216:=hms;have HH:=aW (d9 (m:=m-1) (vr bd t A n ca W hl hn hr.rd c hc));show CallsIn fb m Tryz.prog 63 #[Zt ⟨t.toArray⟩,Zs A n ca,Zp (some ⟨B,0,none⟩)] W _
  have HL:=aW (show (frX B).g.nm st t bd=.ok (if c=true then st else st++[t]) by show Except.ok (if t ∈ bd then st else st++[t])=_;simp only [hc]);have HBK:=aW (And.intro hbk hrow);have hBl:=hbk.lt;have HAP:=aW (show ∀ (v':Value) (w1:World),w1.ownsRow (B+1) 9 1 v' (st.length+1) (bY (st++[t]))->(W.alloc (.cells #[Zt ⟨t.toArray⟩] 9)).grownBy w1 row.ownBlock->(v'.ownBlock=row.ownBlock∨v'.ownBlock=some (W.alloc (.cells #[Zt ⟨t.toArray⟩] 9)).heap.size) ->
    Blk w1 B 40 #[row]/\FrO (some B) W (w1.setCell ⟨B,0,none⟩ v')/\FrS B (st++[t]) (w1.setCell ⟨B,0,none⟩ v') from λ v' w1 ho hg hv=>by
   have hB1:some B≠row.ownBlock:=λ e=>by have:=(pv hrow e.symm).1;omega
   have hb1:Blk w1 B 40 #[row]:=(hbk.alloc _).grown hg hB1;have hb2:=hb1.set_ 0 v';have hb2:Blk (w1.setCell ⟨B,0,none⟩ v') B 40 #[v']:=by simpa using hb2
   have hsz:W.heap.size+1<=w1.heap.size:=by have:=hg.size;simpa using this
   have hne:some B≠v'.ownBlock:=λ e=>by have:=(pv ho e.symm).1;omega
   refine ⟨hb1,⟨hg.os,hg.tape,hg.output,by simp;omega,λ k hk hn=>?_,λ k hk=>?_⟩,v',hb2,?_⟩
   ·have h1:k≠B:=λ e=>hn ⟨B,rfl,.inl e⟩
    have h2:some k≠row.ownBlock:=λ e=>hn ⟨B,rfl,.inr ⟨row,by simpa using hbk.cell 0,e.symm⟩⟩
    exact (Below.heap_setCell w1 ⟨B,0,none⟩ v' k h1).trans ((hg.block k (by simp;omega) h2).trans (Below.heap_alloc W _ k hk))
   ·rcases po hb2 hk with rfl | hk
    ·exact .inl ⟨_,rfl,.inl rfl⟩
    ·rcases hv with hv | hv
     ·exact .inl ⟨B,rfl,.inr ⟨row,by simpa using hbk.cell 0,by rw [← hv];exact hk⟩⟩
     ·refine .inr ?_;obtain ⟨_,o,h9,_⟩:=pv ho hk;rw [hv] at hk;injection hk with hk
      have h8:=(Array.getElem?_eq_some_iff.1 h9).1;simp at hk ⊢;omega
   ·rw [List.length_append];exact ho.kept (w':=w1.setCell ⟨B,0,none⟩ v') (row:=some B) ⟨rfl,rfl,rfl,by simp,λ k _ hne=>Below.heap_setCell w1 ⟨B,0,none⟩ v' k (λ e=>hne (by rw [e]))⟩ (.inr λ e=>hne e.symm))
  obtain ⟨RA,rc,rfl,_,_,_⟩:=bW hrow;obtain ⟨c0,f0,l0⟩:=hbk.rules;have hb9:B+1<=W.heap.size:=hBl;have HRW:=aW (hrow.alloc (.cells #[Zt ⟨t.toArray⟩] 9));have HFS:=aW (show FrS B st W from ⟨_,HBK.out.1,HBK.out.2⟩);clear hbk hrow hr hl hc;refine callsIn_of_wp Tryz.func63 rfl (aI (by kernel_rfl)) ?_ rfl;simp only [Tryz.ntmps63,List.size_toArray,List.length_cons,List.length_nil,Nat.reduceAdd,Nat.reduceSub,Array.replicate_succ,Array.replicate_zero,List.push_toArray,List.append_toArray,List.nil_append,List.cons_append];cases c
  ·gi_wp2;refine ⟨aI (by kernel_rfl),HH.out.mono ?_⟩;rintro e w2 ⟨rfl,rfl⟩;gi_wp2_with (gi_at_builtin;refine wpListIn_plain rfl λ K hK=>uT (.tmp 9) (.tmp 11) rfl st (B+1) _ t w2.heap.size HRW.out (by rw [World.size_alloc];omega) ((Blk.new w2 9 #[Zt ⟨t.toArray⟩]).cell 0) (by simp) (by omega) rfl rfl (λ v' w' g1 g2 g3=>?_);obtain ⟨RA2,rc2,rfl,_,_,_⟩:=bW g1;have hap:=HAP.out _ _ g1 g2 g3;obtain ⟨d0,d1,d2⟩:=hap.1.rules;have HE:=aW hap.2;clear g1 g2 g3 hap c0 f0 l0;refine hK _ _ ?_);go_end0;refine ⟨HE.out.1,?_⟩;rw [HL.out];exact ⟨rfl,HE.out.2⟩
  ·gi_wp2;refine ⟨aI (by kernel_rfl),HH.out.mono ?_⟩;rintro e w2 ⟨rfl,rfl⟩;gi_wp2;go_end0;refine ⟨.refl _ _,?_⟩;rw [HL.out];exact ⟨rfl,HFS.out⟩
 ·intro m st t bd A n ca W hS _ _ _ _;have HS:=aW hS;clear hS;show CallsIn fb m Tryz.prog 64 #[Zt ⟨t.toArray⟩,Zs A n ca] W _
  refine callsIn_of_wp Tryz.func64 rfl (aI (by kernel_rfl)) ?_ rfl;simp only [Tryz.ntmps64,List.size_toArray,List.length_cons,List.length_nil,Nat.reduceAdd,Nat.reduceSub,Array.replicate_succ,Array.replicate_zero,List.push_toArray,List.append_toArray,List.nil_append,List.cons_append];gi_wp2;go_end0;exact ⟨.refl _ _,rfl,HS.out⟩
theorem sX (l:List SJ):gvL frG [] l []=.ok (fX [] l):=by rw [gQ,List.nil_append]
theorem qr (l:List SJ):(fX [] l).length<=aA l:=by
 have:=ns (vG 0) l [] [] _ (sX l);exact Nat.le_trans this (by show 0+aA l<=aA l;omega)
def AE (r:List (List UInt8)) (w:World) (A:Option Addr) (n ca:Nat) (w':World):Prop:=r.length=n/\n<=ca/\(A=none->ca=0)/\RdF w' (λ b=>w.heap.size<=b) A (bY r)
def xD (l:List SJ) (w:World) (e:Ending) (w':World):Prop:=∃ A n ca,e=.returned (.tuple #[Zs A n ca,Zi Zq (eq l)])/\AE (if fG l=true then kX l else []) w A n ca w'/\Below w.heap.size w w'
theorem zp (l:List SJ) (css:List (List Value)) (A:Option Addr) (n ca:Nat) (F:Nat->Prop) (w:World) (hG:GOE w) (hS:SRs w F css l) (hln:l.length=n) (hnc:n<=ca) (hR:RdF w F A css.flatten) (hC:aK l) (hs:aA l<4194304) :
  Calls Tryz.prog 29 #[.agg #[Zs A n ca]] w (xD l w):=by
 have hmf:∀ (fn:Fn) (first cap:Array Value) (w:World),(Instr.makeFunc fn first cap).run Tryz.prog w=.ok (.func fn first cap) w:=λ _ _ _ _=>rfl
 have hn4:n<=4194304:=by have:=fx l;omega
 have HM:=aW (λ (W:World) (h:Below w.heap.size w W)=>lX l css A n ca F W (hG.keep h) (RR.imp hS λ c x hc=>hc.bel h) hln hnc (hR.keep (ah.of_below h)) hC hn4);have hown:∀ (W:World) (B:Nat),Blk W B 40 #[Zs none 0 0]->∀ k,bh (some B) W k->k=B:=λ W B h k hk=>(po h hk).resolve_right λ e=>by simp [Value.ownBlock] at e
 have HST:=aW (λ (W:World) (B gb:Nat) (h:Below w.heap.size w W) (hB:w.heap.size<=B) (hgB:gb≠B) (hbk:Blk W B 40 #[Zs none 0 0]) (hgb:Blk W gb 95 #[.func (.func 63) #[] #[Zp (some ⟨B,0,none⟩)],.func (.func 64) #[] #[]]) =>
  jt (lE (vG B) (aA l+1) l [] css A n ca none 0 0 [] W gb (Nat.lt_succ_self _) (tD hS h λ k hk=>by rw [hown W B hbk k hk];exact hB) hln hnc (tv hR h λ k hk=>by rw [hown W B hbk k hk];exact hB) rfl (by omega) (Nat.le_refl _) (.inl ⟨rfl,rfl⟩) RdF.nil hgb (λ hk=>hgB (hown W B hbk gb hk)) ⟨_,hbk,World.ownsRow_nil _ _ _ _⟩ (by show 0+aA l<=_;omega)))
 have hfl:=qr l;have HSO:=aW (λ (W:World) (base:Nat) (row:Value) (h:W.ownsRow base 9 1 row (fX [] l).length (bY (fX [] l))) (hb:base<=W.heap.size)=>vu (fX [] l) base row _ W rfl (by omega) h hb);have HH0:=aW ((aT.nil w).push 24 #[Zs A n ca] (g:=w.heap.size) rfl);clear hG hS hln hnc hR hC hs hfl;cases hm:fG l
 ·have hq:eq l=332:=by unfold eq;rw [hm];rfl
  rw [hq] at HM;have HL:=aW (show ∀ W,Below w.heap.size w W->xD l w (.returned (.tuple #[Zs none 0 0,Zi Zq 332])) W from λ W h=>⟨none,0,0,by rw [hq],by rw [hm];exact ⟨rfl,Nat.le_refl _,λ _=>rfl,RdF.nil⟩,h⟩);clear hq hm;go_enter Tryz.func29,Tryz.ntmps29;go_wp2_with fail;refine (HM.out _ HH0.out.1).mono ?_;rintro e w1 ⟨rfl,hb1⟩;have HH1:=aW (HH0.out.keep hb1);clear hb1;go_wp2;refine bodyPost_ret (v:=.tuple #[Zs none 0 0,Zi Zq 332]) (by simp only [results,Tryz.results29];go_simp) rfl ?_;exact HL.out _ HH1.out.1
 ·have hq:eq l=0:=by unfold eq;rw [hm];rfl
  rw [hq] at HM;have HL:=aW (show ∀ A n ca W,AE (kX l) w A n ca W->Below w.heap.size w W->xD l w (.returned (.tuple #[Zs A n ca,Zi Zq 0])) W from λ A n ca W h1 h=>⟨A,n,ca,by rw [hq],by rw [hm];exact h1,h⟩);clear hq hm;go_enter Tryz.func29,Tryz.ntmps29;go_wp2_with fail;refine (HM.out _ HH0.out.1).mono ?_;rintro e w1 ⟨rfl,hb1⟩;have HH1:=aW (HH0.out.keep hb1);clear hb1;obtain ⟨B,hB⟩:∃ B,w1.heap.size=B:=⟨_,rfl⟩
  obtain ⟨W2,hW2⟩:∃ W2,(w1.alloc (.cells #[Zs none 0 0] 40)).alloc (.cells #[.func (.func 63) #[] #[Zp (some ⟨B,0,none⟩)],.func (.func 64) #[] #[]] 95)=W2:=⟨_,rfl⟩
  have hb2:Below w1.heap.size w1 W2:=by rw [← hW2];exact ((Below.refl _ _).alloc (Nat.le_refl _) _).alloc (by simp) _
  have hbk:Blk W2 B 40 #[Zs none 0 0]:=by rw [← hW2,← hB];exact (Blk.new _ _ _).alloc _
  have hgb:Blk W2 (B+1) 95 #[.func (.func 63) #[] #[Zp (some ⟨B,0,none⟩)],.func (.func 64) #[] #[]]:=by
   have h9:=Blk.new (w1.alloc (.cells #[Zs none 0 0] 40)) 95 #[.func (.func 63) #[] #[Zp (some ⟨B,0,none⟩)],.func (.func 64) #[] #[]];rw [World.size_alloc,hB] at h9;rw [← hW2];exact h9
  have HH2:=aW (HH1.out.keep hb2);have hBw:w.heap.size<=B:=by rw [← hB];exact HH1.out.1.size
  have HC:=aW (HST.out W2 B (B+1) HH2.out.1 hBw (by omega) hbk hgb);have HOB:=aW (λ k (hk:bh (some B) W2 k)=>show w.heap.size<=k by rw [hown W2 B hbk k hk];exact hBw);have HW2:=aW hW2;have HBB:=aW hB;obtain ⟨c0,f0,l0⟩:=HH1.out.b0.rules;clear hW2 hb2 hbk hgb hB hown;go_upto_region 6 with fail;rw [HBB.out,HW2.out];clear c0 f0 l0;obtain ⟨c0,f0,l0⟩:=HH2.out.b0.rules;go_wp2_with fail;refine HC.out.mono ?_;rintro e w3 ⟨hf,hc⟩;rw [show gvL (frX B).g [] l []=.ok (fX [] l) from sX l] at hc;obtain ⟨rfl,row,hk,ho⟩:=hc;have hbe:Below w.heap.size w w3:=HH2.out.1.trans (FrO.belowN hf HH2.out.1.size HOB.out);have HE:=aW hbe;have HSR:=aW (HSO.out w3 (B+1) row ho hk.lt);obtain ⟨RA,rc,rfl,_,_,_⟩:=bW ho;obtain ⟨d0,d1,d2⟩:=hk.rules;clear c0 f0 l0 hf hk hbe ho;go_wp2_with fail;refine HSR.out.mono ?_;rintro e w4 ⟨v,rfl,ho4,hb4⟩;obtain ⟨A4,c4,rfl,h1,h2,h3⟩:=bW ho4;have HF:=aW (HL.out A4 _ c4 w4 ⟨by rw [iy],h1,h2,by rw [iy];exact h3.mono λ b _ hb=>by omega⟩ (HE.out.trans (hb4.mono (by omega))));clear d0 d1 d2 ho4 hb4 h1 h2 h3;go_wp2;refine bodyPost_ret (v:=.tuple #[.slice A4 (mO (fX [] l)).length c4,Zi Zq 0]) (by simp only [results,Tryz.results29];go_simp) rfl ?_;exact HF.out
end
section
theorem mS (l:List UInt8):∀ k a,(dR l k a).length<=k
 | 0,a=>by simp [dR]
 |k+1,a=>by
  unfold dR;split
  ·rw [List.length_cons];have:=mS l k (qsS l a).2.1.toNat;omega
  ·simp
theorem Bz (c:Nat):(ag c).length<=4:=by
 unfold ag
 repeat' split
 all_goals simp
theorem lh:∀ xs:List (Int × Int),(bG xs).length<=4*xs.length
 | []=>by simp [bG]
 |x::r=>by
  have h1:=Bz x.1.toNat;have h2:=lh r;unfold bG at h2 ⊢;rw [List.flatMap_cons,List.length_append,List.length_cons];omega
theorem sm (l:List UInt8) (a:Int):(dE l a).1.length<=4*l.length:=by
 unfold dE;split
 ·simp
 split
 ·simp
 split
 ·simp
 split
 ·show (bG (aR l (a.toNat+1))).length<=_
  have h1:=lh (aR l (a.toNat+1));have h2:=mS l (l.length-(a.toNat+1)) (a.toNat+1);unfold aR at h1 ⊢;omega
 ·simp
theorem r9 (l:List UInt8) (a:Int):(cD l a).2.2=0->iw (cD l a).1:=by
 unfold cD;split
 ·intro h;cases h
 ·cases ef l (bP a.toNat) with
  |mk st q =>
   cases q with
   | some p=>intro h;cases h
   |none =>
    simp only;unfold bV;split
    ·intro h;cases h
    ·rename_i h
     intro _;have h2:¬ dw st.minus<st.size:=λ h3=>h (by simp [h3])
     unfold dw at h2;unfold iw;simp only;cases hm:st.minus
     ·rw [hm] at h2;simp at h2 ⊢;omega
     ·rw [hm] at h2;simp at h2 ⊢;omega
theorem yE {l:List UInt8} {p:Nat} {k n:Int} {t:List UInt8} {m:Nat} (h:dj l p=.inl (k,t,n,m)):t.length<=4*l.length+2/\iw n:=by
 have tw:∀ (x:List UInt8) (q:Nat),((x.drop q).takeWhile df).length<=x.length:=λ x q=>by
  have h1:=(List.takeWhile_sublist (p:=df) (l:=x.drop q)).length_le;rw [List.length_drop] at h1;omega
 unfold dj at h;split at h
 ·split at h
  ·unfold fF at h;have h1:=tw l p;simp only at h;split at h
   ·injection h with h;injection h with _ h;injection h with h2 h;injection h with h3 _
    subst h2 h3;exact ⟨by omega,by decide⟩
   split at h
   ·injection h with h;injection h with _ h;injection h with h2 h;injection h with h3 _
    subst h2 h3;exact ⟨by omega,by decide⟩
   ·cases h
  split at h
  ·unfold dP at h;simp only at h;split at h
   ·rename_i h0
    injection h with h;injection h with _ h;injection h with h2 h;injection h with h3 _
    subst h2 h3;refine ⟨?_,r9 l p h0⟩;rw [List.length_take,List.length_drop];omega
   ·cases h
  split at h
  ·unfold ie at h;simp only at h;split at h
   ·injection h with h;injection h with _ h;injection h with h2 h;injection h with h3 _
    subst h2 h3;have:=sm l p;exact ⟨by omega,by decide⟩
   ·cases h
  ·unfold fU at h;split at h
   ·rename_i s hs
    injection h with h;injection h with _ h;injection h with h2 h;injection h with h3 _
    subst h2 h3;have:∀ x ∈ bH,x.length<=2:=by decide
    have:=this _ (fO hs).1;exact ⟨by omega,by decide⟩
   ·cases h
 ·cases h
theorem wX {l:List UInt8}:∀ (k p:Nat),∀ t ∈ (fo l k p).1,t.2.2.1.length<=4*l.length+2/\iw t.2.2.2
 | 0,_,t,h=>by simp [fo] at h
 |k+1,p,t,h=>by
  unfold fo at h;split at h
  ·cases hv:dj l (cq l p) with
   | inr e=>rw [hv] at h;simp at h
   |inl r =>
    obtain ⟨kd,s,n,m⟩:=r;rw [hv] at h;simp only at h;rcases List.mem_cons.1 h with rfl | h
    ·exact yE hv
    ·exact wX k m t h
  ·obtain rfl:=List.mem_singleton.1 h;exact ⟨by simp,by show iw 0;decide⟩
theorem oF {l:List UInt8}:∀ {k p:Nat} {e:Int × Int},(fo l k p).2=some e->e.2≠0
 | 0,_,_,h=>by cases h
 |k+1,p,e,h=>by
  unfold fo at h;split at h
  ·rename_i hq
   cases hv:dj l (cq l p) with
   | inr e'=>rw [hv] at h;simp only [Option.some.injEq] at h;subst h;exact oH hq hv
   |inl r =>
    obtain ⟨kd,t,n,m⟩:=r;rw [hv] at h;exact oF h
  ·cases h
theorem r4 {l:List UInt8} {T:List ak} {a:Int} (h:gh l=(T,a,0)):WT T/\TG T/\T≠[]:=by
 unfold gh at h;split at h
 ·injection h with _ h;injection h with _ h;cases h
 ·rename_i hl
  have hrun:(cC l 0).2=none/\T=(cC l 0).1∨∃ e,(cC l 0).2=some e/\e.2=0:=by
   cases he:(cC l 0).2 with
   | none=>rw [he] at h;injection h with h _;exact .inl ⟨rfl,h.symm⟩
   | some e=>rw [he] at h;injection h with _ h;injection h with _ h;exact .inr ⟨e,rfl,h⟩
  rcases hrun with ⟨h1,h2⟩ | ⟨e,h1,h2⟩
  ·obtain ⟨T',e,hw⟩:=sv (l.length+1-0) 0 (cC l 0).1 (by rw [← h1];rfl) (by omega);rw [h2,e];refine ⟨WT.of hw,⟨?_,λ p=>?_⟩,by simp⟩
   ·rw [← e];have:=oI l 0;omega
   ·rw [← e];unfold tkT tkN;cases hp:(cC l 0).1[p]? with
    | none=>exact ⟨by simp,by decide⟩
    |some t =>
     have:=wX (l:=l) (l.length+1-0) 0 t (List.mem_of_getElem? hp);exact ⟨by have:=this.1;simp only;omega,this.2⟩
  ·exact absurd h2 (oF h1)
theorem pO.head {x:LX} {r r':List UInt8} (h:pO x r) (e:r'.head? = r.head?):pO x r' :=
 ⟨λ hk c hc=>h.1 hk c (e ▸ hc),λ hk c hc=>h.2.1 hk c (e ▸ hc),λ hk ht c hc=>h.2.2 hk ht c (e ▸ hc)⟩
end
section
open Go.RowKit Go.Shelf
attribute [local go_sem] aa ac ae ab
theorem SR.parts {W:World} {F:Nat->Prop} {cs:List Value} {k:Int} {s:List UInt8} {a b:EJ} {body els:List SJ} (h:SR W F cs (.mk k s a b body els)) :
  ∃ (ka kva nva:Int) (sva:ByteArray) (Ava:Option Addr) (nka cka:Nat) (Bva:Option Addr) (nya cya:Nat) (sa:ByteArray) (Ca:Option Addr) (nxa cxa:Nat) (kb kvb nvb:Int) (svb:ByteArray) (Avb:Option Addr) (nkb ckb:Nat) (Bvb:Option Addr) (nyb cyb:Nat) (sb:ByteArray) (Cb:Option Addr) (nxb cxb:Nat) (BA LA:Option Addr) (cb cl:Nat) (bss lss:List (List Value)),cs=[Zi Zq k,Zt ⟨s.toArray⟩,Zi Zq ka,Zi Zq kva,Zi Zq nva,Zt sva,Zs Ava nka cka,Zs Bva nya cya,Zt sa,Zs Ca nxa cxa,Zi Zq kb,Zi Zq kvb,Zi Zq nvb,Zt svb,Zs Avb nkb ckb,Zs Bvb nyb cyb,Zt sb,Zs Cb nxb cxb,Zs BA body.length cb,Zs LA els.length cl] /\
   ER W F [Zi Zq ka,Zi Zq kva,Zi Zq nva,Zt sva,Zs Ava nka cka,Zs Bva nya cya,Zt sa,Zs Ca nxa cxa] a/\ER W F [Zi Zq kb,Zi Zq kvb,Zi Zq nvb,Zt svb,Zs Avb nkb ckb,Zs Bvb nyb cyb,Zt sb,Zs Cb nxb cxb] b/\(SRs W F bss body/\body.length<=cb/\RdF W F BA bss.flatten)/\(SRs W F lss els/\els.length<=cl/\RdF W F LA lss.flatten):=by
 obtain ⟨acs,bcs,BA,EA',cb,ce,bss,ess,rfl,ha,hbb,⟨g1,g2,g3,g4⟩,g5,g6,g7,g8⟩:=h.out;obtain ⟨ka,kva,nva,sva,Ava,nka,cka,Bva,nya,cya,sa,Ca,nxa,cxa,rfl⟩:=ha.form;obtain ⟨kb,kvb,nvb,svb,Avb,nkb,ckb,Bvb,nyb,cyb,sb,Cb,nxb,cxb,rfl⟩:=hbb.form;exact ⟨ka,kva,nva,sva,Ava,nka,cka,Bva,nya,cya,sa,Ca,nxa,cxa,kb,kvb,nvb,svb,Avb,nkb,ckb,Bvb,nyb,cyb,sb,Cb,nxb,cxb,BA,EA',cb,ce,bss,ess,rfl,ha,hbb,⟨g1,g2,g4⟩,⟨g5,g6,g8⟩⟩
theorem xu:∀ (N:Nat) (x y:SJ),eI x<=N->∀ (cs cs':List Value) (F F':Nat->Prop) (w:World),SR w F cs x->SR w F' cs' y->fy x->fy y->Calls Tryz.prog 55 #[.agg cs.toArray,.agg cs'.toArray] w (EqX (x=y) w)
 | 0,x,_,h,_,_,_,_,_,_,_,_,_=>by have:=rf x;omega
 |N+1,.mk k s a b body els,.mk k' s' a' b' body' els',hN,cs,cs',F,F',w,hx,hy,hC,hC'=>by
  have ih:=xu N;unfold eI at hN;unfold fy at hC hC';obtain ⟨_,_,hca,hcb,hbl,hel,hcd,hce⟩:=hC;obtain ⟨_,_,hca',hcb',hbl',hel',hcd',hce'⟩:=hC';have hcd:=cV.1 hcd;have hce:=cV.1 hce;have hcd':=cV.1 hcd';have hce':=cV.1 hce';obtain ⟨ka,kva,nva,sva,Ava,nka,cka,Bva,nya,cya,sa,Ca,nxa,cxa,kb,kvb,nvb,svb,Avb,nkb,ckb,Bvb,nyb,cyb,sb,Cb,nxb,cxb,BA,LA,cb,cl,bss,lss,rfl,ha,hb,⟨d1,d2,d3⟩,e1,e2,e3⟩:=hx.parts;obtain ⟨ka',kva',nva',sva',Ava',nka',cka',Bva',nya',cya',sa',Ca',nxa',cxa',kb',kvb',nvb',svb',Avb',nkb',ckb',Bvb',nyb',cyb',sb',Cb',nxb',cxb',BA',LA',cb',cl',bss',lss',rfl,ha',hb',⟨d1',d2',d3'⟩,e1',e2',e3'⟩:=hy.parts;have HXA:=aW (λ W (h:Below w.heap.size w W)=>sN _ a a' (Nat.le_refl _) _ _ F F' W (ha.bel h) (ha'.bel h) hca hca');have HXB:=aW (λ W (h:Below w.heap.size w W)=>sN _ b b' (Nat.le_refl _) _ _ F F' W (hb.bel h) (hb'.bel h) hcb hcb');have HBD:=aW (λ W (h:Below w.heap.size w W)=>xt body body' bss bss' BA BA' body.length body'.length cb cb' F F' W rfl rfl hbl hbl' (RR.imp d1 λ c x hc=>hc.bel h) (d3.keep (ah.of_below h)) (RR.imp d1' λ c x hc=>hc.bel h) (d3'.keep (ah.of_below h)) d2 d2'
   (λ x y c c' W2 hx hy hW2 hc hc'=>ih x y (by have:=kO hx;omega) c c' F F' W2 hc hc' (hcd x hx) (hcd' y hy)))
  have HEL:=aW (λ W (h:Below w.heap.size w W)=>xt els els' lss lss' LA LA' els.length els'.length cl cl' F F' W rfl rfl hel hel' (RR.imp e1 λ c x hc=>hc.bel h) (e3.keep (ah.of_below h)) (RR.imp e1' λ c x hc=>hc.bel h) (e3'.keep (ah.of_below h)) e2 e2'
   (λ x y c c' W2 hx hy hW2 hc hc'=>ih x y (by have:=kO hx;omega) c c' F F' W2 hc hc' (hce x hx) (hce' y hy)))
  obtain ⟨nb,hnb⟩:∃ q,body.length=q:=⟨_,rfl⟩
  obtain ⟨nl,hnl⟩:∃ q,els.length=q:=⟨_,rfl⟩
  obtain ⟨nb',hnb'⟩:∃ q,body'.length=q:=⟨_,rfl⟩
  obtain ⟨nl',hnl'⟩:∃ q,els'.length=q:=⟨_,rfl⟩
  rw [hnb,hnb'] at HBD;rw [hnl,hnl'] at HEL;rw [hnb,hnl,hnb',hnl'];have HT0:=aW (gN.new w 48 #[Zi Zq k,Zt ⟨s.toArray⟩,Zi Zq ka,Zi Zq kva,Zi Zq nva,Zt sva,Zs Ava nka cka,Zs Bva nya cya,Zt sa,Zs Ca nxa cxa,Zi Zq kb,Zi Zq kvb,Zi Zq nvb,Zt svb,Zs Avb nkb ckb,Zs Bvb nyb cyb,Zt sb,Zs Cb nxb cxb,Zs BA nb cb,Zs LA nl cl] #[Zi Zq k',Zt ⟨s'.toArray⟩,Zi Zq ka',Zi Zq kva',Zi Zq nva',Zt sva',Zs Ava' nka' cka',Zs Bva' nya' cya',Zt sa',Zs Ca' nxa' cxa',Zi Zq kb',Zi Zq kvb',Zi Zq nvb',Zt svb',Zs Avb' nkb' ckb',Zs Bvb' nyb' cyb',Zt sb',Zs Cb' nxb' cxb',Zs BA' nb' cb',Zs LA' nl' cl']);have y1:w.heap.size≠w.heap.size+1:=by omega
  have y2:w.heap.size+1≠w.heap.size:=by omega
  clear hx hy ha hb ha' hb' d1 d2 d3 e1 e2 e3 d1' d2' d3' e1' e2' e3' hcd hce hcd' hce' hca hcb hca' hcb' hnb hnl hnb' hnl' ih hN hbl hel hbl' hel';obtain ⟨PP,hPP⟩:∃ PP:Prop,(SJ.mk k s a b body els=SJ.mk k' s' a' b' body' els')=PP:=⟨_,rfl⟩
  rw [hPP];have HPN:=aW (show (k≠k'∨s≠s'∨a≠a'∨b≠b'∨body≠body'∨els≠els')->¬ PP by
   rw [← hPP];intro h e;injection e with e1 e2 e3 e4 e5 e6
   rcases h with h | h | h | h | h | h
   ·exact h e1
   ·exact h e2
   ·exact h e3
   ·exact h e4
   ·exact h e5
   ·exact h e6)
  have HPY:=aW (show k=k'->s=s'->a=a'->b=b'->body=body'->els=els'->PP by rw [← hPP];rintro rfl rfl rfl rfl rfl rfl;rfl);clear hPP;obtain ⟨c0,f0,l0⟩:=HT0.out.1.rules;obtain ⟨d0,g0,m0⟩:=HT0.out.2.1.rules;by_cases ek:k=k'
  case neg =>
   have HNO:=aW (HPN.out (.inl ek));have hb1:(k == k')=false:=by simp [ek]
   go_enter Tryz.func55,Tryz.ntmps55;go_wp2;go_ret;exact EqX.no HNO.out HT0.out.2.2
  by_cases es:s=s'
  case neg =>
   have HNO:=aW (HPN.out (.inr (.inl es)));have hb1:(s == s')=false:=by simp [es]
   subst ek;go_enter Tryz.func55,Tryz.ntmps55;go_wp2;go_ret;exact EqX.no HNO.out HT0.out.2.2
  subst ek es;go_enter Tryz.func55,Tryz.ntmps55;go_wp2_with fail;refine (HXA.out _ HT0.out.2.2).mono ?_;rintro e w1 ⟨t1,rfl,ht1,hb1⟩;have HT1:=aW (HT0.out.keep hb1);have HE1:=aW ht1;clear hb1 ht1 c0 f0 l0 d0 g0 m0;obtain ⟨c1,f1,l1⟩:=HT1.out.1.rules;obtain ⟨d1,g1,m1⟩:=HT1.out.2.1.rules;cases t1 with
  |false =>
   have HNO:=aW (HPN.out (.inr (.inr (.inl (λ e=>by have:=HE1.out.2 e;cases this)))));go_wp2;go_ret;exact EqX.no HNO.out HT1.out.2.2
  |true =>
   go_wp2_with fail;refine (HXB.out _ HT1.out.2.2).mono ?_;rintro e w2 ⟨t2,rfl,ht2,hb2⟩;have HT2:=aW (HT1.out.keep hb2);have HE2:=aW ht2;clear hb2 ht2 c1 f1 l1 d1 g1 m1;obtain ⟨c2,f2,l2⟩:=HT2.out.1.rules;obtain ⟨d2,g2,m2⟩:=HT2.out.2.1.rules;cases t2 with
   |false =>
    have HNO:=aW (HPN.out (.inr (.inr (.inr (.inl (λ e=>by have:=HE2.out.2 e;cases this))))));go_wp2;go_ret;exact EqX.no HNO.out HT2.out.2.2
   |true =>
    go_wp2_with fail;refine (HBD.out _ HT2.out.2.2).mono ?_;rintro e w3 ⟨t3,rfl,ht3,hb3⟩;have HT3:=aW (HT2.out.keep hb3);have HE3:=aW ht3;clear hb3 ht3 c2 f2 l2 d2 g2 m2;obtain ⟨c3,f3,l3⟩:=HT3.out.1.rules;obtain ⟨d3,g3,m3⟩:=HT3.out.2.1.rules;cases t3 with
    |false =>
     have HNO:=aW (HPN.out (.inr (.inr (.inr (.inr (.inl (λ e=>by have:=HE3.out.2 e;cases this)))))));go_wp2;go_ret;exact EqX.no HNO.out HT3.out.2.2
    |true =>
     go_wp2_with fail;refine (HEL.out _ HT3.out.2.2).mono ?_;rintro e w4 ⟨t4,rfl,ht4,hb4⟩;have HT4:=aW (HT3.out.keep hb4);have HE4:=aW ht4;clear hb4 ht4 c3 f3 l3 d3 g3 m3;obtain ⟨c4,f4,l4⟩:=HT4.out.1.rules;obtain ⟨d4,g4,m4⟩:=HT4.out.2.1.rules;go_wp2;go_ret;refine ⟨t4,rfl,⟨λ h=>HPY.out (by trivial) (by trivial) (HE1.out.1 (by trivial)) (HE2.out.1 (by trivial)) (HE3.out.1 (by trivial)) (HE4.out.1 h),λ h=>?_⟩,HT4.out.2.2⟩;cases t4 with
     | true=>rfl
     | false=>exact absurd h (HPN.out (.inr (.inr (.inr (.inr (.inr (λ e=>by have:=HE4.out.2 e;cases this)))))))
theorem Ar (x y:List SJ) (css css':List (List Value)) (A A':Option Addr) (n n' ca ca':Nat) (F F':Nat->Prop) (w:World) (hS:SRs w F css x) (hR:RdF w F A css.flatten) (hn:x.length=n) (hc:n<=ca) (hS':SRs w F' css' y) (hR':RdF w F' A' css'.flatten) (hn':y.length=n') (hc':n'<=ca') (hC:aK x) (hC':aK y) (hl:n<=4194304) (hl':n'<=4194304) :
  Calls Tryz.prog 24 #[.agg #[Zs A n ca],.agg #[Zs A' n' ca']] w (EqX (x=y) w):=by
 have HEF:=aW (λ W (h:Below w.heap.size w W)=>xt x y css css' A A' n n' ca ca' F F' W hn hn' hl hl' (RR.imp hS λ c x hc=>hc.bel h) (hR.keep (ah.of_below h)) (RR.imp hS' λ c x hc=>hc.bel h) (hR'.keep (ah.of_below h)) hc hc'
  (λ x y c c' W2 hx hy hW2 h1 h2=>xu _ x y (Nat.le_refl _) c c' F F' W2 h1 h2 (cV.1 hC x hx) (cV.1 hC' y hy)))
 have HT0:=aW (gN.new w 24 #[Zs A n ca] #[Zs A' n' ca']);have y1:w.heap.size≠w.heap.size+1:=by omega
 have y2:w.heap.size+1≠w.heap.size:=by omega
 clear hS hR hn hc hS' hR' hn' hc' hC hC' hl hl';obtain ⟨c0,f0,l0⟩:=HT0.out.1.rules;obtain ⟨d0,g0,m0⟩:=HT0.out.2.1.rules;go_enter Tryz.func24,Tryz.ntmps24;go_wp2_with fail;refine (HEF.out _ HT0.out.2.2).mono ?_;rintro e w1 ⟨t,rfl,ht,hb⟩;have HB:=aW (HT0.out.2.2.trans (hb.mono HT0.out.2.2.size));have HT:=aW ht;clear hb ht;go_wp2;go_ret;exact ⟨t,rfl,HT.out,HB.out⟩
end
end Go.Proofs.YtgmnmnnoahdjnaaGreatDoor
