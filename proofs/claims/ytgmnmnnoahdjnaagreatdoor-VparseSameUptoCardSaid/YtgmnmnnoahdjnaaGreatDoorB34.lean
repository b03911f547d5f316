import Derived.Test.YtgmnmnnoahdjnaaGreatDoorB32
import Derived.Test.YtgmnmnnoahdjnaaGreatDoorB31
set_option maxRecDepth 100000
set_option maxHeartbeats 16000000
set_option linter.unusedVariables false
set_option linter.unusedSimpArgs false
namespace Go.Proofs.YtgmnmnnoahdjnaaGreatDoor
section
theorem lW (l:List UInt8):∀ k a,(dH l k a).length≤k
 | 0,a=>by simp [dH]
 |k+1,a=>by
  unfold dH;split
  ·rw [List.length_cons];have:=lW l k (qsS l a).2.1.toNat;omega
  ·simp
theorem zi (c:Nat):(ag c).length≤4:=by
 unfold ag
 repeat' split
 all_goals simp
theorem kv:∀ xs:List (Int × Int),(bE xs).length≤4*xs.length
 | []=>by simp [bE]
 |x::r=>by
  have h1:=zi x.1.toNat;have h2:=kv r;unfold bE at h2 ⊢;rw [List.flatMap_cons,List.length_append,List.length_cons];omega
theorem qV (l:List UInt8) (a:Int):(cc l a).1.length≤4*l.length:=by
 unfold cc;split
 ·simp
 split
 ·simp
 split
 ·simp
 split
 ·show (bE (aQ l (a.toNat+1))).length≤_
  have h1:=kv (aQ l (a.toNat+1));have h2:=lW l (l.length-(a.toNat+1)) (a.toNat+1);unfold aQ at h1 ⊢;omega
 ·simp
theorem qM (l:List UInt8) (a:Int):(bJ l a).2.2=0→iw (bJ l a).1:=by
 unfold bJ;split
 ·intro h;cases h
 ·cases dR l (bP a.toNat) with
  |mk st q =>
   cases q with
   | some p=>intro h;cases h
   |none =>
    simp only;unfold bV;split
    ·intro h;cases h
    ·rename_i h
     intro _;have h2:¬ di st.minus<st.size:=fun h3=>h (by simp [h3])
     unfold di at h2;unfold iw;simp only;cases hm:st.minus
     ·rw [hm] at h2;simp at h2 ⊢;omega
     ·rw [hm] at h2;simp at h2 ⊢;omega
theorem wj {l:List UInt8} {p:Nat} {k n:Int} {t:List UInt8} {m:Nat} (h:cX l p=.inl (k,t,n,m)):t.length≤4*l.length+2∧iw n:=by
 have tw:∀ (x:List UInt8) (q:Nat),((x.drop q).takeWhile cU).length≤x.length:=fun x q=>by
  have h1:=(List.takeWhile_sublist (p:=cU) (l:=x.drop q)).length_le;rw [List.length_drop] at h1;omega
 unfold cX at h;split at h
 ·split at h
  ·unfold fg at h;have h1:=tw l p;simp only at h;split at h
   ·injection h with h;injection h with _ h;injection h with h2 h;injection h with h3 _
    subst h2 h3;exact ⟨by omega,by decide⟩
   split at h
   ·injection h with h;injection h with _ h;injection h with h2 h;injection h with h3 _
    subst h2 h3;exact ⟨by omega,by decide⟩
   ·cases h
  split at h
  ·unfold dE at h;simp only at h;split at h
   ·rename_i h0
    injection h with h;injection h with _ h;injection h with h2 h;injection h with h3 _
    subst h2 h3;refine ⟨?_,qM l p h0⟩;rw [List.length_take,List.length_drop];omega
   ·cases h
  split at h
  ·unfold gH at h;simp only at h;split at h
   ·injection h with h;injection h with _ h;injection h with h2 h;injection h with h3 _
    subst h2 h3;have:=qV l p;exact ⟨by omega,by decide⟩
   ·cases h
  ·unfold fD at h;split at h
   ·rename_i s hs
    injection h with h;injection h with _ h;injection h with h2 h;injection h with h3 _
    subst h2 h3;have:∀ x ∈ bF,x.length≤2:=by decide
    have:=this _ (fu hs).1;exact ⟨by omega,by decide⟩
   ·cases h
 ·cases h
theorem uL {l:List UInt8}:∀ (k p:Nat),∀ t ∈ (eO l k p).1,t.2.2.1.length≤4*l.length+2∧iw t.2.2.2
 | 0,_,t,h=>by simp [eO] at h
 |k+1,p,t,h=>by
  unfold eO at h;split at h
  ·cases hv:cX l (aG l p) with
   | inr e=>rw [hv] at h;simp at h
   |inl r =>
    obtain ⟨kd,s,n,m⟩:=r;rw [hv] at h;simp only at h;rcases List.mem_cons.1 h with rfl | h
    ·exact wj hv
    ·exact uL k m t h
  ·obtain rfl:=List.mem_singleton.1 h;exact ⟨by simp,by show iw 0;decide⟩
theorem nA {l:List UInt8}:∀ {k p:Nat} {e:Int × Int},(eO l k p).2=some e→e.2≠0
 | 0,_,_,h=>by cases h
 |k+1,p,e,h=>by
  unfold eO at h;split at h
  ·rename_i hq
   cases hv:cX l (aG l p) with
   | inr e'=>rw [hv] at h;simp only [Option.some.injEq] at h;subst h;exact nC hq hv
   |inl r =>
    obtain ⟨kd,t,n,m⟩:=r;rw [hv] at h;exact nA h
  ·cases h
theorem ud {l:List UInt8} {T:List ak} {a:Int} (h:gh l=(T,a,0)):WT T∧TG T∧T≠[]:=by
 unfold gh at h;split at h
 ·injection h with _ h;injection h with _ h;cases h
 ·rename_i hl
  have hrun:(cB l 0).2=none∧T=(cB l 0).1∨∃ e,(cB l 0).2=some e∧e.2=0:=by
   cases he:(cB l 0).2 with
   | none=>rw [he] at h;injection h with h _;exact .inl ⟨rfl,h.symm⟩
   | some e=>rw [he] at h;injection h with _ h;injection h with _ h;exact .inr ⟨e,rfl,h⟩
  rcases hrun with ⟨h1,h2⟩ | ⟨e,h1,h2⟩
  ·obtain ⟨T',e,hw⟩:=qX (l.length+1-0) 0 (cB l 0).1 (by rw [← h1];rfl) (by omega);rw [h2,e];refine ⟨WT.of hw,⟨?_,fun p=>?_⟩,by simp⟩
   ·rw [← e];have:=nD l 0;omega
   ·rw [← e];unfold tkT tkN;cases hp:(cB l 0).1[p]? with
    | none=>exact ⟨by simp,by decide⟩
    |some t =>
     have:=uL (l:=l) (l.length+1-0) 0 t (List.mem_of_getElem? hp);exact ⟨by have:=this.1;simp only;omega,this.2⟩
  ·exact absurd h2 (nA h1)
end
section
open Go.RowKit
attribute [local go_sem] aa ac ae ab
theorem yx:∀ r,r≤12→wV r
 | 0,h=>wH 0 h (fun h0=>absurd rfl h0)
 | r+1,h=>wH (r+1) h (fun _=>yx r (by omega))
def lP (l:List SJ):Int:=if jz l=true then 0 else 332
def r5 (q:Int) (w:World) (e:Ending) (w':World):Prop:=e=.returned (.int .i64 q)∧Below w.heap.size w w'
theorem nQ (l:List SJ) (css:List (List Value)) (A:Option Addr) (n ca:Nat) (F:Nat→Prop) (w:World) (hG:GOE w) (hS:SRs w F css l) (hln:l.length=n) (hnc:n≤ca) (hR:RdF w F A css.flatten) (hC:bg l) (hn:n≤4194304) :
  Calls Tryz.prog 18 #[.agg #[.slice A n ca]] w (r5 (lP l) w):=by
 have HM:=aW (fun (W:World) (h:Below w.heap.size w W)=>yx 12 (by omega) l css A n ca F W (hG.keep h) (RR.imp hS fun c x hc=>hc.bel h) hln hnc (hR.keep (ah.of_below h)) hC hn);obtain ⟨b,hb⟩:∃ b,cF 12 l=b:=⟨_,rfl⟩
 have HQ:=aW (show lP l=(if b=true then 0 else 332) by unfold lP jz;rw [hb]);unfold wW at HM;rw [hb] at HM;obtain ⟨q,hq⟩:∃ q,lP l=q:=⟨_,rfl⟩
 rw [hq] at HQ ⊢;clear hq;have HH0:=aW ((aL.nil w).push 24 #[.slice A n ca] (g:=w.heap.size) rfl);clear hG hS hln hnc hR hC hn hb;go_enter Tryz.func18,Tryz.ntmps18;go_wp2_with fail;refine (HM.out _ HH0.out.1).mono ?_;rintro e w1 ⟨rfl,hb1⟩;have HH1:=aW (HH0.out.keep hb1);clear hb1;cases b
 ·go_wp2;go_ret;exact ⟨by rw [HQ.out];rfl,HH1.out.1⟩
 ·go_wp2;go_ret;exact ⟨by rw [HQ.out];rfl,HH1.out.1⟩
theorem gw {k:Int} (h:5≤k∧k≤15):∃ t,ofJ k=(t,k,(aE k:Int))∧t≠[]∧ay (opK k)=t:=by
 obtain rfl | rfl | rfl | rfl | rfl | rfl | rfl | rfl | rfl | rfl | rfl:k=5∨k=6∨k=7∨k=8∨k=9∨k=10∨k=11∨k=12∨k=13∨k=14∨k=15:=by omega
 all_goals exact ⟨_,by rfl,by decide,by rfl⟩
def kC (n:Nat) (w:World) (e:Ending) (w':World):Prop:=e=.returned (.int .i64 n)∧Below w.heap.size w w'
theorem eY (k k1 n1:Int) (s1:ByteArray) (A1:Option Addr) (na1 ca1:Nat) (B1:Option Addr) (nb1 cb1:Nat) (s:ByteArray) (A:Option Addr) (nk ca:Nat) (w:World) (hG:GOE w) :
  Calls Tryz.prog 112 #[.agg #[.int .i64 k,.int .i64 k1,.int .i64 n1,.string s1,.slice A1 na1 ca1,.slice B1 nb1 cb1,.string s,.slice A nk ca]] w (kC (aE k) w):=by
 have HH0:=aW ((aL.nil w).push 45 #[.int .i64 k,.int .i64 k1,.int .i64 n1,.string s1,.slice A1 na1 ca1,.slice B1 nb1 cb1,.string s,.slice A nk ca] (g:=w.heap.size) rfl);have HOF:=aW (fun W (h:Below w.heap.size w W)=>eOf k W (hG.keep h));have HG:=aW (fun W (h:Below w.heap.size w W)=>hG.keep h);unfold OfP at HOF;clear hG;by_cases h3:k=3
 ·have HL:=aW (show aE k=8 by subst h3;rfl);subst h3;obtain ⟨c0,f0,l0⟩:=HH0.out.b0.rules;go_enter Tryz.func112,Tryz.ntmps112;go_wp2;go_ret;exact ⟨by rw [HL.out];rfl,HH0.out.1⟩
 have e3:(k == 3)=false:=by simpa using h3
 by_cases hop:5≤k∧k≤15
 ·obtain ⟨t,hof,hne,_⟩:=gw hop;rw [hof] at HOF;unfold cj at HOF;simp only at HOF;obtain ⟨T,hT⟩:∃ T:ByteArray,⟨t.toArray⟩=T:=⟨_,rfl⟩
  obtain ⟨L,hL⟩:∃ L,aE k=L:=⟨_,rfl⟩
  rw [hL,hT] at HOF;rw [hL];have hk0:(k == 0)=false:=by rw [beq_eq_false_iff_ne];omega
  have HOP:=aW hop;clear hop hof hne hL hT h3;obtain ⟨c0,f0,l0⟩:=HH0.out.b0.rules;go_enter Tryz.func112,Tryz.ntmps112;go_upto_region 3 with fail;have HGD:=aW (HG.out _ HH0.out.drew.1);have gl:=HGD.out.lt;have d0:=HH0.out.drew.b0.cell 0;simp at d0;have z0:=HGD.out.c0;have z1:=HGD.out.c1;have z2:=HGD.out.c2;go_region_held3 (fun w'=>w'.cell? ⟨w.heap.size,0,none⟩=some (.int .i64 k)∧w'.cell? ⟨0,0,none⟩=some (.string ⟨#[]⟩)∧w'.cell? ⟨0,1,none⟩=some (.int .i64 0)∧w'.cell? ⟨0,2,none⟩=some (.int .i64 0)) (go_keep) ((go_at_call 113;refine (HOF.out _ HH0.out.drew.1).mono ?_;rintro e w3 ⟨rfl,hb3⟩;have hx3:=HH0.out.drew.keep hb3;have e0:=hx3.b0.cell 0;simp at e0;have hg3:=HGD.out.keep hb3;have y0:=hg3.c0;have y1:=hg3.c1;have y2:=hg3.c2));obtain ⟨c1,f1,l1⟩:=hx3.b0.rules;go_wp2_with (go_at_call 113;refine (HOF.out _ hx3.1).mono ?_;rintro e w4 ⟨rfl,hb4⟩);go_ret;exact ⟨rfl,hx3.1.trans (hb4.mono hx3.1.size)⟩
 ·have HL:=aW (show aE k=9 by unfold aE;simp only [h3,if_false];repeat rw [if_neg (by omega)]);rw [HL.out];rw [j5 hop] at HOF;unfold cj fi at HOF;simp only at HOF;clear hop h3;obtain ⟨c0,f0,l0⟩:=HH0.out.b0.rules;go_enter Tryz.func112,Tryz.ntmps112;go_upto_region 3 with fail;have HGD:=aW (HG.out _ HH0.out.drew.1);have gl:=HGD.out.lt;have d0:=HH0.out.drew.b0.cell 0;simp at d0;have z0:=HGD.out.c0;have z1:=HGD.out.c1;have z2:=HGD.out.c2;go_region_held3 (fun w'=>w'.cell? ⟨w.heap.size,0,none⟩=some (.int .i64 k)∧w'.cell? ⟨0,0,none⟩=some (.string ⟨#[]⟩)∧w'.cell? ⟨0,1,none⟩=some (.int .i64 0)∧w'.cell? ⟨0,2,none⟩=some (.int .i64 0)) (go_keep) ((go_at_call 113;refine (HOF.out _ HH0.out.drew.1).mono ?_;rintro e w3 ⟨rfl,hb3⟩;have hx3:=HH0.out.drew.keep hb3;have e0:=hx3.b0.cell 0;simp at e0;have hg3:=HGD.out.keep hb3;have y0:=hg3.c0;have y1:=hg3.c1;have y2:=hg3.c2));go_wp2;go_ret;exact ⟨rfl,hx3.1⟩
theorem RdF.of_blkP {W:World} {F:Nat→Prop} {b:Nat} {t:TypeId} {xs:List Value} (h:Blk W b t xs.toArray) (hF:F b):RdF W F (some ⟨b,0,none⟩) xs :=
 fun _=>⟨b,0,rfl,h.lt,hF,fun i hi=>by rw [h.cell,Nat.zero_add,List.getElem?_toArray,List.getElem?_eq_getElem hi]⟩
theorem oq {W:World} {g n:Nat} {row:Value} {out:List UInt8} {num:Bool} (hW:WP W g row n out num) (o:Obj):PbM g row (W.alloc o) W.heap.size :=
 ⟨by rw [World.size_alloc];omega,by have:=hW.blk.lt;omega,fun e=>by have:=(hW.ge _ e.symm).2;omega⟩
theorem io (s:List UInt8) (W:World) (p g:Nat) (row:Value) (n:Nat) (out:List UInt8) (num:Bool) (hW:WP W g row n out num) (hp:p=W.heap.size) (hs:s≠[]) (hl:n+(s.length+1)≤100000000000) :
  Calls Tryz.prog 73 #[.pointer (some ⟨g,0,none⟩),.slice (some ⟨p,0,none⟩) 1 1] (W.alloc (.cells #[.string ⟨s.toArray⟩] 9)) (gj g row (a9 (out,num) s) W):=by
 subst hp;have hb:=(Below.refl W.heap.size W).alloc (Nat.le_refl _) (.cells #[.string ⟨s.toArray⟩] 9);refine (vi [s] (some ⟨W.heap.size,0,none⟩) 1 1 _ g row n out num (hW.keep hb) (RdF.of_blkP (Blk.new W 9 #[.string ⟨s.toArray⟩]) (oq hW _)) rfl (by decide) (by simpa using hs) (by simpa using hl)).mono ?_;rintro e w' ⟨rfl,row',n',h1,h2⟩;exact ⟨rfl,row',n',h1,(MG.bel hb).trans h2⟩
theorem yf (s t:List UInt8) (W:World) (p g:Nat) (row:Value) (n:Nat) (out:List UInt8) (num:Bool) (hW:WP W g row n out num) (hp:p=W.heap.size) (hs:s≠[]) (ht:t≠[]) (hl:n+((s.length+1)+(t.length+1))≤100000000000) :
  Calls Tryz.prog 73 #[.pointer (some ⟨g,0,none⟩),.slice (some ⟨p,0,none⟩) 2 2] (W.alloc (.cells #[.string ⟨s.toArray⟩,.string ⟨t.toArray⟩] 9)) (gj g row (a9 (a9 (out,num) s) t) W):=by
 subst hp;have hb:=(Below.refl W.heap.size W).alloc (Nat.le_refl _) (.cells #[.string ⟨s.toArray⟩,.string ⟨t.toArray⟩] 9);refine (vi [s,t] (some ⟨W.heap.size,0,none⟩) 2 2 _ g row n out num (hW.keep hb) (RdF.of_blkP (Blk.new W 9 #[.string ⟨s.toArray⟩,.string ⟨t.toArray⟩]) (oq hW _)) rfl (by decide) (by simp [hs,ht]) (by simpa using hl)).mono ?_;rintro e w' ⟨rfl,row',n',h1,h2⟩;exact ⟨rfl,row',n',h1,(MG.bel hb).trans h2⟩
theorem gj.bel {g:Nat} {row:Value} {st:List UInt8 × Bool} {w W w':World} {e:Ending} (h:gj g row st W e w') (hb:Below w.heap.size w W):gj g row st w e w':=by
 obtain ⟨rfl,row',n',h1,h2⟩:=h;exact ⟨rfl,row',n',h1,(MG.bel hb).trans h2⟩
theorem vS (n:Int):dV n≠[]:=by
 unfold dV;split
 ·simp
 ·exact eH _
theorem sC {k n:Int} {s:List UInt8} {kids:List JV} {keys:List (List UInt8)} (h:fy (.mk k n s kids keys)=true):k=3∨(k=4∧cR s=true)∨k=1∨(k=2∧(n=0∨n=1)):=by
 unfold fy at h;simp only [Bool.and_eq_true,Bool.or_eq_true,decide_eq_true_eq] at h;obtain ⟨hg,h1⟩:=h;have h1:(k=3∧0≤n)∨(k=1∨k=2∨k=4):=h1;have h2:=(mO (tT hg).1).1;rcases h1 with ⟨h1,_⟩ | h1 | h1 | h1
 ·exact .inl h1
 ·exact .inr (.inr (.inl h1))
 ·subst h1;refine .inr (.inr (.inr ⟨rfl,?_⟩));unfold cC at h2;simp at h2;exact h2.1.1.1
 ·subst h1;unfold cC at h2;simp at h2;exact .inr (.inl ⟨rfl,h2.1.1.2⟩)
theorem zg (v:JV) (cs:List Value) (F:Nat→Prop) (w:World) (g:Nat) (row:Value) (n:Nat) (out:List UInt8) (num:Bool) (hW:WP w g row n out num) (hv:VR w F cs v) (hc:df v) (hl:fy v=true)
  (hlen:n+((ay (gu v)).length+1)≤100000000000) :
  Calls Tryz.prog 114 #[.pointer (some ⟨g,0,none⟩),.agg cs.toArray] w (gj g row (a9 (out,num) (ay (gu v))) w):=by
 obtain ⟨k,m,s,kids,keys⟩:=v;obtain ⟨A,B,ca,cb,css,rfl,_⟩:=VR.out hv;obtain ⟨_,him,hsl,_⟩:=hc.out;have hp:=sC hl;obtain ⟨nk,hnk⟩:∃ q,kids.length=q:=⟨_,rfl⟩
 obtain ⟨nq,hnq⟩:∃ q,keys.length=q:=⟨_,rfl⟩
 rw [hnk,hnq];have HH0:=aW ((aL.nil w).push 42 #[.int .i64 k,.int .i64 m,.string ⟨s.toArray⟩,.slice A nk ca,.slice B nq cb] (g:=w.heap.size) rfl);have HG:=aW (fun W (h:Below w.heap.size w W)=>(hW.goe.keep h).gok);have HP:=aW (fun W (h:Below w.heap.size w W) (t:List UInt8) (p:Nat) (hp:p=W.heap.size) (ht:t≠[]) (hl:n+(t.length+1)≤100000000000)=>(io t W p g row n out num (hW.keep h) hp ht hl).mono fun e w' h1=>gj.bel h1 h);clear hW hv hc hl hnk hnq;rcases hp with rfl | ⟨rfl,htx⟩ | rfl | ⟨rfl,hn⟩
 ·have HT:=aW (show ay (gu (.mk 3 m s kids keys))=dV m from rfl);rw [HT.out] at hlen ⊢;have HLEN:=aW hlen;have HIM:=aW him;clear hlen him;unfold iw at HIM;obtain ⟨c0,f0,l0⟩:=HH0.out.b0.rules;go_enter Tryz.func114,Tryz.ntmps114;go_wp2_with (first
   | (go_at_call 158;refine (oe m _ HIM.out).mono ?_;unfold ym;rintro e w2 ⟨rfl,hb2⟩)
   | (go_at_call 73;refine (HP.out _ (HH0.out.1.trans (hb2.mono HH0.out.1.size)) _ _ (by first | rfl | simp) (vS m) HLEN.out).mono ?_;rintro e w3 ⟨rfl,hp3⟩))
  go_end0;exact ⟨rfl,hp3⟩
 ·have HT:=aW (show ay (gu (.mk 4 m s kids keys))=ie s from rfl);rw [HT.out] at hlen ⊢;have HLEN:=aW hlen;have HTX:=aW (And.intro htx hsl);clear hlen htx;obtain ⟨c0,f0,l0⟩:=HH0.out.b0.rules;go_enter Tryz.func114,Tryz.ntmps114;go_wp2_with (first
   | (go_at_call 159;refine (qU s _ (HG.out _ HH0.out.1) HTX.out.1 HTX.out.2).mono ?_;unfold rq;rintro e w2 ⟨rfl,hb2⟩)
   | (go_at_call 73;refine (HP.out _ (HH0.out.1.trans (hb2.mono HH0.out.1.size)) _ _ (by first | rfl | simp) (by unfold ie;simp) HLEN.out).mono ?_;rintro e w3 ⟨rfl,hp3⟩))
  go_end0;exact ⟨rfl,hp3⟩
 ·have HT:=aW (show ay (gu (.mk 1 m s kids keys))=[110,117,108,108] from rfl);rw [HT.out] at hlen ⊢;have HLEN:=aW hlen;clear hlen;obtain ⟨c0,f0,l0⟩:=HH0.out.b0.rules;go_enter Tryz.func114,Tryz.ntmps114;go_wp2_with (go_at_call 73;refine (HP.out _ HH0.out.1 [110,117,108,108] _ (by first | rfl | simp) (by simp) HLEN.out).mono ?_;rintro e w3 ⟨rfl,hp3⟩);go_end0;exact ⟨rfl,hp3⟩
 ·rcases hn with rfl | rfl
  ·have HT:=aW (show ay (gu (.mk 2 0 s kids keys))=[102,97,108,115,101] from rfl);rw [HT.out] at hlen ⊢;have HLEN:=aW hlen;clear hlen;obtain ⟨c0,f0,l0⟩:=HH0.out.b0.rules;go_enter Tryz.func114,Tryz.ntmps114;go_wp2_with (go_at_call 73;refine (HP.out _ (HH0.out.1.alloc (by simp) _) [102,97,108,115,101] _ (by first | rfl | simp) (by simp) HLEN.out).mono ?_;rintro e w3 ⟨rfl,hp3⟩);go_end0;exact ⟨rfl,hp3⟩
  ·have HT:=aW (show ay (gu (.mk 2 1 s kids keys))=[116,114,117,101] from rfl);rw [HT.out] at hlen ⊢;have HLEN:=aW hlen;clear hlen;obtain ⟨c0,f0,l0⟩:=HH0.out.b0.rules;go_enter Tryz.func114,Tryz.ntmps114;go_wp2_with (go_at_call 73;refine (HP.out _ (HH0.out.1.alloc (by simp) _) [116,114,117,101] _ (by first | rfl | simp) (by simp) HLEN.out).mono ?_;rintro e w3 ⟨rfl,hp3⟩);go_end0;exact ⟨rfl,hp3⟩
def aF (l:List LX) (st:List UInt8 × Bool):List UInt8 × Bool:=(l.map ay).foldl a9 st
theorem bM (l m:List LX) (st:List UInt8 × Bool):aF (l++m) st=aF m (aF l st):=by unfold aF;rw [List.map_append,List.foldl_append]
theorem bT (x:LX) (l:List LX) (st:List UInt8 × Bool):aF (x::l) st=aF l (a9 st (ay x)):=rfl
theorem aI (l:List LX) (st:List UInt8 × Bool):(aF l st).1.length≤st.1.length+bO l:=pI l st
def PB (w:World) (g:Nat) (row:Value) (b:Nat) (t:TypeId) (cs:Array Value):Prop:=Blk w b t cs∧PbM g row w b
theorem PB.mg {w w':World} {g b:Nat} {row row':Value} {t:TypeId} {cs:Array Value} (h:PB w g row b t cs) (hg:MG g row w row' w'):PB w' g row' b t cs:=⟨hg.blk h.1 h.2.2.1 h.2.2.2,hg.pb h.2⟩
theorem PB.new {W:World} {g n:Nat} {row:Value} {out:List UInt8} {num:Bool} (hW:WP W g row n out num) (cs:Array Value) (t:TypeId):PB (W.alloc (.cells cs t)) g row W.heap.size t cs:=⟨Blk.new W t cs,oq hW _⟩
structure PS (w W:World) (g:Nat) (row0 row:Value) (st:List UInt8 × Bool) (bx bo:Nat) (X O:Array Value) (A:Option Addr) (css:List (List Value)) (kids:List EJ):Prop where
 wp:WP W g row st.1.length st.1 st.2
 mg:MG g row0 w row W
 x:PB W g row bx 45 X
 o:PB W g row bo 154 O
 ks:ERs W (PbM g row W) css kids
 rd:RdF W (PbM g row W) A css.flatten
section
variable {w W W':World} {g:Nat} {row0 row row':Value} {st st':List UInt8 × Bool} {bx bo:Nat} {X O:Array Value} {A:Option Addr} {css:List (List Value)} {kids:List EJ}
theorem PS.step (h:PS w W g row0 row st bx bo X O A css kids) (hg:MG g row W row' W') (hw:WP W' g row' st'.1.length st'.1 st'.2):PS w W' g row0 row' st' bx bo X O A css kids :=
 ⟨hw,h.mg.trans hg,h.x.mg hg,h.o.mg hg,RR.imp h.ks fun c y hc=>hc.mg hg,h.rd.mg hg⟩
theorem PS.bel (h:PS w W g row0 row st bx bo X O A css kids) (hb:Below W.heap.size W W'):PS w W' g row0 row st bx bo X O A css kids:=h.step (MG.bel hb) (h.wp.keep hb)
theorem PS.put (h:PS w W g row0 row st bx bo X O A css kids) {e:Ending} (hp:gj g row st' W e W'):e=.returned (.tuple #[])∧∃ row',PS w W' g row0 row' st' bx bo X O A css kids:=by
 obtain ⟨rfl,row',n',h1,h2⟩:=hp;have hn:=h1.own.1;subst hn;exact ⟨rfl,row',h.step h2 h1⟩
theorem PS.fin (h:PS w W g row0 row st bx bo X O A css kids):gj g row0 st w (.returned (.tuple #[])) W:=⟨rfl,row,_,h.wp,h.mg⟩
theorem PS.put1 (h:PS w W g row0 row st bx bo X O A css kids) (s:List UInt8) (p:Nat) (hp:p=W.heap.size) (hs:s≠[]) (hl:st.1.length+(s.length+1)≤100000000000) :
  Calls Tryz.prog 73 #[.pointer (some ⟨g,0,none⟩),.slice (some ⟨p,0,none⟩) 1 1] (W.alloc (.cells #[.string ⟨s.toArray⟩] 9)) (fun e W'=>e=.returned (.tuple #[])∧∃ row',PS w W' g row0 row' (a9 st s) bx bo X O A css kids) :=
 (io s W p g row _ st.1 st.2 h.wp hp hs hl).mono fun e W' hq=>h.put hq
theorem PS.put2 (h:PS w W g row0 row st bx bo X O A css kids) (s t:List UInt8) (p:Nat) (hp:p=W.heap.size) (hs:s≠[]) (ht:t≠[]) (hl:st.1.length+((s.length+1)+(t.length+1))≤100000000000) :
  Calls Tryz.prog 73 #[.pointer (some ⟨g,0,none⟩),.slice (some ⟨p,0,none⟩) 2 2] (W.alloc (.cells #[.string ⟨s.toArray⟩,.string ⟨t.toArray⟩] 9)) (fun e W'=>e=.returned (.tuple #[])∧∃ row',PS w W' g row0 row' (a9 (a9 st s) t) bx bo X O A css kids) :=
 (yf s t W p g row _ st.1 st.2 h.wp hp hs ht hl).mono fun e W' hq=>h.put hq
end
theorem bh {W:World} {g:Nat} {row:Value} {css:List (List Value)} {xs:List EJ} {A:Option Addr} (h:ERs W (PbM g row W) css xs) (hr:RdF W (PbM g row W) A css.flatten) {i:Nat} {x:EJ} (hx:xs[i]? = some x) :
  ∃ (b o:Nat) (k k1 n1:Int) (s1:ByteArray) (A1:Option Addr) (na1 ca1:Nat) (B1:Option Addr) (nb1 cb1:Nat) (s:ByteArray) (A2:Option Addr) (n2 ca2:Nat),A=some ⟨b,o,none⟩∧b<W.heap.size ∧
   ER W (PbM g row W) [.int .i64 k,.int .i64 k1,.int .i64 n1,.string s1,.slice A1 na1 ca1,.slice B1 nb1 cb1,.string s,.slice A2 n2 ca2] x ∧
   ∀ W',ah (PbM g row W) W W'→W'.cell? ⟨b,o+i*8,none⟩=some (.int .i64 k)∧W'.cell? ⟨b,o+i*8+1,none⟩=some (.int .i64 k1)∧W'.cell? ⟨b,o+i*8+2,none⟩=some (.int .i64 n1)∧W'.cell? ⟨b,o+i*8+3,none⟩=some (.string s1) ∧
    W'.cell? ⟨b,o+i*8+4,none⟩=some (.slice A1 na1 ca1)∧W'.cell? ⟨b,o+i*8+5,none⟩=some (.slice B1 nb1 cb1)∧W'.cell? ⟨b,o+i*8+6,none⟩=some (.string s)∧W'.cell? ⟨b,o+i*8+7,none⟩=some (.slice A2 n2 ca2):=by
 obtain ⟨b,o,c,rfl,hb,hF,hc,hv,hz⟩:=h.cell (fun c x h=>h.len) (by decide) hr hx;obtain ⟨k,k1,n1,s1,A1,na1,ca1,B1,nb1,cb1,s,A2,n2,ca2,rfl⟩:=hv.form;refine ⟨b,o,k,k1,n1,s1,A1,na1,ca1,B1,nb1,cb1,s,A2,n2,ca2,rfl,hb,hv,fun W' hW=>?_⟩;have z:=fun (j:Nat) u (hj:j<8) hu=>(show W'.cell? ⟨b,o+(i*8+j),none⟩=W.cell? ⟨b,o+(i*8+j),none⟩ from World.cell?_of_block (hW.2 b hF hb)).trans (hz j u hj hu)
 exact ⟨z 0 _ (by decide) rfl,z 1 _ (by decide) rfl,z 2 _ (by decide) rfl,z 3 _ (by decide) rfl,z 4 _ (by decide) rfl,z 5 _ (by decide) rfl,z 6 _ (by decide) rfl,z 7 _ (by decide) rfl⟩
theorem PS.putM {w W W':World} {g:Nat} {row0 row:Value} {st st':List UInt8 × Bool} {bx bo:Nat} {X O:Array Value} {A:Option Addr} {css:List (List Value)} {kids:List EJ} (h:PS w W g row0 row st bx bo X O A css kids) {e:Ending} (hp:gj g row st' W e W'):e=.returned (.tuple #[])∧∃ row',PS w W' g row0 row' st' bx bo X O A css kids∧ah (PbM g row W) W W':=by
 obtain ⟨rfl,row',n',h1,h2⟩:=hp;have hn:=h1.own.1;subst hn;exact ⟨rfl,row',h.step h2 h1,h2.keepF⟩
def gE (r:Nat):Prop:=∀ (x:EJ) (cs:List Value) (f:Nat) (w:World) (g:Nat) (row:Value) (n:Nat) (st:List UInt8 × Bool),WP w g row n st.1 st.2→ER w (PbM g row w) cs x→bB x→bi r x≠0→f≤9→st.1.length+bO (ar f x)≤100000000000 →
 Calls Tryz.prog 74 #[.pointer (some ⟨g,0,none⟩),.agg cs.toArray,.int .i64 (f:Int)] w (gj g row (aF (ar f x) st) w)
def gK (r:Nat) (P:Int→Prop):Prop:=∀ (k:Int) (v:JV) (s:List UInt8) (kids:List EJ) (cs:List Value) (f:Nat) (w:World) (g:Nat) (row:Value) (n:Nat) (st:List UInt8 × Bool),P k→WP w g row n st.1 st.2→ER w (PbM g row w) cs (.mk k v s kids)→bB (.mk k v s kids)→bi (r+1) (.mk k v s kids)≠0→f≤aE k→st.1.length+bO (cn k v s (cD kids))≤100000000000 →
 Calls Tryz.prog 74 #[.pointer (some ⟨g,0,none⟩),.agg cs.toArray,.int .i64 (f:Int)] w (gj g row (aF (cn k v s (cD kids)) st) w)
theorem dl {w W1 W3:World} {g:Nat} {row:Value} {n:Nat} {st:List UInt8 × Bool} {X O:Array Value} {A:Option Addr} {css:List (List Value)} {kids:List EJ} (hW:WP w g row n st.1 st.2) (h1:ERs w (PbM g row w) css kids) (h4:RdF w (PbM g row w) A css.flatten)
  (hb:Below (w.alloc (.cells X 45)).heap.size (w.alloc (.cells X 45)) W3):PS w (W3.alloc (.cells O 154)) g row row st w.heap.size W3.heap.size X O A css kids:=by
 have hn:=hW.own.1;subst hn;have ha:=(Below.refl w.heap.size w).alloc (Nat.le_refl _) (.cells X 45);have hm:=MG.bel (mb:=g) (a:=row) ha;have hm3:=MG.bel (mb:=g) (a:=row) hb;have hw3:=(hW.keep ha).keep hb;have hm4:=MG.bel (mb:=g) (a:=row) ((Below.refl W3.heap.size W3).alloc (Nat.le_refl _) (.cells O 154));have hmm:=(hm.trans hm3).trans hm4;exact ⟨hw3.keep ((Below.refl W3.heap.size W3).alloc (Nat.le_refl _) _),hmm,((PB.new hW X _).mg hm3).mg hm4,PB.new hw3 O _,RR.imp h1 fun c y hc=>hc.mg hmm,h4.mg hmm⟩
theorem yN (r:Nat):gK r (fun k=>k=1):=by
 intro k v s kids cs f w g row n st hk hW hx hc hd hf hlen;subst hk;obtain ⟨k1,n1,s1,A1,na1,ca1,B1,nb1,cb1,A,ca,css,rfl,hv,h1,h2,h3,h4⟩:=hx.out;have hc':=hc;unfold bB at hc';obtain ⟨_,hcv,hsl,hck,hcl⟩:=hc';have hok:=(bR hd).2.1;have hlit:fy v=true:=by
  unfold okX at hok;rw [if_pos rfl] at hok;simp only [Bool.and_eq_true] at hok;exact hok.1
 have hbody:cn 1 v s (cD kids)=[gu v]:=if_pos rfl;rw [hbody] at hlen ⊢;obtain ⟨nk,hnk⟩:∃ q,kids.length=q:=⟨_,rfl⟩
 rw [hnk];have HH0:=aW ((aL.nil w).push 45 #[.int .i64 1,.int .i64 k1,.int .i64 n1,.string s1,.slice A1 na1 ca1,.slice B1 nb1 cb1,.string ⟨s.toArray⟩,.slice A nk ca] (g:=w.heap.size) rfl);have HLV:=aW (fun W (h:Below w.heap.size w W)=>eY 1 k1 n1 s1 A1 na1 ca1 B1 nb1 cb1 ⟨s.toArray⟩ A nk ca W (hW.goe.keep h));have HOF:=aW (fun W (h:Below w.heap.size w W)=>eOf 1 W (hW.goe.keep h));unfold OfP at HOF;rw [j5 (by omega)] at HOF;unfold cj fi at HOF;simp only at HOF;unfold kC at HLV;have HST:=aW (fun (W3:World) hb=>dl (W1:=w) (W3:=W3) (X:=#[.int .i64 1,.int .i64 k1,.int .i64 n1,.string s1,.slice A1 na1 ca1,.slice B1 nb1 cb1,.string ⟨s.toArray⟩,.slice A nk ca]) (O:=#[.string ⟨#[]⟩,.int .i64 0,.int .i64 0]) hW h1 h4 hb);have HVL:=aW (And.intro hv (And.intro hcv hlit));have HLEN:=aW hlen;obtain ⟨L,hL⟩:∃ L,aE 1=L:=⟨_,rfl⟩
 rw [hL] at hf HLV;have hlt:¬ (L:Int)<(f:Int):=by omega
 clear hW hx hc hd hok hlit hv h1 h4 hcv hcl hnk hL hlen hbody hck hsl h2 h3;obtain ⟨c0,f0,l0⟩:=HH0.out.b0.rules;go_enter Tryz.func74,Tryz.ntmps74;go_upto_block 0 with (first
  | (go_at_call 112;refine (HLV.out _ HH0.out.1).mono ?_;rintro e w1 ⟨rfl,hb1⟩;obtain ⟨c1,f1,l1⟩:=(HH0.out.keep hb1).b0.rules)
  | (go_at_call 113;refine (HOF.out _ (HH0.out.1.trans (hb1.mono HH0.out.1.size))).mono ?_;rintro e w3 ⟨rfl,hb3⟩))
 have HS:=aW (HST.out _ (hb1.trans (hb3.mono hb1.size)));obtain ⟨W4,hW4⟩:∃ W',w3.alloc (.cells #[.string ⟨#[]⟩,.int .i64 0,.int .i64 0] 154)=W':=⟨_,rfl⟩
 rw [hW4] at HS;have HL2:=aW (zg v _ _ W4 g row _ st.1 st.2 HS.out.wp (HVL.out.1.mg HS.out.mg) HVL.out.2.1 HVL.out.2.2 (by have:=HLEN.out;rw [aj,bm] at this;omega));obtain ⟨x0,x1,x2⟩:=HS.out.x.1.rules;clear c0 f0 l0 c1 f1 l1 hb1 hb3 HH0;go_wp2_with (go_at_call 114;refine HL2.out.mono ?_;intro e w5 hp;obtain ⟨rfl,row5,hs5⟩:=HS.out.put hp);go_end0;exact hs5.fin
end
section
theorem oK.head {x:LX} {r r':List UInt8} (h:oK x r) (e:r'.head? = r.head?):oK x r' :=
 ⟨fun hk c hc=>h.1 hk c (e ▸ hc),fun hk c hc=>h.2.1 hk c (e ▸ hc),fun hk ht c hc=>h.2.2 hk ht c (e ▸ hc)⟩
def ChB:List (Nat × LX)→Prop
 | []=>True
 | [x]=>iK x.2
 | x::y::r=>iK x.2∧(y.1=0→kF (ay x.2) (ay y.2)=false∧(x.2.1=5→x.2.2.1=[60]→(ay y.2).headD 0≠61))∧ChB (y::r)
theorem ChB.head {x:Nat × LX} {r:List (Nat × LX)} (h:ChB (x::r)):iK x.2:=by
 cases r with
 | nil=>exact h
 | cons y r=>exact h.1
theorem ChB.tail {x:Nat × LX} {r:List (Nat × LX)} (h:ChB (x::r)):ChB r:=by
 cases r with
 | nil=>trivial
 | cons y r=>exact h.2.2
theorem ChB.app:∀ {a b:List (Nat × LX)},ChB a→ChB b→(∀ y,b.head? = some y→y.1≠0)→ChB (a++b)
 | [],b,_,hb,_=>hb
 | [x],[],hx,_,_=>hx
 | [x],y::r,hx,hb,h=>⟨hx,fun e=>absurd e (h y rfl),hb⟩
 | x::z::r,b,ha,hb,h=>⟨ha.1,ha.2.1,ChB.app (a:=z::r) ha.2.2 hb h⟩
theorem ya:(cY [101,109,105,116,32,49,44,32,50]).2=(9,330):=by kernel_rfl
theorem ye:(cY [101,109,105,116,32,97,32,60,32,98,32,60,32,99,44,32,49,59]).2=(11,330):=by kernel_rfl
def iS:List UInt8:=[105,102,32,110,111,116,32,40,97,32,61,61,32,49,41,32,97,110,100,32,40,98,32,111,114,32,99,41,32,123,32,101,109,105,116,32,40,49,41,46,120,44,32,48,59,32,125,32,101,108,115,101,32,123,32,125]
theorem zf:(cY iS).2=(0,0):=by kernel_rfl
theorem wA:fA (cY iS).1=[105,102,32,110,111,116,32,97,61,61,49,32,97,110,100,40,98,32,111,114,32,99,41,123,101,109,105,116,32,49,32,46,120,44,48,59,125]:=by kernel_rfl
theorem yd:jz (cY iS).1=true:=by kernel_rfl
theorem ve:(match (cY iS).1 with | [.mk k _ _ _ body _]=>decide (k=2∧body.length=1) | _=>false)=true:=by kernel_rfl
end
end Go.Proofs.YtgmnmnnoahdjnaaGreatDoor
