import Derived.Test.YtgolomgmnanbpaaGreatDoorV13
import Derived.Test.YtgolomgmnanbpaaGreatDoorV14
import Derived.Lib.SlBytesConst
open Go.Value renaming int → Zi, slice → Zs, string → Zt, pointer → Zp
open Go.IntKind renaming i64 → Zq
set_option maxRecDepth 100000
set_option maxHeartbeats 16000000
set_option linter.unusedVariables false
set_option linter.unusedSimpArgs false
namespace Go.Proofs.YtgolomgmnanbpaaGreatDoor
section
open Go.RowKit Go.Deep Go.ChangeShapes Go.WideShapes
section
variable {H:Type}
theorem jv (l:List (DataW H)):Rows.uptoBulk (.agg l)=Rows.uptoBulkAll l+1:=by rw [Rows.uptoBulk]
theorem ic (d:DataW H) (r:List (DataW H)):Rows.uptoBulkAll (d::r)=Rows.uptoBulk d+Rows.uptoBulkAll r:=by rw [Rows.uptoBulkAll]
theorem jw:Rows.uptoBulkAll ([]:List (DataW H))=0:=by rw [Rows.uptoBulkAll]
theorem nE (s:List UInt8):Rows.uptoBulk (H:=H) (.lit (.string s))=s.length+1:=by rw [Rows.uptoBulk]
theorem oM (l m:List (DataW H)):Rows.uptoBulk (.slice l m)=Rows.uptoBulkAll l+Rows.uptoBulkAll m+1:=by rw [Rows.uptoBulk]
end
def wG (W:World) (A:Option Addr) (ca:Nat) (l:List SJ):Prop:=∃ css,SRs W TT css l/\l.length<=ca/\(A=none->ca=0)/\RdF W TT A css.flatten
section
variable {H:Type} {enc:TypeId × Value->H} {W:World} {α:Type} {R:List Value->α->Prop} {Pr:Nat->α->Prop}
theorem oh {m:Nat} (hmono:∀ n n' x,n<=n'->Pr n x->Pr n' x) (hpos:∀ n x,Pr n x->1<=n) (a:Addr):∀ (elems:List (DataW H × List MemPlace)) (a0:Nat),
  (∀ i,i<elems.length->∃ c v y,elems[i]? = some y/\W.cells? 0 (a.add ((a0+i)*m)) m=some c/\R c v/\Pr (Rows.uptoBulk y.1) v) ->
  ∃ css kids,RR R css kids/\kids.length=elems.length/\(∀ i c,css[i]? = some c->W.cells? 0 (a.add ((a0+i)*m)) m=some c)/\(∀ x ∈ kids,Pr (Rows.uptoBulkAll (elems.map (·.1))) x)/\kids.length<=Rows.uptoBulkAll (elems.map (·.1))
 | [],_,_=>⟨[],[],RR.nil,rfl,λ i c h=>by simp at h,λ x h=>(List.not_mem_nil h).elim,Nat.zero_le _⟩
 |y::r,a0,h=>by
  obtain ⟨c,v,y',e,h1,h2,h3⟩:=h 0 (by simp);obtain rfl:y=y':=by simpa using e
  obtain ⟨css,kids,k1,k2,k3,k4,k5⟩:=oh hmono hpos a r (a0+1) (λ i hi=>by
   obtain ⟨c,v,y',e,h1,h2,h3⟩:=h (i+1) (by simp;omega);exact ⟨c,v,y',by simpa using e,by rw [show a0+1+i=a0+(i+1) by omega];exact h1,h2,h3⟩)
  have hp:=hpos _ _ h3;refine ⟨c::css,v::kids,⟨by simp [k1.1],λ i c' x' e1 e2=>?_⟩,by simp [k2],λ i c' e1=>?_,λ x hx=>?_,?_⟩
  ·cases i with
   |zero =>
    obtain rfl:c=c':=by simpa using e1
    obtain rfl:v=x':=by simpa using e2
    exact h2
   | succ i=>exact k1.2 i c' x' (by simpa using e1) (by simpa using e2)
  ·cases i with
   |zero =>
    obtain rfl:c=c':=by simpa using e1
    exact h1
   | succ i=>have:=k3 i c' (by simpa using e1);rwa [show a0+1+i=a0+(i+1) by omega] at this
  ·rw [List.map_cons];unfold Rows.uptoBulkAll;rcases List.mem_cons.1 hx with rfl | hx
   ·exact hmono _ _ _ (by omega) h3
   ·exact hmono _ _ _ (by omega) (k4 x hx)
  ·rw [List.map_cons,List.length_cons];unfold Rows.uptoBulkAll;omega
theorem te {m:Nat} (hm:0<m) (a:Addr) {css:List (List Value)} {kids:List α} (h:RR R css kids) (hR:∀ c x,R c x->c.length=m) (hc:∀ i c,css[i]? = some c->W.cells? 0 (a.add (i*m)) m=some c):RdF W TT (some a) css.flatten:=by
 intro hne;have hpos:0<css.length:=by
  rcases css with _ | ⟨c,r⟩
  ·exact absurd rfl hne
  ·simp
 obtain ⟨b,o,spot⟩:=a;have h5:=h.lens hR;have h0:=World.cells?_some (hc 0 _ (List.getElem?_eq_getElem hpos));have q0:=h0.2.2 0 hm;rw [List.getElem?_eq_getElem (by omega)] at q0;have hspot:spot=none:=by simpa [Addr.add] using World.cell?_spot q0
 subst hspot;have hcell:∀ i (hi:i<css.flatten.length),W.cell? ⟨b,o+i,none⟩=some css.flatten[i]:=by
  intro i hi;rw [eM h5] at hi;have hq:i / m<css.length:=(Nat.div_lt_iff_lt_mul hm).2 hi;have hx:=World.cells?_some (hc (i / m) _ (List.getElem?_eq_getElem hq));have hy:=hx.2.2 (i % m) (Nat.mod_lt _ hm);rw [add_plain,add_plain,← ik h5 (List.getElem?_eq_getElem hq) (Nat.mod_lt _ hm)] at hy;have hd:i / m*m+i % m=i:=Nat.div_add_mod' i m;rw [show o+i=o+i / m*m+i % m by omega,hy,hd,List.getElem?_eq_getElem]
 refine ⟨b,o,rfl,?_,trivial,hcell⟩;have hl:0<css.flatten.length:=by rw [eM h5];exact Nat.mul_pos hpos hm
 have hz:=hcell 0 hl;rcases Nat.lt_or_ge b W.heap.size with hlt | hge
 ·exact hlt
 ·unfold World.cell? at hz;simp [Array.getElem?_eq_none hge] at hz
theorem fD {m:Nat} {t e:TypeId} (ht:Tryz.prog.underlying t=some (.slice e)) (hcv:Tryz.prog.cellsOf e=m) (hm:0<m) (hR:∀ c x,R c x->c.length=m) (hmono:∀ n n' x,n<=n'->Pr n x->Pr n' x) (hpos:∀ n x,Pr n x->1<=n)
  {fuel:Nat} (ih:∀ (n:Nat) (cs:List Value) (x:DataW H × List MemPlace),n<fuel->DataW.trod enc Tryz.prog W 0 (λ _=>true) true n e cs=some x->∃ v,R cs v/\Pr (Rows.uptoBulk x.1) v)
  {cs:List Value} {x:DataW H × List MemPlace} (h:DataW.trod enc Tryz.prog W 0 (λ _=>true) true fuel t cs=some x) :
  ∃ A ca css kids,cs=[.slice A kids.length ca]/\RR R css kids/\kids.length<=ca/\(A=none->ca=0)/\RdF W TT A css.flatten/\(∀ v ∈ kids,Pr (Rows.uptoBulk x.1) v)/\kids.length<=Rows.uptoBulk x.1:=by
 rcases DataW.trod_slice ht h with ⟨e3,rfl⟩ | ⟨a,len,cap,elems,rest,n',hn,e3,rfl,hb,hl,hmx,hel,hk,_,_⟩
 ·exact ⟨none,0,[],[],by simpa using e3,RR.nil,Nat.le_refl _,λ _=>rfl,RdF.nil,λ v hv=>(List.not_mem_nil hv).elim,Nat.zero_le _⟩
 ·rw [hcv] at hk;obtain ⟨css,kids,k1,k2,k3,k4,k5⟩:=oh (W:=W) hmono hpos a elems 0 (λ i hi=>by
   have hq:=hk i (by omega);rw [List.getElem?_eq_getElem hi] at hq;obtain ⟨c,q1,q2⟩:=Option.bind_eq_some_iff.1 hq;obtain ⟨v,q3,q4⟩:=ih n' c _ (by omega) q2;exact ⟨c,v,_,List.getElem?_eq_getElem hi,by rw [Nat.zero_add];exact q1,q3,q4⟩)
  have hle:Rows.uptoBulkAll (elems.map (·.1))<=Rows.uptoBulk (H:=H) (.slice (elems.map (·.1)) (rest.map (·.1))):=by rw [oM];omega
  refine ⟨some a,cap,css,kids,?_,k1,by omega,λ e=>by simp at e,te hm a k1 hR (λ i c e=>by have:=k3 i c e;rwa [Nat.zero_add] at this),λ v hv=>hmono _ _ _ hle (k4 v hv),Nat.le_trans k5 hle⟩;rw [k2,hel];exact e3
/-- an expression that came in -/
theorem kU:∀ (fuel:Nat) (cs:List Value) (x:DataW H × List MemPlace),DataW.trod enc Tryz.prog W 0 (λ _=>true) true fuel 28 cs=some x->∃ v,ER W TT cs v/\gW (Rows.uptoBulk x.1) v:=by
 intro fuel
 induction fuel using Nat.strongRecOn with
 |ind fuel ih =>
  intro cs x h;obtain ⟨xs,n,rfl,rfl,hlen,hxl,hf⟩:=DataW.trod_struct Tryz.underlying28 h;have ci:Tryz.prog.cellsOf 3=1:=by kernel_rfl
  have ct:Tryz.prog.cellsOf 9=1:=by kernel_rfl
  have ck:Tryz.prog.cellsOf 26=1:=by kernel_rfl
  have cv:Tryz.prog.cellsOf 25=5:=by kernel_rfl
  have ce:Tryz.prog.cellsOf 28=8:=by kernel_rfl
  rw [ce] at hlen;have f0:=hf 0 _ rfl;have f1:=hf 1 _ rfl;have f2:=hf 2 _ rfl;have f3:=hf 3 _ rfl;clear hf
  match xs,hxl,cs,hlen with
  |[y0,y1,y2,y3],_,[c0,c1,c2,c3,c4,c5,c6,c7],_ =>
   simp [ci,ct,ck,cv] at f0 f1 f2 f3;obtain ⟨k,e0,rfl,w0⟩:=DataW.trod_int Tryz.underlying3 f0;obtain ⟨v,hv,hi,hb⟩:=kD n _ _ f1;obtain ⟨s,e2,rfl,w2⟩:=DataW.trod_string Tryz.underlying9 f2;obtain ⟨A,ca,css,kids,e3,k1,k2,k3,k4,k5,k6⟩:=fD (R:=ER W TT) (Pr:=gW) Tryz.underlying26 ce (by decide) (λ c x h=>h.len) (λ n n' x h=>dw h x) (λ n x h=>by cases x;unfold gW at h;exact h.1) (λ n' c y hn hy=>ih n' (by omega) c y hy) f3;obtain rfl:c0=.int .i64 k:=by simpa using e0
   obtain rfl:c6=.string s:=by simpa using e2
   obtain rfl:c7=.slice A kids.length ca:=by simpa using e3
   obtain ⟨ss,rfl⟩:∃ ss:List UInt8,s=⟨ss.toArray⟩:=⟨s.data.toList,by simp⟩
   refine ⟨.mk k v ss kids,ER.into hv k1 rfl k2 k3 k4,?_⟩;simp only [List.map_cons,List.map_nil];have e2:(Lit.string (ByteArray.mk ss.toArray).data.toList)=.string ss:=by simp
   have e4:Rows.uptoBulk (H:=H) (.lit (.string ss))=ss.length+1:=by unfold Rows.uptoBulk;rfl
   rw [e2];have hle:1<=Rows.uptoBulk (H:=H) (.agg [.lit (.int .i64 k),y1.1,.lit (.string ss),y3.1])/\Rows.uptoBulk y1.1+(ss.length+1)+Rows.uptoBulk y3.1<=Rows.uptoBulk (H:=H) (.agg [.lit (.int .i64 k),y1.1,.lit (.string ss),y3.1]):=by
    simp only [jv,ic,jw,nE];constructor<;>omega
   unfold gW;exact ⟨hle.1,pt w0,hi,by omega,by omega,by omega,kZ.2 λ x hx=>dw (by omega) x (k5 x hx)⟩
/-- a statement that came in -/
theorem qF:∀ (fuel:Nat) (cs:List Value) (x:DataW H × List MemPlace),DataW.trod enc Tryz.prog W 0 (λ _=>true) true fuel 69 cs=some x->∃ v,SR W TT cs v/\eV (Rows.uptoBulk x.1) v:=by
 intro fuel
 induction fuel using Nat.strongRecOn with
 |ind fuel ih =>
  intro cs x h;obtain ⟨xs,n,rfl,rfl,hlen,hxl,hf⟩:=DataW.trod_struct Tryz.underlying69 h;have ci:Tryz.prog.cellsOf 3=1:=by kernel_rfl
  have ct:Tryz.prog.cellsOf 9=1:=by kernel_rfl
  have ck:Tryz.prog.cellsOf 44=1:=by kernel_rfl
  have ce:Tryz.prog.cellsOf 28=8:=by kernel_rfl
  have cs':Tryz.prog.cellsOf 69=20:=by kernel_rfl
  rw [cs'] at hlen;have f0:=hf 0 _ rfl;have f1:=hf 1 _ rfl;have f2:=hf 2 _ rfl;have f3:=hf 3 _ rfl;have f4:=hf 4 _ rfl;have f5:=hf 5 _ rfl;clear hf
  match xs,hxl,cs,hlen with
  |[y0,y1,y2,y3,y4,y5],_,[c0,c1,a0,a1,a2,a3,a4,a5,a6,a7,b0,b1,b2,b3,b4,b5,b6,b7,c2,c3],_ =>
   simp [ci,ct,ck,ce] at f0 f1 f2 f3 f4 f5;obtain ⟨k,e0,rfl,w0⟩:=DataW.trod_int Tryz.underlying3 f0;obtain ⟨s,e1,rfl,w1⟩:=DataW.trod_string Tryz.underlying9 f1;obtain ⟨a,ha,hal⟩:=kU n _ _ f2;obtain ⟨b,hb,hbl⟩:=kU n _ _ f3;obtain ⟨A,ca,css,body,e4,k1,k2,k3,k4,k5,k6⟩:=fD (R:=SR W TT) (Pr:=eV) Tryz.underlying44 cs' (by decide) (λ c x h=>h.len) (λ n n' x h=>de h x) (λ n x h=>by cases x;unfold eV at h;exact h.1) (λ n' c y hn hy=>ih n' (by omega) c y hy) f4;obtain ⟨B,cb,dss,els,e5,g1,g2,g3,g4,g5,g6⟩:=fD (R:=SR W TT) (Pr:=eV) Tryz.underlying44 cs' (by decide) (λ c x h=>h.len) (λ n n' x h=>de h x) (λ n x h=>by cases x;unfold eV at h;exact h.1) (λ n' c y hn hy=>ih n' (by omega) c y hy) f5;obtain rfl:c0=.int .i64 k:=by simpa using e0
   obtain rfl:c1=.string s:=by simpa using e1
   obtain rfl:c2=.slice A body.length ca:=by simpa using e4
   obtain rfl:c3=.slice B els.length cb:=by simpa using e5
   obtain ⟨ss,rfl⟩:∃ ss:List UInt8,s=⟨ss.toArray⟩:=⟨s.data.toList,by simp⟩
   refine ⟨.mk k ss a b body els,SR.into ha hb k1 rfl k2 k3 k4 g1 rfl g2 g3 g4,?_⟩;simp only [List.map_cons,List.map_nil];have e2:(Lit.string (ByteArray.mk ss.toArray).data.toList)=.string ss:=by simp
   have e6:Rows.uptoBulk (H:=H) (.lit (.string ss))=ss.length+1:=by unfold Rows.uptoBulk;rfl
   rw [e2];have hle:1<=Rows.uptoBulk (H:=H) (.agg [.lit (.int .i64 k),.lit (.string ss),y2.1,y3.1,y4.1,y5.1])/\(ss.length+1)+Rows.uptoBulk y2.1+Rows.uptoBulk y3.1+Rows.uptoBulk y4.1+Rows.uptoBulk y5.1<=Rows.uptoBulk (H:=H) (.agg [.lit (.int .i64 k),.lit (.string ss),y2.1,y3.1,y4.1,y5.1]):=by
    simp only [jv,ic,jw,nE];constructor<;>omega
   unfold eV;exact ⟨hle.1,pt w0,by omega,dw (by omega) a hal,dw (by omega) b hbl,by omega,by omega,fy.2 λ x hx=>de (by omega) x (k5 x hx),fy.2 λ x hx=>de (by omega) x (g5 x hx)⟩
/-- a program that came in: the row of its statements -/
theorem qN {fuel:Nat} {cs:List Value} {x:DataW H × List MemPlace} (h:DataW.trod enc Tryz.prog W 0 (λ _=>true) true fuel 46 cs=some x) :
  ∃ A ca css body,cs=[.slice A body.length ca]/\SRs W TT css body/\body.length<=ca/\(A=none->ca=0)/\RdF W TT A css.flatten/\(∀ v ∈ body,eV (Rows.uptoBulk x.1) v)/\body.length<=Rows.uptoBulk x.1:=by
 obtain ⟨xs,n,rfl,rfl,hlen,hxl,hf⟩:=DataW.trod_struct Tryz.underlying46 h;have ck:Tryz.prog.cellsOf 44=1:=by kernel_rfl
 have cp:Tryz.prog.cellsOf 46=1:=by kernel_rfl
 have cs':Tryz.prog.cellsOf 69=20:=by kernel_rfl
 rw [cp] at hlen;have f0:=hf 0 _ rfl;clear hf
 match xs,hxl,cs,hlen with
 |[y0],_,[c0],_ =>
  simp [ck] at f0;obtain ⟨A,ca,css,body,e4,k1,k2,k3,k4,k5,k6⟩:=fD (R:=SR W TT) (Pr:=eV) Tryz.underlying44 cs' (by decide) (λ c x h=>h.len) (λ n n' x h=>de h x) (λ n x h=>by cases x;unfold eV at h;exact h.1) (λ n' c y hn hy=>qF n' c y hy) f0;have hle:Rows.uptoBulk y0.1<=Rows.uptoBulk (H:=H) (.agg [y0.1]):=by simp only [jv,ic,jw];omega
  exact ⟨A,ca,css,body,e4,k1,k2,k3,k4,λ v hv=>de hle v (k5 v hv),by simp only [List.map_cons,List.map_nil];omega⟩
end
end
section
open Go.RowKit
attribute [local go_sem] aa ac ae ab
theorem ah {B:Nat} {w W:World} (h:Below B w W) {g:Nat} (hg:B<=g) (a b c d e:Value) :
  Below B w (((((W.setCell ⟨g,0,none⟩ a).setCell ⟨g,1,none⟩ b).setCell ⟨g,2,none⟩ c).setCell ⟨g,3,none⟩ d).setCell ⟨g,4,none⟩ e) :=
 ((((h.setCell (p:=⟨g,0,none⟩) hg a).setCell (p:=⟨g,1,none⟩) hg b).setCell (p:=⟨g,2,none⟩) hg c).setCell (p:=⟨g,3,none⟩) hg d).setCell (p:=⟨g,4,none⟩) hg e
def cW:Array Value:=#[Zi Zq 0,Zi Zq 0,Zt ⟨#[]⟩,Zs none 0 0,Zs none 0 0]
def xX (cs:Array Value) (n:Int) (w:World) (e:Ending) (w':World):Prop:=e=.returned (.tuple #[.agg cs,Zi Zq n])/\Below w.heap.size w w'
theorem jL (v:JV) (cs:List Value) (F:Nat->Prop) (w:World) (hG:GOK w) (hv:VR w F cs v) (hc:au v) :
  Calls Tryz.prog 92 #[.agg cs.toArray] w (xX (if good v=true then cs.toArray else cW) (if good v=true then 0 else 140) w):=by
 have HV:=aW (λ (W:World) (h:Below w.heap.size w W)=>hv.bel h);obtain ⟨k0,n0,s0,A0,na0,ca0,B0,nb0,cb0,rfl⟩:=hv.form;have HG:=aW hG;have HC:=aW hc;have HH0:=aW (((aj.nil w).push 25 #[Zi Zq k0,Zi Zq n0,Zt s0,Zs A0 na0 ca0,Zs B0 nb0 cb0] (g:=w.heap.size) rfl).push 25 cW (g:=w.heap.size+1) (by simp));clear hv hG hc;unfold cW at *;by_cases hg:good v=true
 ·have HK:=aW (show dV v=0 by unfold dV;rw [if_pos hg]);rw [if_pos hg,if_pos hg];clear hg;obtain ⟨c1,f1,l1⟩:=HH0.out.b1.rules;go_enter Tryz.func92,Tryz.ntmps92;go_wp2_with fail;refine (ey HK.out (HG.out.keep HH0.out.1) (HV.out _ HH0.out.1) HC.out).mono ?_;rintro e w1 ⟨rfl,hb1⟩;have HH1:=aW (HH0.out.keep hb1);clear hb1 c1 f1 l1 HH0;obtain ⟨c1,f1,l1⟩:=HH1.out.b1.rules;obtain ⟨c2,f2,l2⟩:=HH1.out.b0.rules;go_wp2;refine bodyPost_ret (v:=.tuple #[.agg #[Zi Zq k0,Zi Zq n0,Zt s0,Zs A0 na0 ca0,Zs B0 nb0 cb0],Zi Zq 0]) (by simp only [results,Tryz.results92];go_simp) rfl ?_;exact ⟨rfl,ah HH1.out.1 (by omega) _ _ _ _ _⟩
 ·have HK:=aW (show dV v=140 by unfold dV;rw [if_neg hg]);rw [if_neg hg,if_neg hg];clear hg;obtain ⟨c1,f1,l1⟩:=HH0.out.b1.rules;go_enter Tryz.func92,Tryz.ntmps92;go_wp2_with fail;refine (ey HK.out (HG.out.keep HH0.out.1) (HV.out _ HH0.out.1) HC.out).mono ?_;rintro e w1 ⟨rfl,hb1⟩;have HH1:=aW (HH0.out.keep hb1);clear hb1 c1 f1 l1 HH0;obtain ⟨c2,f2,l2⟩:=HH1.out.b0.rules;go_wp2;refine bodyPost_ret (v:=.tuple #[.agg #[Zi Zq 0,Zi Zq 0,Zt ⟨#[]⟩,Zs none 0 0,Zs none 0 0],Zi Zq 140]) (by simp only [results,Tryz.results92];go_simp) rfl ?_;exact ⟨rfl,ah HH1.out.1 (by omega) _ _ _ _ _⟩
theorem sw:(Tryz.prog.info? 25).map (λ i=>(i.zero,i.size,i.bytes))=some (some (.agg #[Zi Zq 0,Zi Zq 0,Zt ⟨#[]⟩,Zs none 0 0,Zs none 0 0]),5,80):=by kernel_rfl
/-- slices.Clone of a row of values: the same cells in a row of one's own -/
theorem lY (css:List (List Value)) (xs:List JV) (F:Nat->Prop) (A:Option Addr) (n cap:Nat) (w:World) (h1:VRs w F css xs) (hn:xs.length=n) (hr:RdF w F A css.flatten) (hl:n<=4194304) :
  Calls Tryz.prog 167 #[Zs A n cap] w (λ e w' => ∃ v,e=.returned v/\w'.ownsRow w.heap.size 25 5 v n css.flatten/\Below w.heap.size w w'):=by
 obtain ⟨i0,hi,hz0,hz1,hz2⟩:=info_parts sw;have hnil:=λ (A:Option Addr) (n c:Nat) (w:World)=>Lib.run_eql_slice_nil (P:=Tryz.prog) (w:=w) 22 25 A n c 0 0 Tryz.underlying22
 have hfl:css.flatten.length=n*5:=by rw [h1.flat,hn]
 have hone:=h1.one;have hrd:Rd w A css.flatten:=λ hne=>by
  obtain ⟨b,o,e,hb,_,hc⟩:=hr hne;exact ⟨b,o,e,hb,hc⟩
 rcases A with _ | ad
 ·have hts:css.flatten=[]:=by
   cases hcf:css.flatten with
   | nil=>rfl
   |cons x r =>
    obtain ⟨b,o,e,_⟩:=hr (by rw [hcf];simp);cases e
  rw [hts] at hfl ⊢;obtain rfl:n=0:=by simp at hfl;omega
  clear h1 hr hone hrd hts hfl hn;go_enter Tryz.func167,Tryz.ntmps167;go_wp2;go_ret;exact ⟨_,rfl,World.ownsRow_nil _ _ _ _,Below.refl _ _⟩
 ·have HR:=aW hrd;clear h1 hr hn;generalize css.flatten=L at hfl hone hrd HR ⊢;clear hrd;go_enter Tryz.func167,Tryz.ntmps167;go_wp2_with (at_builtin;refine ag _ rfl _ _ 22 rfl w.heap.size 25 i0 _ 5 80 Tryz.underlying22 hi hz0 hz1 hz2 rfl (by decide) _ 0 [] rfl (World.ownsRow_made w #[] 0 (Nat.le_refl _) (by decide) rfl) (some ad) n cap (by intro h;cases h) L rfl hfl (HR.out.alloc _) hone (by unfold maxLen;omega) (by omega) (by simp) ?_;intro v' w1 hown hgr _);go_ret;rw [Nat.zero_add,List.nil_append] at hown;exact ⟨_,rfl,hown,((Below.refl _ w).alloc (Nat.le_refl _) _).grown hgr (by simp) (λ k e=>by cases e;exact Nat.le_refl _)⟩
theorem th {W:World} {F:Nat->Prop} {css:List (List Value)} {xs:List JV} {n cap:Nat} {A:Option Addr} (h1:VRs W F css xs) (hn:xs.length=n) (hnc:n<=cap) (hA:A=none->cap=0) (hr:RdF W F A css.flatten) :
  VR W F [Zi Zq 5,Zi Zq 0,Zt ⟨#[]⟩,Zs A n cap,Zs none 0 0] (.mk 5 0 [] xs []):=by
 exact VR.into 5 0 [] h1 (by rw [hn];exact hnc) (Nat.le_refl 0) hA (λ _=>rfl) hr (λ hne=>absurd rfl hne) hn.symm rfl
theorem aP {w:World} {base:Nat} {e:TypeId} {size n:Nat} {v:Value} {xs:List Value} (h:w.ownsRow base e size v n xs):∃ A cap,v=Zs A n cap/\n<=cap/\(A=none->cap=0)/\RdF w (λ b=>base<=b) A xs:=by
 obtain ⟨A,cap,e1,h1,h2⟩:=Rd.of_own h;refine ⟨A,cap,e1,h1,?_,λ hne=>?_⟩;rotate_left
 ·obtain ⟨b,o,e2,hb,hc⟩:=h2 hne;exact ⟨b,o,e2,hb,(h.lt b (by rw [e1,e2];rfl)).1,hc⟩
 rintro rfl;rcases h.2 with ⟨e2,_⟩ | ⟨g,cap',cur,e2,_⟩
 ·rw [e1] at e2;injection e2
 ·rw [e1] at e2;injection e2 with e2;cases e2
def uV (s:List UInt8) (w:World) (e:Ending) (w':World):Prop:=∃ cs:Array Value,e=.returned (.tuple #[.agg cs,Zi Zq (if good (.mk 4 0 s [] [])=true then 0 else 140)]) /\
 (good (.mk 4 0 s [] [])=true->VR w' TT cs.toList (.mk 4 0 s [] []))/\Below w.heap.size w w'
theorem oJ (s:List UInt8) (w:World) (hG:GOK w) (hc:au (.mk 4 0 s [] [])):Calls Tryz.prog 59 #[Zt ⟨s.toArray⟩] w (uV s w):=by
 have HG:=aW hG;have HC:=aW hc;have HH0:=aW ((aj.nil w).push 25 cW (g:=w.heap.size) rfl);unfold cW at HH0;clear hG hc;go_enter Tryz.func59,Tryz.ntmps59;go_wp2_with fail;refine (jL (.mk 4 0 s [] []) [Zi Zq 4,Zi Zq 0,Zt ⟨s.toArray⟩,Zs none 0 0,Zs none 0 0] TT _ (HG.out.keep HH0.out.1) (VR.atom 4 0 s) HC.out).mono ?_;rintro e w2 ⟨rfl,hb2⟩;have HH2:=aW (HH0.out.keep hb2);clear hb2 HH0;obtain ⟨c3,f3,l3⟩:=HH2.out.b0.rules;by_cases hg:good (.mk 4 0 s [] [])=true
 ·unfold uV;rw [if_pos hg,if_pos hg];go_wp2;refine bodyPost_ret (v:=.tuple #[.agg #[Zi Zq 4,Zi Zq 0,Zt ⟨s.toArray⟩,Zs none 0 0,Zs none 0 0],Zi Zq 0]) (by simp only [results,Tryz.results59];go_simp) rfl ?_;exact ⟨_,by rw [if_pos hg],λ _=>VR.atom 4 0 s,ah HH2.out.1 (Nat.le_refl _) _ _ _ _ _⟩
 ·unfold uV;rw [if_neg hg,if_neg hg];unfold cW;go_wp2;refine bodyPost_ret (v:=.tuple #[.agg #[Zi Zq 0,Zi Zq 0,Zt ⟨#[]⟩,Zs none 0 0,Zs none 0 0],Zi Zq 140]) (by simp only [results,Tryz.results59];go_simp) rfl ?_;exact ⟨_,by rw [if_neg hg],λ h=>absurd h hg,ah HH2.out.1 (Nat.le_refl _) _ _ _ _ _⟩
def mm (w:World) (A:Option Addr) (ca:Nat) (l:List JV):Prop:=∃ css,VRs w TT css l/\l.length<=ca/\(A=none->ca=0)/\RdF w TT A css.flatten
theorem mm.bel {w w':World} {A:Option Addr} {ca:Nat} {l:List JV} (h:mm w A ca l) (hb:Below w.heap.size w w'):mm w' A ca l:=by
 obtain ⟨css,h1,h2,h3,h4⟩:=h;exact ⟨css,h1.below hb,h2,h3,h4.keep (af.of_below hb)⟩
theorem mm.nil {w:World}:mm w none 0 []:=⟨[],VRs.nil,Nat.le_refl _,λ _=>rfl,RdF.nil⟩
theorem wI (l:List JV) (A:Option Addr) (nk ca:Nat) (c0 c1:Value) (w:World) (hG:GOK w) (hr:mm w A ca l) (hnk:l.length=nk) (hC:∀ x ∈ l,au x) (hlen:nk<=4194304) (Q:Ending->World->Prop)
  (hbad:(∃ x ∈ l,¬ gd x)->∀ W,Below w.heap.size w W->Q (.returned (.tuple #[Zi Zq 0,Zi Zq 140])) W)
  (hcall:(∀ x ∈ l,gd x)->∀ W,Below w.heap.size w W->Calls Tryz.prog 191 #[c0,c1] W (λ e w' => ∃ a:Value,∃ b:Int,e=.returned (.tuple #[a,Zi Zq b])/\Q (.returned (.tuple #[a,Zi Zq b])) w')) :
  Calls Tryz.prog 190 #[Zs A nk ca,.func (.func 191) #[] #[c0,c1]] w (Q):=by
 obtain ⟨css,hr1,hr2,hr3,hr4⟩:=hr;have HIH:=aW (λ (i:Nat) (x:JV) (hx:l[i]? = some x)=>aS hr1 hr4 hx);have HCK:=aW (λ (x:JV) (hx:x ∈ l) (W:World) (h:Below w.heap.size w W) (cs:List Value) (hv:VR W TT cs x)=>pK x cs TT W (hG.keep h) hv (hC x hx));have HBAD:=aW hbad;have HCALL:=aW hcall;rw [hnk] at hr2;have HNK:=aW hnk;clear hG hr1 hr3 hr4 hC hbad hcall hnk;go_enter Tryz.func190,Tryz.ntmps190;go_wp2;go_loopg [12] nk (λ gk s12 wr => ∃ i:Nat,i<=nk/\gk=nk-i/\s12=Zi Zq i/\Hid (∀ x ∈ l.take i,gd x)/\Hid (Below w.heap.size w wr))
 case atStart=>exact ⟨0,Nat.zero_le _,rfl,by go_num,aW (λ x h=>by simp at h),aW (Below.refl _ _)⟩
 case round =>
  obtain ⟨i,hi,hgk,rfl,HGD,HB⟩:=hrel;have HG:=aW hgk;clear hgk;by_cases hlt:i<nk
  ·obtain ⟨x,hx⟩:∃ x,l[i]? = some x:=⟨_,List.getElem?_eq_getElem (by rw [HNK.out];exact hlt)⟩
   obtain ⟨b,o,k1,n1,s1,A1,na1,ca1,B1,nb1,cb1,rfl,hb,hvx,hz⟩:=HIH.out i x hx;obtain ⟨q0,q1,q2,q3,q4⟩:=hz _ HB.out;have hbA:=(Below.refl wr.heap.size wr).alloc (Nat.le_refl _) (.cells #[Zi Zq k1,Zi Zq n1,Zt s1,Zs A1 na1 ca1,Zs B1 nb1 cb1] 25);have HB2:=aW (HB.out.trans (hbA.mono HB.out.size));have hck:=HCK.out x (List.mem_of_getElem? hx) _ HB2.out _ (hvx.bel HB2.out);have hb1:b<wr.heap.size:=Nat.lt_of_lt_of_le hb HB.out.size;have HTK:=aW (show gd x->∀ y ∈ l.take (i+1),gd y from λ g y hy=>by
    rw [List.take_add_one,hx] at hy;rcases List.mem_append.1 hy with hy | hy
    ·exact HGD.out y hy
    ·obtain rfl:y=x:=by simpa using hy
     exact g)
   have HXM:=aW (List.mem_of_getElem? hx);clear hz hvx hx hbA;by_cases hg:gd x
   ·rw [show dV x=0 from if_pos hg] at hck;have HCL:=aW hck;clear hck;go_wp2_with fail;refine HCL.out.mono ?_;rintro e w2 ⟨rfl,hb2⟩;have HB3:=aW (HB2.out.trans (hb2.mono HB2.out.size));clear hb2;go_wp2;go_roundg (nk-(i+1))
    case measure=>rw [HG.out];omega
    case rel=>exact ⟨i+1,hlt,rfl,by go_num,aW (HTK.out hg),HB3⟩
   ·rw [show dV x=140 from if_neg hg] at hck;have HCL:=aW hck;clear hck;go_wp2_with fail;refine HCL.out.mono ?_;rintro e w2 ⟨rfl,hb2⟩;have HB3:=aW (HB2.out.trans (hb2.mono HB2.out.size));have HXB:=aW (HBAD.out ⟨x,HXM.out,hg⟩);clear hb2;go_wp2;exact HXB.out _ HB3.out
  ·obtain rfl:i=nk:=by omega
   have hall:=HGD.out;rw [List.take_of_length_le (Nat.le_of_eq HNK.out)] at hall;have HCC:=aW (HCALL.out hall _ HB.out);clear hall;go_wp2_with fail;refine HCC.out.mono ?_;rintro e w2 ⟨a,b,rfl,hq⟩;have HQ:=aW hq;clear hq;go_wp2;exact HQ.out
end
section
theorem t8 {r:Nat} (h:r<9223372036854775808):r ^^^ 9223372036854775808=9223372036854775808+r:=by
 have e:(9223372036854775808:Nat)=2 ^ 63:=by decide
 rw [e] at h ⊢;refine Nat.eq_of_testBit_eq λ i=>?_
 rw [Nat.testBit_xor,Nat.testBit_two_pow];rcases Nat.lt_trichotomy i 63 with hi | rfl | hi
 ·rw [Nat.testBit_two_pow_add_gt hi,decide_eq_false (by omega),Bool.xor_false]
 ·rw [Nat.testBit_two_pow_add_eq,decide_eq_true rfl,Bool.xor_true]
 ·rw [decide_eq_false (by omega),Bool.xor_false];have h1:r<2 ^ i:=Nat.lt_of_lt_of_le h (Nat.pow_le_pow_right (by decide) (by omega));have h2:2 ^ 63+r<2 ^ i:=by
   have:2 ^ 64<=2 ^ i:=Nat.pow_le_pow_right (by decide) (by omega);have e2:(2:Nat) ^ 64=2 ^ 63+2 ^ 63:=by decide
   omega
  rw [Nat.testBit_lt_two_pow h1,Nat.testBit_lt_two_pow h2]
theorem vG {r:Nat} (h:r<9223372036854775808):(9223372036854775808+r) ^^^ 9223372036854775808=r:=by
 rw [← t8 h,Nat.xor_assoc,Nat.xor_self,Nat.xor_zero]
theorem pW (a b:Nat) (ha:a<18446744073709551616) (hb:b<18446744073709551616):bits .xor .u64 (a:Int) (b:Int)=((a ^^^ b:Nat):Int):=by
 have hx:a ^^^ b<2 ^ 64:=Nat.xor_lt_two_pow (by omega) (by omega);show IntKind.u64.wrap ((BitVec.ofInt 64 (a:Int) ^^^ BitVec.ofInt 64 (b:Int)).toNat:Int)=_
 rw [BitVec.toNat_xor,BitVec.ofInt_natCast,BitVec.ofInt_natCast,BitVec.toNat_ofNat,BitVec.toNat_ofNat,Nat.mod_eq_of_lt (by omega),Nat.mod_eq_of_lt (by omega),IntKind.wrap_u64];omega
theorem tO {v:Int} (hv:iw v):bits .xor .u64 (IntKind.u64.wrap v) 9223372036854775808=((v+9223372036854775808).toNat:Int):=by
 unfold iw at hv;rw [IntKind.wrap_u64];by_cases h:0<=v
 ·obtain ⟨a,rfl⟩:∃ a:Nat,(a:Int)=v:=⟨v.toNat,by omega⟩
  have e1:(a:Int) % 18446744073709551616=(a:Int):=by omega
  rw [e1,show (9223372036854775808:Int)=((9223372036854775808:Nat):Int) from rfl,pW _ _ (by omega) (by decide),t8 (by omega)];congr 1;omega
 ·obtain ⟨a,ha⟩:∃ a:Nat,(a:Int)=v+9223372036854775808:=⟨(v+9223372036854775808).toNat,by omega⟩
  have e1:v % 18446744073709551616=((9223372036854775808+a:Nat):Int):=by omega
  rw [e1,show (9223372036854775808:Int)=((9223372036854775808:Nat):Int) from rfl,pW _ _ (by omega) (by decide),vG (by omega)];congr 1;omega
def dK (m j:Nat):List UInt8:=(([56,48,40,32,24,16,8,0]:List Nat).take j).map λ by_=>UInt8.ofNat (m / 2 ^ by_)
theorem mj (n:Int):iS n=4::dK (n+9223372036854775808).toNat 8:=rfl
end
section
open Go.RowKit
attribute [local go_sem] aa ac ae ab
def oE (v:JV):Int × Int:=if good v=true then (((bf v).length:Int),0) else (0,140)
def ye (r:Int × Int) (w:World) (e:Ending) (w':World):Prop:=e=.returned (.tuple #[Zi Zq r.1,Zi Zq r.2])/\Below w.heap.size w w'
theorem qQ (v:JV) (cs:List Value) (F:Nat->Prop) (w:World) (hv:VR w F cs v) (hG:GOK w) (hC:au v):Calls Tryz.prog 66 #[.agg cs.toArray] w (ye (oE v) w):=by
 have HV:=aW (λ (W:World) (h:Below w.heap.size w W)=>hv.bel h);obtain ⟨k0,n0,s0,A0,na0,ca0,B0,nb0,cb0,rfl⟩:=hv.form;have HG:=aW hG;have HC:=aW hC;have HH0:=aW ((aj.nil w).push 25 #[Zi Zq k0,Zi Zq n0,Zt s0,Zs A0 na0 ca0,Zs B0 nb0 cb0] (g:=w.heap.size) rfl);clear hv hG hC;by_cases hg:good v=true
 ·have HK:=aW (show dV v=0 by unfold dV;rw [if_pos hg]);have HS:=aW (λ (W:World) (h:Below w.heap.size w W)=>ua (ar v) v 8 (Nat.le_refl _) (dH hg).1 HC.out _ F W (HV.out W h) (HG.out.keep h));have hr:oE v=(((bf v).length:Int),0):=by unfold oE;rw [if_pos hg]
  rw [hr];obtain ⟨q,hq⟩:∃ q,(bf v).length=q:=⟨_,rfl⟩
  unfold gj at HS;rw [hq] at HS ⊢;clear hr hq hg;go_enter Tryz.func66,Tryz.ntmps66;go_wp2_with fail;refine (ey HK.out (HG.out.keep HH0.out.1) (HV.out _ HH0.out.1) HC.out).mono ?_;rintro e w1 ⟨rfl,hb1⟩;have HH1:=aW (HH0.out.keep hb1);clear hb1;obtain ⟨c1,f1,l1⟩:=HH1.out.b0.rules;go_wp2_with fail;refine (HS.out _ HH1.out.1).mono ?_;rintro e w2 ⟨rfl,hb2⟩;have HH2:=aW (HH1.out.keep hb2);clear hb2 c1 f1 l1;go_wp2;go_ret2;exact ⟨rfl,HH2.out.1⟩
 ·have HK:=aW (show dV v=140 by unfold dV;rw [if_neg hg]);have hr:oE v=(0,140):=by unfold oE;rw [if_neg hg]
  rw [hr];clear hr hg;go_enter Tryz.func66,Tryz.ntmps66;go_wp2_with fail;refine (ey HK.out (HG.out.keep HH0.out.1) (HV.out _ HH0.out.1) HC.out).mono ?_;rintro e w1 ⟨rfl,hb1⟩;have HH1:=aW (HH0.out.keep hb1);clear hb1;go_wp2;go_ret2;exact ⟨rfl,HH1.out.1⟩
end
section
open Go.RowKit Go.Shelf
attribute [local go_sem] aa ac ae ab
end
section
open Go.RowKit
attribute [local go_sem] aa ac ae ab
def kP (cs:List Nat):List Value:=cs.map λ n:Nat=>Value.int .i64 (n:Int)
def us (cs:List Nat) (w:World) (e:Ending) (w':World):Prop:=(∃ A cap,e=.returned (.tuple #[Zs A cs.length cap,Zi Zq 0,.bool true])/\cs.length<=cap/\Rd w' A (kP cs))/\Below w.heap.size w w'
theorem xx (v:Value) (cs:List Nat) (w:World) (hcp:∀ c ∈ cs,eC (c:Int)=true) (hv:BS w v (cs.flatMap ai)) (hlen:(cs.flatMap ai).length<=4194304) :
  Calls Tryz.prog 50 #[v] w (us cs w):=by
 obtain ⟨i0,hi,hz0,hz1,hz2⟩:=info_parts pI;obtain ⟨hl1,hl2⟩:=pE hcp;obtain ⟨l,hle⟩:∃ l,cs.flatMap ai=l:=⟨_,rfl⟩
 rw [hle] at hv hl1 hl2 hlen;have hl:l.length<=4194304:=hlen;obtain ⟨A,cap,rfl,hcap,hr⟩:=hv;have HL:=aW hle;have HCP:=aW hcp;have HR:=aW hr;have HI:=aW hi;clear hle hcp hr hl1 hl2 hi hlen;go_enter Tryz.func50,Tryz.ntmps50;go_wp2;go_loopg [5,6] l.length (λ gk s5 s6 wr => ∃ (p:Nat) (pre suf:List Nat),p<=l.length/\pre.length<=p/\gk=l.length-p/\s6=Zi Zq p/\Hid (l.drop p=suf.flatMap ai)/\Hid (∀ c ∈ suf,eC (c:Int)=true)/\Hid (cs=pre++suf) /\
  wr.ownsRow w.heap.size 3 1 s5 pre.length (kP pre)/\Below w.heap.size w wr)
 case atStart=>exact ⟨0,[],cs,Nat.zero_le _,Nat.le_refl _,rfl,by go_num,aW (by rw [List.drop_zero,HL.out]),HCP,aW rfl,World.ownsRow_nil _ _ _ _,Below.refl _ _⟩
 case round =>
  obtain ⟨p,pre,suf,hp,hpp,hgk,rfl,HS,HQ,HPS,hown,hbw⟩:=hrel;have HG:=aW hgk;clear hgk;by_cases hlt:p<l.length
  ·obtain ⟨b,o,rfl,hb⟩:=HR.out.some_ (show 0<l.length by omega);cases suf with
   | nil=>have h:=congrArg List.length HS.out;rw [List.length_drop] at h;simp at h;omega
   |cons c suf =>
    have hc:=HQ.out c List.mem_cons_self;have hd:=HS.out;rw [List.flatMap_cons] at hd;obtain ⟨k1,k2,k3⟩:=bX c (suf.flatMap ai) hc;rw [← hd] at k1;obtain ⟨n,hn⟩:∃ n,(ai c).length=n:=⟨_,rfl⟩
    rw [hn] at k1 k2 k3;have hpn:p+n<=l.length:=by have h:=congrArg List.length hd;rw [List.length_drop,List.length_append,hn] at h;omega
    have HD:=aW (show l.drop (p+n)=suf.flatMap ai by rw [← List.drop_drop,hd,← hn,List.drop_left]);have HPS2:=aW (show cs=(pre++[c])++suf by rw [HPS.out];simp);have hB:=jH (Zs (some ⟨b,o+p,none⟩) (l.length-p) (cap-p)) (l.drop p) wr (BS.dropN (n:=0) (HR.out.below hbw) hcap p hp) (by rw [List.length_drop];omega);rw [k1] at hB;have HB:=aW hB;have HQ2:=aW (λ x hx=>HQ.out x (List.mem_cons_of_mem c hx));have hcapp:¬ cap=p:=by omega
    have hn0:((n:Int) == 0)=false:=by simp;omega
    clear hB k1 hd hc hn HQ HS HPS;go_wp2_with fail;refine HB.out.mono ?_;rintro e w1 ⟨rfl,hb1⟩;have hown1:=il hown hb1;go_wp2_with (at_builtin;refine wpList_append_own _ rfl _ _ 96 rfl w.heap.size 3 i0 (Zi Zq 0) 1 8 Tryz.underlying96 HI.out hz0 hz1 hz2 rfl (by decide) _ _ _ rfl (hown1.alloc _) ⟨w1.heap.size,0,none⟩ 1 1 [Zi Zq c] rfl rfl (cell_one_new _ _ _) (by simp [Value.oneCell']) (by unfold maxLen;omega) (by omega) (by have:=hbw.size;have:=hb1.size;simp;omega) ?_;intro v2 w2 hown2 hgr2 _);go_roundg (l.length-(p+n))
    case measure=>rw [HG.out];omega
    case rel =>
     have s1:=hbw.size;have s2:=hb1.size;refine ⟨p+n,pre++[c],suf,hpn,by rw [List.length_append,List.length_singleton];omega,rfl,by go_num,HD,HQ2,HPS2,?_,?_⟩
     ·rw [List.length_append,List.length_singleton];have e:kP (pre++[c])=kP pre++[Zi Zq c]:=by simp [kP]
      rw [e];exact hown2
     ·refine ((hbw.trans (hb1.mono s1)).alloc (by omega) _).grown hgr2 (by simp;omega) (λ k e=>?_);exact (hown1.lt k e).1
  ·cases suf with
   |cons c suf =>
    exfalso;have h:=congrArg List.length HS.out;rw [List.length_drop,List.flatMap_cons,List.length_append] at h;have:=(bX c [] (HQ.out c List.mem_cons_self)).2.1;omega
   |nil =>
    have hpe:pre=cs:=by rw [HPS.out,List.append_nil]
    subst hpe;obtain ⟨Ao,co,rfl,hco,hro⟩:=Rd.of_own hown;have HF:=aW (show us pre w (.returned (.tuple #[Zs Ao pre.length co,Zi Zq 0,.bool true])) wr from ⟨⟨_,_,rfl,hco,hro⟩,hbw⟩);clear hco hro hown HCP HL HPS HQ HS HR;go_wp2;go_ret3;exact HF.out
end
end Go.Proofs.YtgolomgmnanbpaaGreatDoor
