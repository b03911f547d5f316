import Derived.Test.YtgmnmnnoahdjnaaGreatDoorC22
import Derived.Test.YtgmnmnnoahdjnaaGreatDoorC23
open Go.Value renaming int → Zi, slice → Zs, string → Zt, pointer → Zp
open Go.IntKind renaming i64 → Zq
set_option maxRecDepth 100000
set_option maxHeartbeats 16000000
set_option linter.unusedVariables false
set_option linter.unusedSimpArgs false
namespace Go.Proofs.YtgmnmnnoahdjnaaGreatDoor
section
open Go.RowKit Go.Deep Go.ChangeShapes Go.WideShapes
section
variable {H:Type}
theorem lN (l:List (DataW H)):Rows.uptoBulk (.agg l)=Rows.uptoBulkAll l+1:=by rw [Rows.uptoBulk]
theorem ki (d:DataW H) (r:List (DataW H)):Rows.uptoBulkAll (d::r)=Rows.uptoBulk d+Rows.uptoBulkAll r:=by rw [Rows.uptoBulkAll]
theorem lO:Rows.uptoBulkAll ([]:List (DataW H))=0:=by rw [Rows.uptoBulkAll]
theorem pT (s:List UInt8):Rows.uptoBulk (H:=H) (.lit (.string s))=s.length+1:=by rw [Rows.uptoBulk]
theorem ry (l m:List (DataW H)):Rows.uptoBulk (.slice l m)=Rows.uptoBulkAll l+Rows.uptoBulkAll m+1:=by rw [Rows.uptoBulk]
end
def zn (W:World) (A:Option Addr) (ca:Nat) (l:List SJ):Prop:=∃ css,SRs W TT css l/\l.length<=ca/\(A=none->ca=0)/\RdF W TT A css.flatten
section
variable {H:Type} {enc:TypeId × Value->H} {W:World} {α:Type} {R:List Value->α->Prop} {Pr:Nat->α->Prop} {sz:α->Nat}
theorem qC {m:Nat} (hmono:∀ n n' x,n<=n'->Pr n x->Pr n' x) (hpos:∀ n x,Pr n x->1<=n) (hsz:∀ n x,Pr n x->sz x<=n) (a:Addr):∀ (elems:List (DataW H × List MemPlace)) (a0:Nat),
  (∀ i,i<elems.length->∃ c v y,elems[i]? = some y/\W.cells? 0 (a.add ((a0+i)*m)) m=some c/\R c v/\Pr (Rows.uptoBulk y.1) v) ->
  ∃ css kids,RR R css kids/\kids.length=elems.length/\(∀ i c,css[i]? = some c->W.cells? 0 (a.add ((a0+i)*m)) m=some c)/\(∀ x ∈ kids,Pr (Rows.uptoBulkAll (elems.map (·.1))) x)/\kids.length<=Rows.uptoBulkAll (elems.map (·.1))/\(kids.map sz).sum<=Rows.uptoBulkAll (elems.map (·.1))
 | [],_,_=>⟨[],[],RR.nil,rfl,λ i c h=>by simp at h,λ x h=>(List.not_mem_nil h).elim,Nat.zero_le _,Nat.zero_le _⟩
 |y::r,a0,h=>by
  obtain ⟨c,v,y',e,h1,h2,h3⟩:=h 0 (by simp);obtain rfl:y=y':=by simpa using e
  obtain ⟨css,kids,k1,k2,k3,k4,k5,k6⟩:=qC hmono hpos hsz a r (a0+1) (λ i hi=>by
   obtain ⟨c,v,y',e,h1,h2,h3⟩:=h (i+1) (by simp;omega);exact ⟨c,v,y',by simpa using e,by rw [show a0+1+i=a0+(i+1) by omega];exact h1,h2,h3⟩)
  have hp:=hpos _ _ h3;have hq:=hsz _ _ h3;refine ⟨c::css,v::kids,⟨by simp [k1.1],λ i c' x' e1 e2=>?_⟩,by simp [k2],λ i c' e1=>?_,λ x hx=>?_,?_,?_⟩
  ·cases i with
   |zero =>
    obtain rfl:c=c':=by simpa using e1
    obtain rfl:v=x':=by simpa using e2
    exact h2
   | succ i=>exact k1.2 i c' x' (by simpa using e1) (by simpa using e2)
  ·cases i with
   |zero =>
    obtain rfl:c=c':=by simpa using e1
    exact h1
   | succ i=>have:=k3 i c' (by simpa using e1);rwa [show a0+1+i=a0+(i+1) by omega] at this
  ·rw [List.map_cons];unfold Rows.uptoBulkAll;rcases List.mem_cons.1 hx with rfl | hx
   ·exact hmono _ _ _ (by omega) h3
   ·exact hmono _ _ _ (by omega) (k4 x hx)
  ·rw [List.map_cons,List.length_cons];unfold Rows.uptoBulkAll;omega
  ·rw [List.map_cons,List.map_cons,List.sum_cons];unfold Rows.uptoBulkAll;omega
theorem yw {m:Nat} (hm:0<m) (a:Addr) {css:List (List Value)} {kids:List α} (h:RR R css kids) (hR:∀ c x,R c x->c.length=m) (hc:∀ i c,css[i]? = some c->W.cells? 0 (a.add (i*m)) m=some c):RdF W TT (some a) css.flatten:=by
 intro hne;have hpos:0<css.length:=by
  rcases css with _ | ⟨c,r⟩
  ·exact absurd rfl hne
  ·simp
 obtain ⟨b,o,spot⟩:=a;have h5:=h.lens hR;have h0:=World.cells?_some (hc 0 _ (List.getElem?_eq_getElem hpos));have q0:=h0.2.2 0 hm;rw [List.getElem?_eq_getElem (by omega)] at q0;have hspot:spot=none:=by simpa [Addr.add] using World.cell?_spot q0
 subst hspot;have hcell:∀ i (hi:i<css.flatten.length),W.cell? ⟨b,o+i,none⟩=some css.flatten[i]:=by
  intro i hi;rw [iR h5] at hi;have hq:i / m<css.length:=(Nat.div_lt_iff_lt_mul hm).2 hi;have hx:=World.cells?_some (hc (i / m) _ (List.getElem?_eq_getElem hq));have hy:=hx.2.2 (i % m) (Nat.mod_lt _ hm);rw [add_plain,add_plain,← kw h5 (List.getElem?_eq_getElem hq) (Nat.mod_lt _ hm)] at hy;have hd:i / m*m+i % m=i:=Nat.div_add_mod' i m;rw [show o+i=o+i / m*m+i % m by omega,hy,hd,List.getElem?_eq_getElem]
 refine ⟨b,o,rfl,?_,trivial,hcell⟩;have hl:0<css.flatten.length:=by rw [iR h5];exact Nat.mul_pos hpos hm
 have hz:=hcell 0 hl;rcases Nat.lt_or_ge b W.heap.size with hlt | hge
 ·exact hlt
 ·unfold World.cell? at hz;simp [Array.getElem?_eq_none hge] at hz
theorem iZ {m:Nat} {t e:TypeId} (ht:Tryz.prog.underlying t=some (.slice e)) (hcv:Tryz.prog.cellsOf e=m) (hm:0<m) (hR:∀ c x,R c x->c.length=m) (hmono:∀ n n' x,n<=n'->Pr n x->Pr n' x) (hpos:∀ n x,Pr n x->1<=n) (hsz:∀ n x,Pr n x->sz x<=n)
  {fuel:Nat} (ih:∀ (n:Nat) (cs:List Value) (x:DataW H × List MemPlace),n<fuel->DataW.trod enc Tryz.prog W 0 (λ _=>true) true n e cs=some x->∃ v,R cs v/\Pr (Rows.uptoBulk x.1) v)
  {cs:List Value} {x:DataW H × List MemPlace} (h:DataW.trod enc Tryz.prog W 0 (λ _=>true) true fuel t cs=some x) :
  ∃ A ca css kids,cs=[.slice A kids.length ca]/\RR R css kids/\kids.length<=ca/\(A=none->ca=0)/\RdF W TT A css.flatten/\(∀ v ∈ kids,Pr (Rows.uptoBulk x.1) v)/\kids.length<=Rows.uptoBulk x.1/\(kids.map sz).sum<=Rows.uptoBulk x.1:=by
 rcases DataW.trod_slice ht h with ⟨e3,rfl⟩ | ⟨a,len,cap,elems,rest,n',hn,e3,rfl,hb,hl,hmx,hel,hk,_,_⟩
 ·exact ⟨none,0,[],[],by simpa using e3,RR.nil,Nat.le_refl _,λ _=>rfl,RdF.nil,λ v hv=>(List.not_mem_nil hv).elim,Nat.zero_le _,Nat.zero_le _⟩
 ·rw [hcv] at hk;obtain ⟨css,kids,k1,k2,k3,k4,k5,k6⟩:=qC (W:=W) hmono hpos hsz a elems 0 (λ i hi=>by
   have hq:=hk i (by omega);rw [List.getElem?_eq_getElem hi] at hq;obtain ⟨c,q1,q2⟩:=Option.bind_eq_some_iff.1 hq;obtain ⟨v,q3,q4⟩:=ih n' c _ (by omega) q2;exact ⟨c,v,_,List.getElem?_eq_getElem hi,by rw [Nat.zero_add];exact q1,q3,q4⟩)
  have hle:Rows.uptoBulkAll (elems.map (·.1))<=Rows.uptoBulk (H:=H) (.slice (elems.map (·.1)) (rest.map (·.1))):=by rw [ry];omega
  refine ⟨some a,cap,css,kids,?_,k1,by omega,λ e=>by simp at e,yw hm a k1 hR (λ i c e=>by have:=k3 i c e;rwa [Nat.zero_add] at this),λ v hv=>hmono _ _ _ hle (k4 v hv),Nat.le_trans k5 hle,Nat.le_trans k6 hle⟩;rw [k2,hel];exact e3
def pN (n:Nat) (x:EJ):Prop:=kC n x/\bZ x<=n
theorem pN.mono (n n':Nat) (x:EJ) (h:n<=n') (hx:pN n x):pN n' x:=⟨eC h x hx.1,Nat.le_trans hx.2 h⟩
theorem pN.pos (n:Nat) (x:EJ) (h:pN n x):1<=n:=by have h1:=h.1;cases x;unfold kC at h1;exact h1.1
def jK (n:Nat) (x:SJ):Prop:=jz n x/\eI x<=n
theorem jK.mono (n n':Nat) (x:SJ) (h:n<=n') (hx:jK n x):jK n' x:=⟨fv h x hx.1,Nat.le_trans hx.2 h⟩
theorem jK.pos (n:Nat) (x:SJ) (h:jK n x):1<=n:=by have h1:=h.1;cases x;unfold jz at h1;exact h1.1
/-- an expression that came in -/
theorem n7:∀ (fuel:Nat) (cs:List Value) (x:DataW H × List MemPlace),DataW.trod enc Tryz.prog W 0 (λ _=>true) true fuel 45 cs=some x->∃ v,ER W TT cs v/\kC (Rows.uptoBulk x.1) v/\bZ v<=Rows.uptoBulk x.1:=by
 intro fuel
 induction fuel using Nat.strongRecOn with
 |ind fuel ih =>
  intro cs x h;obtain ⟨xs,n,rfl,rfl,hlen,hxl,hf⟩:=DataW.trod_struct Tryz.underlying45 h;have ci:Tryz.prog.cellsOf 3=1:=by kernel_rfl
  have ct:Tryz.prog.cellsOf 9=1:=by kernel_rfl
  have ck:Tryz.prog.cellsOf 43=1:=by kernel_rfl
  have cv:Tryz.prog.cellsOf 42=5:=by kernel_rfl
  have ce:Tryz.prog.cellsOf 45=8:=by kernel_rfl
  rw [ce] at hlen;have f0:=hf 0 _ rfl;have f1:=hf 1 _ rfl;have f2:=hf 2 _ rfl;have f3:=hf 3 _ rfl;clear hf
  match xs,hxl,cs,hlen with
  |[y0,y1,y2,y3],_,[c0,c1,c2,c3,c4,c5,c6,c7],_ =>
   simp [ci,ct,ck,cv] at f0 f1 f2 f3;obtain ⟨k,e0,rfl,w0⟩:=DataW.trod_int Tryz.underlying3 f0;obtain ⟨v,hv,hi,hb⟩:=sg n _ _ f1;obtain ⟨s,e2,rfl,w2⟩:=DataW.trod_string Tryz.underlying9 f2;obtain ⟨A,ca,css,kids,e3,k1,k2,k3,k4,k5,k6,k7⟩:=iZ (R:=ER W TT) (Pr:=pN) (sz:=bZ) Tryz.underlying43 ce (by decide) (λ c x h=>h.len) pN.mono pN.pos (λ n x h=>h.2) (λ n' c y hn hy=>ih n' (by omega) c y hy) f3;obtain rfl:c0=.int .i64 k:=by simpa using e0
   obtain rfl:c6=.string s:=by simpa using e2
   obtain rfl:c7=.slice A kids.length ca:=by simpa using e3
   obtain ⟨ss,rfl⟩:∃ ss:List UInt8,s=⟨ss.toArray⟩:=⟨s.data.toList,by simp⟩
   refine ⟨.mk k v ss kids,ER.into hv k1 rfl k2 k3 k4,?_⟩;simp only [List.map_cons,List.map_nil];have e2:(Lit.string (ByteArray.mk ss.toArray).data.toList)=.string ss:=by simp
   have e4:Rows.uptoBulk (H:=H) (.lit (.string ss))=ss.length+1:=by unfold Rows.uptoBulk;rfl
   rw [e2];have hle:1<=Rows.uptoBulk (H:=H) (.agg [.lit (.int .i64 k),y1.1,.lit (.string ss),y3.1])/\Rows.uptoBulk y1.1+(ss.length+1)+Rows.uptoBulk y3.1<=Rows.uptoBulk (H:=H) (.agg [.lit (.int .i64 k),y1.1,.lit (.string ss),y3.1]):=by
    simp only [lN,ki,lO,pT];constructor<;>omega
   unfold kC;exact ⟨⟨hle.1,tO w0,hi,by omega,by omega,by omega,nR.2 λ x hx=>eC (by omega) x (k5 x hx).1⟩,by unfold bZ;rw [kM];omega⟩
/-- a statement that came in -/
theorem uo:∀ (fuel:Nat) (cs:List Value) (x:DataW H × List MemPlace),DataW.trod enc Tryz.prog W 0 (λ _=>true) true fuel 48 cs=some x->∃ v,SR W TT cs v/\jz (Rows.uptoBulk x.1) v/\eI v<=Rows.uptoBulk x.1:=by
 intro fuel
 induction fuel using Nat.strongRecOn with
 |ind fuel ih =>
  intro cs x h;obtain ⟨xs,n,rfl,rfl,hlen,hxl,hf⟩:=DataW.trod_struct Tryz.underlying48 h;have ci:Tryz.prog.cellsOf 3=1:=by kernel_rfl
  have ct:Tryz.prog.cellsOf 9=1:=by kernel_rfl
  have ck:Tryz.prog.cellsOf 22=1:=by kernel_rfl
  have ce:Tryz.prog.cellsOf 45=8:=by kernel_rfl
  have cs':Tryz.prog.cellsOf 48=20:=by kernel_rfl
  rw [cs'] at hlen;have f0:=hf 0 _ rfl;have f1:=hf 1 _ rfl;have f2:=hf 2 _ rfl;have f3:=hf 3 _ rfl;have f4:=hf 4 _ rfl;have f5:=hf 5 _ rfl;clear hf
  match xs,hxl,cs,hlen with
  |[y0,y1,y2,y3,y4,y5],_,[c0,c1,a0,a1,a2,a3,a4,a5,a6,a7,b0,b1,b2,b3,b4,b5,b6,b7,c2,c3],_ =>
   simp [ci,ct,ck,ce] at f0 f1 f2 f3 f4 f5;obtain ⟨k,e0,rfl,w0⟩:=DataW.trod_int Tryz.underlying3 f0;obtain ⟨s,e1,rfl,w1⟩:=DataW.trod_string Tryz.underlying9 f1;obtain ⟨a,ha,hal,has⟩:=n7 n _ _ f2;obtain ⟨b,hb,hbl,hbs⟩:=n7 n _ _ f3;obtain ⟨A,ca,css,body,e4,k1,k2,k3,k4,k5,k6,k7⟩:=iZ (R:=SR W TT) (Pr:=jK) (sz:=eI) Tryz.underlying22 cs' (by decide) (λ c x h=>h.len) jK.mono jK.pos (λ n x h=>h.2) (λ n' c y hn hy=>ih n' (by omega) c y hy) f4;obtain ⟨B,cb,dss,els,e5,g1,g2,g3,g4,g5,g6,g7⟩:=iZ (R:=SR W TT) (Pr:=jK) (sz:=eI) Tryz.underlying22 cs' (by decide) (λ c x h=>h.len) jK.mono jK.pos (λ n x h=>h.2) (λ n' c y hn hy=>ih n' (by omega) c y hy) f5;obtain rfl:c0=.int .i64 k:=by simpa using e0
   obtain rfl:c1=.string s:=by simpa using e1
   obtain rfl:c2=.slice A body.length ca:=by simpa using e4
   obtain rfl:c3=.slice B els.length cb:=by simpa using e5
   obtain ⟨ss,rfl⟩:∃ ss:List UInt8,s=⟨ss.toArray⟩:=⟨s.data.toList,by simp⟩
   refine ⟨.mk k ss a b body els,SR.into ha hb k1 rfl k2 k3 k4 g1 rfl g2 g3 g4,?_⟩;simp only [List.map_cons,List.map_nil];have e2:(Lit.string (ByteArray.mk ss.toArray).data.toList)=.string ss:=by simp
   have e6:Rows.uptoBulk (H:=H) (.lit (.string ss))=ss.length+1:=by unfold Rows.uptoBulk;rfl
   rw [e2];have hle:1<=Rows.uptoBulk (H:=H) (.agg [.lit (.int .i64 k),.lit (.string ss),y2.1,y3.1,y4.1,y5.1])/\(ss.length+1)+Rows.uptoBulk y2.1+Rows.uptoBulk y3.1+Rows.uptoBulk y4.1+Rows.uptoBulk y5.1<=Rows.uptoBulk (H:=H) (.agg [.lit (.int .i64 k),.lit (.string ss),y2.1,y3.1,y4.1,y5.1]):=by
    simp only [lN,ki,lO,pT];constructor<;>omega
   unfold jz;exact ⟨⟨hle.1,tO w0,by omega,eC (by omega) a hal,eC (by omega) b hbl,by omega,by omega,iW.2 λ x hx=>fv (by omega) x (k5 x hx).1,iW.2 λ x hx=>fv (by omega) x (g5 x hx).1⟩,by unfold eI;rw [jd,jd];omega⟩
/-- a program that came in: the row of its statements -/
theorem un {fuel:Nat} {cs:List Value} {x:DataW H × List MemPlace} (h:DataW.trod enc Tryz.prog W 0 (λ _=>true) true fuel 24 cs=some x) :
  ∃ A ca css body,cs=[.slice A body.length ca]/\SRs W TT css body/\body.length<=ca/\(A=none->ca=0)/\RdF W TT A css.flatten/\(∀ v ∈ body,jz (Rows.uptoBulk x.1) v)/\body.length<=Rows.uptoBulk x.1/\aA body<=Rows.uptoBulk x.1:=by
 obtain ⟨xs,n,rfl,rfl,hlen,hxl,hf⟩:=DataW.trod_struct Tryz.underlying24 h;have ck:Tryz.prog.cellsOf 22=1:=by kernel_rfl
 have cp:Tryz.prog.cellsOf 24=1:=by kernel_rfl
 have cs':Tryz.prog.cellsOf 48=20:=by kernel_rfl
 rw [cp] at hlen;have f0:=hf 0 _ rfl;clear hf
 match xs,hxl,cs,hlen with
 |[y0],_,[c0],_ =>
  simp [ck] at f0;obtain ⟨A,ca,css,body,e4,k1,k2,k3,k4,k5,k6,k7⟩:=iZ (R:=SR W TT) (Pr:=jK) (sz:=eI) Tryz.underlying22 cs' (by decide) (λ c x h=>h.len) jK.mono jK.pos (λ n x h=>h.2) (λ n' c y hn hy=>uo n' c y hy) f0;have hle:Rows.uptoBulk y0.1<=Rows.uptoBulk (H:=H) (.agg [y0.1]):=by simp only [lN,ki,lO];omega
  exact ⟨A,ca,css,body,e4,k1,k2,k3,k4,λ v hv=>fv hle v (k5 v hv).1,by simp only [List.map_cons,List.map_nil];omega,by rw [jd];simp only [List.map_cons,List.map_nil];omega⟩
end
end
section
open Go.RowKit Go.Shelf
attribute [local go_sem] aa ac ae ab Oper.semAt_some
theorem sI (w0:World) (g rb wb:Nat) (A:Option Addr) (cap:Nat) (l:List UInt8) (p0:Nat) (w:World) (hG:GOK w0) (hr:Rd w0 A (am l)) (hcap:l.length<=cap) (hlen:l.length<=4194304)
  (hp0:p0<=l.length) (hgr:g≠rb) (hgw:g≠wb) (hg0:w0.heap.size<=g) (hW:aO (· < w0.heap.size) w0 w)
  (hV:VB w g A cap l p0 0) (hrb:Blk w rb 109 #[Zp (some ⟨g,0,none⟩)]) (hwb:Blk w wb 165 (ll g)) :
  nx Fence.wide 2 Tryz.prog 134 #[Zp (some ⟨rb,0,none⟩),Zp (some ⟨wb,0,none⟩)] vC
   (StV g A cap l) (KpV w0.heap.size g rb wb) (λ pre x=>pre++[x] <+: (cC l p0).1) (yR g A cap l p0) (λ pre _=>pre <+: (cC l p0).1) w:=by
 intro k J Jx W hW2 hJ _ hY h0;exact rj w0 g rb wb A cap l p0 k J Jx W hG hr hcap hlen hp0 hgr hgw hg0 (hW.trans (aO.of_below hW2 (λ i hi=>Nat.lt_of_lt_of_le hi hW.1))) hJ hY (hV.keep hW2) (hrb.keep hW2) (hwb.keep hW2) h0
def gh (l:List UInt8):List ak × Int × Int :=
 if 512<l.length then ([],0,3) else match (cC l 0).2 with | none=>((cC l 0).1,0,0) | some e=>([],e.1,e.2)
def lC (r:List ak × Int × Int) (w:World) (e:Ending) (w':World):Prop :=
 ∃ v,e=.returned (.tuple #[v,Zi Zq r.2.1,Zi Zq r.2.2])/\TS w' v r.1/\Below w.heap.size w w'
theorem ro (l:List UInt8):∀ (k p:Nat),(fo l k p).1.length<=k
 | 0,_=>by simp [fo]
 |k+1,p=>by
  unfold fo;split
  ·cases hv:dj l (cq l p) with
   | inr e=>simp
   |inl r =>
    obtain ⟨kd,t,n,m⟩:=r;have:=ro l k m;simp;omega
  ·simp
theorem oI (l:List UInt8) (p:Nat):(cC l p).1.length<=l.length+1-p:=ro l _ p
theorem Rd.below_at {W W':World} {b o N:Nat} {xs:List Value} (h:Rd W (some ⟨b,o,none⟩) xs) (hb:Below N W W') (hN:b<N):Rd W' (some ⟨b,o,none⟩) xs:=λ hn=>by
 obtain ⟨b',o',e,hlt,hx⟩:=h hn;obtain ⟨rfl,rfl⟩:b=b'/\o=o':=by simpa using e
 exact ⟨b,o,rfl,Nat.lt_of_lt_of_le hlt hb.size,λ i hi=>by rw [← hx i hi];exact World.cell?_of_block (w:=W) (hb.block b hN)⟩
def lm (w:World) (A:Option Addr) (cap:Nat) (l:List UInt8) (pre:List ak) (W:World):Prop :=
 (∃ v,Boxed W (w.heap.size+2) 77 v/\W.ownsRow (w.heap.size+1) 86 4 v pre.length (bA pre))/\Below w.heap.size w W/\(∃ p why,VB W (w.heap.size+1) A cap l p why) /\
  Blk W (w.heap.size+3) 109 #[Zp (some ⟨w.heap.size+1,0,none⟩)]/\Blk W (w.heap.size+4) 165 (ll (w.heap.size+1))/\w.heap.size+5<=W.heap.size
theorem VB.putObj {W:World} {g:Nat} {A:Option Addr} {cap:Nat} {l:List UInt8} {p why:Int} {k:Nat} {o:Obj} (o':Obj) (h:VB W g A cap l p why) (ho:W.heap[k]? = some o) (hc:o.isCells=false):VB (W.putObj k o') g A cap l p why :=
 ⟨h.1.putObj o' ho hc,h.2.putObj o' ho hc⟩
theorem lm.putObj {w:World} {A:Option Addr} {cap:Nat} {l:List UInt8} {pre:List ak} {W:World} {k:Nat} {o:Obj} (o':Obj) (h:lm w A cap l pre W) (hk:w.heap.size<=k) (ho:W.heap[k]? = some o) (hc:o.isCells=false):lm w A cap l pre (W.putObj k o'):=by
 obtain ⟨⟨v,hv,hr⟩,hb,⟨p,why,hV⟩,h1,h2,h3⟩:=h;exact ⟨⟨v,Blk.putObj o' hv ho hc,ownsRow_putObj hr o' ho hc⟩,bB hb k o' hk,⟨p,why,hV.putObj o' ho hc⟩,h1.putObj o' ho hc,h2.putObj o' ho hc,by simpa [World.putObj] using h3⟩
theorem lm.alloc {w:World} {A:Option Addr} {cap:Nat} {l:List UInt8} {pre:List ak} {W:World} (h:lm w A cap l pre W) (o:Obj):lm w A cap l pre (W.alloc o):=by
 obtain ⟨⟨v,hv,hr⟩,hb,⟨p,why,hV⟩,h1,h2,h3⟩:=h;exact ⟨⟨v,Blk.alloc hv o,hr.alloc o⟩,hb.alloc hb.size o,⟨p,why,hV.keep ((Below.refl _ W).alloc (Nat.le_refl _) o)⟩,h1.alloc o,h2.alloc o,by simp;omega⟩
theorem lm.step {w:World} {A:Option Addr} {cap:Nat} {l:List UInt8} {pre:List ak} {W W':World} (h:lm w A cap l pre W) (hs:StV (w.heap.size+1) A cap l W W'):lm w A cap l pre W':=by
 obtain ⟨⟨v,hv,hr⟩,hb,⟨p,why,hV⟩,h1,h2,h3⟩:=h;have hne:=dy hr hV.1 (by decide);exact ⟨⟨v,hv.kept hs.1 (by simp),hr.kept hs.1 (.inr (Ne.symm hne))⟩,hb.grown hs.1 hb.size (λ k e=>by cases e;omega),hs.2 ⟨p,why,hV⟩,h1.grown hs.1 (by simp),h2.grown hs.1 (by simp),Nat.le_trans h3 hs.1.size⟩
theorem zM (s:ByteArray) (w:World) (hG:GOK w) (hs:s.size<=512):Calls Tryz.prog 50 #[Zt s] w (lC (gh (sl s)) w):=by
 obtain ⟨i0,hi,hz0,hz1,hz2⟩:=info_parts yc;refine (callsIn_wide (n:=3)).1 ?_;refine callsIn_of_wp_marks Tryz.func50 rfl trivial ?_ rfl;simp only [Tryz.ntmps50,List.size_toArray,List.length_cons,List.length_nil,Nat.reduceAdd,Nat.reduceSub,Array.replicate_succ,Array.replicate_zero,List.push_toArray,List.append_toArray,List.nil_append,List.cons_append];refine wpIn_wide.2 ?_;obtain ⟨cap,W1,hcv,hcap,hb1,hs1,hr1⟩:=jr (P:=Tryz.prog) w 9 67 5 s Tryz.underlying9 Tryz.underlying67 Tryz.underlying5;rw [← fE s] at hcap;have hlen:(sl s).length<=512:=by rw [fE];exact hs
 obtain ⟨l,hl⟩:∃ l,sl s=l:=⟨_,rfl⟩
 have hsz:s.size=l.length:=by rw [← hl,fE]
 rw [hl] at hr1 hcap hlen;rw [hsz] at hcv;have HSZ:=aW hsz;have HSL:=aW hl;have hsi:(512:Int)<(s.size:Int)->False:=by omega
 have hs512:(s.size:Int)<=512:=by omega
 clear hsz hl hs;have HR:=aW hr1;have HB1:=aW hb1;have HG:=aW hG;clear hr1 hb1 hG;go_wp2_with (go_at_call 84;refine (sH _ _).mono ?_;rintro e w2 ⟨rfl,hrb,hwb,hs2,hb2⟩);rw [show w.heap.size+1+1+1+1=w.heap.size+4 from rfl,show w.heap.size+1+1+1=w.heap.size+3 from rfl,show w.heap.size+1+1=w.heap.size+2 from rfl];have hbr:=Blk.new W1 113 (cB (some ⟨w.heap.size,0,none⟩) l.length cap 0 0);have hbo:=Blk.new (W1.alloc (.cells (cB (some ⟨w.heap.size,0,none⟩) l.length cap 0 0) 113)) 77 #[Zs none 0 0];rw [hs1] at hbr;simp only [World.size_alloc,hs1] at hrb hwb hs2 hb2 hbo;have hb3:Below W1.heap.size W1 w2:=(((Below.refl _ W1).alloc (Nat.le_refl _) _).alloc (by simp) _).trans (hb2.mono (by omega));have hV2:VB w2 (w.heap.size+1) (some ⟨w.heap.size,0,none⟩) cap l 0 0:=⟨((hbr.alloc _).below hb2 (by omega)),(HR.out.below hb3)⟩
 have hI0:lm w (some ⟨w.heap.size,0,none⟩) cap l [] w2:=⟨⟨_,hbo.below hb2 (by omega),World.ownsRow_nil _ _ _ _⟩,HB1.out.trans (hb3.mono HB1.out.size),⟨0,0,hV2⟩,hrb,hwb,by omega⟩
 clear hbr hbo hb2;refine (wpIn_wide (n:=3)).1 ?_;refine rr rfl (by omega) (gf:=134) (lb:=#[Zp (some ⟨w.heap.size+3,0,none⟩),Zp (some ⟨w.heap.size+4,0,none⟩)]) rfl trivial (enters_of Tryz.func134 (by kernel_rfl) rfl)
  (sI W1 (w.heap.size+1) (w.heap.size+3) (w.heap.size+4) (some ⟨w.heap.size,0,none⟩) cap l 0 w2 (HG.out.keep HB1.out) HR.out hcap (by omega) (Nat.zero_le _) (by omega) (by omega) (by omega) (aO.of_below hb3 (λ _ h=>h)) hV2 hrb hwb) (Below.refl _ _) (λ _=>rfl)
  (λ A B k o hs hk ho _=>(hs.1.block k (Array.getElem?_eq_some_iff.1 ho).1 (by simp;omega)).trans ho)
  (λ h k=>h.trans k) (λ W k o o' hk _ _=>aO.putObj (N:=w2.heap.size) (by intro j hj;omega) W k o' hk)
  (λ xs W k o o' _ ho hc h=>by obtain ⟨h1,q,er,h2,h3⟩:=h;exact ⟨h1,q,er,h2.putObj o' ho hc,h3⟩) (λ _ _ _ _ _ _ _ _ h=>h)
  (lm w (some ⟨w.heap.size,0,none⟩) cap l) (λ _ _ _=>False) (λ s A B hs h=>h.step hs) (λ _ _ _ _ _ h=>h) (λ s W k o o' hk ho hc h=>h.putObj o' (by omega) ho hc) (λ _ _ _ _ _ _ _ _ _ h=>h) (λ o o'=>(hI0.alloc o).alloc o')
  (λ pre x a1 W => ∃ tb,a1={ tmps:=#[Zt s,undef,Zs none 0 0,Zi Zq 0,Zi Zq 0,Zp (some ⟨w.heap.size+1,0,none⟩),Zp (some ⟨w.heap.size+2,0,none⟩),Zp (some ⟨tb,0,none⟩),Zt s,Zi Zq s.size,.bool (decide (512<(s.size:Int))),Zt s,Zs (some ⟨w.heap.size,0,none⟩) l.length cap,
   .agg #[Zi Zq 0,Zi Zq 0,Zs (some ⟨w.heap.size,0,none⟩) l.length cap],Zp (some ⟨w.heap.size+1,0,none⟩),Zp (some ⟨w.heap.size+1,0,none⟩),.func (.func 134) #[] #[Zp (some ⟨w.heap.size+3,0,none⟩),Zp (some ⟨w.heap.size+4,0,none⟩)],.agg #[Zi Zq x.1,Zi Zq x.2.1,Zt ⟨x.2.2.1.toArray⟩,Zi Zq x.2.2.2],undef,undef,undef,undef,undef,undef,undef,undef,undef,undef,undef,undef,undef,undef,undef,undef,undef,undef,undef,undef,undef],defers:=[] }/\Blk W tb 86 #[Zi Zq x.1,Zi Zq x.2.1,Zt ⟨x.2.2.1.toArray⟩,Zi Zq x.2.2.2]/\lm w (some ⟨w.heap.size,0,none⟩) cap l pre W)
  ?hI1p ?assign ?body ?done ?stop
 case hI1p =>
  rintro pre x a1 W k o o' hk ho hc ⟨tb,e,h1,h2⟩;exact ⟨tb,e,h1.putObj o' ho hc,h2.putObj o' (by omega) ho hc⟩
 case assign =>
  intro k pre x W hI hadm;have hIA:=hI.alloc (.cells #[Zi Zq x.1,Zi Zq x.2.1,Zt ⟨x.2.2.1.toArray⟩,Zi Zq x.2.2.2] 86);have HIA:=aW hIA;clear hIA;simp only [vC,uH];gi_wp2;have hba:Below W.heap.size W (W.alloc (.cells #[Zi Zq x.1,Zi Zq x.2.1,Zt ⟨x.2.2.1.toArray⟩,Zi Zq x.2.2.2] 86)):=(Below.refl _ W).alloc (Nat.le_refl _) _;exact ⟨⟨W.heap.size,rfl,Blk.new _ _ _,HIA.out⟩,KeepsFrom.below_ hba,aO.of_below hba (λ k hk=>by have:=hI.2.2.2.2.2;omega)⟩
 case body =>
  rintro k pre x a1 W ⟨tb,rfl,htb,hI⟩ hadm;obtain ⟨⟨v,hv,hrow⟩,hB,⟨p,why,hV⟩,h1,h2,h3⟩:=hI;have hpl:pre.length+1<=513:=by have:=hadm.length_le;have:=oI l 0;simp at *;omega
  have hc:=hv.cell;have hlt:=hv.lt;obtain ⟨c1,f1,l1⟩:=htb.rules;have hnews:∀ j u,(lB x)[j]? = some u->(W.alloc (.cells #[Zi Zq x.1,Zi Zq x.2.1,Zt ⟨x.2.2.1.toArray⟩,Zi Zq x.2.2.2] 86)).cell? ((⟨W.heap.size,0,none⟩:Addr).add j)=some u:=by
   obtain ⟨ad,e,h⟩:=(Rd.of_blk (Blk.new W 86 #[Zi Zq x.1,Zi Zq x.2.1,Zt ⟨x.2.2.1.toArray⟩,Zi Zq x.2.2.2])).at_ (by simp);cases e
   exact h
  have HW:=aW (And.intro hnews (And.intro hV (And.intro h1 (And.intro h2 hB))));clear hnews hV h1 h2 hB;gi_wp2_with (gi_at_builtin;refine wpListIn_append_own _ rfl _ _ 77 rfl (w.heap.size+1) 86 i0 _ 4 40 Tryz.underlying77 hi hz0 hz1 hz2 rfl (by decide) _ _ _ rfl (hrow.alloc _) ⟨W.heap.size,0,none⟩ 1 1 (lB x) rfl rfl HW.out.1 (by have:=pD [x];simpa [bA] using this) (by unfold maxLen;omega) (by omega) (by simp;omega) ?_;intro v' w1 hown' hgrow _;obtain ⟨g',cap',rfl⟩:=ownsRow_succ hown';obtain ⟨hv1,hv2,hr2,hk2,hb2⟩:=hv.appended (by decide) hrow (by omega) (by omega) hown' hgrow;have hc1:=hv1.cell;have hf1:=hv1.frozen);obtain ⟨_,hV,h1,h2,hB⟩:=HW.out;have hV':Blk (w1.setCell ⟨w.heap.size+2,0,none⟩ (Zs (some ⟨g',0,none⟩) (pre.length+1) cap')) (w.heap.size+1) 113 _:=((hV.1.alloc _).grown hgrow (dy hrow hV.1 (by decide))).far (by simp) _;have h1':Blk (w1.setCell ⟨w.heap.size+2,0,none⟩ (Zs (some ⟨g',0,none⟩) (pre.length+1) cap')) (w.heap.size+3) 109 _:=((h1.alloc _).grown hgrow (dy hrow h1 (by decide))).far (by simp) _;have h2':Blk (w1.setCell ⟨w.heap.size+2,0,none⟩ (Zs (some ⟨g',0,none⟩) (pre.length+1) cap')) (w.heap.size+4) 165 _:=((h2.alloc _).grown hgrow (dy hrow h2 (by decide))).far (by simp) _;refine ⟨hk2.from _,⟨hb2.size,?_⟩,⟨_,hv2,?_⟩,hB.trans (hb2.mono (by omega)),⟨p,why,hV',hV.2.below_at hb2 (by omega)⟩,h1',h2',Nat.le_trans h3 hb2.size⟩
  ·rintro k (hk | rfl | rfl | rfl)
   ·exact hb2.block k (by omega)
   ·exact iA hV.1 hV'
   ·exact iA h1 h1'
   ·exact iA h2 h2'
  ·have e:bA (pre++[x])=bA pre++lB x:=by rw [pC];simp [bA]
   rw [e,List.length_append,List.length_singleton];exact hr2
 case done =>
  rintro D xs W hD ⟨rfl,q,er,hV,hend⟩ hI hK;obtain ⟨⟨v,hv,hrow⟩,hB,_,_,_,h3⟩:=hI;obtain ⟨c1,f1,l1⟩:=hV.1.rules;unfold cB at c1;have c2:=hv.cell;by_cases her:er=0
  ·subst her;rw [if_pos rfl] at hend;have HS:=aW (show gh l=((cC l 0).1,0,0) by unfold gh;rw [if_neg (by omega),hend]);clear hend;go_wp2;refine ⟨by simp,.inl ⟨_,_,rfl,run_takeDeferred hK,?_⟩⟩;refine ⟨.tuple #[v,Zi Zq 0,Zi Zq 0],by simp only [results,Tryz.results50];go_simp,?_⟩;rw [HSL.out,HS.out];exact ⟨v,rfl,TS.of_own (ownsRow_putObj hrow (.deferred none) hK rfl),bB hB D _ (by omega)⟩
  ·have her':(er != 0)=true:=by simpa using her
   rw [if_neg her] at hend;have HS:=aW (show gh l=([],q,er) by unfold gh;rw [if_neg (by omega),hend]);clear hend;go_wp2;go_quiet (fail);go_wp2;have hK1:(W.drewN nq).heap[D]? = some (.deferred (some [])):=hK;refine ⟨by simp,.inl ⟨_,_,rfl,run_takeDeferred hK1,?_⟩⟩;refine ⟨.tuple #[Zs none 0 0,Zi Zq q,Zi Zq er],by simp only [results,Tryz.results50];go_simp,?_⟩;rw [HSL.out,HS.out];exact ⟨_,rfl,TS.nil,bB (ai hB _) D _ (by omega)⟩
 case stop =>
  rintro D c pre W _ _ h _;exact h.elim
theorem yg (s:ByteArray) (w:World) (hG:GOK w) (hs:s.size<=4194304):Calls Tryz.prog 50 #[Zt s] w (lC (gh (sl s)) w):=by
 by_cases h:s.size<=512
 ·exact zM s w hG h
 ·have HS:=aW (show gh (sl s)=([],0,3) by unfold gh;rw [if_pos (by rw [fE];omega)]);go_enter Tryz.func50,Tryz.ntmps50;go_wp2;go_ret3;rw [HS.out];exact ⟨_,rfl,TS.nil,Below.refl _ _⟩
end
end Go.Proofs.YtgmnmnnoahdjnaaGreatDoor
