import Derived.Test.YtgmnmnnoahdjnaaGreatDoorH30
open Go.Value renaming int → Zi, slice → Zs, string → Zt, pointer → Zp
open Go.IntKind renaming i64 → Zq
set_option maxRecDepth 100000
set_option maxHeartbeats 16000000
set_option linter.unusedVariables false
set_option linter.unusedSimpArgs false
namespace Go.Proofs.YtgmnmnnoahdjnaaGreatDoor
section
open Go.RowKit Go.Deep Go.ChangeShapes Go.WideShapes
section
variable {H:Type}
theorem j1 (l:List (DataW H)):Rows.uptoBulk (.agg l)=Rows.uptoBulkAll l+1:=by rw [Rows.uptoBulk]
theorem iW (d:DataW H) (r:List (DataW H)):Rows.uptoBulkAll (d::r)=Rows.uptoBulk d+Rows.uptoBulkAll r:=by rw [Rows.uptoBulkAll]
theorem j2:Rows.uptoBulkAll ([]:List (DataW H))=0:=by rw [Rows.uptoBulkAll]
theorem no (s:List UInt8):Rows.uptoBulk (H:=H) (.lit (.string s))=s.length+1:=by rw [Rows.uptoBulk]
theorem oU (l m:List (DataW H)):Rows.uptoBulk (.slice l m)=Rows.uptoBulkAll l+Rows.uptoBulkAll m+1:=by rw [Rows.uptoBulk]
end
def vP (W:World) (A:Option Addr) (ca:Nat) (l:List SJ):Prop:=∃ css,SRs W TT css l/\l.length<=ca/\(A=none->ca=0)/\RdF W TT A css.flatten
section
variable {H:Type} {enc:TypeId × Value->H} {W:World} {α:Type} {R:List Value->α->Prop} {Pr:Nat->α->Prop} {sz:α->Nat}
theorem nW {m:Nat} (hmono:∀ n n' x,n<=n'->Pr n x->Pr n' x) (hpos:∀ n x,Pr n x->1<=n) (hsz:∀ n x,Pr n x->sz x<=n) (a:Addr):∀ (elems:List (DataW H × List MemPlace)) (a0:Nat),
  (∀ i,i<elems.length->∃ c v y,elems[i]? = some y/\W.cells? 0 (a.add ((a0+i)*m)) m=some c/\R c v/\Pr (Rows.uptoBulk y.1) v) ->
  ∃ css kids,RR R css kids/\kids.length=elems.length/\(∀ i c,css[i]? = some c->W.cells? 0 (a.add ((a0+i)*m)) m=some c)/\(∀ x ∈ kids,Pr (Rows.uptoBulkAll (elems.map (·.1))) x)/\kids.length<=Rows.uptoBulkAll (elems.map (·.1))/\(kids.map sz).sum<=Rows.uptoBulkAll (elems.map (·.1))
 | [],_,_=>⟨[],[],RR.nil,rfl,λ i c h=>by simp at h,λ x h=>(List.not_mem_nil h).elim,Nat.zero_le _,Nat.zero_le _⟩
 |y::r,a0,h=>by
  obtain ⟨c,v,y',e,h1,h2,h3⟩:=h 0 (by simp);obtain rfl:y=y':=by simpa using e
  obtain ⟨css,kids,k1,k2,k3,k4,k5,k6⟩:=nW hmono hpos hsz a r (a0+1) (λ i hi=>by
   obtain ⟨c,v,y',e,h1,h2,h3⟩:=h (i+1) (by simp;omega);exact ⟨c,v,y',by simpa using e,by rw [show a0+1+i=a0+(i+1) by omega];exact h1,h2,h3⟩)
  have hp:=hpos _ _ h3;have hq:=hsz _ _ h3;refine ⟨c::css,v::kids,⟨by simp [k1.1],λ i c' x' e1 e2=>?_⟩,by simp [k2],λ i c' e1=>?_,λ x hx=>?_,?_,?_⟩
  ·cases i with
   |zero =>
    obtain rfl:c=c':=by simpa using e1
    obtain rfl:v=x':=by simpa using e2
    exact h2
   | succ i=>exact k1.2 i c' x' (by simpa using e1) (by simpa using e2)
  ·cases i with
   |zero =>
    obtain rfl:c=c':=by simpa using e1
    exact h1
   | succ i=>have:=k3 i c' (by simpa using e1);rwa [show a0+1+i=a0+(i+1) by omega] at this
  ·rw [List.map_cons];unfold Rows.uptoBulkAll;rcases List.mem_cons.1 hx with rfl | hx
   ·exact hmono _ _ _ (by omega) h3
   ·exact hmono _ _ _ (by omega) (k4 x hx)
  ·rw [List.map_cons,List.length_cons];unfold Rows.uptoBulkAll;omega
  ·rw [List.map_cons,List.map_cons,List.sum_cons];unfold Rows.uptoBulkAll;omega
theorem ve {m:Nat} (hm:0<m) (a:Addr) {css:List (List Value)} {kids:List α} (h:RR R css kids) (hR:∀ c x,R c x->c.length=m) (hc:∀ i c,css[i]? = some c->W.cells? 0 (a.add (i*m)) m=some c):RdF W TT (some a) css.flatten:=by
 intro hne;have hpos:0<css.length:=by
  rcases css with _ | ⟨c,r⟩
  ·exact absurd rfl hne
  ·simp
 obtain ⟨b,o,spot⟩:=a;have h5:=h.lens hR;have h0:=World.cells?_some (hc 0 _ (List.getElem?_eq_getElem hpos));have q0:=h0.2.2 0 hm;rw [List.getElem?_eq_getElem (by omega)] at q0;have hspot:spot=none:=by simpa [Addr.add] using World.cell?_spot q0
 subst hspot;have hcell:∀ i (hi:i<css.flatten.length),W.cell? ⟨b,o+i,none⟩=some css.flatten[i]:=by
  intro i hi;rw [gu h5] at hi;have hq:i / m<css.length:=(Nat.div_lt_iff_lt_mul hm).2 hi;have hx:=World.cells?_some (hc (i / m) _ (List.getElem?_eq_getElem hq));have hy:=hx.2.2 (i % m) (Nat.mod_lt _ hm);rw [add_plain,add_plain,← jc h5 (List.getElem?_eq_getElem hq) (Nat.mod_lt _ hm)] at hy;have hd:i / m*m+i % m=i:=Nat.div_add_mod' i m;rw [show o+i=o+i / m*m+i % m by omega,hy,hd,List.getElem?_eq_getElem]
 refine ⟨b,o,rfl,?_,trivial,hcell⟩;have hl:0<css.flatten.length:=by rw [gu h5];exact Nat.mul_pos hpos hm
 have hz:=hcell 0 hl;rcases Nat.lt_or_ge b W.heap.size with hlt | hge
 ·exact hlt
 ·unfold World.cell? at hz;simp [Array.getElem?_eq_none hge] at hz
theorem gF {m:Nat} {t e:TypeId} (ht:Tryz.prog.underlying t=some (.slice e)) (hcv:Tryz.prog.cellsOf e=m) (hm:0<m) (hR:∀ c x,R c x->c.length=m) (hmono:∀ n n' x,n<=n'->Pr n x->Pr n' x) (hpos:∀ n x,Pr n x->1<=n) (hsz:∀ n x,Pr n x->sz x<=n)
  {fuel:Nat} (ih:∀ (n:Nat) (cs:List Value) (x:DataW H × List MemPlace),n<fuel->DataW.trod enc Tryz.prog W 0 (λ _=>true) true n e cs=some x->∃ v,R cs v/\Pr (Rows.uptoBulk x.1) v)
  {cs:List Value} {x:DataW H × List MemPlace} (h:DataW.trod enc Tryz.prog W 0 (λ _=>true) true fuel t cs=some x) :
  ∃ A ca css kids,cs=[.slice A kids.length ca]/\RR R css kids/\kids.length<=ca/\(A=none->ca=0)/\RdF W TT A css.flatten/\(∀ v ∈ kids,Pr (Rows.uptoBulk x.1) v)/\kids.length<=Rows.uptoBulk x.1/\(kids.map sz).sum<=Rows.uptoBulk x.1:=by
 rcases DataW.trod_slice ht h with ⟨e3,rfl⟩ | ⟨a,len,cap,elems,rest,n',hn,e3,rfl,hb,hl,hmx,hel,hk,_,_⟩
 ·exact ⟨none,0,[],[],by simpa using e3,RR.nil,Nat.le_refl _,λ _=>rfl,RdF.nil,λ v hv=>(List.not_mem_nil hv).elim,Nat.zero_le _,Nat.zero_le _⟩
 ·rw [hcv] at hk;obtain ⟨css,kids,k1,k2,k3,k4,k5,k6⟩:=nW (W:=W) hmono hpos hsz a elems 0 (λ i hi=>by
   have hq:=hk i (by omega);rw [List.getElem?_eq_getElem hi] at hq;obtain ⟨c,q1,q2⟩:=Option.bind_eq_some_iff.1 hq;obtain ⟨v,q3,q4⟩:=ih n' c _ (by omega) q2;exact ⟨c,v,_,List.getElem?_eq_getElem hi,by rw [Nat.zero_add];exact q1,q3,q4⟩)
  have hle:Rows.uptoBulkAll (elems.map (·.1))<=Rows.uptoBulk (H:=H) (.slice (elems.map (·.1)) (rest.map (·.1))):=by rw [oU];omega
  refine ⟨some a,cap,css,kids,?_,k1,by omega,λ e=>by simp at e,ve hm a k1 hR (λ i c e=>by have:=k3 i c e;rwa [Nat.zero_add] at this),λ v hv=>hmono _ _ _ hle (k4 v hv),Nat.le_trans k5 hle,Nat.le_trans k6 hle⟩;rw [k2,hel];exact e3
def ng (n:Nat) (x:EJ):Prop:=jg n x/\bG x<=n
theorem ng.mono (n n':Nat) (x:EJ) (h:n<=n') (hx:ng n x):ng n' x:=⟨dI h x hx.1,Nat.le_trans hx.2 h⟩
theorem ng.pos (n:Nat) (x:EJ) (h:ng n x):1<=n:=by have h1:=h.1;cases x;unfold jg at h1;exact h1.1
def ij (n:Nat) (x:SJ):Prop:=gW n x/\dv x<=n
theorem ij.mono (n n':Nat) (x:SJ) (h:n<=n') (hx:ij n x):ij n' x:=⟨el h x hx.1,Nat.le_trans hx.2 h⟩
theorem ij.pos (n:Nat) (x:SJ) (h:ij n x):1<=n:=by have h1:=h.1;cases x;unfold gW at h1;exact h1.1
/-- an expression that came in -/
theorem lR:∀ (fuel:Nat) (cs:List Value) (x:DataW H × List MemPlace),DataW.trod enc Tryz.prog W 0 (λ _=>true) true fuel 45 cs=some x->∃ v,ER W TT cs v/\jg (Rows.uptoBulk x.1) v/\bG v<=Rows.uptoBulk x.1:=by
 intro fuel
 induction fuel using Nat.strongRecOn with
 |ind fuel ih =>
  intro cs x h;obtain ⟨xs,n,rfl,rfl,hlen,hxl,hf⟩:=DataW.trod_struct Tryz.underlying45 h;have ci:Tryz.prog.cellsOf 3=1:=by kernel_rfl
  have ct:Tryz.prog.cellsOf 9=1:=by kernel_rfl
  have ck:Tryz.prog.cellsOf 43=1:=by kernel_rfl
  have cv:Tryz.prog.cellsOf 42=5:=by kernel_rfl
  have ce:Tryz.prog.cellsOf 45=8:=by kernel_rfl
  rw [ce] at hlen;have f0:=hf 0 _ rfl;have f1:=hf 1 _ rfl;have f2:=hf 2 _ rfl;have f3:=hf 3 _ rfl;clear hf
  match xs,hxl,cs,hlen with
  |[y0,y1,y2,y3],_,[c0,c1,c2,c3,c4,c5,c6,c7],_ =>
   simp [ci,ct,ck,cv] at f0 f1 f2 f3;obtain ⟨k,e0,rfl,w0⟩:=DataW.trod_int Tryz.underlying3 f0;obtain ⟨v,hv,hi,hb⟩:=px n _ _ f1;obtain ⟨s,e2,rfl,w2⟩:=DataW.trod_string Tryz.underlying9 f2;obtain ⟨A,ca,css,kids,e3,k1,k2,k3,k4,k5,k6,k7⟩:=gF (R:=ER W TT) (Pr:=ng) (sz:=bG) Tryz.underlying43 ce (by decide) (λ c x h=>h.len) ng.mono ng.pos (λ n x h=>h.2) (λ n' c y hn hy=>ih n' (by omega) c y hy) f3;obtain rfl:c0=.int .i64 k:=by simpa using e0
   obtain rfl:c6=.string s:=by simpa using e2
   obtain rfl:c7=.slice A kids.length ca:=by simpa using e3
   obtain ⟨ss,rfl⟩:∃ ss:List UInt8,s=⟨ss.toArray⟩:=⟨s.data.toList,by simp⟩
   refine ⟨.mk k v ss kids,ER.into hv k1 rfl k2 k3 k4,?_⟩;simp only [List.map_cons,List.map_nil];have e2:(Lit.string (ByteArray.mk ss.toArray).data.toList)=.string ss:=by simp
   have e4:Rows.uptoBulk (H:=H) (.lit (.string ss))=ss.length+1:=by unfold Rows.uptoBulk;rfl
   rw [e2];have hle:1<=Rows.uptoBulk (H:=H) (.agg [.lit (.int .i64 k),y1.1,.lit (.string ss),y3.1])/\Rows.uptoBulk y1.1+(ss.length+1)+Rows.uptoBulk y3.1<=Rows.uptoBulk (H:=H) (.agg [.lit (.int .i64 k),y1.1,.lit (.string ss),y3.1]):=by
    simp only [j1,iW,j2,no];constructor<;>omega
   unfold jg;exact ⟨⟨hle.1,qH w0,hi,by omega,by omega,by omega,lN.2 λ x hx=>dI (by omega) x (k5 x hx).1⟩,by unfold bG;rw [jq];omega⟩
/-- a statement that came in -/
theorem rg:∀ (fuel:Nat) (cs:List Value) (x:DataW H × List MemPlace),DataW.trod enc Tryz.prog W 0 (λ _=>true) true fuel 48 cs=some x->∃ v,SR W TT cs v/\gW (Rows.uptoBulk x.1) v/\dv v<=Rows.uptoBulk x.1:=by
 intro fuel
 induction fuel using Nat.strongRecOn with
 |ind fuel ih =>
  intro cs x h;obtain ⟨xs,n,rfl,rfl,hlen,hxl,hf⟩:=DataW.trod_struct Tryz.underlying48 h;have ci:Tryz.prog.cellsOf 3=1:=by kernel_rfl
  have ct:Tryz.prog.cellsOf 9=1:=by kernel_rfl
  have ck:Tryz.prog.cellsOf 22=1:=by kernel_rfl
  have ce:Tryz.prog.cellsOf 45=8:=by kernel_rfl
  have cs':Tryz.prog.cellsOf 48=20:=by kernel_rfl
  rw [cs'] at hlen;have f0:=hf 0 _ rfl;have f1:=hf 1 _ rfl;have f2:=hf 2 _ rfl;have f3:=hf 3 _ rfl;have f4:=hf 4 _ rfl;have f5:=hf 5 _ rfl;clear hf
  match xs,hxl,cs,hlen with
  |[y0,y1,y2,y3,y4,y5],_,[c0,c1,a0,a1,a2,a3,a4,a5,a6,a7,b0,b1,b2,b3,b4,b5,b6,b7,c2,c3],_ =>
   simp [ci,ct,ck,ce] at f0 f1 f2 f3 f4 f5;obtain ⟨k,e0,rfl,w0⟩:=DataW.trod_int Tryz.underlying3 f0;obtain ⟨s,e1,rfl,w1⟩:=DataW.trod_string Tryz.underlying9 f1;obtain ⟨a,ha,hal,has⟩:=lR n _ _ f2;obtain ⟨b,hb,hbl,hbs⟩:=lR n _ _ f3;obtain ⟨A,ca,css,body,e4,k1,k2,k3,k4,k5,k6,k7⟩:=gF (R:=SR W TT) (Pr:=ij) (sz:=dv) Tryz.underlying22 cs' (by decide) (λ c x h=>h.len) ij.mono ij.pos (λ n x h=>h.2) (λ n' c y hn hy=>ih n' (by omega) c y hy) f4;obtain ⟨B,cb,dss,els,e5,g1,g2,g3,g4,g5,g6,g7⟩:=gF (R:=SR W TT) (Pr:=ij) (sz:=dv) Tryz.underlying22 cs' (by decide) (λ c x h=>h.len) ij.mono ij.pos (λ n x h=>h.2) (λ n' c y hn hy=>ih n' (by omega) c y hy) f5;obtain rfl:c0=.int .i64 k:=by simpa using e0
   obtain rfl:c1=.string s:=by simpa using e1
   obtain rfl:c2=.slice A body.length ca:=by simpa using e4
   obtain rfl:c3=.slice B els.length cb:=by simpa using e5
   obtain ⟨ss,rfl⟩:∃ ss:List UInt8,s=⟨ss.toArray⟩:=⟨s.data.toList,by simp⟩
   refine ⟨.mk k ss a b body els,SR.into ha hb k1 rfl k2 k3 k4 g1 rfl g2 g3 g4,?_⟩;simp only [List.map_cons,List.map_nil];have e2:(Lit.string (ByteArray.mk ss.toArray).data.toList)=.string ss:=by simp
   have e6:Rows.uptoBulk (H:=H) (.lit (.string ss))=ss.length+1:=by unfold Rows.uptoBulk;rfl
   rw [e2];have hle:1<=Rows.uptoBulk (H:=H) (.agg [.lit (.int .i64 k),.lit (.string ss),y2.1,y3.1,y4.1,y5.1])/\(ss.length+1)+Rows.uptoBulk y2.1+Rows.uptoBulk y3.1+Rows.uptoBulk y4.1+Rows.uptoBulk y5.1<=Rows.uptoBulk (H:=H) (.agg [.lit (.int .i64 k),.lit (.string ss),y2.1,y3.1,y4.1,y5.1]):=by
    simp only [j1,iW,j2,no];constructor<;>omega
   unfold gW;exact ⟨⟨hle.1,qH w0,by omega,dI (by omega) a hal,dI (by omega) b hbl,by omega,by omega,gB.2 λ x hx=>el (by omega) x (k5 x hx).1,gB.2 λ x hx=>el (by omega) x (g5 x hx).1⟩,by unfold dv;rw [gK,gK];omega⟩
/-- a program that came in: the row of its statements -/
theorem rf {fuel:Nat} {cs:List Value} {x:DataW H × List MemPlace} (h:DataW.trod enc Tryz.prog W 0 (λ _=>true) true fuel 24 cs=some x) :
  ∃ A ca css body,cs=[.slice A body.length ca]/\SRs W TT css body/\body.length<=ca/\(A=none->ca=0)/\RdF W TT A css.flatten/\(∀ v ∈ body,gW (Rows.uptoBulk x.1) v)/\body.length<=Rows.uptoBulk x.1/\ap body<=Rows.uptoBulk x.1:=by
 obtain ⟨xs,n,rfl,rfl,hlen,hxl,hf⟩:=DataW.trod_struct Tryz.underlying24 h;have ck:Tryz.prog.cellsOf 22=1:=by kernel_rfl
 have cp:Tryz.prog.cellsOf 24=1:=by kernel_rfl
 have cs':Tryz.prog.cellsOf 48=20:=by kernel_rfl
 rw [cp] at hlen;have f0:=hf 0 _ rfl;clear hf
 match xs,hxl,cs,hlen with
 |[y0],_,[c0],_ =>
  simp [ck] at f0;obtain ⟨A,ca,css,body,e4,k1,k2,k3,k4,k5,k6,k7⟩:=gF (R:=SR W TT) (Pr:=ij) (sz:=dv) Tryz.underlying22 cs' (by decide) (λ c x h=>h.len) ij.mono ij.pos (λ n x h=>h.2) (λ n' c y hn hy=>rg n' c y hy) f0;have hle:Rows.uptoBulk y0.1<=Rows.uptoBulk (H:=H) (.agg [y0.1]):=by simp only [j1,iW,j2];omega
  exact ⟨A,ca,css,body,e4,k1,k2,k3,k4,λ v hv=>el hle v (k5 v hv).1,by simp only [List.map_cons,List.map_nil];omega,by rw [gK];simp only [List.map_cons,List.map_nil];omega⟩
end
end
section
open Go.RowKit
attribute [local go_sem] ab ae af ac
theorem uN {d:Nat} {l:List SJ} {x:SJ} (hx:x ∈ l) (h:iE d x=false):bR d l=false:=by
 rw [Bool.eq_false_iff];intro e;rw [kz.1 e x hx] at h;cases h
set_option maxHeartbeats 32000000 in
theorem uX:∀ (r:Nat) (l:List SJ) (css:List (List Value)) (A:Option Addr) (n ca:Nat) (q:Int) (w:World),q=r->r<=12->SRs w TT css l->l.length=n->n<=ca->RdF w TT A css.flatten->aZ l->n<=4194304 ->
  Calls Tryz.prog 45 #[Zs A n ca,Zi Zq q] w (cP (bR r l) w):=by
 intro r
 induction r with
 |zero =>
  rintro l css A n ca q w rfl hr hS hln hnc hR hC hn;by_cases h0:n=0
  ·subst h0;obtain rfl:l=[]:=List.length_eq_zero_iff.1 hln;clear hS hR hC hln;go_enter Tryz.func45,Tryz.ntmps45;go_upto_region 4 with fail;go_loopg [5] 0 (λ gk s5 wr=>gk=0/\s5=Zi Zq 0/\wr=w)
   case atStart=>exact ⟨rfl,rfl,rfl⟩
   case round =>
    obtain ⟨rfl,rfl,rfl⟩:=hrel;go_wp2;go_ret;exact ⟨rfl,Below.refl _ _⟩
  ·obtain ⟨g,hg⟩:∃ g,bR 0 l=g:=⟨_,rfl⟩
   obtain rfl:g=false:=by
    rw [← hg];cases l with
    | nil=>exact absurd hln.symm h0
    | cons x t=>obtain ⟨k,s,a,b,body,els⟩:=x;rw [bR,iE];simp
   rw [hg];have hn1:(0:Int)<(n:Int):=by omega
   have hd1:decide ((0:Int)<(n:Int))=true:=decide_eq_true hn1;clear hS hR hC hln hg;go_enter Tryz.func45,Tryz.ntmps45;go_wp2;go_ret;exact ⟨rfl,Below.refl _ _⟩
 |succ r ih =>
  rintro l css A n ca q w hq hr hS hln hnc hR hC hn;by_cases h0:n=0
  ·subst h0;obtain rfl:l=[]:=List.length_eq_zero_iff.1 hln;clear hS hR hC hln ih;go_enter Tryz.func45,Tryz.ntmps45;go_upto_region 4 with fail;go_loopg [5] 0 (λ gk s5 wr=>gk=0/\s5=Zi Zq 0/\wr=w)
   case atStart=>exact ⟨rfl,rfl,rfl⟩
   case round =>
    obtain ⟨rfl,rfl,rfl⟩:=hrel;go_wp2;go_ret;exact ⟨rfl,Below.refl _ _⟩
  have hn1:(0:Int)<(n:Int):=by omega
  have hd1:decide ((0:Int)<(n:Int))=true:=decide_eq_true hn1;have hq1:1<=q:=by omega
  have hq12:q<=12:=by omega
  have hq0:(q == 0)=false:=by simp;omega
  have hq0':¬ q=0:=by omega
  have hqw:IntKind.i64.wrap (q-1)=q-1:=by rw [IntKind.wrap_i64];omega
  have HKD:=aW (And.intro hS hR);have HNK:=aW hln;have HCL:=aW (eW.1 hC);have HIH:=aW (show ∀ (l:List SJ) (css:List (List Value)) (A:Option Addr) (n ca:Nat) (w:World),SRs w TT css l->l.length=n->n<=ca->RdF w TT A css.flatten->aZ l->n<=4194304->Calls Tryz.prog 45 #[Zs A n ca,Zi Zq (q-1)] w (cP (bR r l) w) from
   λ l css A n ca w h1 h2 h3 h4 h5 h6=>ih l css A n ca (q-1) w (by omega) (by omega) h1 h2 h3 h4 h5 h6)
  obtain ⟨g,hg⟩:∃ g,bR (r+1) l=g:=⟨_,rfl⟩
  have HGG:=aW hg;rw [hg];clear hS hR hC hln hq hr ih hg;go_enter Tryz.func45,Tryz.ntmps45;go_upto_region 4 with fail;go_loopg [5] n (λ gk s5 wr => ∃ (i:Nat),gk=n-i/\i<=n/\s5=Zi Zq (i:Int)/\True/\Hid (Below w.heap.size w wr)/\Hid (bR (r+1) (l.take i)=true))
  case atStart=>exact ⟨0,by go_num,Nat.zero_le _,rfl,trivial,aW (Below.refl _ _),aW (by rw [List.take_zero];rfl)⟩
  case round =>
   obtain ⟨i,hgk,hin,rfl,_,HWB,HMA⟩:=hrel;have HGK:=aW hgk;clear hgk;by_cases hlt:i<n
   ·obtain ⟨x,hx⟩:∃ x,l[i]? = some x:=⟨_,List.getElem?_eq_getElem (by rw [HNK.out];exact hlt)⟩
    have hxm:=List.mem_of_getElem? hx;have hcx:=HCL.out x hxm;have HTK:=aW (show l.take (i+1)=l.take i++[x] by rw [List.take_add_one,hx];rfl);have HNOF:=aW (λ (h:iE (r+1) x=false)=>show g=false by rw [← HGG.out];exact uN hxm h);have hS1:SRs wr TT css l:=RR.imp HKD.out.1 λ c y hc=>hc.bel HWB.out
    have hR1:RdF wr TT A css.flatten:=HKD.out.2.keep (aj.of_below HWB.out);obtain ⟨k,s,a,b,body,els⟩:=x;obtain ⟨bl,o,ka,kva,nva,sva,Ava,nka,cka,Bva,nya,cya,sa,Ca,nxa,cxa,kb,kvb,nvb,svb,Avb,nkb,ckb,Bvb,nyb,cyb,sb,Cb,nxb,cxb,BA,LA,cb,cl,bss,lss,rfl,hbl,_,hEA,hEB,⟨hb1,hb2,hb3⟩,⟨he1,he2,he3⟩,hSR,hz⟩:=dH hS1 hR1 hx;unfold fI at hcx;obtain ⟨hik,hsl,hca,hcb,hbl4,hel4,hcbo,hcel⟩:=hcx;obtain ⟨nb,hnb⟩:∃ q,body.length=q:=⟨_,rfl⟩
    obtain ⟨nl,hnl⟩:∃ q,els.length=q:=⟨_,rfl⟩
    have HMS:=aW (show iE (r+1) (.mk k s a b body els)=(decide (iq a) && (if k=1 then decide (iq b) && decide (s=[]/\body.length+els.length=0) else if k=2 then dD b && (decide (s=[]) && (bR r body && bR r els)) else if k=3 then dD b && (eH s && (bR r body && decide (els.length=0))) else false)) by
     rw [iE,decide_eq_true (show r+1≠0 by omega),Bool.true_and];rfl)
    have HNB:=aW (And.intro hnb hnl);rw [hnb] at hb2 hbl4 hz hSR;rw [hnl] at he2 hel4 hz hSR;have HRG:=aW (show wr.rangeAt bl (o+i*20) [Zi Zq k,Zt ⟨s.toArray⟩,Zi Zq ka,Zi Zq kva,Zi Zq nva,Zt sva,Zs Ava nka cka,Zs Bva nya cya,Zt sa,Zs Ca nxa cxa,Zi Zq kb,Zi Zq kvb,Zi Zq nvb,Zt svb,Zs Avb nkb ckb,Zs Bvb nyb cyb,Zt sb,Zs Cb nxb cxb,Zs BA nb cb,Zs LA nl cl] from λ j v hv=>by rw [Nat.add_assoc];exact hz j v hv);have hlb:bl<wr.heap.size:=hbl;have HFA:=aW (λ (W:World) (h:Below wr.heap.size wr W)=>vI a [Zi Zq ka,Zi Zq kva,Zi Zq nva,Zt sva,Zs Ava nka cka,Zs Bva nya cya,Zt sa,Zs Ca nxa cxa] W (hEA.bel h) hca);have HFB:=aW (λ (W:World) (h:Below wr.heap.size wr W)=>vI b [Zi Zq kb,Zi Zq kvb,Zi Zq nvb,Zt svb,Zs Avb nkb ckb,Zs Bvb nyb cyb,Zt sb,Zs Cb nxb cxb] W (hEB.bel h) hcb);have HBB:=aW (λ (W:World) (h:Below wr.heap.size wr W)=>wU b [Zi Zq kb,Zi Zq kvb,Zi Zq nvb,Zt svb,Zs Avb nkb ckb,Zs Bvb nyb cyb,Zt sb,Zs Cb nxb cxb] W (hEB.bel h));have HRB:=aW (λ (W:World) (h:Below wr.heap.size wr W)=>HIH.out body bss BA nb cb W (RR.imp hb1 λ c y (hc:SR _ _ c y)=>hc.bel h) hnb hb2 (hb3.keep (aj.of_below h)) hcbo hbl4);have HRL:=aW (λ (W:World) (h:Below wr.heap.size wr W)=>HIH.out els lss LA nl cl W (RR.imp he1 λ c y (hc:SR _ _ c y)=>hc.bel h) hnl he2 (he3.keep (aj.of_below h)) hcel hel4);have HH1:=aW ((aH.nil wr).push 48 #[Zi Zq k,Zt ⟨s.toArray⟩,Zi Zq ka,Zi Zq kva,Zi Zq nva,Zt sva,Zs Ava nka cka,Zs Bva nya cya,Zt sa,Zs Ca nxa cxa,Zi Zq kb,Zi Zq kvb,Zi Zq nvb,Zt svb,Zs Avb nkb ckb,Zs Bvb nyb cyb,Zt sb,Zs Cb nxb cxb,Zs BA nb cb,Zs LA nl cl] (g:=wr.heap.size) rfl);obtain ⟨W1,hW1⟩:∃ W1,wr.alloc (.cells #[Zi Zq k,Zt ⟨s.toArray⟩,Zi Zq ka,Zi Zq kva,Zi Zq nva,Zt sva,Zs Ava nka cka,Zs Bva nya cya,Zt sa,Zs Ca nxa cxa,Zi Zq kb,Zi Zq kvb,Zi Zq nvb,Zt svb,Zs Avb nkb ckb,Zs Bvb nyb cyb,Zt sb,Zs Cb nxb cxb,Zs BA nb cb,Zs LA nl cl] 48)=W1:=⟨_,rfl⟩
    rw [hW1] at HH1;have HW1:=aW hW1;clear hz hSR hEA hEB hb1 hb2 hb3 he1 he2 he3 hca hcb hbl4 hel4 hcbo hcel hnb hnl hx hxm hbl hS1 hR1 hW1 hik hsl;go_upto_region 6 with fail
    first | (go_step;go_step;go_step;go_step;go_step;go_step;go_step;go_step;go_step;go_step;refine wpList_load_mid rfl 48 (.tmp 23) rfl bl (o+i*20) rfl [Zi Zq k,Zt ⟨s.toArray⟩,Zi Zq ka,Zi Zq kva,Zi Zq nva,Zt sva,Zs Ava nka cka,Zs Bva nya cya,Zt sa,Zs Ca nxa cxa,Zi Zq kb,Zi Zq kvb,Zi Zq nvb,Zt svb,Zs Avb nkb ckb,Zs Bvb nyb cyb,Zt sb,Zs Cb nxb cxb,Zs BA nb cb,Zs LA nl cl] _ HRG.out Tryz.underlying48 rfl (by kernel_rfl) ?_) | (go_step;go_step;go_step;go_step;go_step;go_step;go_step;go_step;go_step;refine wpList_load_mid rfl 48 (.tmp 23) rfl bl (o+i*20) rfl [Zi Zq k,Zt ⟨s.toArray⟩,Zi Zq ka,Zi Zq kva,Zi Zq nva,Zt sva,Zs Ava nka cka,Zs Bva nya cya,Zt sa,Zs Ca nxa cxa,Zi Zq kb,Zi Zq kvb,Zi Zq nvb,Zt svb,Zs Avb nkb ckb,Zs Bvb nyb cyb,Zt sb,Zs Cb nxb cxb,Zs BA nb cb,Zs LA nl cl] _ HRG.out Tryz.underlying48 rfl (by kernel_rfl) ?_) | (go_step;go_step;go_step;go_step;go_step;go_step;go_step;go_step;go_step;go_step;go_step;refine wpList_load_mid rfl 48 (.tmp 23) rfl bl (o+i*20) rfl [Zi Zq k,Zt ⟨s.toArray⟩,Zi Zq ka,Zi Zq kva,Zi Zq nva,Zt sva,Zs Ava nka cka,Zs Bva nya cya,Zt sa,Zs Ca nxa cxa,Zi Zq kb,Zi Zq kvb,Zi Zq nvb,Zt svb,Zs Avb nkb ckb,Zs Bvb nyb cyb,Zt sb,Zs Cb nxb cxb,Zs BA nb cb,Zs LA nl cl] _ HRG.out Tryz.underlying48 rfl (by kernel_rfl) ?_) | (go_step;go_step;go_step;go_step;go_step;go_step;go_step;go_step;refine wpList_load_mid rfl 48 (.tmp 23) rfl bl (o+i*20) rfl [Zi Zq k,Zt ⟨s.toArray⟩,Zi Zq ka,Zi Zq kva,Zi Zq nva,Zt sva,Zs Ava nka cka,Zs Bva nya cya,Zt sa,Zs Ca nxa cxa,Zi Zq kb,Zi Zq kvb,Zi Zq nvb,Zt svb,Zs Avb nkb ckb,Zs Bvb nyb cyb,Zt sb,Zs Cb nxb cxb,Zs BA nb cb,Zs LA nl cl] _ HRG.out Tryz.underlying48 rfl (by kernel_rfl) ?_) | (go_step;go_step;go_step;go_step;go_step;go_step;go_step;go_step;go_step;go_step;go_step;go_step;refine wpList_load_mid rfl 48 (.tmp 23) rfl bl (o+i*20) rfl [Zi Zq k,Zt ⟨s.toArray⟩,Zi Zq ka,Zi Zq kva,Zi Zq nva,Zt sva,Zs Ava nka cka,Zs Bva nya cya,Zt sa,Zs Ca nxa cxa,Zi Zq kb,Zi Zq kvb,Zi Zq nvb,Zt svb,Zs Avb nkb ckb,Zs Bvb nyb cyb,Zt sb,Zs Cb nxb cxb,Zs BA nb cb,Zs LA nl cl] _ HRG.out Tryz.underlying48 rfl (by kernel_rfl) ?_) | (go_step;go_step;go_step;go_step;go_step;go_step;go_step;refine wpList_load_mid rfl 48 (.tmp 23) rfl bl (o+i*20) rfl [Zi Zq k,Zt ⟨s.toArray⟩,Zi Zq ka,Zi Zq kva,Zi Zq nva,Zt sva,Zs Ava nka cka,Zs Bva nya cya,Zt sa,Zs Ca nxa cxa,Zi Zq kb,Zi Zq kvb,Zi Zq nvb,Zt svb,Zs Avb nkb ckb,Zs Bvb nyb cyb,Zt sb,Zs Cb nxb cxb,Zs BA nb cb,Zs LA nl cl] _ HRG.out Tryz.underlying48 rfl (by kernel_rfl) ?_)
    go_step;go_step;go_step;refine bK rfl 48 (.tmp 6) (.tmp 24) rfl _ _ rfl rfl (by kernel_rfl) (by kernel_rfl) (by first | kernel_rfl | simp [Value.oneCell']) ?_;rw [HW1.out];clear HW1 HRG hlb;obtain ⟨fa,hfa⟩:∃ q,decide (iq a)=q:=⟨_,rfl⟩
    rw [hfa] at HMS HFA;clear hfa;obtain ⟨c0,f0,l0⟩:=HH1.out.b0.rules;go_upto_region 7 with fail;go_wp2_with fail;refine (HFA.out _ HH1.out.1).mono ?_;rintro e w2 ⟨rfl,hb⟩;have HH2:=aW (HH1.out.keep hb);clear hb c0 f0 l0;obtain ⟨c0,f0,l0⟩:=HH2.out.b0.rules;cases fa with
    |false =>
     obtain rfl:g=false:=HNOF.out (by rw [HMS.out];rfl);clear HGG;go_wp2;go_ret;exact ⟨rfl,HWB.out.trans (HH2.out.1.mono HWB.out.size)⟩
    | true =>
    by_cases hk1:k=1
    ·subst hk1;obtain ⟨fb,hfb⟩:∃ q,decide (iq b)=q:=⟨_,rfl⟩
     rw [hfb] at HMS HFB;clear hfb;go_wp2_with fail;refine (HFB.out _ HH2.out.1).mono ?_;rintro e w3 ⟨rfl,hb⟩;have HH3:=aW (HH2.out.keep hb);clear hb c0 f0 l0;obtain ⟨c0,f0,l0⟩:=HH3.out.b0.rules;cases fb with
     |false =>
      obtain rfl:g=false:=HNOF.out (by rw [HMS.out];simp);clear HGG;go_wp2;go_ret;exact ⟨rfl,HWB.out.trans (HH3.out.1.mono HWB.out.size)⟩
     | true =>
     by_cases hs:s=[];rotate_left
     ·have hse:s.isEmpty=false:=by simpa using hs
      obtain rfl:g=false:=HNOF.out (by rw [HMS.out];simp [hs]);clear HGG;go_wp2;go_ret;exact ⟨rfl,HWB.out.trans (HH3.out.1.mono HWB.out.size)⟩
     subst hs;by_cases hb0:nb=0;rotate_left
     ·have e3:((nb:Int) == 0)=false:=by simp;omega
      obtain rfl:g=false:=HNOF.out (by rw [HMS.out];rw [HNB.out.1,HNB.out.2];simp;omega);clear HGG;go_wp2;go_ret;exact ⟨rfl,HWB.out.trans (HH3.out.1.mono HWB.out.size)⟩
     subst hb0;by_cases hl0:nl=0;rotate_left
     ·have e3:((nl:Int) == 0)=false:=by simp;omega
      obtain rfl:g=false:=HNOF.out (by rw [HMS.out];rw [HNB.out.1,HNB.out.2];simp;omega);clear HGG;go_wp2;go_ret;exact ⟨rfl,HWB.out.trans (HH3.out.1.mono HWB.out.size)⟩
     subst hl0;have HM2:=aW (show bR (r+1) (l.take (i+1))=true by
      rw [HTK.out,gC,HMA.out,HMS.out];rw [HNB.out.1,HNB.out.2];simp)
     go_wp2;go_roundg (n-(i+1))
     case measure=>have:=HGK.out;omega
     case rel=>exact ⟨i+1,rfl,by omega,by go_num,trivial,aW (HWB.out.trans (HH3.out.1.mono HWB.out.size)),HM2⟩
    have e1:(k == 1)=false:=by simp [hk1]
    by_cases hk2:k=2
    ·subst hk2;obtain ⟨bb,hbb⟩:∃ q,dD b=q:=⟨_,rfl⟩
     rw [hbb] at HMS HBB;clear hbb;go_wp2_with fail;refine (HBB.out _ HH2.out.1).mono ?_;rintro e w3 ⟨rfl,hb⟩;have HH3:=aW (HH2.out.keep hb);clear hb c0 f0 l0;obtain ⟨c0,f0,l0⟩:=HH3.out.b0.rules;cases bb with
     |false =>
      obtain rfl:g=false:=HNOF.out (by rw [HMS.out];simp);clear HGG;go_wp2;go_ret;exact ⟨rfl,HWB.out.trans (HH3.out.1.mono HWB.out.size)⟩
     | true =>
     by_cases hs:s=[];rotate_left
     ·have hse:s.isEmpty=false:=by simpa using hs
      obtain rfl:g=false:=HNOF.out (by rw [HMS.out];simp [hs]);clear HGG;go_wp2;go_ret;exact ⟨rfl,HWB.out.trans (HH3.out.1.mono HWB.out.size)⟩
     subst hs;obtain ⟨m1,hm1⟩:∃ q,bR r body=q:=⟨_,rfl⟩
     rw [hm1] at HMS HRB;clear hm1;go_wp2_with fail;refine (HRB.out _ HH3.out.1).mono ?_;rintro e w4 ⟨rfl,hb⟩;have HH4:=aW (HH3.out.keep hb);clear hb c0 f0 l0;obtain ⟨c0,f0,l0⟩:=HH4.out.b0.rules;cases m1 with
     |false =>
      obtain rfl:g=false:=HNOF.out (by rw [HMS.out];simp);clear HGG;go_wp2;go_ret;exact ⟨rfl,HWB.out.trans (HH4.out.1.mono HWB.out.size)⟩
     | true =>
     obtain ⟨m2,hm2⟩:∃ q,bR r els=q:=⟨_,rfl⟩
     rw [hm2] at HMS HRL;clear hm2;go_wp2_with fail;refine (HRL.out _ HH4.out.1).mono ?_;rintro e w5 ⟨rfl,hb⟩;have HH5:=aW (HH4.out.keep hb);clear hb c0 f0 l0;obtain ⟨c0,f0,l0⟩:=HH5.out.b0.rules;cases m2 with
     |false =>
      obtain rfl:g=false:=HNOF.out (by rw [HMS.out];simp);clear HGG;go_wp2;go_ret;exact ⟨rfl,HWB.out.trans (HH5.out.1.mono HWB.out.size)⟩
     | true =>
     have HM2:=aW (show bR (r+1) (l.take (i+1))=true by
      rw [HTK.out,gC,HMA.out,HMS.out];simp)
     go_wp2;go_roundg (n-(i+1))
     case measure=>have:=HGK.out;omega
     case rel=>exact ⟨i+1,rfl,by omega,by go_num,trivial,aW (HWB.out.trans (HH5.out.1.mono HWB.out.size)),HM2⟩
    have e2:(k == 2)=false:=by simp [hk2]
    by_cases hk3:k=3
    ·subst hk3;obtain ⟨bb,hbb⟩:∃ q,dD b=q:=⟨_,rfl⟩
     rw [hbb] at HMS HBB;clear hbb;go_wp2_with fail;refine (HBB.out _ HH2.out.1).mono ?_;rintro e w3 ⟨rfl,hb⟩;have HH3:=aW (HH2.out.keep hb);clear hb c0 f0 l0;obtain ⟨c0,f0,l0⟩:=HH3.out.b0.rules;cases bb with
     |false =>
      obtain rfl:g=false:=HNOF.out (by rw [HMS.out];simp);clear HGG;go_wp2;go_ret;exact ⟨rfl,HWB.out.trans (HH3.out.1.mono HWB.out.size)⟩
     | true =>
     obtain ⟨nm,hnm⟩:∃ q,eH s=q:=⟨_,rfl⟩
     have HNA:=aW (λ (W:World)=>show Calls Tryz.prog 78 #[Zt ⟨s.toArray⟩] W (λ e w'=>e=.returned (.bool nm)/\W=w') by rw [← hnm];exact lU _ W);rw [hnm] at HMS;clear hnm;go_wp2_with fail;refine (HNA.out _).mono ?_;rintro e w4 ⟨rfl,rfl⟩;cases nm with
     |false =>
      obtain rfl:g=false:=HNOF.out (by rw [HMS.out];simp);clear HGG;go_wp2;go_ret;exact ⟨rfl,HWB.out.trans (HH3.out.1.mono HWB.out.size)⟩
     | true =>
     by_cases hl0:nl=0;rotate_left
     ·have e3:((nl:Int) == 0)=false:=by simp;omega
      obtain rfl:g=false:=HNOF.out (by rw [HMS.out];rw [HNB.out.2];simp;omega);clear HGG;go_wp2;go_ret;exact ⟨rfl,HWB.out.trans (HH3.out.1.mono HWB.out.size)⟩
     subst hl0;obtain ⟨m1,hm1⟩:∃ q,bR r body=q:=⟨_,rfl⟩
     rw [hm1] at HMS HRB;clear hm1;go_wp2_with fail;refine (HRB.out _ HH3.out.1).mono ?_;rintro e w4 ⟨rfl,hb⟩;have HH4:=aW (HH3.out.keep hb);clear hb c0 f0 l0;obtain ⟨c0,f0,l0⟩:=HH4.out.b0.rules;cases m1 with
     |false =>
      obtain rfl:g=false:=HNOF.out (by rw [HMS.out];simp);clear HGG;go_wp2;go_ret;exact ⟨rfl,HWB.out.trans (HH4.out.1.mono HWB.out.size)⟩
     | true =>
     have HM2:=aW (show bR (r+1) (l.take (i+1))=true by
      rw [HTK.out,gC,HMA.out,HMS.out];rw [HNB.out.2];simp)
     go_wp2;go_roundg (n-(i+1))
     case measure=>have:=HGK.out;omega
     case rel=>exact ⟨i+1,rfl,by omega,by go_num,trivial,aW (HWB.out.trans (HH4.out.1.mono HWB.out.size)),HM2⟩
    have e3:(k == 3)=false:=by simp [hk3]
    obtain rfl:g=false:=HNOF.out (by rw [HMS.out];rw [if_neg hk1,if_neg hk2,if_neg hk3];rfl);clear HGG;go_wp2;go_ret;exact ⟨rfl,HWB.out.trans (HH2.out.1.mono HWB.out.size)⟩
   ·obtain rfl:i=n:=by omega
    obtain rfl:g=true:=by
     have:=HMA.out;rw [List.take_of_length_le (Nat.le_of_eq HNK.out),HGG.out] at this;exact this
    clear HGG;go_wp2;go_ret;exact ⟨rfl,HWB.out⟩
end
end Go.Proofs.YtgmnmnnoahdjnaaGreatDoor
