import Derived.Test.YtgmnmnnoahdjnaaGreatDoorB24
import Derived.Test.YtgmnmnnoahdjnaaGreatDoorB27
set_option maxRecDepth 100000
set_option maxHeartbeats 16000000
set_option linter.unusedVariables false
set_option linter.unusedSimpArgs false
namespace Go.Proofs.YtgmnmnnoahdjnaaGreatDoor
section
open Go.RowKit Go.Deep Go.ChangeShapes Go.WideShapes
section
variable {H:Type}
theorem kV (l:List (DataW H)):Rows.uptoBulk (.agg l)=Rows.uptoBulkAll l+1:=by rw [Rows.uptoBulk]
theorem jO (d:DataW H) (r:List (DataW H)):Rows.uptoBulkAll (d::r)=Rows.uptoBulk d+Rows.uptoBulkAll r:=by rw [Rows.uptoBulkAll]
theorem kW:Rows.uptoBulkAll ([]:List (DataW H))=0:=by rw [Rows.uptoBulkAll]
theorem oP (s:List UInt8):Rows.uptoBulk (H:=H) (.lit (.string s))=s.length+1:=by rw [Rows.uptoBulk]
theorem qk (l m:List (DataW H)):Rows.uptoBulk (.slice l m)=Rows.uptoBulkAll l+Rows.uptoBulkAll m+1:=by rw [Rows.uptoBulk]
end
def wY (W:World) (A:Option Addr) (ca:Nat) (l:List SJ):Prop:=∃ css,SRs W TT css l∧l.length≤ca∧(A=none→ca=0)∧RdF W TT A css.flatten
section
variable {H:Type} {enc:TypeId × Value→H} {W:World} {α:Type} {R:List Value→α→Prop} {Pr:Nat→α→Prop} {sz:α→Nat}
theorem pm {m:Nat} (hmono:∀ n n' x,n≤n'→Pr n x→Pr n' x) (hpos:∀ n x,Pr n x→1≤n) (hsz:∀ n x,Pr n x→sz x≤n) (a:Addr):∀ (elems:List (DataW H × List MemPlace)) (a0:Nat),
  (∀ i,i<elems.length→∃ c v y,elems[i]? = some y∧W.cells? 0 (a.add ((a0+i)*m)) m=some c∧R c v∧Pr (Rows.uptoBulk y.1) v) →
  ∃ css kids,RR R css kids∧kids.length=elems.length∧(∀ i c,css[i]? = some c→W.cells? 0 (a.add ((a0+i)*m)) m=some c)∧(∀ x ∈ kids,Pr (Rows.uptoBulkAll (elems.map (·.1))) x)∧kids.length≤Rows.uptoBulkAll (elems.map (·.1))∧(kids.map sz).sum≤Rows.uptoBulkAll (elems.map (·.1))
 | [],_,_=>⟨[],[],RR.nil,rfl,fun i c h=>by simp at h,fun x h=>(List.not_mem_nil h).elim,Nat.zero_le _,Nat.zero_le _⟩
 |y::r,a0,h=>by
  obtain ⟨c,v,y',e,h1,h2,h3⟩:=h 0 (by simp);obtain rfl:y=y':=by simpa using e
  obtain ⟨css,kids,k1,k2,k3,k4,k5,k6⟩:=pm hmono hpos hsz a r (a0+1) (fun i hi=>by
   obtain ⟨c,v,y',e,h1,h2,h3⟩:=h (i+1) (by simp;omega);exact ⟨c,v,y',by simpa using e,by rw [show a0+1+i=a0+(i+1) by omega];exact h1,h2,h3⟩)
  have hp:=hpos _ _ h3;have hq:=hsz _ _ h3;refine ⟨c::css,v::kids,⟨by simp [k1.1],fun i c' x' e1 e2=>?_⟩,by simp [k2],fun i c' e1=>?_,fun x hx=>?_,?_,?_⟩
  ·cases i with
   |zero =>
    obtain rfl:c=c':=by simpa using e1
    obtain rfl:v=x':=by simpa using e2
    exact h2
   | succ i=>exact k1.2 i c' x' (by simpa using e1) (by simpa using e2)
  ·cases i with
   |zero =>
    obtain rfl:c=c':=by simpa using e1
    exact h1
   | succ i=>have:=k3 i c' (by simpa using e1);rwa [show a0+1+i=a0+(i+1) by omega] at this
  ·rw [List.map_cons];unfold Rows.uptoBulkAll;rcases List.mem_cons.1 hx with rfl | hx
   ·exact hmono _ _ _ (by omega) h3
   ·exact hmono _ _ _ (by omega) (k4 x hx)
  ·rw [List.map_cons,List.length_cons];unfold Rows.uptoBulkAll;omega
  ·rw [List.map_cons,List.map_cons,List.sum_cons];unfold Rows.uptoBulkAll;omega
theorem v8 {m:Nat} (hm:0<m) (a:Addr) {css:List (List Value)} {kids:List α} (h:RR R css kids) (hR:∀ c x,R c x→c.length=m) (hc:∀ i c,css[i]? = some c→W.cells? 0 (a.add (i*m)) m=some c):RdF W TT (some a) css.flatten:=by
 intro hne;have hpos:0<css.length:=by
  rcases css with _ | ⟨c,r⟩
  ·exact absurd rfl hne
  ·simp
 obtain ⟨b,o,spot⟩:=a;have h5:=h.lens hR;have h0:=World.cells?_some (hc 0 _ (List.getElem?_eq_getElem hpos));have q0:=h0.2.2 0 hm;rw [List.getElem?_eq_getElem (by omega)] at q0;have hspot:spot=none:=by simpa [Addr.add] using World.cell?_spot q0
 subst hspot;have hcell:∀ i (hi:i<css.flatten.length),W.cell? ⟨b,o+i,none⟩=some css.flatten[i]:=by
  intro i hi;rw [iv h5] at hi;have hq:i / m<css.length:=(Nat.div_lt_iff_lt_mul hm).2 hi;have hx:=World.cells?_some (hc (i / m) _ (List.getElem?_eq_getElem hq));have hy:=hx.2.2 (i % m) (Nat.mod_lt _ hm);rw [add_plain,add_plain,← jW h5 (List.getElem?_eq_getElem hq) (Nat.mod_lt _ hm)] at hy;have hd:i / m*m+i % m=i:=Nat.div_add_mod' i m;rw [show o+i=o+i / m*m+i % m by omega,hy,hd,List.getElem?_eq_getElem]
 refine ⟨b,o,rfl,?_,trivial,hcell⟩;have hl:0<css.flatten.length:=by rw [iv h5];exact Nat.mul_pos hpos hm
 have hz:=hcell 0 hl;rcases Nat.lt_or_ge b W.heap.size with hlt | hge
 ·exact hlt
 ·unfold World.cell? at hz;simp [Array.getElem?_eq_none hge] at hz
theorem iC {m:Nat} {t e:TypeId} (ht:Tryz.prog.underlying t=some (.slice e)) (hcv:Tryz.prog.cellsOf e=m) (hm:0<m) (hR:∀ c x,R c x→c.length=m) (hmono:∀ n n' x,n≤n'→Pr n x→Pr n' x) (hpos:∀ n x,Pr n x→1≤n) (hsz:∀ n x,Pr n x→sz x≤n)
  {fuel:Nat} (ih:∀ (n:Nat) (cs:List Value) (x:DataW H × List MemPlace),n<fuel→DataW.trod enc Tryz.prog W 0 (fun _=>true) true n e cs=some x→∃ v,R cs v∧Pr (Rows.uptoBulk x.1) v)
  {cs:List Value} {x:DataW H × List MemPlace} (h:DataW.trod enc Tryz.prog W 0 (fun _=>true) true fuel t cs=some x) :
  ∃ A ca css kids,cs=[.slice A kids.length ca]∧RR R css kids∧kids.length≤ca∧(A=none→ca=0)∧RdF W TT A css.flatten∧(∀ v ∈ kids,Pr (Rows.uptoBulk x.1) v)∧kids.length≤Rows.uptoBulk x.1∧(kids.map sz).sum≤Rows.uptoBulk x.1:=by
 rcases DataW.trod_slice ht h with ⟨e3,rfl⟩ | ⟨a,len,cap,elems,rest,n',hn,e3,rfl,hb,hl,hmx,hel,hk,_,_⟩
 ·exact ⟨none,0,[],[],by simpa using e3,RR.nil,Nat.le_refl _,fun _=>rfl,RdF.nil,fun v hv=>(List.not_mem_nil hv).elim,Nat.zero_le _,Nat.zero_le _⟩
 ·rw [hcv] at hk;obtain ⟨css,kids,k1,k2,k3,k4,k5,k6⟩:=pm (W:=W) hmono hpos hsz a elems 0 (fun i hi=>by
   have hq:=hk i (by omega);rw [List.getElem?_eq_getElem hi] at hq;obtain ⟨c,q1,q2⟩:=Option.bind_eq_some_iff.1 hq;obtain ⟨v,q3,q4⟩:=ih n' c _ (by omega) q2;exact ⟨c,v,_,List.getElem?_eq_getElem hi,by rw [Nat.zero_add];exact q1,q3,q4⟩)
  have hle:Rows.uptoBulkAll (elems.map (·.1))≤Rows.uptoBulk (H:=H) (.slice (elems.map (·.1)) (rest.map (·.1))):=by rw [qk];omega
  refine ⟨some a,cap,css,kids,?_,k1,by omega,fun e=>by simp at e,v8 hm a k1 hR (fun i c e=>by have:=k3 i c e;rwa [Nat.zero_add] at this),fun v hv=>hmono _ _ _ hle (k4 v hv),Nat.le_trans k5 hle,Nat.le_trans k6 hle⟩;rw [k2,hel];exact e3
def oJ (n:Nat) (x:EJ):Prop:=j2 n x∧ff x≤n
theorem oJ.mono (n n':Nat) (x:EJ) (h:n≤n') (hx:oJ n x):oJ n' x:=⟨ed h x hx.1,Nat.le_trans hx.2 h⟩
theorem oJ.pos (n:Nat) (x:EJ) (h:oJ n x):1≤n:=by have h1:=h.1;cases x;unfold j2 at h1;exact h1.1
def jl (n:Nat) (x:SJ):Prop:=gZ n x∧gJ x≤n
theorem jl.mono (n n':Nat) (x:SJ) (h:n≤n') (hx:jl n x):jl n' x:=⟨eU h x hx.1,Nat.le_trans hx.2 h⟩
theorem jl.pos (n:Nat) (x:SJ) (h:jl n x):1≤n:=by have h1:=h.1;cases x;unfold gZ at h1;exact h1.1
/-- an expression that came in -/
theorem m7:∀ (fuel:Nat) (cs:List Value) (x:DataW H × List MemPlace),DataW.trod enc Tryz.prog W 0 (fun _=>true) true fuel 45 cs=some x→∃ v,ER W TT cs v∧j2 (Rows.uptoBulk x.1) v∧ff v≤Rows.uptoBulk x.1:=by
 intro fuel
 induction fuel using Nat.strongRecOn with
 |ind fuel ih =>
  intro cs x h;obtain ⟨xs,n,rfl,rfl,hlen,hxl,hf⟩:=DataW.trod_struct Tryz.underlying45 h;have ci:Tryz.prog.cellsOf 3=1:=by kernel_rfl
  have ct:Tryz.prog.cellsOf 9=1:=by kernel_rfl
  have ck:Tryz.prog.cellsOf 43=1:=by kernel_rfl
  have cv:Tryz.prog.cellsOf 42=5:=by kernel_rfl
  have ce:Tryz.prog.cellsOf 45=8:=by kernel_rfl
  rw [ce] at hlen;have f0:=hf 0 _ rfl;have f1:=hf 1 _ rfl;have f2:=hf 2 _ rfl;have f3:=hf 3 _ rfl;clear hf
  match xs,hxl,cs,hlen with
  |[y0,y1,y2,y3],_,[c0,c1,c2,c3,c4,c5,c6,c7],_ =>
   simp [ci,ct,ck,cv] at f0 f1 f2 f3;obtain ⟨k,e0,rfl,w0⟩:=DataW.trod_int Tryz.underlying3 f0;obtain ⟨v,hv,hi,hb⟩:=qR n _ _ f1;obtain ⟨s,e2,rfl,w2⟩:=DataW.trod_string Tryz.underlying9 f2;obtain ⟨A,ca,css,kids,e3,k1,k2,k3,k4,k5,k6,k7⟩:=iC (R:=ER W TT) (Pr:=oJ) (sz:=ff) Tryz.underlying43 ce (by decide) (fun c x h=>h.len) oJ.mono oJ.pos (fun n x h=>h.2) (fun n' c y hn hy=>ih n' (by omega) c y hy) f3;obtain rfl:c0=.int .i64 k:=by simpa using e0
   obtain rfl:c6=.string s:=by simpa using e2
   obtain rfl:c7=.slice A kids.length ca:=by simpa using e3
   obtain ⟨ss,rfl⟩:∃ ss:List UInt8,s=⟨ss.toArray⟩:=⟨s.data.toList,by simp⟩
   refine ⟨.mk k v ss kids,ER.into hv k1 rfl k2 k3 k4,?_⟩;simp only [List.map_cons,List.map_nil];have e2:(Lit.string (ByteArray.mk ss.toArray).data.toList)=.string ss:=by simp
   have e4:Rows.uptoBulk (H:=H) (.lit (.string ss))=ss.length+1:=by unfold Rows.uptoBulk;rfl
   rw [e2];have hle:1≤Rows.uptoBulk (H:=H) (.agg [.lit (.int .i64 k),y1.1,.lit (.string ss),y3.1])∧Rows.uptoBulk y1.1+(ss.length+1)+Rows.uptoBulk y3.1≤Rows.uptoBulk (H:=H) (.agg [.lit (.int .i64 k),y1.1,.lit (.string ss),y3.1]):=by
    simp only [kV,jO,kW,oP];constructor<;>omega
   unfold j2;exact ⟨⟨hle.1,rY w0,hi,by omega,by omega,by omega,mU.2 fun x hx=>ed (by omega) x (k5 x hx).1⟩,by unfold ff;rw [np];omega⟩
/-- a statement that came in -/
theorem sF:∀ (fuel:Nat) (cs:List Value) (x:DataW H × List MemPlace),DataW.trod enc Tryz.prog W 0 (fun _=>true) true fuel 48 cs=some x→∃ v,SR W TT cs v∧gZ (Rows.uptoBulk x.1) v∧gJ v≤Rows.uptoBulk x.1:=by
 intro fuel
 induction fuel using Nat.strongRecOn with
 |ind fuel ih =>
  intro cs x h;obtain ⟨xs,n,rfl,rfl,hlen,hxl,hf⟩:=DataW.trod_struct Tryz.underlying48 h;have ci:Tryz.prog.cellsOf 3=1:=by kernel_rfl
  have ct:Tryz.prog.cellsOf 9=1:=by kernel_rfl
  have ck:Tryz.prog.cellsOf 22=1:=by kernel_rfl
  have ce:Tryz.prog.cellsOf 45=8:=by kernel_rfl
  have cs':Tryz.prog.cellsOf 48=20:=by kernel_rfl
  rw [cs'] at hlen;have f0:=hf 0 _ rfl;have f1:=hf 1 _ rfl;have f2:=hf 2 _ rfl;have f3:=hf 3 _ rfl;have f4:=hf 4 _ rfl;have f5:=hf 5 _ rfl;clear hf
  match xs,hxl,cs,hlen with
  |[y0,y1,y2,y3,y4,y5],_,[c0,c1,a0,a1,a2,a3,a4,a5,a6,a7,b0,b1,b2,b3,b4,b5,b6,b7,c2,c3],_ =>
   simp [ci,ct,ck,ce] at f0 f1 f2 f3 f4 f5;obtain ⟨k,e0,rfl,w0⟩:=DataW.trod_int Tryz.underlying3 f0;obtain ⟨s,e1,rfl,w1⟩:=DataW.trod_string Tryz.underlying9 f1;obtain ⟨a,ha,hal,has⟩:=m7 n _ _ f2;obtain ⟨b,hb,hbl,hbs⟩:=m7 n _ _ f3;obtain ⟨A,ca,css,body,e4,k1,k2,k3,k4,k5,k6,k7⟩:=iC (R:=SR W TT) (Pr:=jl) (sz:=gJ) Tryz.underlying22 cs' (by decide) (fun c x h=>h.len) jl.mono jl.pos (fun n x h=>h.2) (fun n' c y hn hy=>ih n' (by omega) c y hy) f4;obtain ⟨B,cb,dss,els,e5,g1,g2,g3,g4,g5,g6,g7⟩:=iC (R:=SR W TT) (Pr:=jl) (sz:=gJ) Tryz.underlying22 cs' (by decide) (fun c x h=>h.len) jl.mono jl.pos (fun n x h=>h.2) (fun n' c y hn hy=>ih n' (by omega) c y hy) f5;obtain rfl:c0=.int .i64 k:=by simpa using e0
   obtain rfl:c1=.string s:=by simpa using e1
   obtain rfl:c2=.slice A body.length ca:=by simpa using e4
   obtain rfl:c3=.slice B els.length cb:=by simpa using e5
   obtain ⟨ss,rfl⟩:∃ ss:List UInt8,s=⟨ss.toArray⟩:=⟨s.data.toList,by simp⟩
   refine ⟨.mk k ss a b body els,SR.into ha hb k1 rfl k2 k3 k4 g1 rfl g2 g3 g4,?_⟩;simp only [List.map_cons,List.map_nil];have e2:(Lit.string (ByteArray.mk ss.toArray).data.toList)=.string ss:=by simp
   have e6:Rows.uptoBulk (H:=H) (.lit (.string ss))=ss.length+1:=by unfold Rows.uptoBulk;rfl
   rw [e2];have hle:1≤Rows.uptoBulk (H:=H) (.agg [.lit (.int .i64 k),.lit (.string ss),y2.1,y3.1,y4.1,y5.1])∧(ss.length+1)+Rows.uptoBulk y2.1+Rows.uptoBulk y3.1+Rows.uptoBulk y4.1+Rows.uptoBulk y5.1≤Rows.uptoBulk (H:=H) (.agg [.lit (.int .i64 k),.lit (.string ss),y2.1,y3.1,y4.1,y5.1]):=by
    simp only [kV,jO,kW,oP];constructor<;>omega
   unfold gZ;exact ⟨⟨hle.1,rY w0,by omega,ed (by omega) a hal,ed (by omega) b hbl,by omega,by omega,iy.2 fun x hx=>eU (by omega) x (k5 x hx).1,iy.2 fun x hx=>eU (by omega) x (g5 x hx).1⟩,by unfold gJ;rw [iG,iG];omega⟩
/-- a program that came in: the row of its statements -/
theorem sE {fuel:Nat} {cs:List Value} {x:DataW H × List MemPlace} (h:DataW.trod enc Tryz.prog W 0 (fun _=>true) true fuel 24 cs=some x) :
  ∃ A ca css body,cs=[.slice A body.length ca]∧SRs W TT css body∧body.length≤ca∧(A=none→ca=0)∧RdF W TT A css.flatten∧(∀ v ∈ body,gZ (Rows.uptoBulk x.1) v)∧body.length≤Rows.uptoBulk x.1∧cJ body≤Rows.uptoBulk x.1:=by
 obtain ⟨xs,n,rfl,rfl,hlen,hxl,hf⟩:=DataW.trod_struct Tryz.underlying24 h;have ck:Tryz.prog.cellsOf 22=1:=by kernel_rfl
 have cp:Tryz.prog.cellsOf 24=1:=by kernel_rfl
 have cs':Tryz.prog.cellsOf 48=20:=by kernel_rfl
 rw [cp] at hlen;have f0:=hf 0 _ rfl;clear hf
 match xs,hxl,cs,hlen with
 |[y0],_,[c0],_ =>
  simp [ck] at f0;obtain ⟨A,ca,css,body,e4,k1,k2,k3,k4,k5,k6,k7⟩:=iC (R:=SR W TT) (Pr:=jl) (sz:=gJ) Tryz.underlying22 cs' (by decide) (fun c x h=>h.len) jl.mono jl.pos (fun n x h=>h.2) (fun n' c y hn hy=>sF n' c y hy) f0;have hle:Rows.uptoBulk y0.1≤Rows.uptoBulk (H:=H) (.agg [y0.1]):=by simp only [kV,jO,kW];omega
  exact ⟨A,ca,css,body,e4,k1,k2,k3,k4,fun v hv=>eU hle v (k5 v hv).1,by simp only [List.map_cons,List.map_nil];omega,by rw [iG];simp only [List.map_cons,List.map_nil];omega⟩
end
end
section
open Go.RowKit Go.Shelf
attribute [local go_sem] aa ac ae ab
theorem kc:∀ {l:List SJ} {x:SJ},x ∈ l→gJ x≤cJ l
 |y::r,x,h=>by
  unfold cJ;rcases List.mem_cons.1 h with rfl | h
  ·omega
  ·have:=kc h;omega
theorem pS (x:SJ):1≤gJ x:=by cases x;unfold gJ;omega
set_option maxHeartbeats 32000000 in
theorem vc (kids kidsq:List SJ) (css css':List (List Value)) (A A':Option Addr) (nk nkq ca ca':Nat) (F F':Nat→Prop) (w:World) (hnk:kids.length=nk) (hnkq:kidsq.length=nkq) (hk9:nk≤4194304) (hkq9:nkq≤4194304) (h1:SRs w F css kids) (h6:RdF w F A css.flatten) (h1':SRs w F' css' kidsq) (h6':RdF w F' A' css'.flatten) (h2:nk≤ca) (h2':nkq≤ca')
  (heq:∀ (x y:SJ) (c c':List Value) (W:World),x ∈ kids→y ∈ kidsq→Below w.heap.size w W→SR W F c x→SR W F' c' y→Calls Tryz.prog 55 #[.agg c.toArray,.agg c'.toArray] W (EqX (x=y) W)) :
  Calls Tryz.prog 54 #[.slice A nk ca,.slice A' nkq ca',.func (.func 55) #[] #[]] w (EqX (kids=kidsq) w):=by
 have HKD:=aW (And.intro (And.intro h1 h6) (And.intro h1' h6'));have HEQ:=aW heq;have HNK:=aW hnk;have HNKQ:=aW hnkq;clear h1 h6 h1' h6' heq hnk hnkq;by_cases el:nk=nkq
 case neg =>
  have HNO:=aW (show ¬ (kids=kidsq) from fun e=>el (by rw [← HNK.out,← HNKQ.out,e]));have hb1:((nk:Int) == nkq)=false:=by simp;omega
  have hb2:((nk:Int) != nkq)=true:=by simp;omega
  go_enter Tryz.func54,Tryz.ntmps54;go_wp2;go_ret;exact EqX.no HNO.out (Below.refl _ _)
 subst el;go_enter Tryz.func54,Tryz.ntmps54;go_wp2;go_loopg [17] nk (fun gk s17 wr => ∃ i:Nat,i≤nk∧gk=nk-i∧s17=.int .i64 i∧Hid (kids.take i=kidsq.take i)∧Hid (Below w.heap.size w wr))
 case atStart=>exact ⟨0,Nat.zero_le _,rfl,by go_num,aW rfl,aW (Below.refl _ _)⟩
 case round =>
  obtain ⟨i,hi,hgk,rfl,HSM,HB⟩:=hrel;have HG:=aW hgk;clear hgk;by_cases hlt:i<nk
  ·obtain ⟨x,hx⟩:∃ x,kids[i]? = some x:=⟨_,List.getElem?_eq_getElem (by rw [HNK.out];exact hlt)⟩
   obtain ⟨y,hy⟩:∃ y,kidsq[i]? = some y:=⟨_,List.getElem?_eq_getElem (by rw [HNKQ.out];exact hlt)⟩
   have HM:=aW (And.intro (List.mem_of_getElem? hx) (List.mem_of_getElem? hy));have HXY:=aW (show x=y→kids.take (i+1)=kidsq.take (i+1) from fun e=>by rw [List.take_add_one,List.take_add_one,HSM.out,hx,hy,e]);have HXN:=aW (show x≠y→¬ kids=kidsq from fun e h=>e (by rw [h,hy] at hx;exact (Option.some.inj hx).symm));have hS1:SRs wr F css kids:=RR.imp HKD.out.1.1 fun c y hc=>hc.bel HB.out
   have hR1:RdF wr F A css.flatten:=HKD.out.1.2.keep (ah.of_below HB.out);have hS2:SRs wr F' css' kidsq:=RR.imp HKD.out.2.1 fun c y hc=>hc.bel HB.out
   have hR2:RdF wr F' A' css'.flatten:=HKD.out.2.2.keep (ah.of_below HB.out);obtain ⟨k,s,a,b,body,els⟩:=x;obtain ⟨k',s',a',b',body',els'⟩:=y;obtain ⟨bl,o,ka,kva,nva,sva,Ava,nka,cka,Bva,nya,cya,sa,Ca,nxa,cxa,kb,kvb,nvb,svb,Avb,nkb,ckb,Bvb,nyb,cyb,sb,Cb,nxb,cxb,BA,LA,cb,cl,bss,lss,rfl,hbl,_,_,_,_,_,hSR,hz⟩:=ec hS1 hR1 hx;obtain ⟨bl',o',ka',kva',nva',sva',Ava',nka',cka',Bva',nya',cya',sa',Ca',nxa',cxa',kb',kvb',nvb',svb',Avb',nkb',ckb',Bvb',nyb',cyb',sb',Cb',nxb',cxb',BA',LA',cb',cl',bss',lss',rfl,hbl',_,_,_,_,_,hSR',hz'⟩:=ec hS2 hR2 hy;obtain ⟨nb,hnb⟩:∃ q,body.length=q:=⟨_,rfl⟩
   obtain ⟨nl,hnl⟩:∃ q,els.length=q:=⟨_,rfl⟩
   obtain ⟨nb',hnb'⟩:∃ q,body'.length=q:=⟨_,rfl⟩
   obtain ⟨nl',hnl'⟩:∃ q,els'.length=q:=⟨_,rfl⟩
   rw [hnb,hnl] at hz hSR;rw [hnb',hnl'] at hz' hSR';have hb1:bl<wr.heap.size:=hbl;have hb1':bl'<wr.heap.size:=hbl';have hTS:=gm.new wr 48 #[.int .i64 k,.string ⟨s.toArray⟩,.int .i64 ka,.int .i64 kva,.int .i64 nva,.string sva,.slice Ava nka cka,.slice Bva nya cya,.string sa,.slice Ca nxa cxa,.int .i64 kb,.int .i64 kvb,.int .i64 nvb,.string svb,.slice Avb nkb ckb,.slice Bvb nyb cyb,.string sb,.slice Cb nxb cxb,.slice BA nb cb,.slice LA nl cl] #[.int .i64 k',.string ⟨s'.toArray⟩,.int .i64 ka',.int .i64 kva',.int .i64 nva',.string sva',.slice Ava' nka' cka',.slice Bva' nya' cya',.string sa',.slice Ca' nxa' cxa',.int .i64 kb',.int .i64 kvb',.int .i64 nvb',.string svb',.slice Avb' nkb' ckb',.slice Bvb' nyb' cyb',.string sb',.slice Cb' nxb' cxb',.slice BA' nb' cb',.slice LA' nl' cl'];have hbA:=(Below.refl wr.heap.size wr).alloc (Nat.le_refl _) (.cells #[.int .i64 k,.string ⟨s.toArray⟩,.int .i64 ka,.int .i64 kva,.int .i64 nva,.string sva,.slice Ava nka cka,.slice Bva nya cya,.string sa,.slice Ca nxa cxa,.int .i64 kb,.int .i64 kvb,.int .i64 nvb,.string svb,.slice Avb nkb ckb,.slice Bvb nyb cyb,.string sb,.slice Cb nxb cxb,.slice BA nb cb,.slice LA nl cl] 48);have HB2:=aW (HB.out.trans (hTS.2.2.mono HB.out.size));have HCL:=aW (HEQ.out _ _ _ _ _ HM.out.1 HM.out.2 HB2.out (hSR.bel hTS.2.2) (hSR'.bel hTS.2.2));have HRG:=aW (show wr.rangeAt bl (o+i*20) [.int .i64 k,.string ⟨s.toArray⟩,.int .i64 ka,.int .i64 kva,.int .i64 nva,.string sva,.slice Ava nka cka,.slice Bva nya cya,.string sa,.slice Ca nxa cxa,.int .i64 kb,.int .i64 kvb,.int .i64 nvb,.string svb,.slice Avb nkb ckb,.slice Bvb nyb cyb,.string sb,.slice Cb nxb cxb,.slice BA nb cb,.slice LA nl cl] from fun j v hv=>by rw [Nat.add_assoc];exact hz j v hv);have HRGp:=aW (show (wr.alloc (.cells #[.int .i64 k,.string ⟨s.toArray⟩,.int .i64 ka,.int .i64 kva,.int .i64 nva,.string sva,.slice Ava nka cka,.slice Bva nya cya,.string sa,.slice Ca nxa cxa,.int .i64 kb,.int .i64 kvb,.int .i64 nvb,.string svb,.slice Avb nkb ckb,.slice Bvb nyb cyb,.string sb,.slice Cb nxb cxb,.slice BA nb cb,.slice LA nl cl] 48)).rangeAt bl' (o'+i*20) [.int .i64 k',.string ⟨s'.toArray⟩,.int .i64 ka',.int .i64 kva',.int .i64 nva',.string sva',.slice Ava' nka' cka',.slice Bva' nya' cya',.string sa',.slice Ca' nxa' cxa',.int .i64 kb',.int .i64 kvb',.int .i64 nvb',.string svb',.slice Avb' nkb' ckb',.slice Bvb' nyb' cyb',.string sb',.slice Cb' nxb' cxb',.slice BA' nb' cb',.slice LA' nl' cl'] from fun j v hv=>by rw [Nat.add_assoc];exact (hbA.cell (p:=⟨bl',o'+(i*20+j),none⟩) hb1').trans (hz' j v hv));obtain ⟨W1,hW1⟩:∃ W1,wr.alloc (.cells #[.int .i64 k,.string ⟨s.toArray⟩,.int .i64 ka,.int .i64 kva,.int .i64 nva,.string sva,.slice Ava nka cka,.slice Bva nya cya,.string sa,.slice Ca nxa cxa,.int .i64 kb,.int .i64 kvb,.int .i64 nvb,.string svb,.slice Avb nkb ckb,.slice Bvb nyb cyb,.string sb,.slice Cb nxb cxb,.slice BA nb cb,.slice LA nl cl] 48)=W1:=⟨_,rfl⟩
   obtain ⟨W2,hW2⟩:∃ W2,W1.alloc (.cells #[.int .i64 k',.string ⟨s'.toArray⟩,.int .i64 ka',.int .i64 kva',.int .i64 nva',.string sva',.slice Ava' nka' cka',.slice Bva' nya' cya',.string sa',.slice Ca' nxa' cxa',.int .i64 kb',.int .i64 kvb',.int .i64 nvb',.string svb',.slice Avb' nkb' ckb',.slice Bvb' nyb' cyb',.string sb',.slice Cb' nxb' cxb',.slice BA' nb' cb',.slice LA' nl' cl'] 48)=W2:=⟨_,rfl⟩
   have hs1:W1.heap.size=wr.heap.size+1:=by rw [← hW1];simp
   rw [hW1] at hTS HB2 HCL HRGp;rw [hW2] at hTS HB2 HCL;have HS1:=aW hs1;have HW1:=aW hW1;have HW2:=aW hW2;have hTS':=hTS;unfold gm at hTS';rw [← hs1] at hTS';have HQ1:=aW (show W2.rangeAt wr.heap.size 0 [.int .i64 k,.string ⟨s.toArray⟩,.int .i64 ka,.int .i64 kva,.int .i64 nva,.string sva,.slice Ava nka cka,.slice Bva nya cya,.string sa,.slice Ca nxa cxa,.int .i64 kb,.int .i64 kvb,.int .i64 nvb,.string svb,.slice Avb nkb ckb,.slice Bvb nyb cyb,.string sb,.slice Cb nxb cxb,.slice BA nb cb,.slice LA nl cl] from fun j v hv=>by rw [Nat.zero_add];exact (hTS'.1.cell j).trans (List.getElem?_toArray.trans hv));have HQ2:=aW (show W2.rangeAt W1.heap.size 0 [.int .i64 k',.string ⟨s'.toArray⟩,.int .i64 ka',.int .i64 kva',.int .i64 nva',.string sva',.slice Ava' nka' cka',.slice Bva' nya' cya',.string sa',.slice Ca' nxa' cxa',.int .i64 kb',.int .i64 kvb',.int .i64 nvb',.string svb',.slice Avb' nkb' ckb',.slice Bvb' nyb' cyb',.string sb',.slice Cb' nxb' cxb',.slice BA' nb' cb',.slice LA' nl' cl'] from fun j v hv=>by rw [Nat.zero_add];exact (hTS'.2.1.cell j).trans (List.getElem?_toArray.trans hv));clear hz hz' hSR hSR' hx hy hbA hTS hTS' hS1 hS2 hR1 hR2 hnb hnl hnb' hnl' hbl hbl' hW1 hW2 hs1;go_upto_region 5 with fail;go_step;go_step;go_step;go_step;go_step;go_step;go_step;refine wpList_load_mid rfl 48 (.tmp 20) rfl bl (o+i*20) rfl [.int .i64 k,.string ⟨s.toArray⟩,.int .i64 ka,.int .i64 kva,.int .i64 nva,.string sva,.slice Ava nka cka,.slice Bva nya cya,.string sa,.slice Ca nxa cxa,.int .i64 kb,.int .i64 kvb,.int .i64 nvb,.string svb,.slice Avb nkb ckb,.slice Bvb nyb cyb,.string sb,.slice Cb nxb cxb,.slice BA nb cb,.slice LA nl cl] _ HRG.out Tryz.underlying48 rfl (by kernel_rfl) ?_;go_step;go_step;go_step;go_step;go_step;go_step;refine cO rfl 48 (.tmp 8) (.tmp 21) rfl _ _ rfl rfl (by kernel_rfl) (by kernel_rfl) (by first | kernel_rfl | simp [Value.oneCell']) ?_;rw [HW1.out];go_upto_region 6 with fail;go_step;go_step;go_step;go_step;go_step;go_step;go_step;go_step;go_step;go_step;refine wpList_load_mid rfl 48 (.tmp 24) rfl bl' (o'+i*20) rfl [.int .i64 k',.string ⟨s'.toArray⟩,.int .i64 ka',.int .i64 kva',.int .i64 nva',.string sva',.slice Ava' nka' cka',.slice Bva' nya' cya',.string sa',.slice Ca' nxa' cxa',.int .i64 kb',.int .i64 kvb',.int .i64 nvb',.string svb',.slice Avb' nkb' ckb',.slice Bvb' nyb' cyb',.string sb',.slice Cb' nxb' cxb',.slice BA' nb' cb',.slice LA' nl' cl'] _ HRGp.out Tryz.underlying48 rfl (by kernel_rfl) ?_;go_step;go_step;go_step;refine cO rfl 48 (.tmp 9) (.tmp 25) rfl _ _ rfl rfl (by kernel_rfl) (by kernel_rfl) (by first | kernel_rfl | simp [Value.oneCell']) ?_;rw [HW2.out];go_upto_region 7 with fail;go_step;go_step;go_step;go_step;refine wpList_load_mid rfl 48 (.tmp 8) rfl wr.heap.size 0 rfl [.int .i64 k,.string ⟨s.toArray⟩,.int .i64 ka,.int .i64 kva,.int .i64 nva,.string sva,.slice Ava nka cka,.slice Bva nya cya,.string sa,.slice Ca nxa cxa,.int .i64 kb,.int .i64 kvb,.int .i64 nvb,.string svb,.slice Avb nkb ckb,.slice Bvb nyb cyb,.string sb,.slice Cb nxb cxb,.slice BA nb cb,.slice LA nl cl] _ HQ1.out Tryz.underlying48 rfl (by kernel_rfl) ?_;refine wpList_load_mid rfl 48 (.tmp 9) rfl W1.heap.size 0 rfl [.int .i64 k',.string ⟨s'.toArray⟩,.int .i64 ka',.int .i64 kva',.int .i64 nva',.string sva',.slice Ava' nka' cka',.slice Bva' nya' cya',.string sa',.slice Ca' nxa' cxa',.int .i64 kb',.int .i64 kvb',.int .i64 nvb',.string svb',.slice Avb' nkb' ckb',.slice Bvb' nyb' cyb',.string sb',.slice Cb' nxb' cxb',.slice BA' nb' cb',.slice LA' nl' cl'] _ HQ2.out Tryz.underlying48 rfl (by kernel_rfl) ?_;go_wp2_with fail;refine HCL.out.mono ?_;rintro e w2 ⟨tt,rfl,htt,hb2⟩;have HB3:=aW (HB2.out.trans (hb2.mono HB2.out.size));have HTT:=aW htt;clear hb2 htt;cases tt with
   |true =>
    have HK:=aW (HXY.out (HTT.out.1 (by trivial)));go_wp2;go_roundg (nk-(i+1))
    case measure=>rw [HG.out];omega
    case rel=>exact ⟨i+1,hlt,rfl,by go_num,HK,HB3⟩
   |false =>
    have HF:=aW (HXN.out (fun e=>by have:=HTT.out.2 e;cases this));go_wp2;go_ret;exact EqX.no HF.out HB3.out
  ·obtain rfl:i=nk:=by omega
   have HF:=aW (show kids=kidsq by
    have e1:=HSM.out;rwa [List.take_of_length_le (Nat.le_of_eq HNK.out),List.take_of_length_le (Nat.le_of_eq HNKQ.out)] at e1)
   go_wp2;go_ret;exact EqX.yes HF.out HB.out
end
end Go.Proofs.YtgmnmnnoahdjnaaGreatDoor
