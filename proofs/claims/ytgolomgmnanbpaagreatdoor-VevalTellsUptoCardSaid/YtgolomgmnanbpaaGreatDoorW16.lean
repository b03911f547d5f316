import Derived.Test.YtgolomgmnanbpaaGreatDoorW13
import Derived.Test.YtgolomgmnanbpaaGreatDoorW09
import Derived.Test.YtgolomgmnanbpaaGreatDoorW12
import Derived.Test.YtgolomgmnanbpaaGreatDoorW11
import Derived.Test.YtgolomgmnanbpaaGreatDoorW08
import Derived.Test.YtgolomgmnanbpaaGreatDoorW14
import Derived.Deep.RegionHeld3
import Derived.Test.YtgolomgmnanbpaaGreatDoorW01
import Derived.Test.YtgolomgmnanbpaaGreatDoorW03
set_option maxRecDepth 100000
set_option maxHeartbeats 16000000
namespace Go.Proofs.YtgolomgmnanbpaaGreatDoor
set_option linter.unusedVariables false
set_option linter.unusedSimpArgs false
open Go.RowKit Go.Deep Go.ChangeShapes Go.WideShapes
section
variable {H:Type}
theorem bulk_agg (l:List (DataW H)):Rows.uptoBulk (.agg l)=Rows.uptoBulkAll l+1:=by rw [Rows.uptoBulk]
theorem bulk_cons (d:DataW H) (r:List (DataW H)):Rows.uptoBulkAll (d::r)=Rows.uptoBulk d+Rows.uptoBulkAll r:=by rw [Rows.uptoBulkAll]
theorem bulk_nil:Rows.uptoBulkAll ([]:List (DataW H))=0:=by rw [Rows.uptoBulkAll]
theorem bulk_str (s:List UInt8):Rows.uptoBulk (H:=H) (.lit (.string s))=s.length+1:=by rw [Rows.uptoBulk]
theorem bulk_slice (l m:List (DataW H)):Rows.uptoBulk (.slice l m)=Rows.uptoBulkAll l+Rows.uptoBulkAll m+1:=by rw [Rows.uptoBulk]
end
def RowB (W:World) (A:Option Addr) (ca:Nat) (l:List (List UInt8 × JV)):Prop:=∃ css,BnRs W TT css l∧l.length≤ca∧(A=none→ca=0)∧RdF W TT A css.flatten
section
variable {H:Type} {enc:TypeId × Value→H} {W:World} {α:Type} {R:List Value→α→Prop} {Pr:Nat→α→Prop}
theorem kidsN_of {m:Nat} (hmono:∀ n n' x,n≤n'→Pr n x→Pr n' x) (hpos:∀ n x,Pr n x→1≤n) (a:Addr):∀ (elems:List (DataW H × List MemPlace)) (a0:Nat),
  (∀ i,i<elems.length→∃ c v y,elems[i]? = some y∧W.cells? 0 (a.add ((a0+i)*m)) m=some c∧R c v∧Pr (Rows.uptoBulk y.1) v) →
  ∃ css kids,RR R css kids∧kids.length=elems.length∧(∀ i c,css[i]? = some c→W.cells? 0 (a.add ((a0+i)*m)) m=some c)∧(∀ x ∈ kids,Pr (Rows.uptoBulkAll (elems.map (·.1))) x)∧kids.length≤Rows.uptoBulkAll (elems.map (·.1))
 | [],_,_=>⟨[],[],RR.nil,rfl,fun i c h=>by simp at h,fun x h=>(List.not_mem_nil h).elim,Nat.zero_le _⟩
 | y::r,a0,h=>by
  obtain ⟨c,v,y',e,h1,h2,h3⟩:=h 0 (by simp);obtain rfl:y=y':=by simpa using e
  obtain ⟨css,kids,k1,k2,k3,k4,k5⟩:=kidsN_of hmono hpos a r (a0+1) (fun i hi=>by
   obtain ⟨c,v,y',e,h1,h2,h3⟩:=h (i+1) (by simp;omega);exact ⟨c,v,y',by simpa using e,by rw [show a0+1+i=a0+(i+1) by omega];exact h1,h2,h3⟩)
  have hp:=hpos _ _ h3;refine ⟨c::css,v::kids,⟨by simp [k1.1],fun i c' x' e1 e2=>?_⟩,by simp [k2],fun i c' e1=>?_,fun x hx=>?_,?_⟩
  ·cases i with
   | zero =>
    obtain rfl:c=c':=by simpa using e1
    obtain rfl:v=x':=by simpa using e2
    exact h2
   | succ i=>exact k1.2 i c' x' (by simpa using e1) (by simpa using e2)
  ·cases i with
   | zero =>
    obtain rfl:c=c':=by simpa using e1
    exact h1
   | succ i=>have:=k3 i c' (by simpa using e1);rwa [show a0+1+i=a0+(i+1) by omega] at this
  ·rw [List.map_cons];unfold Rows.uptoBulkAll;rcases List.mem_cons.1 hx with rfl | hx
   ·exact hmono _ _ _ (by omega) h3
   ·exact hmono _ _ _ (by omega) (k4 x hx)
  ·rw [List.map_cons,List.length_cons];unfold Rows.uptoBulkAll;omega
theorem rowN_of {m:Nat} (hm:0<m) (a:Addr) {css:List (List Value)} {kids:List α} (h:RR R css kids) (hR:∀ c x,R c x→c.length=m) (hc:∀ i c,css[i]? = some c→W.cells? 0 (a.add (i*m)) m=some c):RdF W TT (some a) css.flatten:=by
 intro hne;have hpos:0<css.length:=by
  rcases css with _ | ⟨c,r⟩
  ·exact absurd rfl hne
  ·simp
 obtain ⟨b,o,spot⟩:=a;have h5:=h.lens hR;have h0:=World.cells?_some (hc 0 _ (List.getElem?_eq_getElem hpos));have q0:=h0.2.2 0 hm;rw [List.getElem?_eq_getElem (by omega)] at q0;have hspot:spot=none:=by simpa [Addr.add] using World.cell?_spot q0
 subst hspot;have hcell:∀ i (hi:i<css.flatten.length),W.cell? ⟨b,o+i,none⟩=some css.flatten[i]:=by
  intro i hi;rw [flatN_len h5] at hi;have hq:i / m<css.length:=(Nat.div_lt_iff_lt_mul hm).2 hi;have hx:=World.cells?_some (hc (i / m) _ (List.getElem?_eq_getElem hq));have hy:=hx.2.2 (i % m) (Nat.mod_lt _ hm);rw [add_plain,add_plain,← flatN_get h5 (List.getElem?_eq_getElem hq) (Nat.mod_lt _ hm)] at hy;have hd:i / m*m+i % m=i:=Nat.div_add_mod' i m;rw [show o+i=o+i / m*m+i % m by omega,hy,hd,List.getElem?_eq_getElem]
 refine ⟨b,o,rfl,?_,trivial,hcell⟩;have hl:0<css.flatten.length:=by rw [flatN_len h5];exact Nat.mul_pos hpos hm
 have hz:=hcell 0 hl;rcases Nat.lt_or_ge b W.heap.size with hlt | hge
 ·exact hlt
 ·unfold World.cell? at hz;simp [Array.getElem?_eq_none hge] at hz
theorem open_rowN {m:Nat} {t e:TypeId} (ht:Tryz.prog.underlying t=some (.slice e)) (hcv:Tryz.prog.cellsOf e=m) (hm:0<m) (hR:∀ c x,R c x→c.length=m) (hmono:∀ n n' x,n≤n'→Pr n x→Pr n' x) (hpos:∀ n x,Pr n x→1≤n)
  {fuel:Nat} (ih:∀ (n:Nat) (cs:List Value) (x:DataW H × List MemPlace),n<fuel→DataW.trod enc Tryz.prog W 0 (fun _=>true) true n e cs=some x→∃ v,R cs v∧Pr (Rows.uptoBulk x.1) v)
  {cs:List Value} {x:DataW H × List MemPlace} (h:DataW.trod enc Tryz.prog W 0 (fun _=>true) true fuel t cs=some x) :
  ∃ A ca css kids,cs=[.slice A kids.length ca]∧RR R css kids∧kids.length≤ca∧(A=none→ca=0)∧RdF W TT A css.flatten∧(∀ v ∈ kids,Pr (Rows.uptoBulk x.1) v)∧kids.length≤Rows.uptoBulk x.1:=by
 rcases DataW.trod_slice ht h with ⟨e3,rfl⟩ | ⟨a,len,cap,elems,rest,n',hn,e3,rfl,hb,hl,hmx,hel,hk,_,_⟩
 ·exact ⟨none,0,[],[],by simpa using e3,RR.nil,Nat.le_refl _,fun _=>rfl,RdF.nil,fun v hv=>(List.not_mem_nil hv).elim,Nat.zero_le _⟩
 ·rw [hcv] at hk;obtain ⟨css,kids,k1,k2,k3,k4,k5⟩:=kidsN_of (W:=W) hmono hpos a elems 0 (fun i hi=>by
   have hq:=hk i (by omega);rw [List.getElem?_eq_getElem hi] at hq;obtain ⟨c,q1,q2⟩:=Option.bind_eq_some_iff.1 hq;obtain ⟨v,q3,q4⟩:=ih n' c _ (by omega) q2;exact ⟨c,v,_,List.getElem?_eq_getElem hi,by rw [Nat.zero_add];exact q1,q3,q4⟩)
  have hle:Rows.uptoBulkAll (elems.map (·.1))≤Rows.uptoBulk (H:=H) (.slice (elems.map (·.1)) (rest.map (·.1))):=by rw [bulk_slice];omega
  refine ⟨some a,cap,css,kids,?_,k1,by omega,fun e=>by simp at e,rowN_of hm a k1 hR (fun i c e=>by have:=k3 i c e;rwa [Nat.zero_add] at this),fun v hv=>hmono _ _ _ hle (k4 v hv),Nat.le_trans k5 hle⟩;rw [k2,hel];exact e3
/-- an expression that came in -/
theorem open_expr:∀ (fuel:Nat) (cs:List Value) (x:DataW H × List MemPlace),DataW.trod enc Tryz.prog W 0 (fun _=>true) true fuel 28 cs=some x→∃ v,ER W TT cs v∧locE (Rows.uptoBulk x.1) v:=by
 intro fuel
 induction fuel using Nat.strongRecOn with
 | ind fuel ih =>
  intro cs x h;obtain ⟨xs,n,rfl,rfl,hlen,hxl,hf⟩:=DataW.trod_struct Tryz.underlying28 h;have ci:Tryz.prog.cellsOf 3=1:=by kernel_rfl
  have ct:Tryz.prog.cellsOf 9=1:=by kernel_rfl
  have ck:Tryz.prog.cellsOf 26=1:=by kernel_rfl
  have cv:Tryz.prog.cellsOf 25=5:=by kernel_rfl
  have ce:Tryz.prog.cellsOf 28=8:=by kernel_rfl
  rw [ce] at hlen;have f0:=hf 0 _ rfl;have f1:=hf 1 _ rfl;have f2:=hf 2 _ rfl;have f3:=hf 3 _ rfl;clear hf
  match xs,hxl,cs,hlen with
  | [y0,y1,y2,y3],_,[c0,c1,c2,c3,c4,c5,c6,c7],_ =>
   simp [ci,ct,ck,cv] at f0 f1 f2 f3;obtain ⟨k,e0,rfl,w0⟩:=DataW.trod_int Tryz.underlying3 f0;obtain ⟨v,hv,hi,hb⟩:=open_value n _ _ f1;obtain ⟨s,e2,rfl,w2⟩:=DataW.trod_string Tryz.underlying9 f2;obtain ⟨A,ca,css,kids,e3,k1,k2,k3,k4,k5,k6⟩:=open_rowN (R:=ER W TT) (Pr:=locE) Tryz.underlying26 ce (by decide) (fun c x h=>h.len) (fun n n' x h=>locE_mono h x) (fun n x h=>by cases x;unfold locE at h;exact h.1) (fun n' c y hn hy=>ih n' (by omega) c y hy) f3;obtain rfl:c0=.int .i64 k:=by simpa using e0
   obtain rfl:c6=.string s:=by simpa using e2
   obtain rfl:c7=.slice A kids.length ca:=by simpa using e3
   obtain ⟨ss,rfl⟩:∃ ss:List UInt8,s=⟨ss.toArray⟩:=⟨s.data.toList,by simp⟩
   refine ⟨.mk k v ss kids,ER.into hv k1 rfl k2 k3 k4,?_⟩;simp only [List.map_cons,List.map_nil];have e2:(Lit.string (ByteArray.mk ss.toArray).data.toList)=.string ss:=by simp
   have e4:Rows.uptoBulk (H:=H) (.lit (.string ss))=ss.length+1:=by unfold Rows.uptoBulk;rfl
   rw [e2];have hle:1≤Rows.uptoBulk (H:=H) (.agg [.lit (.int .i64 k),y1.1,.lit (.string ss),y3.1])∧Rows.uptoBulk y1.1+(ss.length+1)+Rows.uptoBulk y3.1≤Rows.uptoBulk (H:=H) (.agg [.lit (.int .i64 k),y1.1,.lit (.string ss),y3.1]):=by
    simp only [bulk_agg,bulk_cons,bulk_nil,bulk_str];constructor<;>omega
   unfold locE;exact ⟨hle.1,wf_iw w0,hi,by omega,by omega,by omega,locEL_iff.2 fun x hx=>locE_mono (by omega) x (k5 x hx)⟩
/-- names that came in,and what they stand for -/
theorem open_binds {fuel:Nat} {cs:List Value} {x:DataW H × List MemPlace} (h:DataW.trod enc Tryz.prog W 0 (fun _=>true) true fuel 29 cs=some x) :
  ∃ A ca css l,cs=[.slice A l.length ca]∧BnRs W TT css l∧l.length≤ca∧(A=none→ca=0)∧RdF W TT A css.flatten∧(∀ v ∈ l,locB (Rows.uptoBulk x.1) v)∧l.length≤Rows.uptoBulk x.1:=by
 have ct:Tryz.prog.cellsOf 9=1:=by kernel_rfl
 have cv:Tryz.prog.cellsOf 25=5:=by kernel_rfl
 have cb:Tryz.prog.cellsOf 37=6:=by kernel_rfl
 refine open_rowN (R:=BnR W TT) (Pr:=locB) Tryz.underlying29 cb (by decide) (fun c x h=>h.len) (fun n n' x h=>locB_mono h x) (fun n x h=>h.1) (fun n cs x hn h=>?_) h;obtain ⟨xs,n,rfl,rfl,hlen,hxl,hf⟩:=DataW.trod_struct Tryz.underlying37 h;rw [cb] at hlen;have f0:=hf 0 _ rfl;have f1:=hf 1 _ rfl;clear hf
 match xs,hxl,cs,hlen with
 | [y0,y1],_,[c0,c1,c2,c3,c4,c5],_ =>
  simp [ct,cv] at f0 f1;obtain ⟨s,e2,rfl,w2⟩:=DataW.trod_string Tryz.underlying9 f0;obtain ⟨v,hv,hi,hb⟩:=open_value n _ _ f1;obtain rfl:c0=.string s:=by simpa using e2
  obtain ⟨ss,rfl⟩:∃ ss:List UInt8,s=⟨ss.toArray⟩:=⟨s.data.toList,by simp⟩
  refine ⟨(ss,v),⟨_,rfl,hv⟩,?_⟩;simp only [List.map_cons,List.map_nil];have e2:(Lit.string (ByteArray.mk ss.toArray).data.toList)=.string ss:=by simp
  have e4:Rows.uptoBulk (H:=H) (.lit (.string ss))=ss.length+1:=by unfold Rows.uptoBulk;rfl
  rw [e2];have hle:1≤Rows.uptoBulk (H:=H) (.agg [.lit (.string ss),y1.1])∧(ss.length+1)+Rows.uptoBulk y1.1≤Rows.uptoBulk (H:=H) (.agg [.lit (.string ss),y1.1]):=by
   simp only [bulk_agg,bulk_cons,bulk_nil,bulk_str];constructor<;>omega
  exact ⟨hle.1,by show ss.length≤_;omega,hi,by show bulkJ v≤_;omega⟩
end
set_option linter.unusedVariables false
set_option linter.unusedSimpArgs false
open Go.RowKit
def gd (v:JV):Prop:=good v=true
theorem gd.j {v:JV} (h:gd v):goodJ 8 v=true:=by unfold gd good at h;rw [Bool.and_eq_true] at h;exact h.1
set_option linter.unusedVariables false
set_option linter.unusedSimpArgs false
def litOk (v:JV):Bool:=good v && (decide (v.kind=3∧0≤v.num) || decide (v.kind=1∨v.kind=2∨v.kind=4))
def zeroJ:JV→Bool | .mk k n s kids keys=>decide (k=0∧n=0∧s=[]∧kids.length+keys.length=0)
def nameOk (s:List UInt8):Bool:=isName ⟨s.toArray⟩
def okX (k:Int) (v:JV) (s:List UInt8) (nk:Nat):Bool :=
 if k=1 then litOk v && decide (s=[]∧nk=0)
 else if zeroJ v=false then false
 else if k=2 then nameOk s && decide (nk=0)
 else if k=3 then nameOk s && decide (nk=1)
 else if k=4 then decide (s=[])
 else if 5≤k∧k≤7 then decide (s=[]∧nk=1)
 else if 8≤k∧k≤15 then decide (s=[]∧nk=2)
 else false
mutual
/-- how deep an expression is that may be,within so many levels;0: it may not be -/
def deepE:Nat→EJ→Nat
 | room,.mk k v s kids=>if room=0 then 0 else if okX k v s kids.length=true then (match deepL (room-1) kids with | none=>0 | some m=>m+1) else 0
def deepL:Nat→List EJ→Option Nat
 | _,[]=>some 0
 | room,x::r=>if deepE room x=0 then none else match deepL room r with | none=>none | some m=>some (max (deepE room x) m)
end
def fitE (x:EJ):Prop:=deepE 12 x≠0
instance (x:EJ):Decidable (fitE x):=by unfold fitE;infer_instance
def blankE:EJ→Bool | .mk k v s kids=>decide (k=0∧s=[]∧kids.length=0) && zeroJ v
mutual
/-- may a statement be,within so many levels? -/
def mayS:Nat→SJ→Bool
 | room,.mk k s a b body els=>decide (room≠0) && (decide (fitE a) &&
   (if k=1 then decide (fitE b) && decide (s=[]∧body.length+els.length=0)
    else if k=2 then blankE b && (decide (s=[]) && (mayL (room-1) body && mayL (room-1) els))
    else if k=3 then blankE b && (nameOk s && (mayL (room-1) body && decide (els.length=0)))
    else false))
def mayL:Nat→List SJ→Bool
 | _,[]=>true
 | room,x::r=>mayS room x && mayL room r
end
def mayP (l:List SJ):Bool:=mayL 12 l
theorem mayL_iff {d:Nat}:∀ {xs:List SJ},mayL d xs=true ↔ ∀ x ∈ xs,mayS d x=true
 | []=>by simp [mayL]
 | x::r=>by simp [mayL,mayL_iff (xs:=r)]
theorem deepL_cons {r:Nat} {x:EJ} {l:List EJ}:deepL r (x::l)≠none ↔ deepE r x≠0∧deepL r l≠none:=by
 rw [deepL];by_cases h:deepE r x=0
 ·rw [if_pos h];simp [h]
 ·rw [if_neg h];cases hd:deepL r l<;>simp [h]
theorem deepL_iff {r:Nat}:∀ {l:List EJ},deepL r l≠none ↔ ∀ x ∈ l,deepE r x≠0
 | []=>by simp [deepL]
 | x::l=>by rw [deepL_cons,deepL_iff (l:=l)];simp
theorem deepE_out {r:Nat} {k:Int} {v:JV} {s:List UInt8} {kids:List EJ} (h:deepE r (.mk k v s kids)≠0):r≠0∧okX k v s kids.length=true∧∀ x ∈ kids,deepE (r-1) x≠0:=by
 unfold deepE at h;by_cases h0:r=0
 ·rw [if_pos h0] at h;exact absurd rfl h
 ·rw [if_neg h0] at h;by_cases h1:okX k v s kids.length=true
  ·rw [if_pos h1] at h;refine ⟨h0,h1,deepL_iff.1 fun e=>?_⟩;rw [e] at h;exact h rfl
  ·rw [if_neg h1] at h;exact absurd rfl h
theorem deepE_into {r:Nat} {k:Int} {v:JV} {s:List UInt8} {kids:List EJ} (h0:r≠0) (h1:okX k v s kids.length=true) (h2:∀ x ∈ kids,deepE (r-1) x≠0):deepE r (.mk k v s kids)≠0:=by
 unfold deepE;rw [if_neg h0,if_pos h1];cases hd:deepL (r-1) kids with
 | none=>exact absurd hd (deepL_iff.2 h2)
 | some m=>simp
theorem okX_kind {k:Int} {v:JV} {s:List UInt8} {nk:Nat} (h:okX k v s nk=true):1≤k∧k≤15∧(k=1→litOk v=true)∧(k=3∨5≤k∧k≤7→nk=1)∧(8≤k→nk=2):=by
 unfold okX at h;split at h
 ·rename_i h1;rw [Bool.and_eq_true] at h;exact ⟨by omega,by omega,fun _=>h.1,by omega,by omega⟩
 ·split at h
  ·cases h
  ·split at h
   ·exact ⟨by omega,by omega,by omega,by omega,by omega⟩
   ·split at h
    ·rw [Bool.and_eq_true,decide_eq_true_eq] at h;exact ⟨by omega,by omega,by omega,fun _=>h.2,by omega⟩
    ·split at h
     ·exact ⟨by omega,by omega,by omega,by omega,by omega⟩
     ·split at h
      ·rw [decide_eq_true_eq] at h;exact ⟨by omega,by omega,by omega,fun _=>h.2,by omega⟩
      ·split at h
       ·rw [decide_eq_true_eq] at h;exact ⟨by omega,by omega,by omega,by omega,fun _=>h.2⟩
       ·cases h
def lookJ:List (List UInt8 × JV)→List UInt8→Option JV
 | [],_=>none
 | (s,v)::r,t=>match lookJ r t with | some u=>some u | none=>if s=t then some v else none
def jBool (b:Bool):JV:=.mk 2 (if b=true then 1 else 0) [] [] []
def jNum (n:Int):JV:=.mk 3 n [] [] []
def jText (s:List UInt8):JV:=.mk 4 0 s [] []
def jArr (l:List JV):JV:=.mk 5 0 [] l []
def isB:Option JV→Option Bool | some v=>if v.kind=2 then some (decide (v.num=1)) else none | none=>none
def getJ (v:JV) (key:List UInt8):Option JV:=if v.kind=6 then (match v.keys.idxOf? key with | some i=>v.kids[i]? | none=>none) else none
def kindT (k:Int):List UInt8 :=
 if k=1 then [110,117,108,108] else if k=2 then [98,111,111,108] else if k=3 then [105,110,116] else if k=4 then [116,101,120,116] else if k=5 then [108,105,115,116] else [111,98,106,101,99,116]
def ptsN:Nat→List UInt8→Nat
 | _,[]=>0
 | 0,_::_=>0
 | f+1,c::r=>ptsN f ((c::r).drop (max 1 (cpBegin (c::r)).2))+1
def ptsJ (l:List UInt8):Nat:=ptsN l.length l
def sizeJ (v:JV):Option JV:=if v.kind=4 then some (jNum (ptsJ v.txt)) else if 5≤v.kind then some (jNum v.kids.length) else none
def numR (n:Int):Option JV:=if -9223372036854775808≤n∧n≤9223372036854775807 then some (jNum n) else none
def numO (k a b:Int):Option JV:=numR (if k=8 then a*b else if k=9 then a+b else a-b)
def ordO (k c:Int):JV:=jBool (if k=11 then decide (c=0) else if k=12 then decide (c<0) else decide (c≤0))
def allS:List (Option JV)→Option (List JV)
 | []=>some []
 | none::_=>none
 | some v::r=>match allS r with | none=>none | some l=>some (v::l)
def combJ (env:List (List UInt8 × JV)) (k:Int) (v:JV) (s:List UInt8) (l:List (Option JV)):Option JV :=
 if k=1 then some v
 else if k=2 then lookJ env s
 else if k=4 then (match allS l with | some xs=>if good (jArr xs)=true then some (jArr xs) else none | none=>none)
 else match l.headD none with
  | none=>none
  | some a =>
   if k=3 then getJ a s
   else if k=5 then (isB (some a)).map fun b=>jBool (!b)
   else if k=6 then sizeJ a
   else if k=7 then some (jText (kindT a.kind))
   else if k=14∨k=15 then (match isB (some a) with
    | none=>none
    | some t=>if t=decide (k=15) then some (jBool t) else (isB (l.tail.headD none)).map jBool)
   else match l.tail.headD none with
    | none=>none
    | some b=>if 11≤k then some (ordO k (cmpJ a b)) else if a.kind=3∧b.kind=3 then numO k a.num b.num else none
mutual
/-- what an expression is -/
def evE (env:List (List UInt8 × JV)):EJ→Option JV | .mk k v s kids=>combJ env k v s (evL env kids)
def evL (env:List (List UInt8 × JV)):List EJ→List (Option JV) | []=>[] | x::r=>evE env x::evL env r
end
theorem evL_map (env:List (List UInt8 × JV)):∀ l:List EJ,evL env l=l.map (evE env)
 | []=>rfl
 | x::r=>by unfold evL;rw [evL_map env r,List.map_cons]
def codeT (s:List UInt8):List UInt8:=5::((s.flatMap fun c=>if c=0 then [0,255] else [c])++[0,0])
def codeN (n:Int):List UInt8 :=
 let m:=(n+9223372036854775808).toNat
 4::[56,48,40,32,24,16,8,0].map fun by_=>UInt8.ofNat (m / 2 ^ by_)
mutual
/-- a value's code -/
def codeJ:JV→List UInt8
 | .mk k n s kids keys =>
  if k=1 then [1] else if k=2 then [if n=1 then 3 else 2] else if k=3 then codeN n else if k=4 then codeT s
  else if k=6 then 7::(codeL true kids keys++[0]) else 6::(codeL false kids keys++[0])
def codeL:Bool→List JV→List (List UInt8)→List UInt8
 | _,[],_=>[]
 | o,x::r,ks=>(if o=true then codeT (ks.headD []) else [])++(codeJ x++codeL o r ks.tail)
end
abbrev MSt:=Nat × List (JV × JV)
def emitS (st:MSt) (k v:Option JV):MSt :=
 match k,v with
 | some a,some b=>if st.2.length<4∧(codeJ a).length≤90∧(canJ b).length≤100 then (st.1,st.2++[(a,b)]) else st
 | _,_=>st
mutual
/-- statements gone through -/
def goS (env:List (List UInt8 × JV)) (st:MSt):SJ→MSt
 | .mk k s a b body els =>
  if k=1 then emitS st (evE env a) (evE env b)
  else if k=2 then (match isB (evE env a) with | some true=>goL env st body | some false=>goL env st els | none=>st)
  else match evE env a with
   | some v=>if 5≤v.kind then v.kids.foldl (fun st x=>if st.1<256 then goL (env++[(s,x)]) (st.1+1,st.2) body else st) st else st
   | none=>st
def goL (env:List (List UInt8 × JV)) (st:MSt):List SJ→MSt
 | []=>st
 | x::r=>goL env (goS env st x) r
end
set_option linter.unusedVariables false
set_option linter.unusedSimpArgs false
theorem bulk_arith0 {D C a b p q z:Nat} (h1:a+D≤C*p) (h2:b+D*z≤C*q):a+b+D*(z+1)≤C*(p+q):=by
 have h:=Nat.add_le_add h1 h2;have e:C*(p+q)=C*p+C*q:=Nat.mul_add _ _ _;have e2:D*(z+1)=D*z+D:=Nat.mul_succ _ _;omega
theorem bulk_arith {a b p q z:Nat} (h1:a+4194305≤8388610*p) (h2:b+4194305*z≤8388610*q):a+b+4194305*(z+1)≤8388610*(p+q):=bulk_arith0 h1 h2
theorem bulkK_keys:∀ (ks:List (List UInt8)),(∀ t ∈ ks,t.length≤4194304)→bulkK ks≤4194305*ks.length
 | [],_=>by simp [bulkK]
 | k::r,h=>by
  have h1:=h k List.mem_cons_self;have h2:=bulkK_keys r (fun t ht=>h t (List.mem_cons_of_mem _ ht));have e1:bulkK (k::r)=k.length+1+bulkK r:=by rw [bulkK]
  have e3:(k::r).length=r.length+1:=rfl;omega
mutual
theorem bulk_nodes:∀ (v:JV) (d:Nat),goodJ d v=true→lenJ v→bulkJ v+4194305≤8388610*nodesJ v
 | .mk k n s kids keys,d,hg,hl=>by
  obtain ⟨h1,_,h3⟩:=goodJ_out hg;obtain ⟨hk1,hk2⟩:=keyed h1;unfold lenJ at hl;have hb:=bulkK_keys keys hl.2.2.2.1;have hL:=bulkL_nodes kids (d-1) h3 hl.2.2.2.2;have hle:keys.length≤kids.length:=by
   by_cases h6:k=6
   ·rw [hk1 h6];exact Nat.le_refl _
   ·rw [hk2 h6];exact Nat.zero_le _
  have:4194305*keys.length≤4194305*kids.length:=Nat.mul_le_mul_left _ hle;unfold bulkJ nodesJ;omega
theorem bulkL_nodes:∀ (xs:List JV) (d:Nat),goodL d xs=true→lenL xs→bulkL xs+4194305*xs.length≤8388610*nodesL xs
 | [],d,_,_=>by simp [bulkL,nodesL]
 | x::r,d,hg,hl=>by
  unfold goodL at hg;rw [Bool.and_eq_true] at hg;unfold lenL at hl;have h1:=bulk_nodes x d hg.1 hl.1;have h2:=bulkL_nodes r d hg.2 hl.2;have e1:bulkL (x::r)=bulkJ x+bulkL r:=by rw [bulkL]
  have e2:nodesL (x::r)=nodesJ x+nodesL r:=by rw [nodesL]
  rw [List.length_cons];simp only [e1,e2];exact bulk_arith h1 h2
end
end Go.Proofs.YtgolomgmnanbpaaGreatDoor
namespace Go.Proofs.YtgolomgmnanbpaaGreatDoor
set_option linter.unusedVariables false
set_option linter.unusedSimpArgs false
open Go.RowKit
attribute [local go_sem] run_index_arr run_part_agg run_part_one run_field_agg
theorem qSize_any (s:List UInt8) (w:World) (hG:GOK w) (ht:txtOk s=true) (hl:s.length≤4194304):Calls Tryz.prog 152 #[.string ⟨s.toArray⟩] w fun e w'=>e=.returned (.int .i64 (quoT s).length)∧Below w.heap.size w w':=by
 have HP:=aW (qPrint_any s w hG ht hl);obtain ⟨q,hq⟩:∃ q,quoT s=q:=⟨_,rfl⟩
 unfold QuoPost at HP;rw [hq] at HP ⊢;clear hG ht hl hq;go_enter Tryz.func152,Tryz.ntmps152;go_wp2_with fail;refine HP.out.mono ?_;rintro e w1 ⟨rfl,hb⟩;go_wp2;go_ret;refine ⟨?_,hb⟩;simp [ByteArray.size]
def WS (B g:Nat) (l:List UInt8) (w0 w:World):Prop:=WIs B g l w∧GOK w∧Below B w0 w∧OthW g w0 w∧2<B∧B≤w.heap.size
section
variable {B g:Nat} {l m:List UInt8} {w0 w w':World}
theorem OthW.of_bel (h:Below w.heap.size w w'):OthW g w w':=fun k o hk _ _=>(h.block k (Array.getElem?_eq_some_iff.1 hk).1).trans hk
theorem OthW.blk (h:OthW g w w') {k:Nat} {t:TypeId} {cs:Array Value} (hk:Blk w k t cs) (ht:t≠5) (hg:k≠g):Blk w' k t cs :=
 h k _ hk (fun e=>hg (Option.some.inj e)) (fun c fz e=>ht (by injection e))
theorem WAt.bel {p:Value} (h:WAt B g p l w) (hb:Below w.heap.size w w'):WAt B g p l w':=by
 obtain ⟨h1,v,h2,h3,h4⟩:=h;exact ⟨h1,v,(hb.block g (Array.getElem?_eq_some_iff.1 h2).1).trans h2,ownBel h3 hb,h4⟩
theorem WIs.bel (h:WIs B g l w) (hb:Below w.heap.size w w'):WIs B g l w':=h.elim (fun x=>.inl (WAt.bel x hb)) (fun x=>.inr (WAt.bel x hb))
theorem WIs.ne (h:WIs B g l w) {k:Nat} {t:TypeId} {cs:Array Value} (hk:Blk w k t cs) (ht:t≠119):k≠g:=by
 rintro rfl;obtain ⟨p,_,v,h2,_⟩:=h.some_;unfold Blk at hk;rw [hk] at h2;injection h2 with h2
 injection h2 with _ h2
 exact ht h2
theorem WS.bel (h:WS B g l w0 w) (hb:Below w.heap.size w w'):WS B g l w0 w':=by
 obtain ⟨h1,h2,h3,h4,h5,h6⟩:=h;exact ⟨h1.bel hb,h2.keep hb,h3.trans (hb.mono h6),h4.trans (OthW.of_bel hb),h5,Nat.le_trans h6 hb.size⟩
theorem WS.alloc (h:WS B g l w0 w) (o:Obj):WS B g l w0 (w.alloc o):=h.bel ((Below.refl _ w).alloc (Nat.le_refl _) o)
theorem WS.drew (h:WS B g l w0 w):WS B g l w0 w.drew:=h.bel (Below.refl _ w).drew
theorem WS.drewN (h:WS B g l w0 w) (n:Nat):WS B g l w0 (w.drewN n):=h.bel (bel_drewN (Below.refl _ w) n)
theorem WS.step {r:Ending} {e:Ending} (h:WS B g l w0 w) (hp:WPost B g m r w e w'):WS B g m w0 w':=by
 obtain ⟨h1,h2,h3,h4,h5,h6⟩:=h;obtain ⟨_,k1,k2,k3⟩:=hp;exact ⟨k1,h2.below k2 h5,h3.trans k2,h4.trans k3,h5,Nat.le_trans h6 k2.size⟩
theorem WS.post (h:WS B g l w0 w) {r:Ending}:WPost B g l r w0 r w:=⟨rfl,h.1,h.2.2.1,h.2.2.2.1⟩
theorem WS.blk (h:WS B g l w0 w) (h0:WIs B g m w0) {k:Nat} {t:TypeId} {cs:Array Value} (hk:Blk w0 k t cs) (ht:t≠5) (ht':t≠119):Blk w k t cs :=
 h.2.2.2.1.blk hk ht (h0.ne hk ht')
end
end Go.Proofs.YtgolomgmnanbpaaGreatDoor
namespace Go.Proofs.YtgolomgmnanbpaaGreatDoor
set_option linter.unusedVariables false
set_option linter.unusedSimpArgs false
open Go.RowKit
attribute [local go_sem] run_index_arr run_part_agg run_part_one run_field_agg
structure Bxs (w:World) (g bw bv:Nat) (k n:Int) (s:ByteArray) (A:Option Addr) (nk ca:Nat) (A':Option Addr) (ny cb:Nat):Prop where
 pw:Blk w bw 140 #[.pointer (some ⟨g,0,none⟩)]
 pv:Blk w bv 25 #[.int .i64 k,.int .i64 n,.string s,.slice A nk ca,.slice A' ny cb]
section
variable {B g bw bv:Nat} {l m:List UInt8} {w0 w:World} {k n:Int} {s:ByteArray} {A A':Option Addr} {nk ca ny cb:Nat}
theorem Bxs.keep {w':World} (h:Bxs w g bw bv k n s A nk ca A' ny cb) (hw:WIs B g l w) (ho:OthW g w w'):Bxs w' g bw bv k n s A nk ca A' ny cb :=
 ⟨ho.blk h.pw (by decide) (hw.ne h.pw (by decide)),ho.blk h.pv (by decide) (hw.ne h.pv (by decide))⟩
theorem Bxs.drew (h:Bxs w g bw bv k n s A nk ca A' ny cb):Bxs w.drew g bw bv k n s A nk ca A' ny cb:=⟨h.pw.drew,h.pv.drew⟩
theorem Bxs.bel {w':World} (h:Bxs w g bw bv k n s A nk ca A' ny cb) (hb:Below w.heap.size w w'):Bxs w' g bw bv k n s A nk ca A' ny cb:=⟨h.pw.keep hb,h.pv.keep hb⟩
end
end Go.Proofs.YtgolomgmnanbpaaGreatDoor
namespace Go.Proofs.YtgolomgmnanbpaaGreatDoor
set_option linter.unusedVariables false
set_option linter.unusedSimpArgs false
open Go.RowKit
attribute [local go_sem] run_index_arr run_part_agg run_part_one run_field_agg
def wordRow:List UInt8:=[101,109,105,116,32,105,102,32,101,108,115,101,32,102,111,114,32,105,110,32,111,114,32,97,110,100,32,110,111,116,32,115,105,122,101,32,107,105,110,100,32,116,114,117,101,32,102,97,108,115,101,32,110,117,108,108]
theorem wordRow_split:splitB wordRow []=wordsL:=by decide
def letterRow:List UInt8:=[97,98,99,100,101,102,103,104,105,106,107,108,109,110,111,112,113,114,115,116,117,118,119,120,121,122]
def digitRow:List UInt8:=[48,49,50,51,52,53,54,55,56,57]
theorem u8_all {p:UInt8→Bool} (h:(List.range 256).all (fun n=>p (UInt8.ofNat n))=true) (c:UInt8):p c=true:=by
 have:=List.all_eq_true.1 h c.toNat (List.mem_range.2 c.toNat_lt);simpa using this
theorem letterRow_is (c:UInt8):letterRow.contains c=isLetter c:=by
 have:=u8_all (p:=fun c=>letterRow.contains c == isLetter c) (by decide +kernel) c;simpa using this
theorem digitRow_is (c:UInt8):digitRow.contains c=isDig c:=by
 have:=u8_all (p:=fun c=>digitRow.contains c == isDig c) (by decide +kernel) c;simpa using this
theorem rLetter_any (c:UInt8) (w:World):Calls Tryz.prog 87 #[.int .u8 c.toNat,.string ⟨#[97,98,99,100,101,102,103,104,105,106,107,108,109,110,111,112,113,114,115,116,117,118,119,120,121,122]⟩] w fun e w'=>e=.returned (.bool (isLetter c))∧w=w':=by
 have:=rOne_any c ⟨letterRow.toArray⟩ w (by decide);rw [sl_mk,letterRow_is] at this;exact this
theorem rDigit_any (c:UInt8) (w:World):Calls Tryz.prog 87 #[.int .u8 c.toNat,.string ⟨#[48,49,50,51,52,53,54,55,56,57]⟩] w fun e w'=>e=.returned (.bool (isDig c))∧w=w':=by
 have:=rOne_any c ⟨digitRow.toArray⟩ w (by decide);rw [sl_mk,digitRow_is] at this;exact this
theorem rWord_any (s:ByteArray) (w:World):Calls Tryz.prog 86 #[.string s] w fun e w'=>e=.returned (.bool (isWord (sl s)))∧w=w':=by
 have h:=rAmong_any s ⟨wordRow.toArray⟩ w (by decide);rw [sl_mk,wordRow_split] at h;have H:=aW (show Calls Tryz.prog 135 #[.string s,.string ⟨wordRow.toArray⟩] w fun e w'=>e=.returned (.bool (isWord (sl s)))∧w=w' from h);clear h;obtain ⟨b,hb⟩:∃ b,isWord (sl s)=b:=⟨_,rfl⟩
 rw [hb] at H ⊢;clear hb;unfold wordRow at H;go_enter Tryz.func86,Tryz.ntmps86;go_wp2_with fail;refine H.out.mono ?_;rintro e w1 ⟨rfl,rfl⟩;go_wp2_with fail;go_ret;exact ⟨rfl,rfl⟩
theorem rName_any (s:ByteArray) (w:World):Calls Tryz.prog 44 #[.string s] w fun e w'=>e=.returned (.bool (isName s))∧w=w':=by
 have HW:=aW (rWord_any s);have HL:=aW rLetter_any;have HD:=aW rDigit_any;by_cases h1:s.size<1
 ·have HN:=aW (show isName s=false by rw [isName,decide_eq_false (show ¬ (1≤s.size∧s.size≤12) by omega)];simp);go_enter Tryz.func44,Tryz.ntmps44;go_wp2;go_ret;exact ⟨ret_bool HN.out.symm,rfl⟩
 ·by_cases h2:12<s.size
  ·have HN:=aW (show isName s=false by rw [isName,decide_eq_false (show ¬ (1≤s.size∧s.size≤12) by omega)];simp);go_enter Tryz.func44,Tryz.ntmps44;go_wp2;go_ret;exact ⟨ret_bool HN.out.symm,rfl⟩
  ·cases hw:isWord (sl s) with
   | true =>
    have HN:=aW (show isName s=false by rw [isName,hw];simp);rw [hw] at HW;clear hw;go_enter Tryz.func44,Tryz.ntmps44;go_wp2_with (go_at_call 86;refine (HW.out _).mono ?_;rintro e w1 ⟨rfl,rfl⟩);go_ret;exact ⟨ret_bool HN.out.symm,rfl⟩
   | false =>
    have hN0:isName s=nameFrom 0 (sl s):=by rw [isName,hw,decide_eq_true (show 1≤s.size∧s.size≤12 by omega)];simp
    rw [hw] at HW;have h0:0<s.size:=by omega
    have hd0:sl s=s[0]::(sl s).drop 1:=by
     have:=List.drop_eq_getElem_cons (l:=sl s) (i:=0) (by rw [sl_len];exact h0);rw [List.drop_zero] at this;exact this
    obtain ⟨c,hc⟩:∃ c,s[0]=c:=⟨_,rfl⟩
    rw [hc] at hd0;cases hl:isLetter c with
    | false =>
     have HN:=aW (show isName s=false by rw [hN0,hd0,nameFrom,hl];simp);have HC:=aW (HL.out c);rw [hl] at HC;clear hw hN0 hd0 hl HL;go_enter Tryz.func44,Tryz.ntmps44;go_wp2_with (first | (go_at_call 86;refine (HW.out _).mono ?_;rintro e w1 ⟨rfl,rfl⟩) | (go_at_call 87;refine (HC.out _).mono ?_;rintro e w1 ⟨rfl,rfl⟩));go_ret;exact ⟨ret_bool HN.out.symm,rfl⟩
    | true =>
     have hN1:isName s=nameFrom 1 ((sl s).drop 1):=by rw [hN0,hd0,nameFrom,hl];simp
     obtain ⟨b,hb⟩:∃ b,isName s=b:=⟨_,rfl⟩
     rw [hb] at hN1 ⊢;have HN1:=aW hN1;have HC:=aW (HL.out c);rw [hl] at HC;have hs12:s.size≤12:=by omega
     clear hw hN0 hd0 hl hN1 hb h1 h2;go_enter Tryz.func44,Tryz.ntmps44;go_wp2_with (first | (go_at_call 86;refine (HW.out _).mono ?_;rintro e w1 ⟨rfl,rfl⟩) | (go_at_call 87;refine (HC.out _).mono ?_;rintro e w1 ⟨rfl,rfl⟩));clear hc;go_loopw [3] (fun i wr => ∃ k:Nat,k≤s.size∧1≤k∧i=.int .i64 k∧wr=w∧Hid (b=nameFrom k ((sl s).drop k))) (fun i _=>s.size-(intOf i).toNat)
     case atStart=>exact ⟨1,by omega,by omega,rfl,rfl,HN1⟩
     case round =>
      obtain ⟨k,hk,hk1,rfl,rfl,hrb⟩:=hrel;by_cases hlt:k<s.size
      ·have hd:(sl s).drop k=s[k]::(sl s).drop (k+1):=List.drop_eq_getElem_cons (by rw [sl_len];exact hlt);obtain ⟨x,hx⟩:∃ x,s[k]=x:=⟨_,rfl⟩
       rw [hx] at hd;cases hxl:isLetter x with
       | true =>
        have HX:=aW (HL.out x);rw [hxl] at HX;have HR:=aW (show b=nameFrom (k+1) ((sl s).drop (k+1)) by rw [hrb.out,hd,nameFrom,hxl];simp);clear hd hxl hrb;go_wp2_with (go_at_call 87;refine (HX.out _).mono ?_;rintro e w1 ⟨rfl,rfl⟩);go_roundw
        case rel=>exact ⟨k+1,hlt,by omega,by go_num,by trivial,HR⟩
        case measure=>simp [intOf];omega
       | false =>
        have HX:=aW (HL.out x);rw [hxl] at HX;cases hxd:isDig x with
        | true =>
         have HY:=aW (HD.out x);rw [hxd] at HY;have HR:=aW (show b=nameFrom (k+1) ((sl s).drop (k+1)) by rw [hrb.out,hd,nameFrom,hxl,hxd,decide_eq_true (show 0<k by omega)];simp);clear hd hxl hrb hxd;go_wp2_with fail;refine (HX.out _).mono ?_;rintro e w1 ⟨rfl,rfl⟩;go_wp2_with fail;refine (HY.out _).mono ?_;rintro e w1 ⟨rfl,rfl⟩;go_wp2_with fail;go_roundw
         case rel=>exact ⟨k+1,hlt,by omega,by go_num,by trivial,HR⟩
         case measure=>simp [intOf];omega
        | false =>
         have HY:=aW (HD.out x);rw [hxd] at HY;have HR:=aW (show b=false by rw [hrb.out,hd,nameFrom,hxl,hxd];simp);clear hd hxl hrb hxd;go_wp2_with fail;refine (HX.out _).mono ?_;rintro e w1 ⟨rfl,rfl⟩;go_wp2_with fail;refine (HY.out _).mono ?_;rintro e w1 ⟨rfl,rfl⟩;go_wp2_with fail;go_ret;exact ⟨ret_bool HR.out.symm,rfl⟩
      ·obtain rfl:k=s.size:=by omega
       have HR:=aW (show b=true by rw [hrb.out,List.drop_eq_nil_of_le (by rw [sl_len];exact Nat.le_refl _),nameFrom]);clear hrb;go_wp2;go_ret;exact ⟨ret_bool HR.out.symm,rfl⟩
end Go.Proofs.YtgolomgmnanbpaaGreatDoor
