import Derived.Test.YtgmnmnnoahdjnaaGreatDoorRows
import Derived.Deep.Strs
import Derived.Test.YtgmnmnnoahdjnaaGreatDoorB23
import Derived.Test.YtgmnmnnoahdjnaaGreatDoorB22
set_option maxRecDepth 100000
set_option maxHeartbeats 16000000
set_option linter.unusedVariables false
set_option linter.unusedSimpArgs false
namespace Go.Proofs.YtgmnmnnoahdjnaaGreatDoor
section
open Go.RowKit Go.Deep Go.ChangeShapes Go.WideShapes
section
variable {H:Type} {enc:TypeId × Value→H} {W:World}
theorem rB (a:Addr):∀ (elems:List (DataW H × List MemPlace)) (a0:Nat),(∀ i,i<elems.length→∃ c v y,elems[i]? = some y∧W.cells? 0 (a.add ((a0+i)*5)) 5=some c∧VR W TT c v∧inJ v∧cZ v≤Rows.uptoBulk y.1) →
  ∃ css kids,VRs W TT css kids∧kids.length=elems.length∧(∀ i c,css[i]? = some c→W.cells? 0 (a.add ((a0+i)*5)) 5=some c)∧inL kids∧eF kids≤Rows.uptoBulkAll (elems.map (·.1))
 | [],_,_=>⟨[],[],VRs.nil,rfl,fun i c h=>by simp at h,trivial,Nat.zero_le _⟩
 |y::r,a0,h=>by
  obtain ⟨c,v,y',e,h1,h2,h3,h4⟩:=h 0 (by simp);obtain rfl:y=y':=by simpa using e
  obtain ⟨css,kids,k1,k2,k3,k4,k5⟩:=rB a r (a0+1) (fun i hi=>by
   obtain ⟨c,v,y',e,h1,h2,h3,h4⟩:=h (i+1) (by simp;omega);exact ⟨c,v,y',by simpa using e,by rw [show a0+1+i=a0+(i+1) by omega];exact h1,h2,h3,h4⟩)
  refine ⟨c::css,v::kids,⟨by simp [k1.1],fun i c' x' e1 e2=>?_⟩,by simp [k2],fun i c' e1=>?_,?_,?_⟩
  ·cases i with
   |zero =>
    obtain rfl:c=c':=by simpa using e1
    obtain rfl:v=x':=by simpa using e2
    exact h2
   | succ i=>exact k1.2 i c' x' (by simpa using e1) (by simpa using e2)
  ·cases i with
   |zero =>
    obtain rfl:c=c':=by simpa using e1
    exact h1
   | succ i=>have:=k3 i c' (by simpa using e1);rwa [show a0+1+i=a0+(i+1) by omega] at this
  ·unfold inL;exact ⟨h3,k4⟩
  ·unfold eF;rw [List.map_cons];unfold Rows.uptoBulkAll;omega
theorem xT (a:Addr) {css:List (List Value)} {kids:List JV} (h:VRs W TT css kids) (hc:∀ i c,css[i]? = some c→W.cells? 0 (a.add (i*5)) 5=some c):RdF W TT (some a) css.flatten:=by
 intro hne;have hpos:0<css.length:=by
  rcases css with _ | ⟨c,r⟩
  ·exact absurd rfl hne
  ·simp
 obtain ⟨b,o,spot⟩:=a;have h5:=h.five;have h0:=World.cells?_some (hc 0 _ (List.getElem?_eq_getElem hpos));have q0:=h0.2.2 0 (by decide);rw [List.getElem?_eq_getElem (by omega)] at q0;have hspot:spot=none:=by simpa [Addr.add] using World.cell?_spot q0
 subst hspot;have hcell:∀ i (hi:i<css.flatten.length),W.cell? ⟨b,o+i,none⟩=some css.flatten[i]:=by
  intro i hi;rw [iu h5] at hi;have hq:i / 5<css.length:=by omega
  have hx:=World.cells?_some (hc (i / 5) _ (List.getElem?_eq_getElem hq));have hy:=hx.2.2 (i % 5) (by omega);rw [add_plain,add_plain,← jT h5 (List.getElem?_eq_getElem hq) (by omega)] at hy;rw [show o+i=o+i / 5*5+i % 5 by omega,hy,show i / 5*5+i % 5=i by omega,List.getElem?_eq_getElem]
 refine ⟨b,o,rfl,?_,trivial,hcell⟩;have hl:0<css.flatten.length:=by rw [iu h5];omega
 have hz:=hcell 0 hl;rcases Nat.lt_or_ge b W.heap.size with hlt | hge
 ·exact hlt
 ·unfold World.cell? at hz;simp [Array.getElem?_eq_none hge] at hz
theorem rz (f:Nat→ByteArray):∀ l:List Nat,fm (l.map fun i=>(f i).data.toList)≤Rows.uptoBulkAll (H:=H) (l.map fun i=>.lit (.string (f i).data.toList))
 | []=>Nat.zero_le _
 |i::r=>by
  have:=rz f r;rw [List.map_cons,List.map_cons];unfold fm Rows.uptoBulkAll Rows.uptoBulk;omega
theorem rY {n:Int} (h:(Lit.int .i64 n).wf=true):iw n:=by
 have h:(decide (IntKind.i64.min≤n) && decide (n≤IntKind.i64.max))=true:=h;rw [Bool.and_eq_true,decide_eq_true_eq,decide_eq_true_eq] at h;have e1:IntKind.i64.min = -9223372036854775808:=by decide
 have e2:IntKind.i64.max=9223372036854775807:=by decide
 unfold iw;omega
theorem qR:∀ (fuel:Nat) (cs:List Value) (x:DataW H × List MemPlace),DataW.trod enc Tryz.prog W 0 (fun _=>true) true fuel 42 cs=some x→∃ v,VR W TT cs v∧inJ v∧cZ v≤Rows.uptoBulk x.1:=by
 intro fuel
 induction fuel using Nat.strongRecOn with
 |ind fuel ih =>
  intro cs x h;obtain ⟨xs,n,rfl,rfl,hlen,hxl,hf⟩:=DataW.trod_struct Tryz.underlying42 h;have ci:Tryz.prog.cellsOf 3=1:=by kernel_rfl
  have cl:Tryz.prog.cellsOf 2=1:=by kernel_rfl
  have ct:Tryz.prog.cellsOf 9=1:=by kernel_rfl
  have ck:Tryz.prog.cellsOf 39=1:=by kernel_rfl
  have cy:Tryz.prog.cellsOf 40=1:=by kernel_rfl
  have cv:Tryz.prog.cellsOf 42=5:=by kernel_rfl
  rw [cv] at hlen;have f0:=hf 0 _ rfl;have f1:=hf 1 _ rfl;have f2:=hf 2 _ rfl;have f3:=hf 3 _ rfl;have f4:=hf 4 _ rfl;clear hf
  match xs,hxl,cs,hlen with
  |[y0,y1,y2,y3,y4],_,[c0,c1,c2,c3,c4],_ =>
   simp [ci,cl,ct,ck,cy] at f0 f1 f2 f3 f4;obtain ⟨k,e0,rfl,w0⟩:=DataW.trod_int Tryz.underlying3 f0;obtain ⟨m,e1,rfl,w1⟩:=DataW.trod_int Tryz.underlying2 f1;obtain ⟨s,e2,rfl,w2⟩:=DataW.trod_string Tryz.underlying9 f2;obtain rfl:c0=.int .i64 k:=by simpa using e0
   obtain rfl:c1=.int .i64 m:=by simpa using e1
   obtain rfl:c2=.string s:=by simpa using e2
   obtain ⟨A,ca,css,kids,rfl,hk1,hk2,hk3,hk4,hk5,hk6⟩:∃ A ca css kids,c3=.slice A kids.length ca∧VRs W TT css kids∧kids.length≤ca∧(A=none→ca=0)∧RdF W TT A css.flatten∧inL kids∧eF kids≤Rows.uptoBulk y3.1:=by
    rcases DataW.trod_slice Tryz.underlying39 f3 with ⟨e3,rfl⟩ | ⟨a,len,cap,elems,rest,n',hn,e3,rfl,hb,hl,hm,hel,hk,_,_⟩
    ·exact ⟨none,0,[],[],by simpa using e3,VRs.nil,Nat.le_refl _,fun _=>rfl,RdF.nil,trivial,Nat.zero_le _⟩
    ·rw [cv] at hk;obtain ⟨css,kids,k1,k2,k3,k4,k5⟩:=rB (W:=W) a elems 0 (fun i hi=>by
      have hq:=hk i (by omega);rw [List.getElem?_eq_getElem hi] at hq;obtain ⟨c,q1,q2⟩:=Option.bind_eq_some_iff.1 hq;obtain ⟨v,q3,q4,q5⟩:=ih n' (by omega) c _ q2;exact ⟨c,v,_,List.getElem?_eq_getElem hi,by rw [Nat.zero_add];exact q1,q3,q4,q5⟩)
     refine ⟨some a,cap,css,kids,?_,k1,by omega,fun e=>by simp at e,xT a k1 (fun i c e=>by have:=k3 i c e;rwa [Nat.zero_add] at this),k4,?_⟩
     ·rw [k2,hel];simpa using e3
     ·show _≤Rows.uptoBulk (.slice _ _);unfold Rows.uptoBulk;omega
   obtain ⟨B,cb,keys,rfl,hy1,hy2,hy3,hy4⟩:∃ B cb keys,c4=.slice B keys.length cb∧keys.length≤cb∧(B=none→cb=0)∧RdF W TT B (jh keys)∧fm keys≤Rows.uptoBulk y4.1:=by
    rcases open_strs Tryz.underlying40 Tryz.underlying9 ct f4 with ⟨e4,rfl⟩ | ⟨a,len,cap,q,Sx,e4,hb,hl,hm,hq,rfl,hx⟩
    ·exact ⟨none,0,[],by simpa using e4,Nat.le_refl _,fun _=>rfl,RdF.nil,Nat.zero_le _⟩
    ·simp at hq;subst hq;refine ⟨some a,q,(List.range len).map fun i=>(Sx i).data.toList,by simpa using e4,by simpa using hl,fun e=>by simp at e,fun hne=>?_,?_⟩
     ·have hpos:0<len:=by
       rcases len with _ | len
       ·exact absurd rfl hne
       ·omega
      obtain ⟨b,o,spot⟩:=a;have q0:=(hx 0 (by omega)).1;have hspot:spot=none:=by simpa [Addr.add] using World.cell?_spot q0
      subst hspot;refine ⟨b,o,rfl,?_,trivial,fun i hi=>?_⟩
      ·rcases Nat.lt_or_ge b W.heap.size with hlt | hge
       ·exact hlt
       ·rw [add_plain] at q0;unfold World.cell? at q0;simp [Array.getElem?_eq_none hge] at q0
      ·have hi':i<len:=by rw [gc] at hi;simpa using hi
       have:=(hx i (by omega)).1;rw [add_plain] at this;rw [this];simp [jh]
     ·have:=rz (H:=H) Sx (List.range len);show _≤Rows.uptoBulk (.slice _ _);unfold Rows.uptoBulk;omega
   obtain ⟨ss,rfl⟩:∃ ss:List UInt8,s=⟨ss.toArray⟩:=⟨s.data.toList,by simp⟩
   refine ⟨.mk k m ss kids keys,VR.into k m ss hk1 hk2 hy1 hk3 hy2 hk4 hy3 rfl rfl,?_,?_⟩
   ·unfold inJ;exact ⟨rY w0,rY w1,hk5⟩
   ·unfold cZ;simp only [List.map_cons,List.map_nil];unfold Rows.uptoBulk Rows.uptoBulkAll Rows.uptoBulkAll Rows.uptoBulkAll Rows.uptoBulkAll Rows.uptoBulkAll Rows.uptoBulkAll;have:Rows.uptoBulk (H:=H) (.lit (.string ss))=ss.length+1:=by unfold Rows.uptoBulk;rfl
    have e2:(Lit.string (ByteArray.mk ss.toArray).data.toList)=.string ss:=by simp
    rw [e2,this];omega
end
end
section
open Go.RowKit
def FN (F:Nat→Prop) (w:World) (b:Nat):Prop:=F b∨w.heap.size≤b
theorem Blk.farC {g b:Nat} {t:TypeId} {cs:Array Value} (hb:g≠b):∀ (l:List Value) (o:Nat) {w:World},Blk w g t cs→Blk (w.setCells b o l) g t cs
 | [],_,_,h=>h
 | v::r,o,w,h=>Blk.farC hb r (o+1) (h.far hb v)
theorem kS {B:Nat} {a:World} {b:Nat} (hb:B≤b):∀ (l:List Value) (o:Nat) {w:World},Below B a w→Below B a (w.setCells b o l)
 | [],_,_,h=>h
 | v::r,o,w,h=>kS hb r (o+1) (h.setCell (p:=⟨b,o,none⟩) hb v)
theorem ah.setC {F:Nat→Prop} {a:World} {b:Nat} (hb:∀ k,F k→k≠b):∀ (l:List Value) (o:Nat) {w:World},ah F a w→ah F a (w.setCells b o l)
 | [],_,_,h=>h
 | v::r,o,w,h=>ah.setC hb r (o+1) (h.set hb o v)
theorem Blk.there {w:World} {g:Nat} {t:TypeId} {cs:Array Value} (h:Blk w g t cs):World.there w g 0 cs.size :=
 fun j hj=>⟨by rw [Nat.zero_add,h.cell];simp [hj],h.frozen _⟩
def FO (G:Nat→Prop) (row:Value) (b:Nat):Prop:=G b∧some b≠row.ownBlock
theorem aL.grown {L:List (Nat × TypeId × Array Value)} {w0 W W':World} {r:Option Nat} (h:aL L w0 W) (hg:W.grownBy W' r) (hr:∀ k,r=some k→w0.heap.size≤k) (hL:∀ x ∈ L,some x.1≠r):aL L w0 W' :=
 ⟨h.1.grown hg h.1.size hr,fun x hx=>(h.2 x hx).grown hg (hL x hx)⟩
theorem cx {w:World} {base:Nat} {e:TypeId} {size n:Nat} {v:Value} {xs:List Value} (h:w.ownsRow base e size v n xs):∃ A cap,v=.slice A n cap∧n≤cap∧(A=none→cap=0)∧RdF w (fun b=>base≤b) A xs:=by
 obtain ⟨A,cap,e1,h1,h2⟩:=Rd.of_own h;refine ⟨A,cap,e1,h1,?_,fun hne=>?_⟩;rotate_left
 ·obtain ⟨b,o,e2,hb,hc⟩:=h2 hne;exact ⟨b,o,e2,hb,(h.lt b (by rw [e1,e2];rfl)).1,hc⟩
 rintro rfl;rcases h.2 with ⟨e2,_⟩ | ⟨g,cap',cur,e2,_⟩
 ·rw [e1] at e2;injection e2
 ·rw [e1] at e2;injection e2 with e2;cases e2
theorem mL {w w2:World} {G:Nat→Prop} {row row2:Value} {css:List (List Value)} {kids:List EJ} (h:ERs w (FO G row) css kids) (hg:w.grownBy w2 row.ownBlock) (ho:row2.ownBlock=row.ownBlock∨row2.ownBlock=some w.heap.size) :
  ERs w2 (FO G row2) css kids:=by
 refine RR.imp h fun c x hc=>?_
 have h1:ER w (fun b=>FO G row b∧b<w.heap.size) c x:=hc.mono fun b hb hF=>⟨hF,hb⟩
 have h2:ER w2 (fun b=>FO G row b∧b<w.heap.size) c x:=h1.keep (ah.of_grown hg fun b hb=>hb.1.2);refine h2.mono fun b _ hF=>⟨hF.1.1,fun e=>?_⟩
 rcases ho with ho | ho
 ·exact hF.1.2 (by rw [e,ho])
 ·rw [ho] at e;have:b=w.heap.size:=by injection e
  omega
theorem iF {w w2:World} {G:Nat→Prop} {row row2:Value} {css:List (List Value)} {kids:List SJ} (h:SRs w (FO G row) css kids) (hg:w.grownBy w2 row.ownBlock) (ho:row2.ownBlock=row.ownBlock∨row2.ownBlock=some w.heap.size) :
  SRs w2 (FO G row2) css kids:=by
 refine RR.imp h fun c x hc=>?_
 have h1:SR w (fun b=>FO G row b∧b<w.heap.size) c x:=hc.mono fun b hb hF=>⟨hF,hb⟩
 have h2:SR w2 (fun b=>FO G row b∧b<w.heap.size) c x:=h1.keep (ah.of_grown hg fun b hb=>hb.1.2);refine h2.mono fun b _ hF=>⟨hF.1.1,fun e=>?_⟩
 rcases ho with ho | ho
 ·exact hF.1.2 (by rw [e,ho])
 ·rw [ho] at e;have:b=w.heap.size:=by injection e
  omega
theorem ei {a:World} {b:Nat}:∀ (l:List Value) (o:Nat) {W:World},a.grownBy W (some b)→a.grownBy (W.setCells b o l) (some b)
 | [],_,_,h=>h
 | v::r,o,W,h=>ei r (o+1) (h.trans ⟨rfl,rfl,rfl,by simp,fun k hk hne=>Below.heap_setCell W ⟨b,o,none⟩ v k (fun e=>hne (by rw [e]))⟩)
theorem Blk.thereAt {w:World} {g:Nat} {t:TypeId} {cs:Array Value} {o n:Nat} (h:Blk w g t cs) (ho:o+n≤cs.size):World.there w g o n :=
 fun j hj=>⟨by rw [h.cell];simp;omega,h.frozen _⟩
theorem Blk.setSA {w:World} {g:Nat} {t:TypeId} {c0 c1 c2 c3 c4 c5 c6 c7 c8 c9 c10 c11 c12 c13 c14 c15 c16 c17 c18 c19:Value} (h:Blk w g t #[c0,c1,c2,c3,c4,c5,c6,c7,c8,c9,c10,c11,c12,c13,c14,c15,c16,c17,c18,c19]) (x0 x1 x2 x3 x4 x5 x6 x7:Value):Blk (w.setCells g 2 [x0,x1,x2,x3,x4,x5,x6,x7]) g t #[c0,c1,x0,x1,x2,x3,x4,x5,x6,x7,c10,c11,c12,c13,c14,c15,c16,c17,c18,c19]:=by
 replace h:=h.set_ 2 x0;simp only [List.setIfInBounds_toArray,List.set_cons_succ,List.set_cons_zero] at h;replace h:=h.set_ 3 x1;simp only [List.setIfInBounds_toArray,List.set_cons_succ,List.set_cons_zero] at h;replace h:=h.set_ 4 x2;simp only [List.setIfInBounds_toArray,List.set_cons_succ,List.set_cons_zero] at h;replace h:=h.set_ 5 x3;simp only [List.setIfInBounds_toArray,List.set_cons_succ,List.set_cons_zero] at h;replace h:=h.set_ 6 x4;simp only [List.setIfInBounds_toArray,List.set_cons_succ,List.set_cons_zero] at h;replace h:=h.set_ 7 x5;simp only [List.setIfInBounds_toArray,List.set_cons_succ,List.set_cons_zero] at h;replace h:=h.set_ 8 x6;simp only [List.setIfInBounds_toArray,List.set_cons_succ,List.set_cons_zero] at h;replace h:=h.set_ 9 x7;simp only [List.setIfInBounds_toArray,List.set_cons_succ,List.set_cons_zero] at h;exact h
theorem Blk.setSB {w:World} {g:Nat} {t:TypeId} {c0 c1 c2 c3 c4 c5 c6 c7 c8 c9 c10 c11 c12 c13 c14 c15 c16 c17 c18 c19:Value} (h:Blk w g t #[c0,c1,c2,c3,c4,c5,c6,c7,c8,c9,c10,c11,c12,c13,c14,c15,c16,c17,c18,c19]) (x0 x1 x2 x3 x4 x5 x6 x7:Value):Blk (w.setCells g 10 [x0,x1,x2,x3,x4,x5,x6,x7]) g t #[c0,c1,c2,c3,c4,c5,c6,c7,c8,c9,x0,x1,x2,x3,x4,x5,x6,x7,c18,c19]:=by
 replace h:=h.set_ 10 x0;simp only [List.setIfInBounds_toArray,List.set_cons_succ,List.set_cons_zero] at h;replace h:=h.set_ 11 x1;simp only [List.setIfInBounds_toArray,List.set_cons_succ,List.set_cons_zero] at h;replace h:=h.set_ 12 x2;simp only [List.setIfInBounds_toArray,List.set_cons_succ,List.set_cons_zero] at h;replace h:=h.set_ 13 x3;simp only [List.setIfInBounds_toArray,List.set_cons_succ,List.set_cons_zero] at h;replace h:=h.set_ 14 x4;simp only [List.setIfInBounds_toArray,List.set_cons_succ,List.set_cons_zero] at h;replace h:=h.set_ 15 x5;simp only [List.setIfInBounds_toArray,List.set_cons_succ,List.set_cons_zero] at h;replace h:=h.set_ 16 x6;simp only [List.setIfInBounds_toArray,List.set_cons_succ,List.set_cons_zero] at h;replace h:=h.set_ 17 x7;simp only [List.setIfInBounds_toArray,List.set_cons_succ,List.set_cons_zero] at h;exact h
def PbM (mb:Nat) (em:Value) (w:World) (b:Nat):Prop:=b<w.heap.size∧b≠mb∧some b≠em.ownBlock
structure MG (mb:Nat) (a:Value) (w:World) (b:Value) (w':World):Prop where
 os:w'.os=w.os
 tape:w'.tape=w.tape
 output:w'.output=w.output
 size:w.heap.size≤w'.heap.size
 block:∀ k,k<w.heap.size→k≠mb→some k≠a.ownBlock→w'.heap[k]? = w.heap[k]?
 own:b.ownBlock=a.ownBlock∨∃ k,b.ownBlock=some k∧w.heap.size≤k
theorem cq {P:Program} {md:Region.Mode} {ops:Array Oper} {Q:Exit→Act→World→Prop} {S:World→Prop} {fuel:Nat} {listed:Array Bool} {a:Act} {w:World} (h:∀ W,W=w→wpAnyH P md ops Q S fuel listed a W):wpAnyH P md ops Q S fuel listed a w:=h w rfl
section
variable {mb:Nat} {a b c:Value} {w w1 w2 W:World}
theorem MG.refl (mb:Nat) (a:Value) (w:World):MG mb a w a w:=⟨rfl,rfl,rfl,Nat.le_refl _,fun _ _ _ _=>rfl,.inl rfl⟩
theorem MG.trans (h:MG mb a w b w1) (k:MG mb b w1 c w2):MG mb a w c w2:=by
 refine ⟨k.os.trans h.os,k.tape.trans h.tape,k.output.trans h.output,Nat.le_trans h.size k.size,fun i hi hm hne=>(k.block i (Nat.lt_of_lt_of_le hi h.size) hm ?_).trans (h.block i hi hm hne),?_⟩
 ·rcases h.own with h2 | ⟨q,h2,h3⟩
  ·rw [h2];exact hne
  ·rw [h2];intro e;injection e with e;omega
 ·rcases k.own with k2 | ⟨q,k2,k3⟩
  ·rcases h.own with h2 | ⟨q',h2,h3⟩
   ·exact .inl (k2.trans h2)
   ·exact .inr ⟨q',k2.trans h2,h3⟩
  ·exact .inr ⟨q,k2,Nat.le_trans h.size k3⟩
theorem MG.bel (h:Below w.heap.size w w1):MG mb a w a w1:=⟨h.os,h.tape,h.output,h.size,fun k hk _ _=>h.block k hk,.inl rfl⟩
theorem MG.set (h:MG mb a w b w1) (i:Nat) (u:Value):MG mb a w b (w1.setCell ⟨mb,i,none⟩ u) :=
 ⟨h.os,h.tape,h.output,by simpa [World.setCell] using h.size,fun k hk hm hne=>(Below.heap_setCell w1 ⟨mb,i,none⟩ u k hm).trans (h.block k hk hm hne),h.own⟩
theorem MG.app (h:w.grownBy w1 a.ownBlock) (ho:b.ownBlock=a.ownBlock∨b.ownBlock=some w.heap.size):MG mb a w b w1 :=
 ⟨h.os,h.tape,h.output,h.size,fun k hk _ hne=>h.block k hk hne,ho.imp id fun e=>⟨_,e,Nat.le_refl _⟩⟩
theorem MG.below {base:Nat} (h:MG mb a w b w1) (hb:base≤w.heap.size) (hm:base≤mb) (ho:∀ k,a.ownBlock=some k→base≤k):Below base w w1 :=
 ⟨h.os,h.tape,h.output,h.size,fun k hk=>h.block k (by omega) (by omega) (fun e=>by have:=ho k e.symm;omega)⟩
theorem MG.pb (h:MG mb a w b w1) {k:Nat} (hk:PbM mb a w k):PbM mb b w1 k:=by
 refine ⟨Nat.lt_of_lt_of_le hk.1 h.size,hk.2.1,?_⟩;rcases h.own with h2 | ⟨q,h2,h3⟩
 ·rw [h2];exact hk.2.2
 ·rw [h2];intro e;injection e with e;have:=hk.1;omega
theorem MG.keepF (h:MG mb a w b w1):ah (PbM mb a w) w w1:=⟨h.size,fun k hf hk=>h.block k hk hf.2.1 hf.2.2⟩
theorem MG.blk (h:MG mb a w b w1) {g:Nat} {t:TypeId} {cs:Array Value} (hb:Blk w g t cs) (hm:g≠mb) (ho:some g≠a.ownBlock):Blk w1 g t cs:=(h.block g hb.lt hm ho).trans hb
theorem VR.mg {cs:List Value} {v:JV} (h:VR w (PbM mb a w) cs v) (g:MG mb a w b w1):VR w1 (PbM mb b w1) cs v:=(h.keep g.keepF).mono fun _ _ hb=>g.pb hb
theorem ER.mg {cs:List Value} {v:EJ} (h:ER w (PbM mb a w) cs v) (g:MG mb a w b w1):ER w1 (PbM mb b w1) cs v:=(h.keep g.keepF).mono fun _ _ hb=>g.pb hb
theorem SR.mg {cs:List Value} {v:SJ} (h:SR w (PbM mb a w) cs v) (g:MG mb a w b w1):SR w1 (PbM mb b w1) cs v:=(h.keep g.keepF).mono fun _ _ hb=>g.pb hb
theorem RdF.mg {A:Option Addr} {xs:List Value} (h:RdF w (PbM mb a w) A xs) (g:MG mb a w b w1):RdF w1 (PbM mb b w1) A xs:=(h.keep g.keepF).mono fun _ _ hb=>g.pb hb
theorem wP.mg {ecs:List (List Value)} {env:List (List UInt8 × JV)} (h:wP w (PbM mb a w) ecs env) (g:MG mb a w b w1):wP w1 (PbM mb b w1) ecs env:=RR.imp h fun c x hc=>(BnR.keep hc g.keepF).mono fun _ _ hb=>g.pb hb
theorem wT.mg {ess:List (List Value)} {l:List (JV × JV)} (h:wT w (PbM mb a w) ess l) (g:MG mb a w b w1):wT w1 (PbM mb b w1) ess l:=RR.imp h fun c x hc=>(EmR.keep hc g.keepF).mono fun _ _ hb=>g.pb hb
end
theorem kt:∀ {i:Nat} {l:List UInt8},b8 i l=true→∀ c ∈ l,cU c=true
 | _,[],_,c,hc=>by cases hc
 |i,x::r,h,c,hc=>by
  unfold b8 at h;simp only [Bool.and_eq_true,Bool.or_eq_true] at h;rcases List.mem_cons.1 hc with rfl | hc
  ·unfold cU;rcases h.1 with h1 | h1
   ·rw [h1];rfl
   ·rw [h1.2];simp
  ·exact kt h.2 c hc
theorem lJ {c:UInt8} {r:List UInt8} (h:b8 0 (c::r)=true):aM c=true:=by
 unfold b8 at h;simp only [Bool.and_eq_true,Bool.or_eq_true] at h;rcases h.1 with h1 | h1
 ·exact h1
 ·simp at h1
theorem n7 {l:List UInt8} (h:cV ⟨l.toArray⟩=true):b8 0 l=true∧1≤l.length∧l.length≤12∧d9 l=false:=by
 unfold cV at h;rw [ii] at h;simp only [Bool.and_eq_true,decide_eq_true_eq,Bool.not_eq_true',ByteArray.size,List.size_toArray] at h;exact ⟨h.1,h.2.1.1,h.2.1.2,h.2.2⟩
end
section
def iK (x:LX):Prop :=
 (x.1=1∧eC x.2.1=true∧x.2.2=0)∨(x.1=2∧x.2.1 ∈ cL∧x.2.2=0)∨(x.1=3∧0≤x.2.2∧x.2.2≤9223372036854775807∧x.2.1=dV x.2.2)∨(x.1=4∧cR x.2.1=true∧x.2.2=0)∨(x.1=5∧x.2.1 ∈ bF∧x.2.2=0)
def oK (x:LX) (r:List UInt8):Prop:=(x.1=1∨x.1=2→∀ c,r.head? = some c→cU c=false)∧(x.1=3→pP r)∧(x.1=5→x.2.1=[60]→∀ c,r.head? = some c→c≠61)
theorem rk {f:UInt8→Bool}:∀ {t r:List UInt8},(∀ c ∈ t,f c=true)→(∀ c,r.head? = some c→f c=false)→(t++r).takeWhile f=t
 | [],[],_,_=>rfl
 | [],c::r,_,h=>by rw [List.nil_append,List.takeWhile_cons,h c rfl];rfl
 | d::t,r,h,h'=>by rw [List.cons_append,List.takeWhile_cons,h d List.mem_cons_self,if_pos rfl,rk (fun c hc=>h c (List.mem_cons_of_mem _ hc)) h']
theorem gQ {l:List UInt8} {p:Nat} {c:UInt8} {r:List UInt8} (h:l.drop p=c::r):l[p]? = some c∧p<l.length:=by
 have h1:p<l.length:=by
  rcases Nat.lt_or_ge p l.length with h2 | h2
  ·exact h2
  ·rw [List.drop_of_length_le h2] at h;cases h
 have h2:=congrArg (·[0]?) h;simp only [List.getElem?_drop,Nat.add_zero,List.getElem?_cons_zero] at h2;exact ⟨h2,h1⟩
theorem oF {t:List UInt8} (h:t ∈ cL):(∀ c ∈ t,cU c=true)∧∃ c r,t=c::r∧aM c=true:=by
 have:∀ t ∈ cL,(t.all cU=true)∧aM (t.headD 0)=true∧t≠[]:=by decide
 obtain ⟨h1,h2,h3⟩:=this t h;refine ⟨List.all_eq_true.1 h1,?_⟩;cases t with
 | nil=>exact absurd rfl h3
 | cons c r=>exact ⟨c,r,rfl,h2⟩
theorem kQ {t:List UInt8} (h:eC t=true):(∀ c ∈ t,cU c=true)∧(∃ c r,t=c::r∧aM c=true)∧d9 t=false:=by
 obtain ⟨h1,h2,_,h4⟩:=n7 h;refine ⟨kt h1,?_,h4⟩;cases t with
 | nil=>simp at h2
 | cons c r=>exact ⟨c,r,rfl,lJ h1⟩
theorem lD {c:UInt8} (h:aM c=true):97≤c.toNat∧c.toNat≤122:=of_decide_eq_true h
theorem lg {c:UInt8} (h:aR c=true):48≤c.toNat∧c.toNat≤57:=of_decide_eq_true h
theorem ef {x:LX} (h:iK x):∃ c r,ay x=c::r∧dg c=false∧c≠69∧(x.1=1∨x.1=2→aM c=true)∧(x.1=3→aR c=true∧aM c=false)∧(x.1=4→c=34)∧(x.1=5→aM c=false∧aR c=false∧c.toNat≠34):=by
 have nb:∀ c:UInt8,97≤c.toNat∧c.toNat≤122∨48≤c.toNat∧c.toNat≤57→dg c=false∧c≠69:=fun c hc=>by
  refine ⟨by unfold dg;rw [decide_eq_false_iff_not];omega,fun e=>?_⟩;rw [e] at hc;rcases hc with hc | hc
  ·exact absurd hc (by decide)
  ·exact absurd hc (by decide)
 rcases h with ⟨hk,hn,_⟩ | ⟨hk,hw,_⟩ | ⟨hk,h0,h1,ht⟩ | ⟨hk,ht,_⟩ | ⟨hk,hs,_⟩
 ·obtain ⟨_,⟨c,r,e,hl⟩,_⟩:=kQ hn;obtain ⟨h2,h3⟩:=nb c (.inl (lD hl));exact ⟨c,r,by unfold ay;rw [if_neg (by omega)];exact e,h2,h3,fun _=>hl,fun h=>by omega,fun h=>by omega,fun h=>by omega⟩
 ·obtain ⟨_,c,r,e,hl⟩:=oF hw;obtain ⟨h2,h3⟩:=nb c (.inl (lD hl));exact ⟨c,r,by unfold ay;rw [if_neg (by omega)];exact e,h2,h3,fun _=>hl,fun h=>by omega,fun h=>by omega,fun h=>by omega⟩
 ·have e:dV x.2.2=dc x.2.2.natAbs:=by unfold dV;rw [if_neg (by omega)]
  cases hd:dc x.2.2.natAbs with
  | nil=>exact absurd hd (eH _)
  |cons c r =>
   have hdig:=jA x.2.2.natAbs c (by rw [hd];exact List.mem_cons_self);obtain ⟨h2,h3⟩:=nb c (.inr (lg hdig));refine ⟨c,r,by unfold ay;rw [if_neg (by omega),ht,e,hd],h2,h3,fun h=>by omega,fun _=>⟨hdig,?_⟩,fun h=>by omega,fun h=>by omega⟩;have:=lg hdig;unfold aM;rw [decide_eq_false_iff_not];omega
 ·refine ⟨34,(eX x.2.1).flatMap aP++[34],by unfold ay ie;rw [if_pos hk];rfl,by decide,by decide,fun h=>by omega,fun h=>by omega,fun _=>rfl,fun h=>by omega⟩
 ·have:∀ t ∈ bF,t≠[]∧dg (t.headD 0)=false∧t.headD 0≠69∧aM (t.headD 0)=false∧aR (t.headD 0)=false∧(t.headD 0).toNat≠34:=by decide
  obtain ⟨h1,h2,h3,h4⟩:=this _ hs;cases ht:x.2.1 with
  | nil=>exact absurd ht h1
  |cons c r =>
   rw [ht] at h2 h3 h4;exact ⟨c,r,by unfold ay;rw [if_neg (by omega)];exact ht,h2,h3,fun h=>by omega,fun h=>by omega,fun h=>by omega,fun _=>h4⟩
theorem wg {l:List UInt8} {p:Nat} {t r:List UInt8} (ht:t ∈ bF) (h:l.drop p=t++r) (hr:t=[60]→∀ c,r.head? = some c→c≠61):cT l p bF=some t:=by
 have hs:∀ s,dm l p s=decide ((t++r).take s.length=s):=fun s=>by unfold dm;rw [h]
 simp only [bF,List.mem_cons,List.not_mem_nil,or_false] at ht;unfold bF;rcases ht with rfl | rfl | rfl | rfl | rfl | rfl | rfl | rfl | rfl | rfl | rfl | rfl | rfl | rfl | rfl
 all_goals try (simp only [cT,hs];simp;done)
 have hr:=hr rfl;cases r with
 | nil=>simp only [cT,hs];simp
 | cons c r=>have:=hr c rfl;simp only [cT,hs];simp [this]
theorem wi {l:List UInt8} {p:Nat} {x:LX} {r:List UInt8} (hx:iK x) (h:l.drop p=ay x++r) (hr:oK x r):cX l p=.inl (x.1,x.2.1,x.2.2,p+(ay x).length):=by
 obtain ⟨c,u,e,hb,_,hA,hB,hC,hD⟩:=ef hx;obtain ⟨hc,hp⟩:=gQ (show l.drop p=c::(u++r) by rw [h,e];rfl);unfold cX;rw [hc];simp only;rcases hx with ⟨hk,hn,h0⟩ | ⟨hk,hw,h0⟩ | ⟨hk,h0,h1,ht⟩ | ⟨hk,ht,h0⟩ | ⟨hk,hs,h0⟩
 ·have es:ay x=x.2.1:=by unfold ay;rw [if_neg (by omega)]
  obtain ⟨h1,_,h2⟩:=kQ hn;rw [if_pos (hA (.inl hk))];unfold fg;rw [h,es,rk h1 (hr.1 (.inl hk))];simp only;rw [if_neg (by rw [h2];decide),if_pos (show cV ⟨x.2.1.toArray⟩=true from hn),hk,h0]
 ·have es:ay x=x.2.1:=by unfold ay;rw [if_neg (by omega)]
  obtain ⟨h1,_⟩:=oF hw;rw [if_pos (hA (.inr hk))];unfold fg;rw [h,es,rk h1 (hr.1 (.inr hk))];simp only;rw [if_pos (by unfold d9;exact decide_eq_true hw),hk,h0]
 ·have es:ay x=dV x.2.2:=by unfold ay;rw [if_neg (by omega),ht]
  obtain ⟨h2,h3⟩:=hB hk;rw [if_neg (by rw [h3];decide),if_pos h2];unfold dE;rw [es] at h ⊢;rw [uo ⟨by omega,h1⟩ h (hr.2.1 hk)];simp only;rw [if_pos trivial,h,hk,ht,Int.toNat_natCast,Nat.add_sub_cancel_left,List.take_left]
 ·have es:ay x=ie x.2.1:=by unfold ay;rw [if_pos hk]
  have h34:=hC hk;subst h34;rw [if_neg (by decide),if_neg (by decide),if_pos (by decide)];unfold gH;rw [es] at h ⊢;rw [uJ ht h];simp only;rw [if_pos trivial,hk,h0,Int.toNat_natCast]
 ·have es:ay x=x.2.1:=by unfold ay;rw [if_neg (by omega)]
  obtain ⟨h2,h3,h4⟩:=hD hk;rw [if_neg (by rw [h2];decide),if_neg (by rw [h3];decide),if_neg h4];unfold fD;rw [es] at h ⊢;rw [wg hs h (hr.2.2 hk)];simp only;rw [hk,h0]
def gi:List LX→Prop
 | []=>True
 | [x]=>iK x
 | x::y::r=>iK x∧(x.1=5→x.2.1=[60]→(ay y).headD 0≠61)∧gi (y::r)
theorem gi.head {x:LX} {r:List LX} (h:gi (x::r)):iK x:=by
 cases r with
 | nil=>exact h
 | cons y r=>exact h.1
theorem gi.tail {x:LX} {r:List LX} (h:gi (x::r)):gi r:=by
 cases r with
 | nil=>trivial
 | cons y r=>exact h.2.2
theorem uN {x:LX} {r:List LX} (h:gi (x::r)):oK x (bD (ay x) (r.map ay)):=by
 cases r with
 | nil=>exact ⟨fun _ c e=>by simp [bD] at e,fun _ c e=>by simp [bD] at e,fun _ _ c e=>by simp [bD] at e⟩
 |cons y r =>
  obtain ⟨hx,hle,hy⟩:=h;obtain ⟨c,u,e,hb,h69,hA,hB,hC,hD⟩:=ef hy.head;have hd:(bD (ay x) ((y::r).map ay)).head? = some (if kF (ay x) (ay y)=true then 32 else c):=by
   show ((if kF (ay x) (ay y)=true then 32::ay y else ay y)++_).head? = _
   rw [e];split<;>rfl
  have hg:kF (ay x) (ay y)=((cU ((ay x).getLastD 0) && cU c) || (aR ((ay x).headD 0) && ay y == [46])):=by unfold kF;rw [e];rfl
  have hlast:x.1=1∨x.1=2∨x.1=3→cU ((ay x).getLastD 0)=true:=fun hk=>by
   have hall:(∀ c ∈ ay x,cU c=true)∧ay x≠[]:=by
    obtain ⟨c',u',e',_⟩:=ef hx;refine ⟨?_,by rw [e'];simp⟩;have es:ay x=x.2.1:=by unfold ay;rw [if_neg (by omega)]
    rw [es];rcases hx with ⟨hk,hn,h0⟩ | ⟨hk,hw,h0⟩ | ⟨hk,h0,h1,ht⟩ | ⟨hk,ht,h0⟩ | ⟨hk,hs,h0⟩
    ·exact (kQ hn).1
    ·exact (oF hw).1
    ·rw [ht];unfold dV;rw [if_neg (by omega)];intro c hc;unfold cU;rw [jA _ c hc,Bool.or_true]
    ·omega
    ·omega
   rw [List.getLastD_eq_getLast?,List.getLast?_eq_some_getLast hall.2];exact hall.1 _ (List.getLast_mem _)
  refine ⟨fun hk c' hc'=>?_,fun hk c' hc'=>?_,fun hk ht c' hc'=>?_⟩
  ·rw [hd] at hc';split at hc'
   ·injection hc' with hc';rw [← hc'];decide
   ·rename_i hng
    injection hc' with hc'
    rw [hg,hlast (by omega)] at hng;simp only [Bool.true_and,Bool.or_eq_true,not_or,Bool.not_eq_true] at hng;rw [← hc'];exact hng.1
  ·rw [hd] at hc';split at hc'
   ·injection hc' with hc';rw [← hc'];decide
   ·rename_i hng
    injection hc' with hc'
    rw [hg,hlast (by omega)] at hng;simp only [Bool.true_and,Bool.or_eq_true,not_or,Bool.not_eq_true] at hng;have hdig:aR ((ay x).headD 0)=true:=by
     obtain ⟨c3,u3,e3,_,_,_,hB3,_⟩:=ef hx;rw [e3];exact (hB3 hk).1
    rw [hdig] at hng;subst hc';have hld:=hng.1;unfold cU at hld;rw [Bool.or_eq_false_iff] at hld;refine ⟨hld.2,fun h46=>?_,fun h101=>?_,h69⟩
    ·rcases hy.head with ⟨hk2,hn,h0⟩ | ⟨hk2,hw,h0⟩ | ⟨hk2,h0,h1,ht⟩ | ⟨hk2,ht,h0⟩ | ⟨hk2,hs,h0⟩
     ·have:=hA (.inl hk2);rw [hld.1] at this;cases this
     ·have:=hA (.inr hk2);rw [hld.1] at this;cases this
     ·have:=(hB hk2).1;rw [hld.2] at this;cases this
     ·have:=hC hk2;rw [h46] at this;cases this
     ·have es:ay y=y.2.1:=by unfold ay;rw [if_neg (by omega)]
      have hall:∀ t ∈ bF,t.headD 0=46→t=[46]:=by decide
      have h9:=hall _ hs (by rw [← es,e];exact h46);rw [es,h9] at hng;exact absurd hng.2 (by decide)
    ·rw [h101] at hld;exact absurd hld.1 (by decide)
  ·rw [hd] at hc';split at hc'
   ·injection hc' with hc';rw [← hc'];decide
   ·injection hc' with hc'
    have:=hle hk ht;rw [e] at this;rw [← hc'];exact this
theorem o4 {l:List UInt8} {p:Nat} {a r:List UInt8} (h:l.drop p=a++r):l.drop (p+a.length)=r:=by
 rw [← List.drop_drop,h,List.drop_left]
theorem rD {l:List UInt8}:∀ (ls:List LX) (w:List UInt8) (k p:Nat),gi ls→l.drop p=bD w (ls.map ay)→p≤l.length→l.length-p<k →
  ∃ T,eO l k p=(T++[(6,l.length,[],0)],none)∧T.length=ls.length∧∀ (i:Nat) (x:LX),ls[i]? = some x→∃ a,T[i]? = some (x.1,a,x.2.1,x.2.2)
 | _,_,0,_,_,_,_,h=>by omega
 |[],w,k+1,p,_,hd,hp,hk=>by
  have h0:l.length≤p:=by
   have h9:=congrArg List.length hd;rw [List.length_drop] at h9;have h8:(bD w (([]:List LX).map ay)).length=0:=rfl;omega
  refine ⟨[],?_,rfl,fun i x h=>by simp at h⟩;unfold eO;rw [if_neg (by have:=ig l p;omega)];rfl
 |y::r,w,k+1,p,hc,hd,hp,hk=>by
  obtain ⟨c,u,e,hb,_⟩:=ef hc.head;obtain ⟨q,hq1,hq2,hq3⟩:∃ q,aG l p=q∧p≤q∧l.drop q=ay y++bD (ay y) (r.map ay):=by
   have hd':l.drop p=(if kF w (ay y)=true then 32::ay y else ay y)++bD (ay y) (r.map ay):=hd;by_cases hg:kF w (ay y)=true
   ·rw [if_pos hg] at hd';have h1:=gQ (show l.drop p=32::(ay y++bD (ay y) (r.map ay)) from hd');have h2:l.drop (p+1)=ay y++bD (ay y) (r.map ay):=o4 (a:=[32]) hd';have h3:=gQ (show l.drop (p+1)=c::(u++bD (ay y) (r.map ay)) by rw [h2,e];rfl);exact ⟨p+1,by rw [lY h1.1 (by decide),jg h3.1 hb],by omega,h2⟩
   ·rw [if_neg hg] at hd';have h3:=gQ (show l.drop p=c::(u++bD (ay y) (r.map ay)) by rw [hd',e];rfl);exact ⟨p,jg h3.1 hb,Nat.le_refl _,hd'⟩
  have hql:q<l.length:=(gQ (show l.drop q=c::(u++bD (ay y) (r.map ay)) by rw [hq3,e];rfl)).2;have ht:=wi hc.head hq3 (uN hc);have hlen:(ay y).length≤l.length-q:=by
   have:=congrArg List.length hq3;rw [List.length_drop,List.length_append] at this;omega
  have hpos:0<(ay y).length:=by rw [e];simp
  obtain ⟨T,h1,h2,h3⟩:=rD r (ay y) k (q+(ay y).length) hc.tail (o4 hq3) (by omega) (by omega);refine ⟨(y.1,q,y.2.1,y.2.2)::T,?_,by simp [h2],fun i x hx=>?_⟩
  ·unfold eO;rw [hq1,if_pos hql,ht];simp only;rw [h1];rfl
  ·cases i with
   |zero =>
    obtain rfl:y=x:=by simpa using hx
    exact ⟨q,rfl⟩
   | succ i=>exact h3 i x (by simpa using hx)
def vt (t:ak):Prop:=1≤t.1∧t.1≤5∧(t.1=2→t.2.2.1 ∈ cL)∧(t.1=5→t.2.2.1 ∉ cL)
theorem wk {l:List UInt8} {p:Nat} {k n:Int} {t:List UInt8} {m:Nat} (h:cX l p=.inl (k,t,n,m)) (a:Nat):vt (k,a,t,n):=by
 unfold cX at h;cases hc:l[p]? with
 | none=>rw [hc] at h;cases h
 |some c =>
  rw [hc] at h;simp only at h;split at h
  ·unfold fg at h;simp only at h;split at h
   ·rename_i hw
    simp only [Sum.inl.injEq,Prod.mk.injEq] at h;obtain ⟨rfl,rfl,rfl,rfl⟩:=h;exact ⟨by show (1:Int)≤2;decide,by show (2:Int)≤5;decide,fun _=>of_decide_eq_true hw,fun h=>absurd h (by show ¬ (2:Int)=5;decide)⟩
   ·split at h
    ·simp only [Sum.inl.injEq,Prod.mk.injEq] at h;obtain ⟨rfl,rfl,rfl,rfl⟩:=h;exact ⟨by show (1:Int)≤1;decide,by show (1:Int)≤5;decide,fun h=>absurd h (by show ¬ (1:Int)=2;decide),fun h=>absurd h (by show ¬ (1:Int)=5;decide)⟩
    ·cases h
  ·split at h
   ·unfold dE at h;simp only at h;split at h
    ·simp only [Sum.inl.injEq,Prod.mk.injEq] at h;obtain ⟨rfl,rfl,rfl,rfl⟩:=h;exact ⟨by show (1:Int)≤3;decide,by show (3:Int)≤5;decide,fun h=>absurd h (by show ¬ (3:Int)=2;decide),fun h=>absurd h (by show ¬ (3:Int)=5;decide)⟩
    ·cases h
   ·split at h
    ·unfold gH at h;simp only at h;split at h
     ·simp only [Sum.inl.injEq,Prod.mk.injEq] at h;obtain ⟨rfl,rfl,rfl,rfl⟩:=h;exact ⟨by show (1:Int)≤4;decide,by show (4:Int)≤5;decide,fun h=>absurd h (by show ¬ (4:Int)=2;decide),fun h=>absurd h (by show ¬ (4:Int)=5;decide)⟩
     ·cases h
    ·unfold fD at h;cases hf:cT l p bF with
     | none=>rw [hf] at h;cases h
     |some s =>
      rw [hf] at h;simp only [Sum.inl.injEq,Prod.mk.injEq] at h;obtain ⟨rfl,rfl,rfl,rfl⟩:=h;have hall:∀ s ∈ bF,s ∉ cL:=by decide
      exact ⟨by show (1:Int)≤5;decide,by show (5:Int)≤5;decide,fun h=>absurd h (by show ¬ (5:Int)=2;decide),fun _=>hall s (fu hf).1⟩
theorem qX {l:List UInt8}:∀ (k p:Nat) (T:List ak),eO l k p=(T,none)→l.length-p<k→∃ T',T=T'++[(6,l.length,[],0)]∧∀ t ∈ T',vt t
 | 0,_,_,_,h=>by omega
 |k+1,p,T,hr,hk=>by
  unfold eO at hr;split at hr
  ·rename_i hq
   cases hv:cX l (aG l p) with
   | inr e=>rw [hv] at hr;injection hr with _ h2;cases h2
   |inl r =>
    obtain ⟨kd,t,n,m⟩:=r;rw [hv] at hr;simp only at hr;injection hr with h1 h2
    have hm:=jJ hq hv;have hg:=ig l p;obtain ⟨T',e,h3⟩:=qX k m (eO l k m).1 (by rw [← h2]) (by omega);refine ⟨(kd,aG l p,t,n)::T',by rw [← h1,e];rfl,fun x hx=>?_⟩;rcases List.mem_cons.1 hx with rfl | hx
    ·exact wk hv _
    ·exact h3 x hx
  ·injection hr with h1 _
   exact ⟨[],h1.symm,fun t h=>by cases h⟩
theorem WT.of {T':List ak} {n:Nat} (h:∀ t ∈ T',vt t):WT (T'++[(6,n,[],0)]):=by
 have hlt:∀ p,p<T'.length→∃ t,(T'++[((6:Int),n,([]:List UInt8),(0:Int))])[p]? = some t∧vt t:=fun p hp=>by
  rw [List.getElem?_append_left hp];exact ⟨_,List.getElem?_eq_getElem hp,h _ (List.getElem_mem hp)⟩
 have hge:∀ p,T'.length≤p→tkK (T'++[((6:Int),n,([]:List UInt8),(0:Int))]) p=6:=fun p hp=>by
  unfold tkK;rcases Nat.eq_or_lt_of_le hp with rfl | hp
  ·simp
  ·rw [List.getElem?_eq_none (by simp;omega)]
 refine ⟨⟨T'.length,by simp,hge _ (Nat.le_refl _)⟩,fun p hp=>?_,fun p hk=>?_,fun p hk=>?_,fun p=>?_⟩
 ·obtain ⟨t,h1,h2⟩:=hlt p (by simp at hp;omega);unfold tkK;rw [h1];have:=h2.2.1;show t.1≠6;omega
 ·rcases Nat.lt_or_ge p T'.length with hp | hp
  ·obtain ⟨t,h1,h2⟩:=hlt p hp;unfold tkK at hk;rw [h1] at hk;unfold tkT;rw [h1];exact h2.2.2.1 hk
  ·rw [hge p hp] at hk;omega
 ·rcases Nat.lt_or_ge p T'.length with hp | hp
  ·obtain ⟨t,h1,h2⟩:=hlt p hp;unfold tkK at hk;rw [h1] at hk;unfold tkT;rw [h1];exact h2.2.2.2 hk
  ·rw [hge p hp] at hk;omega
 ·rcases Nat.lt_or_ge p T'.length with hp | hp
  ·obtain ⟨t,h1,h2⟩:=hlt p hp;unfold tkK;rw [h1];exact ⟨h2.1,by have:=h2.2.1;show t.1≤6;omega⟩
  ·rw [hge p hp];omega
theorem uc {ls:List LX} (h:gi ls) (hl:(pV (ls.map ay)).length≤512):∃ T,gh (pV (ls.map ay))=(T,0,0)∧WT T∧At T 0 ls∧T.length=ls.length+1:=by
 obtain ⟨l,hle⟩:∃ l,pV (ls.map ay)=l:=⟨_,rfl⟩
 rw [hle] at hl ⊢;have hrun:∃ T',eO l (l.length+1) 0=(T'++[(6,l.length,[],0)],none)∧T'.length=ls.length∧∀ (i:Nat) (x:LX),ls[i]? = some x→∃ a,T'[i]? = some (x.1,a,x.2.1,x.2.2):=by
  refine rD ls [] (l.length+1) 0 h ?_ (Nat.zero_le _) (by omega);rw [List.drop_zero,← hle];cases ls with
  | nil=>rfl
  |cons x r =>
   show ay x++bD (ay x) (r.map ay)=(if kF [] (ay x)=true then 32::ay x else ay x)++bD (ay x) (r.map ay)
   rw [if_neg];unfold kF;simp [cU,aM,aR,cK]
 obtain ⟨T',h1,h2,h3⟩:=hrun;obtain ⟨T2,e,h4⟩:=qX _ _ _ h1 (by omega);have e2:=List.append_inj_left' e rfl;subst e2;refine ⟨T'++[(6,l.length,[],0)],?_,WT.of h4,fun i x hx=>?_,by simp [h2]⟩
 ·unfold gh cB;rw [if_neg (by omega),Nat.sub_zero,h1]
 ·obtain ⟨a,ha⟩:=h3 i x hx;have hi:i<T'.length:=(List.getElem?_eq_some_iff.1 ha).1;unfold rdT tkK tkT tkN;rw [Nat.zero_add,List.getElem?_append_left hi,ha]
end
end Go.Proofs.YtgmnmnnoahdjnaaGreatDoor
