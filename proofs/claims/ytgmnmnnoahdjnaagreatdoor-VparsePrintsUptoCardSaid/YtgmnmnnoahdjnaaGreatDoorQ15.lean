import Derived.Test.YtgmnmnnoahdjnaaGreatDoorQ11
import Derived.Test.YtgmnmnnoahdjnaaGreatDoorRows
import Derived.Deep.Strs
import Derived.Test.YtgmnmnnoahdjnaaGreatDoorQ12
open Go.Value renaming int → Zi, slice → Zs, string → Zt, pointer → Zp
open Go.IntKind renaming i64 → Zq
set_option maxRecDepth 100000
set_option maxHeartbeats 16000000
set_option linter.unusedVariables false
set_option linter.unusedSimpArgs false
namespace Go.Proofs.YtgmnmnnoahdjnaaGreatDoor
section
open Go.RowKit Go.Deep Go.ChangeShapes Go.WideShapes
section
variable {H:Type} {enc:TypeId × Value->H} {W:World}
theorem ta (a:Addr):∀ (elems:List (DataW H × List MemPlace)) (a0:Nat),(∀ i,i<elems.length->∃ c v y,elems[i]? = some y/\W.cells? 0 (a.add ((a0+i)*5)) 5=some c/\VR W TT c v/\inJ v/\dj v<=Rows.uptoBulk y.1) ->
  ∃ css kids,VRs W TT css kids/\kids.length=elems.length/\(∀ i c,css[i]? = some c->W.cells? 0 (a.add ((a0+i)*5)) 5=some c)/\inL kids/\eV kids<=Rows.uptoBulkAll (elems.map (·.1))
 | [],_,_=>⟨[],[],VRs.nil,rfl,λ i c h=>by simp at h,trivial,Nat.zero_le _⟩
 |y::r,a0,h=>by
  obtain ⟨c,v,y',e,h1,h2,h3,h4⟩:=h 0 (by simp);obtain rfl:y=y':=by simpa using e
  obtain ⟨css,kids,k1,k2,k3,k4,k5⟩:=ta a r (a0+1) (λ i hi=>by
   obtain ⟨c,v,y',e,h1,h2,h3,h4⟩:=h (i+1) (by simp;omega);exact ⟨c,v,y',by simpa using e,by rw [show a0+1+i=a0+(i+1) by omega];exact h1,h2,h3,h4⟩)
  refine ⟨c::css,v::kids,⟨by simp [k1.1],λ i c' x' e1 e2=>?_⟩,by simp [k2],λ i c' e1=>?_,?_,?_⟩
  ·cases i with
   |zero =>
    obtain rfl:c=c':=by simpa using e1
    obtain rfl:v=x':=by simpa using e2
    exact h2
   | succ i=>exact k1.2 i c' x' (by simpa using e1) (by simpa using e2)
  ·cases i with
   |zero =>
    obtain rfl:c=c':=by simpa using e1
    exact h1
   | succ i=>have:=k3 i c' (by simpa using e1);rwa [show a0+1+i=a0+(i+1) by omega] at this
  ·unfold inL;exact ⟨h3,k4⟩
  ·unfold eV;rw [List.map_cons];unfold Rows.uptoBulkAll;omega
theorem zP (a:Addr) {css:List (List Value)} {kids:List JV} (h:VRs W TT css kids) (hc:∀ i c,css[i]? = some c->W.cells? 0 (a.add (i*5)) 5=some c):RdF W TT (some a) css.flatten:=by
 intro hne;have hpos:0<css.length:=by
  rcases css with _ | ⟨c,r⟩
  ·exact absurd rfl hne
  ·simp
 obtain ⟨b,o,spot⟩:=a;have h5:=h.five;have h0:=World.cells?_some (hc 0 _ (List.getElem?_eq_getElem hpos));have q0:=h0.2.2 0 (by decide);rw [List.getElem?_eq_getElem (by omega)] at q0;have hspot:spot=none:=by simpa [Addr.add] using World.cell?_spot q0
 subst hspot;have hcell:∀ i (hi:i<css.flatten.length),W.cell? ⟨b,o+i,none⟩=some css.flatten[i]:=by
  intro i hi;rw [iQ h5] at hi;have hq:i / 5<css.length:=by omega
  have hx:=World.cells?_some (hc (i / 5) _ (List.getElem?_eq_getElem hq));have hy:=hx.2.2 (i % 5) (by omega);rw [add_plain,add_plain,← ku h5 (List.getElem?_eq_getElem hq) (by omega)] at hy;rw [show o+i=o+i / 5*5+i % 5 by omega,hy,show i / 5*5+i % 5=i by omega,List.getElem?_eq_getElem]
 refine ⟨b,o,rfl,?_,trivial,hcell⟩;have hl:0<css.flatten.length:=by rw [iQ h5];omega
 have hz:=hcell 0 hl;rcases Nat.lt_or_ge b W.heap.size with hlt | hge
 ·exact hlt
 ·unfold World.cell? at hz;simp [Array.getElem?_eq_none hge] at hz
theorem sY (f:Nat->ByteArray):∀ l:List Nat,fL (l.map λ i=>(f i).data.toList)<=Rows.uptoBulkAll (H:=H) (l.map λ i=>.lit (.string (f i).data.toList))
 | []=>Nat.zero_le _
 |i::r=>by
  have:=sY f r;rw [List.map_cons,List.map_cons];unfold fL Rows.uptoBulkAll Rows.uptoBulk;omega
theorem tH {n:Int} (h:(Lit.int .i64 n).wf=true):iw n:=by
 have h:(decide (IntKind.i64.min<=n) && decide (n<=IntKind.i64.max))=true:=h;rw [Bool.and_eq_true,decide_eq_true_eq,decide_eq_true_eq] at h;have e1:IntKind.i64.min = -9223372036854775808:=by decide
 have e2:IntKind.i64.max=9223372036854775807:=by decide
 unfold iw;omega
theorem sd:∀ (fuel:Nat) (cs:List Value) (x:DataW H × List MemPlace),DataW.trod enc Tryz.prog W 0 (λ _=>true) true fuel 42 cs=some x->∃ v,VR W TT cs v/\inJ v/\dj v<=Rows.uptoBulk x.1:=by
 intro fuel
 induction fuel using Nat.strongRecOn with
 |ind fuel ih =>
  intro cs x h;obtain ⟨xs,n,rfl,rfl,hlen,hxl,hf⟩:=DataW.trod_struct Tryz.underlying42 h;have ci:Tryz.prog.cellsOf 3=1:=by kernel_rfl
  have cl:Tryz.prog.cellsOf 2=1:=by kernel_rfl
  have ct:Tryz.prog.cellsOf 9=1:=by kernel_rfl
  have ck:Tryz.prog.cellsOf 39=1:=by kernel_rfl
  have cy:Tryz.prog.cellsOf 40=1:=by kernel_rfl
  have cv:Tryz.prog.cellsOf 42=5:=by kernel_rfl
  rw [cv] at hlen;have f0:=hf 0 _ rfl;have f1:=hf 1 _ rfl;have f2:=hf 2 _ rfl;have f3:=hf 3 _ rfl;have f4:=hf 4 _ rfl;clear hf
  match xs,hxl,cs,hlen with
  |[y0,y1,y2,y3,y4],_,[c0,c1,c2,c3,c4],_ =>
   simp [ci,cl,ct,ck,cy] at f0 f1 f2 f3 f4;obtain ⟨k,e0,rfl,w0⟩:=DataW.trod_int Tryz.underlying3 f0;obtain ⟨m,e1,rfl,w1⟩:=DataW.trod_int Tryz.underlying2 f1;obtain ⟨s,e2,rfl,w2⟩:=DataW.trod_string Tryz.underlying9 f2;obtain rfl:c0=.int .i64 k:=by simpa using e0
   obtain rfl:c1=.int .i64 m:=by simpa using e1
   obtain rfl:c2=.string s:=by simpa using e2
   obtain ⟨A,ca,css,kids,rfl,hk1,hk2,hk3,hk4,hk5,hk6⟩:∃ A ca css kids,c3=.slice A kids.length ca/\VRs W TT css kids/\kids.length<=ca/\(A=none->ca=0)/\RdF W TT A css.flatten/\inL kids/\eV kids<=Rows.uptoBulk y3.1:=by
    rcases DataW.trod_slice Tryz.underlying39 f3 with ⟨e3,rfl⟩ | ⟨a,len,cap,elems,rest,n',hn,e3,rfl,hb,hl,hm,hel,hk,_,_⟩
    ·exact ⟨none,0,[],[],by simpa using e3,VRs.nil,Nat.le_refl _,λ _=>rfl,RdF.nil,trivial,Nat.zero_le _⟩
    ·rw [cv] at hk;obtain ⟨css,kids,k1,k2,k3,k4,k5⟩:=ta (W:=W) a elems 0 (λ i hi=>by
      have hq:=hk i (by omega);rw [List.getElem?_eq_getElem hi] at hq;obtain ⟨c,q1,q2⟩:=Option.bind_eq_some_iff.1 hq;obtain ⟨v,q3,q4,q5⟩:=ih n' (by omega) c _ q2;exact ⟨c,v,_,List.getElem?_eq_getElem hi,by rw [Nat.zero_add];exact q1,q3,q4,q5⟩)
     refine ⟨some a,cap,css,kids,?_,k1,by omega,λ e=>by simp at e,zP a k1 (λ i c e=>by have:=k3 i c e;rwa [Nat.zero_add] at this),k4,?_⟩
     ·rw [k2,hel];simpa using e3
     ·show _<=Rows.uptoBulk (.slice _ _);unfold Rows.uptoBulk;omega
   obtain ⟨B,cb,keys,rfl,hy1,hy2,hy3,hy4⟩:∃ B cb keys,c4=.slice B keys.length cb/\keys.length<=cb/\(B=none->cb=0)/\RdF W TT B (jF keys)/\fL keys<=Rows.uptoBulk y4.1:=by
    rcases open_strs Tryz.underlying40 Tryz.underlying9 ct f4 with ⟨e4,rfl⟩ | ⟨a,len,cap,q,Sx,e4,hb,hl,hm,hq,rfl,hx⟩
    ·exact ⟨none,0,[],by simpa using e4,Nat.le_refl _,λ _=>rfl,RdF.nil,Nat.zero_le _⟩
    ·simp at hq;subst hq;refine ⟨some a,q,(List.range len).map λ i=>(Sx i).data.toList,by simpa using e4,by simpa using hl,λ e=>by simp at e,λ hne=>?_,?_⟩
     ·have hpos:0<len:=by
       rcases len with _ | len
       ·exact absurd rfl hne
       ·omega
      obtain ⟨b,o,spot⟩:=a;have q0:=(hx 0 (by omega)).1;have hspot:spot=none:=by simpa [Addr.add] using World.cell?_spot q0
      subst hspot;refine ⟨b,o,rfl,?_,trivial,λ i hi=>?_⟩
      ·rcases Nat.lt_or_ge b W.heap.size with hlt | hge
       ·exact hlt
       ·rw [add_plain] at q0;unfold World.cell? at q0;simp [Array.getElem?_eq_none hge] at q0
      ·have hi':i<len:=by rw [j9] at hi;simpa using hi
       have:=(hx i (by omega)).1;rw [add_plain] at this;rw [this];simp [jF]
     ·have:=sY (H:=H) Sx (List.range len);show _<=Rows.uptoBulk (.slice _ _);unfold Rows.uptoBulk;omega
   obtain ⟨ss,rfl⟩:∃ ss:List UInt8,s=⟨ss.toArray⟩:=⟨s.data.toList,by simp⟩
   refine ⟨.mk k m ss kids keys,VR.into k m ss hk1 hk2 hy1 hk3 hy2 hk4 hy3 rfl rfl,?_,?_⟩
   ·unfold inJ;exact ⟨tH w0,tH w1,hk5⟩
   ·unfold dj;simp only [List.map_cons,List.map_nil];unfold Rows.uptoBulk Rows.uptoBulkAll Rows.uptoBulkAll Rows.uptoBulkAll Rows.uptoBulkAll Rows.uptoBulkAll Rows.uptoBulkAll;have:Rows.uptoBulk (H:=H) (.lit (.string ss))=ss.length+1:=by unfold Rows.uptoBulk;rfl
    have e2:(Lit.string (ByteArray.mk ss.toArray).data.toList)=.string ss:=by simp
    rw [e2,this];omega
end
end
section
open Go.RowKit Go.Shelf
attribute [local go_sem] aa ac ae ab Oper.semAt_some
mutual
def dD:Nat->JV->List (Nat × JV) | lv,.mk k n s kids keys=>(lv,.mk k n s kids keys)::bZ (lv+1) kids
def bZ:Nat->List JV->List (Nat × JV) | _,[]=>[] | lv,x::r=>dD lv x++bZ lv r
end
theorem kw (lv:Nat):∀ xs ys:List JV,bZ lv (xs++ys)=bZ lv xs++bZ lv ys
 | [],ys=>by simp [bZ]
 | x::r,ys=>by rw [List.cons_append,bZ,bZ,kw lv r ys,List.append_assoc]
mutual
theorem kv:∀ (lv:Nat) (v:JV),(dD lv v).length=bf v
 | lv,.mk k n s kids keys=>by rw [dD,bf,List.length_cons,oh (lv+1) kids];omega
theorem oh:∀ (lv:Nat) (xs:List JV),(bZ lv xs).length=bg xs
 | lv,[]=>by rw [bZ,bg];rfl
 | lv,x::r=>by rw [bZ,bg,List.length_append,kv lv x,oh lv r]
end
theorem vn {lv:Nat} {xs:List JV} {i:Nat} {x:JV} (h:xs[i]? = some x):bZ lv (xs.take (i+1))=bZ lv (xs.take i)++dD lv x/\bZ lv xs=bZ lv (xs.take i)++(dD lv x++bZ lv (xs.drop (i+1))):=by
 have e:bZ lv (xs.take (i+1))=bZ lv (xs.take i)++dD lv x:=by rw [List.take_add_one,h,kw];show _++bZ lv [x]=_;rw [bZ,bZ,List.append_nil]
 refine ⟨e,?_⟩;have h2:=kw lv (xs.take (i+1)) (xs.drop (i+1));rw [List.take_append_drop,e,List.append_assoc] at h2;exact h2
abbrev eF:=Nat × JV × Array Value
def eh (x:eF):Nat × JV:=(x.1,x.2.1)
def xo (x:eF):Array Value:=#[Zi Zq x.1,.agg x.2.2]
def jp:Nat->Prop:=λ _=>True
def KpC (C:Nat->Prop) (N:Nat) (A B:World):Prop:=A.heap.size<=B.heap.size/\∀ k,k<A.heap.size->¬ C k->(k<N∨∃ t cs,Blk A k t cs)->B.heap[k]? = A.heap[k]?
theorem KpC.trans {C:Nat->Prop} {N:Nat} {A B D:World} (h:KpC C N A B) (k:KpC C N B D):KpC C N A D:=by
 refine ⟨Nat.le_trans h.1 k.1,λ j hj hc hb=>?_⟩;have h1:=h.2 j hj hc hb;refine (k.2 j (Nat.lt_of_lt_of_le hj h.1) hc ?_).trans h1;rcases hb with hb | ⟨t,cs,hb⟩
 ·exact .inl hb
 ·exact .inr ⟨t,cs,h1.trans hb⟩
theorem KpC.of_below {C:Nat->Prop} {N:Nat} {A B:World} (h:Below A.heap.size A B):KpC C N A B:=⟨h.size,λ k hk _ _=>h.block k hk⟩
theorem KpC.refl (C:Nat->Prop) (N:Nat) (A:World):KpC C N A A:=⟨Nat.le_refl _,λ _ _ _ _=>rfl⟩
theorem KpC.blk {C:Nat->Prop} {N:Nat} {A B:World} {g:Nat} {t:TypeId} {cs:Array Value} (h:KpC C N A B) (hb:Blk A g t cs) (hg:¬ C g):Blk B g t cs:=(h.2 g hb.lt hg (.inr ⟨t,cs,hb⟩)).trans hb
theorem KpC.keepF {C:Nat->Prop} {w0 A B:World} (h:KpC C w0.heap.size A B) (hk:ah jp w0 A) (hC:∀ k,C k->w0.heap.size<=k):ah jp w0 B :=
 ⟨Nat.le_trans hk.1 h.1,λ b _ hb=>(h.2 b (Nat.lt_of_lt_of_le hb hk.1) (λ hc=>by have:=hC b hc;omega) (.inl hb)).trans (hk.2 b trivial hb)⟩
theorem KpC.set {C:Nat->Prop} {N:Nat} {A B:World} (h:KpC C N A B) {k:Nat} (hk:C k) (i:Nat) (u:Value):KpC C N A (B.setCell ⟨k,i,none⟩ u) :=
 ⟨by simpa using h.1,λ b hb hc hx=>(Below.heap_setCell B ⟨k,i,none⟩ u b (λ e=>hc (by have e:b=k:=e;rw [e];exact hk))).trans (h.2 b hb hc hx)⟩
theorem rU {W:World} {css:List (List Value)} {xs:List JV} {A:Option Addr} (h:VRs W jp css xs) (hr:RdF W jp A css.flatten) {i:Nat} {x:JV} (hx:xs[i]? = some x) :
  ∃ (b o:Nat) (k n:Int) (s:ByteArray) (A':Option Addr) (na ca:Nat) (B':Option Addr) (nb cb:Nat),A=some ⟨b,o,none⟩/\b<W.heap.size/\VR W jp [Zi Zq k,Zi Zq n,Zt s,Zs A' na ca,Zs B' nb cb] x /\
   ∀ W',ah jp W W'->W'.cell? ⟨b,o+i*5,none⟩=some (Zi Zq k)/\W'.cell? ⟨b,o+i*5+1,none⟩=some (Zi Zq n)/\W'.cell? ⟨b,o+i*5+2,none⟩=some (Zt s)/\W'.cell? ⟨b,o+i*5+3,none⟩=some (Zs A' na ca)/\W'.cell? ⟨b,o+i*5+4,none⟩=some (Zs B' nb cb):=by
 obtain ⟨b,o,c,rfl,hb,_,hv,hc⟩:=h.cell hr hx;obtain ⟨k,n,s,A',na,ca,B',nb,cb,rfl⟩:=hv.form;refine ⟨b,o,k,n,s,A',na,ca,B',nb,cb,rfl,hb,hv,λ W' hW=>?_⟩;have z:=λ (j:Nat) u (hj:j<5) hu=>(World.cell?_of_block (w:=W) (a:=⟨b,o+(i*5+j),none⟩) (hW.2 b trivial hb)).trans (hc j u hj hu)
 exact ⟨z 0 _ (by decide) rfl,z 1 _ (by decide) rfl,z 2 _ (by decide) rfl,z 3 _ (by decide) rfl,z 4 _ (by decide) rfl⟩
def Aj (w0:World) (v0:JV) (pre:List eF) (x:eF):Prop:=VR w0 jp x.2.2.toList x.2.1/\(pre++[x]).map eh <+: dD 0 v0
def YN (l:Nat) (w0:World) (C:Nat->Prop) (v0:JV) (J Jx:List eF->World->Prop):Prop:=∀ pre x W1,J pre W1->Aj w0 v0 pre x->YieldAt Fence.wide 1 Tryz.prog l (xo x) W1 λ e W' =>
 (e=.returned (.bool true)/\J (pre++[x]) W'/\KpC C w0.heap.size W1 W')∨(e=.returned (.bool false)/\Jx (pre++[x]) W'/\KpC C w0.heap.size W1 W')
def uI (w0:World) (C:Nat->Prop) (J Jx:List eF->World->Prop) (lv:Nat) (v:JV) (pre:List eF) (W:World) (e:Ending) (W':World):Prop :=
 (e=.returned (.bool true)/\∃ ys,ys.map eh=dD lv v/\J (pre++ys) W'/\KpC C w0.heap.size W W')∨(e=.returned (.bool false)/\∃ ys,Jx ys W')
abbrev vB (yb ib:Nat):Value:=.func (.func 228) #[] #[Zp (some ⟨yb,0,none⟩),Zp (some ⟨ib,0,none⟩)]
theorem qz (l:Nat) (w0:World) (C:Nat->Prop) (NC:Nat) (v0:JV) (J Jx:List eF->World->Prop) (yb ib:Nat) (hC0:∀ k,C k->w0.heap.size<=k) (hCN:∀ k,C k->k<NC) (hyC:¬ C yb) (hiC:¬ C ib)
  (hJ:∀ s A B,Below A.heap.size A B->J s A->J s B) (hY:YN l w0 C v0 J Jx):∀ (M:Nat) (v:JV),bf v<=M->∀ (lv:Nat) (pre:List eF) (rest:List (Nat × JV)) (cs:List Value) (W:World),
  VR w0 jp cs v->ah jp w0 W->J pre W->Blk W yb 274 #[.func (.yield l) #[] #[]]->Blk W ib 274 #[vB yb ib]->dD 0 v0=pre.map eh++(dD lv v++rest)->lv+bf v<=4194304->NC<=W.heap.size ->
  Calls Tryz.prog 228 #[Zi Zq lv,.agg cs.toArray,Zp (some ⟨yb,0,none⟩),Zp (some ⟨ib,0,none⟩)] W (uI w0 C J Jx lv v pre W)
 | 0,v,h,_,_,_,_,_,_,_,_,_,_,_,_,_=>by have:=dS v;omega
 |M+1,.mk k n s kids keys,hM,lv,pre,rest,cs,W,hv,hK,hJ0,hyb,hib,hfl,hlv,hNC=>by
  have ih:=qz l w0 C NC v0 J Jx yb ib hC0 hCN hyC hiC hJ hY M;obtain ⟨A,B,ca,cb,css,rfl,h1,h2,h3,h4,h5,h6,h7⟩:=hv.out;have HIH:=aW (λ (i:Nat) (x:JV) (hx:kids[i]? = some x)=>rU h1 h6 hx);unfold bf at hM hlv;have hkl:=mL kids;have hfl2:dD 0 v0=pre.map eh++((lv,JV.mk k n s kids keys)::bZ (lv+1) kids++rest):=hfl;obtain ⟨nk,hnk⟩:∃ nk,kids.length=nk:=⟨_,rfl⟩
  obtain ⟨ny,hny⟩:∃ ny,keys.length=ny:=⟨_,rfl⟩
  rw [hnk] at h2 hkl hv;rw [hny] at h3 hv;rw [hnk,hny];have hb1:=(Below.refl W.heap.size W).alloc (Nat.le_refl _) (.cells #[Zi Zq k,Zi Zq n,Zt ⟨s.toArray⟩,Zs A nk ca,Zs B ny cb] 42);obtain ⟨fn,tmps,assign,body,hy,hR⟩:=hY pre (lv,.mk k n s kids keys,#[Zi Zq k,Zi Zq n,Zt ⟨s.toArray⟩,Zs A nk ca,Zs B ny cb]) _ (hJ _ _ _ hb1 hJ0)
   ⟨hv,by rw [hfl2,List.map_append];exact ⟨bZ (lv+1) kids++rest,by simp [eh]⟩⟩
  unfold xo at hy;simp only at hy;have hbk:=Blk.new W 42 #[Zi Zq k,Zi Zq n,Zt ⟨s.toArray⟩,Zs A nk ca,Zs B ny cb];have hgC:¬ C W.heap.size:=λ h=>by have:=hCN _ h;omega
  have HKB:=aW hb1;have HBK:=aW hbk;have HI:=aW ih;have HJ:=aW hJ;have HK:=aW hK;have HYB:=aW hyb;have HIB:=aW hib;have HFL:=aW hfl2;have HNK:=aW hnk;have HC0:=aW hC0;obtain ⟨a1,b1,d1⟩:=(hyb.alloc (.cells #[Zi Zq k,Zi Zq n,Zt ⟨s.toArray⟩,Zs A nk ca,Zs B ny cb] 42)).rules;clear hv hK hyb hib hfl hfl2 h1 h4 h5 h6 h7 hbk hb1 ih hJ hY hJ0 hnk hny hC0 hCN;refine (callsIn_wide (n:=2)).1 ?_;refine callsIn_of_wp Tryz.func228 rfl trivial ?_ rfl;simp only [Tryz.ntmps228,List.size_toArray,List.length_cons,List.length_nil,Nat.reduceAdd,Nat.reduceSub,Array.replicate_succ,Array.replicate_zero,List.push_toArray,List.append_toArray,List.nil_append,List.cons_append];gi_wp2;refine hR.mono ?_;rintro e W3 (⟨rfl,hJ3,hk3⟩ | ⟨rfl,hJx3,hk3⟩)
  ·have hk1:KpC C w0.heap.size W W3:=(KpC.of_below HKB.out).trans hk3;obtain ⟨c1,f1,l1⟩:=(hk3.blk HBK.out hgC).rules;have z3:=c1 3;simp at z3;have HK1:=aW hk1;have HJ3:=aW hJ3;clear hk1 hk3 hJ3 hR hy a1 b1 d1;gi_wp2;clear c1 f1 l1 z3
   gi_loopg [17] nk (λ gk s17 wr => ∃ (i:Nat) (ys:List eF),i<=nk/\gk=nk-i/\s17=Zi Zq i/\Hid (ys.map eh=(lv,.mk k n s kids keys)::bZ (lv+1) (kids.take i))/\Hid (J (pre++ys) wr)/\Hid (KpC C w0.heap.size W wr))
   case atStart=>exact ⟨0,[(lv,.mk k n s kids keys,#[Zi Zq k,Zi Zq n,Zt ⟨s.toArray⟩,Zs A nk ca,Zs B ny cb])],Nat.zero_le _,rfl,by go_num,aW (by simp [eh,bZ]),HJ3,HK1⟩
   case round =>
    obtain ⟨i,ys,hi,hgk,rfl,HYS,HJw,HKw⟩:=hrel;have HG:=aW hgk;clear hgk HK1 HJ3;by_cases hlt:i<nk
    ·obtain ⟨x,hx⟩:∃ x,kids[i]? = some x:=⟨_,List.getElem?_eq_getElem (by rw [HNK.out];exact hlt)⟩
     obtain ⟨b,o,k',n',s',A',na,ca',B',nb,cb',rfl,hb,hvx,hz⟩:=HIH.out i x hx;have hKF:=HKw.out.keepF HK.out HC0.out;obtain ⟨q0,q1,q2,q3,q4⟩:=hz _ hKF;have hyw:=HKw.out.blk HYB.out hyC;have hiw:=HKw.out.blk HIB.out hiC;obtain ⟨hf1,hf2⟩:=vn (lv:=lv+1) hx;obtain ⟨hn1,hn2⟩:=iY hx;have hbA:=(Below.refl wr.heap.size wr).alloc (Nat.le_refl _) (.cells #[Zi Zq k',Zi Zq n',Zt s',Zs A' na ca',Zs B' nb cb'] 42);have hcl:=HI.out x (by omega) (lv+1) (pre++ys) (bZ (lv+1) (kids.drop (i+1))++rest) _ _ hvx (hKF.bel hbA) (HJ.out _ _ _ hbA HJw.out) (hyw.alloc _) (hiw.alloc _)
      (by rw [HFL.out,List.map_append,HYS.out,hf2];simp) (by omega) (by have:=HKw.out.1;simp;omega)
     rw [show ((lv+1:Nat):Int)=(lv:Int)+1 by omega] at hcl;have HCL:=aW hcl;have HF1:=aW hf1;have HKA:=aW (HKw.out.trans (KpC.of_below hbA));obtain ⟨d1,d2,d3⟩:=(hyw.alloc (.cells #[Zi Zq k',Zi Zq n',Zt s',Zs A' na ca',Zs B' nb cb'] 42)).rules;obtain ⟨e1,e2,e3⟩:=(hiw.alloc (.cells #[Zi Zq k',Zi Zq n',Zt s',Zs A' na ca',Zs B' nb cb'] 42)).rules;clear hcl hf1 hf2 hn1 hn2 hbA hz hvx hx hKF hyw hiw;gi_wp2;refine ⟨trivial,CallsIn.mono (callsIn_wide.2 HCL.out) ?_⟩;rintro e W5 (⟨rfl,zs,hzs,hJ5,hk5⟩ | ⟨rfl,zs,hJx5⟩)
     ·have HJ5:=aW hJ5;have HK5:=aW (HKA.out.trans hk5);have HZ:=aW hzs;clear hJ5 hk5 hzs;gi_wp2
      gi_roundg (nk-(i+1))
      case measure=>rw [HG.out];omega
      case rel=>exact ⟨i+1,ys++zs,hlt,rfl,by go_num,aW (by rw [List.map_append,HYS.out,HZ.out,HF1.out];simp),aW (by rw [← List.append_assoc];exact HJ5.out),HK5⟩
     ·gi_wp2;go_ret;exact .inr ⟨rfl,zs,hJx5⟩
    ·obtain rfl:i=nk:=by omega
     gi_wp2;go_ret;refine .inl ⟨rfl,ys,?_,HJw.out,HKw.out⟩;have h:=HYS.out;rw [List.take_of_length_le (by rw [HNK.out];exact Nat.le_refl _)] at h;exact h
  ·have HJX:=aW hJx3;clear hJx3 hk3 hR hy a1 b1 d1;gi_wp2;go_ret;exact .inr ⟨rfl,_,HJX.out⟩
theorem xe (k n:Int) (s:ByteArray) (A B:Option Addr) (nk ca ny cb:Nat) (w:World) :
  Calls Tryz.prog 215 #[.agg #[Zi Zq k,Zi Zq n,Zt s,Zs A nk ca,Zs B ny cb]] w λ e w'=>e=.returned (.func (.func 227) #[] #[Zp (some ⟨w.heap.size,0,none⟩)])/\w.alloc (.cells #[Zi Zq k,Zi Zq n,Zt s,Zs A nk ca,Zs B ny cb] 42)=w':=by
 have hmf:∀ (fn:Fn) (first cap:Array Value) (w:World),(Instr.makeFunc fn first cap).run Tryz.prog w=.ok (.func fn first cap) w:=λ _ _ _ _=>rfl
 go_enter Tryz.func215,Tryz.ntmps215;go_wp2;go_ret;exact ⟨rfl,rfl⟩
theorem uP (l:Nat) (w0:World) (C:Nat->Prop) (NC:Nat) (v0:JV) (J Jx:List eF->World->Prop) (hC0:∀ k,C k->w0.heap.size<=k) (hCN:∀ k,C k->k<NC)
  (hJ:∀ s A B,Below A.heap.size A B->J s A->J s B) (hY:YN l w0 C v0 J Jx) (vb:Nat) (cs:List Value) (W:World) (hv:VR w0 jp cs v0) (hK:ah jp w0 W) (hvb:Blk W vb 42 cs.toArray) (hJ0:J [] W) (hn:bf v0<=4194304) (hNC:NC<=W.heap.size) :
  CallsIn Fence.wide 2 Tryz.prog 227 #[.func (.yield l) #[] #[],Zp (some ⟨vb,0,none⟩)] W λ e W'=>(∃ v,e=.returned v)/\((∃ xs,xs.map eh=dD 0 v0/\J xs W')∨(∃ pre,True/\Jx pre W')):=by
 have hmf:∀ (fn:Fn) (first cap:Array Value) (w:World),(Instr.makeFunc fn first cap).run Tryz.prog w=.ok (.func fn first cap) w:=λ _ _ _ _=>rfl
 have hb2:Below W.heap.size W ((W.alloc (.cells #[.func (.yield l) #[] #[]] 274)).alloc (.cells #[vB W.heap.size (W.heap.size+1)] 274)):=((Below.refl _ W).alloc (Nat.le_refl _) _).alloc (by simp) _;have hib:=Blk.new (W.alloc (.cells #[.func (.yield l) #[] #[]] 274)) 274 #[vB W.heap.size (W.heap.size+1)];rw [World.size_alloc] at hib;have hcl:=qz l w0 C NC v0 J Jx W.heap.size (W.heap.size+1) hC0 hCN (λ h=>by have:=hCN _ h;omega) (λ h=>by have:=hCN _ h;omega) hJ hY _ v0 (Nat.le_refl _) 0 [] [] cs _ hv (hK.bel hb2) (hJ _ _ _ hb2 hJ0)
  ((Blk.new W 274 #[.func (.yield l) #[] #[]]).alloc _) hib (by simp) (by omega) (by simp;omega)
 rw [show ((0:Nat):Int)=0 from rfl] at hcl;obtain ⟨k,n,s,A,na,ca,B,nb,cb,rfl⟩:=hv.form;have HCL:=aW hcl;obtain ⟨c1,f1,l1⟩:=(hvb.keep hb2).rules;obtain ⟨d1,d2,d3⟩:=hvb.rules;clear hcl hib hb2 hvb hY hJ hK hv hJ0;refine callsIn_of_wp Tryz.func227 rfl trivial ?_ rfl;simp only [Tryz.ntmps227,List.size_toArray,List.length_cons,List.length_nil,Nat.reduceAdd,Nat.reduceSub,Array.replicate_succ,Array.replicate_zero,List.push_toArray,List.append_toArray,List.nil_append,List.cons_append];gi_wp2;refine ⟨trivial,CallsIn.mono (callsIn_wide.2 HCL.out) ?_⟩;rintro e W5 (⟨rfl,ys,hys,hJ5,_⟩ | ⟨rfl,ys,hJx⟩)
 ·gi_wp2;go_end0;exact ⟨⟨_,rfl⟩,.inl ⟨ys,hys,hJ5⟩⟩
 ·gi_wp2;go_end0;exact ⟨⟨_,rfl⟩,.inr ⟨ys,trivial,hJx⟩⟩
end
section
open Go.RowKit
attribute [local go_sem] aa ac ae ab
def eo (l:List UInt8) (p:Nat):pg :=
 let r:=cg l p
 if r.2.2=0 then .inl (3,(l.drop p).take (r.2.1.toNat-p),r.1,r.2.1.toNat) else .inr (r.2.1,r.2.2)
def iL (l:List UInt8) (p:Nat):pg :=
 let r:=cI l p
 if r.2.2=0 then .inl (4,r.1,0,r.2.1.toNat) else .inr (r.2.1,r.2.2)
theorem wF (w:World) (g:Nat) (A:Option Addr) (cap:Nat) (l:List UInt8) (p:Nat) (hG:GOK w) (hV:VB w g A cap l p 0) (hp:p<l.length) (hcap:l.length<=cap) (hlen:l.length<=4194304) :
  Calls Tryz.prog 131 #[Zp (some ⟨g,0,none⟩)] w (fK (iL l p) p w g A cap l):=by
 obtain ⟨hc,hf,hlt⟩:=hV.1.rules;have hgw:g<w.heap.size:=hV.1.lt;have HV:=aW hV;have HG:=aW hG;have hbs:=λ W (hr:Rd W A (ak l)) hg=>uj (Zs A l.length cap) l p W hg ⟨A,cap,rfl,hcap,hr⟩ hlen
 obtain ⟨⟨t,m,er⟩,hr⟩:∃ r,cI l p=r:=⟨_,rfl⟩
 rw [hr] at hbs;have HO:=aW (show er=0->∃ n:Nat,m=n/\p<n/\n<=l.length from λ h=>by have:=qS (l:=l) (a:=p);rw [hr] at this;exact this h);have HS:=aW (show iL l p=if er=0 then .inl (4,t,0,m.toNat) else .inr (m,er) by unfold iL;rw [hr]);have HQ:=aW hbs;clear hV hG hbs hr;unfold cG at hc;have HQ1:=aW (HQ.out ((w.alloc (.cells #[Zi Zq 0,Zi Zq 0,Zt ⟨#[]⟩,Zi Zq 0] 86)).drew) (HV.out.2.alloc _) ((HG.out.alloc _).drewN 1));have hst0:a8 w g A cap l p 0 ((w.alloc (.cells #[Zi Zq 0,Zi Zq 0,Zt ⟨#[]⟩,Zi Zq 0] 86)).drew):=((a8.refl HV.out).alloc _).drewN 1;have hr0:Blk (w.alloc (.cells #[Zi Zq 0,Zi Zq 0,Zt ⟨#[]⟩,Zi Zq 0] 86)) w.heap.size 86 #[Zi Zq 0,Zi Zq 0,Zt ⟨#[]⟩,Zi Zq 0]:=Blk.new _ _ _;go_enter Tryz.func131,Tryz.ntmps131;go_wp2;go_region_held3 (λ w'=>w'.cell? ⟨g,0,none⟩=some (Zi Zq (p:Int))/\w'.cell? ⟨g,2,none⟩=some (Zs A l.length cap)) (go_keep) ((go_at_call 169;refine HQ1.out.mono ?_;rintro e w1 ⟨rfl,hb1⟩;have hst1:=hst0.keep hb1;have hR1:=(hr0.drew).keep hb1;have h10:=hst1.1.1.cell 0;have h12:=hst1.1.1.cell 2;unfold cG at h10 h12;simp at h10 h12));have hn:=hR1.lt;have hg1:=hst1.1.1.lt;have hf1:=hst1.1.1.frozen;have hfr:=hR1.frozen;have hcr:=hR1.cell;by_cases her:er=0
 ·obtain ⟨n,hn1,hn2,hn3⟩:=HO.out her;subst her;subst hn1;have hz:((0:Int) != 0)=false:=rfl;go_wp2;have hR2:=hR1.far (p:=⟨g,0,none⟩) (show w.heap.size≠g by omega) (Zi Zq n);obtain ⟨cf,_,_⟩:=((Blk.put4 hR2 (Zi Zq 4) (Zi Zq p) (Zt ⟨t.toArray⟩) (Zi Zq 0)).alloc (.cells #[Zi Zq 4,Zi Zq p,Zt ⟨t.toArray⟩,Zi Zq 0] 86)).rules;refine bodyPost_ret (v:=.agg #[Zi Zq 4,Zi Zq p,Zt ⟨t.toArray⟩,Zi Zq 0]) (by simp only [results,Tryz.results131];go_simp) rfl ?_;rw [HS.out,if_pos trivial,Int.toNat_natCast];exact ⟨rfl,((hst1.set0 n).put4 hR2 (Nat.le_refl _) hgw _ _ _ _).alloc _⟩
 ·have hz:(er != 0)=true:=by simp;omega
  go_wp2_with (go_at_call 167;refine (gy _ g _ cap l _ _ _ _ hst1.1).mono ?_;rintro e w3 ⟨rfl,hst5⟩;have hR3:=hR1.grown hst5.2 (by simp;omega);obtain ⟨cr3,fr3,lr3⟩:=hR3.rules;unfold gZ);obtain ⟨cf,_,_⟩:=(Blk.put4 hR3 (Zi Zq 0) (Zi Zq 0) (Zt ⟨#[]⟩) (Zi Zq 0)).rules;refine bodyPost_ret (v:=.agg #[Zi Zq 0,Zi Zq 0,Zt ⟨#[]⟩,Zi Zq 0]) (by simp only [results,Tryz.results131];go_simp) rfl ?_;rw [HS.out,if_neg her];exact ⟨rfl,(hst1.trans hst5).put4 hR3 (Nat.le_refl _) hgw _ _ _ _⟩
theorem r8 (w:World) (g:Nat) (A:Option Addr) (cap:Nat) (l:List UInt8) (p:Nat) (hV:VB w g A cap l p 0) (hp:p<l.length) (hcap:l.length<=cap) (hlen:l.length<=4194304) :
  Calls Tryz.prog 129 #[Zp (some ⟨g,0,none⟩)] w (fK (eo l p) p w g A cap l):=by
 obtain ⟨hc,hf,hlt⟩:=hV.1.rules;have hgw:g<w.heap.size:=hV.1.lt;obtain ⟨b,o,rfl,hb,_⟩:=hV.byte (List.getElem?_eq_getElem hp);have HV:=aW hV;have hbs:=λ W (hr:Rd W (some ⟨b,o,none⟩) (ak l))=>qL W (Zs (some ⟨b,o,none⟩) l.length cap) l p ⟨_,cap,rfl,hcap,hr⟩ hlen
 obtain ⟨⟨v,m,er⟩,hr⟩:∃ r,cg l p=r:=⟨_,rfl⟩
 rw [hr] at hbs;have HO:=aW (show er=0->∃ n:Nat,m=n/\p<=n/\n<=l.length from λ h=>by have:=mN (l:=l) (a:=p);rw [hr] at this;exact this h);have HS:=aW (show eo l p=if er=0 then .inl (3,(l.drop p).take (m.toNat-p),v,m.toNat) else .inr (m,er) by unfold eo;rw [hr]);have HQ:=aW hbs;clear hV hbs hr;unfold cG at hc;have HQ1:=aW (HQ.out ((w.alloc (.cells #[Zi Zq 0,Zi Zq 0,Zt ⟨#[]⟩,Zi Zq 0] 86)).drew) (HV.out.2.alloc _));have hst0:a8 w g (some ⟨b,o,none⟩) cap l p 0 ((w.alloc (.cells #[Zi Zq 0,Zi Zq 0,Zt ⟨#[]⟩,Zi Zq 0] 86)).drew):=((a8.refl HV.out).alloc _).drewN 1;have hr0:Blk (w.alloc (.cells #[Zi Zq 0,Zi Zq 0,Zt ⟨#[]⟩,Zi Zq 0] 86)) w.heap.size 86 #[Zi Zq 0,Zi Zq 0,Zt ⟨#[]⟩,Zi Zq 0]:=Blk.new _ _ _;go_enter Tryz.func129,Tryz.ntmps129;go_wp2;go_region_held3 (λ w'=>w'.cell? ⟨g,0,none⟩=some (Zi Zq (p:Int))/\w'.cell? ⟨g,2,none⟩=some (Zs (some ⟨b,o,none⟩) l.length cap)) (go_keep) ((go_at_call 168;refine HQ1.out.mono ?_;rintro e w1 ⟨rfl,hb1⟩;have hst1:=hst0.keep hb1;have hR1:=(hr0.drew).keep hb1;have h10:=hst1.1.1.cell 0;have h12:=hst1.1.1.cell 2;unfold cG at h10 h12;simp at h10 h12));have hn:=hR1.lt;have hg1:=hst1.1.1.lt;by_cases her:er=0
 ·obtain ⟨n,hn1,hn2,hn3⟩:=HO.out her;have HS2:=aW (HS.out.trans (if_pos her));have HE:=aW her;subst hn1;have hz:(er != 0)=false:=by simp [her]
  have hw1r:Rd w1 (some ⟨b,o,none⟩) (ak l):=hst1.1.2;obtain ⟨RQ,hRQ⟩:∃ RQ:World->Prop,RQ=λ w'=>Rd w' (some ⟨b,o+p,none⟩) (ak ((l.drop p).take (n-p))):=⟨_,rfl⟩
  have hq':∀ w',RQ w'->(convert 67 9 (Zs (some ⟨b,o+p,none⟩) (n-p) (cap-p))).run Tryz.prog w'=.ok (Zt ⟨((l.drop p).take (n-p)).toArray⟩) w':=by rw [hRQ];exact λ w' h=>kc hn2 hn3 hcap h
  have hka':∀ (w':World) (o':Obj),RQ w'->RQ (w'.alloc o'):=by rw [hRQ];exact λ w' o' h=>h.alloc o'
  have hkd':∀ (w':World),RQ w'->RQ w'.drew:=by rw [hRQ];exact λ w' h=>h
  have hs2:RQ w1:=by rw [hRQ];exact pR hw1r
  have hkc:n<=cap:=by omega
  have hpc':¬ cap=p:=by omega
  clear hRQ her hst0 hr0 hw1r;go_wp2;go_region_held3 (λ w'=>w'.cell? ⟨g,0,none⟩=some (Zi Zq (p:Int))/\w'.cell? ⟨g,2,none⟩=some (Zs (some ⟨b,o,none⟩) l.length cap)/\RQ w') (go_keep) ((fail));obtain ⟨t,ht⟩:∃ t,(l.drop p).take (n-p)=t:=⟨_,rfl⟩
  rw [ht];obtain ⟨Wx,hWx⟩:∃ Wx,(w1.alloc (.cells #[Zi Zq 3,Zi Zq p,Zt ⟨t.toArray⟩,Zi Zq v] 86)).drew=Wx:=⟨_,rfl⟩
  have hT:Blk Wx w1.heap.size 86 #[Zi Zq 3,Zi Zq p,Zt ⟨t.toArray⟩,Zi Zq v]:=by rw [← hWx];exact Blk.new w1 _ _
  have hR2:Blk Wx w.heap.size 86 #[Zi Zq 0,Zi Zq 0,Zt ⟨#[]⟩,Zi Zq 0]:=by rw [← hWx];exact hR1.alloc _
  have hst2:a8 w g (some ⟨b,o,none⟩) cap l p 0 Wx:=by rw [← hWx];exact (hst1.alloc _).drewN 1
  rw [hWx];obtain ⟨N,hN⟩:∃ N,w1.heap.size=N:=⟨_,rfl⟩
  rw [hN] at hT hn hg1 ⊢;have HT:=aW ht;clear hWx hN hs2 hq' hka' hkd' hR1 hst1 ht hb h10 h12;obtain ⟨ct,ft,lt⟩:=hT.rules;obtain ⟨cr,fr,lr⟩:=hR2.rules;have hgf:=hst2.1.1.frozen;have hgc:=hst2.1.1.cell;unfold cG at hgc;go_wp2;have hR3:=hR2.far (p:=⟨g,0,none⟩) (show w.heap.size≠g by omega) (Zi Zq n);obtain ⟨cf,_,_⟩:=(Blk.put4 hR3 (Zi Zq 3) (Zi Zq p) (Zt ⟨t.toArray⟩) (Zi Zq v)).rules;refine bodyPost_ret (v:=.agg #[Zi Zq 3,Zi Zq p,Zt ⟨t.toArray⟩,Zi Zq v]) (by simp only [results,Tryz.results129];go_simp) rfl ?_;rw [HS2.out,Int.toNat_natCast,HT.out];exact ⟨rfl,(hst2.set0 n).put4 hR3 (Nat.le_refl _) hgw _ _ _ _⟩
 ·have hz:(er != 0)=true:=by simp;omega
  have HS2:=aW (HS.out.trans (if_neg her));clear her hst0 hr0;go_wp2_with (go_at_call 167;refine (gy _ g _ cap l _ _ _ _ hst1.1).mono ?_;rintro e w3 ⟨rfl,hst5⟩;have hR3:=hR1.grown hst5.2 (by simp;omega);obtain ⟨cr3,fr3,lr3⟩:=hR3.rules;unfold gZ);obtain ⟨cf,_,_⟩:=(Blk.put4 hR3 (Zi Zq 0) (Zi Zq 0) (Zt ⟨#[]⟩) (Zi Zq 0)).rules;refine bodyPost_ret (v:=.agg #[Zi Zq 0,Zi Zq 0,Zt ⟨#[]⟩,Zi Zq 0]) (by simp only [results,Tryz.results129];go_simp) rfl ?_;rw [HS2.out];exact ⟨rfl,(hst1.trans hst5).put4 hR3 (Nat.le_refl _) hgw _ _ _ _⟩
end
section
open Go.RowKit Go.Shelf
attribute [local go_sem] aa ac ae ab
theorem mD {W:World} {F:Nat->Prop} {css:List (List Value)} {xs:List JV} {A:Option Addr} (h:VRs W F css xs) (hr:RdF W F A css.flatten) {i:Nat} {x:JV} (hx:xs[i]? = some x) :
  ∃ (b o:Nat) (k n:Int) (s:ByteArray) (A':Option Addr) (na ca:Nat) (B':Option Addr) (nb cb:Nat),A=some ⟨b,o,none⟩/\b<W.heap.size/\VR W F [Zi Zq k,Zi Zq n,Zt s,Zs A' na ca,Zs B' nb cb] x /\
   ∀ W',Below W.heap.size W W'->W'.cell? ⟨b,o+i*5,none⟩=some (Zi Zq k)/\W'.cell? ⟨b,o+i*5+1,none⟩=some (Zi Zq n)/\W'.cell? ⟨b,o+i*5+2,none⟩=some (Zt s)/\W'.cell? ⟨b,o+i*5+3,none⟩=some (Zs A' na ca)/\W'.cell? ⟨b,o+i*5+4,none⟩=some (Zs B' nb cb):=by
 obtain ⟨b,o,c,rfl,hb,_,hv,hc⟩:=h.cell hr hx;obtain ⟨k,n,s,A',na,ca,B',nb,cb,rfl⟩:=hv.form;refine ⟨b,o,k,n,s,A',na,ca,B',nb,cb,rfl,hb,hv,λ W' hW=>?_⟩;have z:=λ (j:Nat) u (hj:j<5) hu=>(hW.cell (p:=⟨b,o+(i*5+j),none⟩) hb).trans (hc j u hj hu)
 exact ⟨z 0 _ (by decide) rfl,z 1 _ (by decide) rfl,z 2 _ (by decide) rfl,z 3 _ (by decide) rfl,z 4 _ (by decide) rfl⟩
def jj (w:World) (t:TypeId) (cs cs':Array Value) (wr:World):Prop:=Blk wr w.heap.size t cs/\Blk wr (w.heap.size+1) t cs'/\Below w.heap.size w wr
theorem jj.new (w:World) (t:TypeId) (cs cs':Array Value):jj w t cs cs' ((w.alloc (.cells cs t)).alloc (.cells cs' t)):=by
 refine ⟨(Blk.new w t cs).alloc _,?_,((Below.refl _ w).alloc (Nat.le_refl _) _).alloc (by simp) _⟩;have:=Blk.new (w.alloc (.cells cs t)) t cs';rw [World.size_alloc] at this;exact this
theorem jj.keep {w wr wx:World} {t:TypeId} {cs cs':Array Value} (h:jj w t cs cs' wr) (hb:Below wr.heap.size wr wx):jj w t cs cs' wx:=⟨h.1.keep hb,h.2.1.keep hb,h.2.2.trans (hb.mono h.2.2.size)⟩
theorem jj.drewN {w wr:World} {t:TypeId} {cs cs':Array Value} (h:jj w t cs cs' wr) (k:Nat):jj w t cs cs' (wr.drewN k):=⟨h.1.drewN k,h.2.1.drewN k,aj h.2.2 k⟩
theorem jj.drew {w wr:World} {t:TypeId} {cs cs':Array Value} (h:jj w t cs cs' wr):jj w t cs cs' wr.drew:=⟨h.1.drew,h.2.1.drew,h.2.2.drew⟩
def EqX (p:Prop) (w:World) (e:Ending) (w':World):Prop:=∃ t:Bool,e=.returned (.bool t)/\(t=true ↔ p)/\Below w.heap.size w w'
theorem EqX.no {p:Prop} {w w':World} (h:¬ p) (hb:Below w.heap.size w w'):EqX p w (.returned (.bool false)) w':=⟨false,rfl,by simp [h],hb⟩
theorem EqX.yes {p:Prop} {w w':World} (h:p) (hb:Below w.heap.size w w'):EqX p w (.returned (.bool true)) w':=⟨true,rfl,by simp [h],hb⟩
end
section
open Go.RowKit
attribute [local go_sem] aa ac ae ab
theorem tv {a b:ByteArray} (h:(a.toList == b.toList)=true):a=b:=by
 have:a.toList=b.toList:=by simpa using h
 rw [ByteArray.toList_eq,ByteArray.toList_eq] at this;exact je this
theorem tx {a b:ByteArray} (h:(a.toList == b.toList)=false):a≠b:=by rintro rfl;simp at h
theorem qV (c:UInt8) (t:ByteArray) (w:World) (ht:t.size<=4194304):Calls Tryz.prog 88 #[Zi .u8 c.toNat,Zt t] w λ e w'=>e=.returned (.bool ((sl t).contains c))/\w=w':=by
 obtain ⟨b,hb⟩:∃ b,(sl t).contains c=b:=⟨_,rfl⟩
 rw [hb];have HB:=aW hb;clear hb;go_enter Tryz.func88,Tryz.ntmps88;go_wp2;go_loop [5] (λ i => ∃ k:Nat,k<=t.size/\i=Zi Zq k/\b=((sl t).drop k).contains c) (λ i=>t.size-(intOf i).toNat)
 case atStart=>exact ⟨0,Nat.zero_le _,rfl,by rw [← HB.out];simp⟩
 case round =>
  obtain ⟨k,hk,rfl,hc⟩:=hrel;by_cases hlt:k<t.size
  ·have hd:(sl t).drop k=t[k]::(sl t).drop (k+1):=List.drop_eq_getElem_cons (by rw [cA];exact hlt);rw [hd] at hc;obtain ⟨x,hx⟩:∃ x,t[k]=x:=⟨_,rfl⟩
   rw [hx] at hc;have HC:=aW hc;clear hc hd;by_cases hxc:x=c
   ·subst hxc;go_wp2;go_ret;exact ⟨am (by rw [HC.out];simp),rfl⟩
   ·have hne:((x.toNat:Int) == (c.toNat:Int))=false:=by
     have:x.toNat≠c.toNat:=λ e=>hxc (UInt8.toNat_inj.1 e)
     simp;omega
    go_wp2;go_round
    case rel=>exact ⟨k+1,hlt,by go_num,by rw [HC.out,List.contains_cons];simp;intro h;exact absurd h.symm hxc⟩
    case measure=>simp [intOf];omega
  ·obtain rfl:k=t.size:=by omega
   have HC:=aW hc;clear hc;go_wp2;go_ret;exact ⟨am (by rw [HC.out,List.drop_eq_nil_of_le (by rw [cA];exact Nat.le_refl _)];rfl),rfl⟩
def fD:List UInt8->List UInt8->List (List UInt8)
 | [],acc=>[acc]
 | c::r,acc=>if c=32 then acc::fD r [] else fD r (acc++[c])
theorem yW (t:ByteArray) (f k:Nat):sl (t.extract f k)=((sl t).drop f).take (k-f):=by
 simp [sl,List.drop_take]
theorem uY {l:List UInt8} {f k:Nat} {c:UInt8} (hf:f<=k) (h:l[k]? = some c):(l.drop f).take (k+1-f)=(l.drop f).take (k-f)++[c]:=by
 rw [show k+1-f=(k-f)+1 from by omega,List.take_add_one,List.getElem?_drop,show f+(k-f)=k from by omega,h];rfl
theorem si (s t:ByteArray) (w:World) (ht:t.size<=4194304):Calls Tryz.prog 144 #[Zt s,Zt t] w λ e w'=>e=.returned (.bool (decide (sl s ∈ fD (sl t) [])))/\w=w':=by
 obtain ⟨bb,hb⟩:∃ b,decide (sl s ∈ fD (sl t) [])=b:=⟨_,rfl⟩
 rw [hb];have HB:=aW (show (sl s ∈ fD (sl t) []) ↔ bb=true by rw [← hb];simp);clear hb;go_enter Tryz.func144,Tryz.ntmps144;go_wp2;go_loop [5,6] (λ fr i => ∃ f k:Nat,k<=t.size+1/\f<=k/\fr=Zi Zq f/\i=Zi Zq k/\(k<=t.size->Hid (bb=true ↔ sl s ∈ fD ((sl t).drop k) (((sl t).drop f).take (k-f))))/\(k=t.size+1->Hid (bb=false))) (λ _ i=>t.size+1-(intOf i).toNat)
 case atStart=>exact ⟨0,0,Nat.zero_le _,Nat.le_refl _,rfl,rfl,λ _=>aW (by rw [← HB.out];simp),λ h=>by omega⟩
 case round =>
  obtain ⟨f,k,hk,hf,rfl,rfl,h1,h2⟩:=hrel;by_cases hle:k<=t.size
  ·have h1:=(h1 hle).out;have hcut:=yW t f k;obtain ⟨a,ha⟩:∃ a,t.extract f k=a:=⟨_,rfl⟩
   rw [ha] at hcut;rw [← hcut] at h1;have HCUT:=aW hcut;clear h2 hcut;by_cases hlt:k<t.size
   ·have hget:=zX t k hlt;have hd:(sl t).drop k=t[k]::(sl t).drop (k+1):=List.drop_eq_getElem_cons (by rw [cA];exact hlt);obtain ⟨x,hx⟩:∃ x,t[k]=x:=⟨_,rfl⟩
    rw [hx] at hd hget;rw [hd] at h1;have HX:=aW hget;have H1:=aW h1;have hkn:((k:Int) == (t.size:Int))=false:=by simp;omega
    clear h1 hd hget;by_cases h32:x=32
    ·subst h32;go_wp2
     ·have hq:=tv ‹(a.toList == s.toList)=true›;go_ret;refine ⟨am ?_,rfl⟩;rw [eq_comm,H1.out,fD,if_pos rfl,hq];exact List.mem_cons_self
     ·have hq:=tx ‹(a.toList == s.toList)=false›;go_round
      case rel =>
       refine ⟨k+1,k+1,by omega,Nat.le_refl _,by go_num,by go_num,λ _=>aW ?_,λ h=>by omega⟩;rw [H1.out,fD,if_pos rfl,List.mem_cons,Nat.sub_self,List.take_zero];constructor
       ·rintro (h | h)
        ·exact absurd (je h.symm) hq
        ·exact h
       ·exact .inr
      case measure=>simp [intOf];omega
    ·have hne:((x.toNat:Int) == 32)=false:=by
      have:x.toNat≠32:=λ e=>h32 (UInt8.toNat_inj.1 (by simpa using e))
      simp;omega
     go_wp2;go_round
     case rel =>
      refine ⟨f,k+1,by omega,by omega,rfl,by go_num,λ _=>aW ?_,λ h=>by omega⟩;rw [H1.out,fD,if_neg h32,HCUT.out,uY hf HX.out]
     case measure=>simp [intOf];omega
   ·obtain rfl:k=t.size:=by omega
    rw [List.drop_eq_nil_of_le (by rw [cA];exact Nat.le_refl _),fD,List.mem_singleton] at h1;have H1:=aW h1;clear h1;go_wp2
    ·have hq:=tv ‹(a.toList == s.toList)=true›;go_ret;refine ⟨am ?_,rfl⟩;rw [eq_comm,H1.out,hq]
    ·have hq:=tx ‹(a.toList == s.toList)=false›;go_round
     case rel =>
      refine ⟨t.size+1,t.size+1,by omega,Nat.le_refl _,by go_num,by go_num,λ h=>by omega,λ _=>aW ?_⟩;rw [Bool.eq_false_iff,Ne,H1.out];exact λ h=>hq (je h.symm)
     case measure=>first | (simp [intOf];done) | (simp [intOf];omega)
  ·obtain rfl:k=t.size+1:=by omega
   have H2:=h2 rfl;clear h1 h2;go_wp2;go_ret;exact ⟨am H2.out.symm,rfl⟩
end
end Go.Proofs.YtgmnmnnoahdjnaaGreatDoor
