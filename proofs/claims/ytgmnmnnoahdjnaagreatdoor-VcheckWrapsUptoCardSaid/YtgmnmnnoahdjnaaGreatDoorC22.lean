import Derived.Test.YtgmnmnnoahdjnaaGreatDoorRows
import Derived.Deep.Strs
import Derived.Test.YtgmnmnnoahdjnaaGreatDoorC20
import Derived.Test.YtgmnmnnoahdjnaaGreatDoorC19
open Go.Value renaming int → Zi, slice → Zs, string → Zt, pointer → Zp
open Go.IntKind renaming i64 → Zq
set_option maxRecDepth 100000
set_option maxHeartbeats 16000000
set_option linter.unusedVariables false
set_option linter.unusedSimpArgs false
namespace Go.Proofs.YtgmnmnnoahdjnaaGreatDoor
section
open Go.RowKit Go.Deep Go.ChangeShapes Go.WideShapes
section
variable {H:Type} {enc:TypeId × Value->H} {W:World}
theorem ti (a:Addr):∀ (elems:List (DataW H × List MemPlace)) (a0:Nat),(∀ i,i<elems.length->∃ c v y,elems[i]? = some y/\W.cells? 0 (a.add ((a0+i)*5)) 5=some c/\VR W TT c v/\inJ v/\b8 v<=Rows.uptoBulk y.1) ->
  ∃ css kids,VRs W TT css kids/\kids.length=elems.length/\(∀ i c,css[i]? = some c->W.cells? 0 (a.add ((a0+i)*5)) 5=some c)/\inL kids/\dh kids<=Rows.uptoBulkAll (elems.map (·.1))
 | [],_,_=>⟨[],[],VRs.nil,rfl,λ i c h=>by simp at h,trivial,Nat.zero_le _⟩
 |y::r,a0,h=>by
  obtain ⟨c,v,y',e,h1,h2,h3,h4⟩:=h 0 (by simp);obtain rfl:y=y':=by simpa using e
  obtain ⟨css,kids,k1,k2,k3,k4,k5⟩:=ti a r (a0+1) (λ i hi=>by
   obtain ⟨c,v,y',e,h1,h2,h3,h4⟩:=h (i+1) (by simp;omega);exact ⟨c,v,y',by simpa using e,by rw [show a0+1+i=a0+(i+1) by omega];exact h1,h2,h3,h4⟩)
  refine ⟨c::css,v::kids,⟨by simp [k1.1],λ i c' x' e1 e2=>?_⟩,by simp [k2],λ i c' e1=>?_,?_,?_⟩
  ·cases i with
   |zero =>
    obtain rfl:c=c':=by simpa using e1
    obtain rfl:v=x':=by simpa using e2
    exact h2
   | succ i=>exact k1.2 i c' x' (by simpa using e1) (by simpa using e2)
  ·cases i with
   |zero =>
    obtain rfl:c=c':=by simpa using e1
    exact h1
   | succ i=>have:=k3 i c' (by simpa using e1);rwa [show a0+1+i=a0+(i+1) by omega] at this
  ·unfold inL;exact ⟨h3,k4⟩
  ·unfold dh;rw [List.map_cons];unfold Rows.uptoBulkAll;omega
theorem Ah (a:Addr) {css:List (List Value)} {kids:List JV} (h:VRs W TT css kids) (hc:∀ i c,css[i]? = some c->W.cells? 0 (a.add (i*5)) 5=some c):RdF W TT (some a) css.flatten:=by
 intro hne;have hpos:0<css.length:=by
  rcases css with _ | ⟨c,r⟩
  ·exact absurd rfl hne
  ·simp
 obtain ⟨b,o,spot⟩:=a;have h5:=h.five;have h0:=World.cells?_some (hc 0 _ (List.getElem?_eq_getElem hpos));have q0:=h0.2.2 0 (by decide);rw [List.getElem?_eq_getElem (by omega)] at q0;have hspot:spot=none:=by simpa [Addr.add] using World.cell?_spot q0
 subst hspot;have hcell:∀ i (hi:i<css.flatten.length),W.cell? ⟨b,o+i,none⟩=some css.flatten[i]:=by
  intro i hi;rw [iQ h5] at hi;have hq:i / 5<css.length:=by omega
  have hx:=World.cells?_some (hc (i / 5) _ (List.getElem?_eq_getElem hq));have hy:=hx.2.2 (i % 5) (by omega);rw [add_plain,add_plain,← kt h5 (List.getElem?_eq_getElem hq) (by omega)] at hy;rw [show o+i=o+i / 5*5+i % 5 by omega,hy,show i / 5*5+i % 5=i by omega,List.getElem?_eq_getElem]
 refine ⟨b,o,rfl,?_,trivial,hcell⟩;have hl:0<css.flatten.length:=by rw [iQ h5];omega
 have hz:=hcell 0 hl;rcases Nat.lt_or_ge b W.heap.size with hlt | hge
 ·exact hlt
 ·unfold World.cell? at hz;simp [Array.getElem?_eq_none hge] at hz
theorem tg (f:Nat->ByteArray):∀ l:List Nat,dr (l.map λ i=>(f i).data.toList)<=Rows.uptoBulkAll (H:=H) (l.map λ i=>.lit (.string (f i).data.toList))
 | []=>Nat.zero_le _
 |i::r=>by
  have:=tg f r;rw [List.map_cons,List.map_cons];unfold dr Rows.uptoBulkAll Rows.uptoBulk;omega
theorem tO {n:Int} (h:(Lit.int .i64 n).wf=true):iw n:=by
 have h:(decide (IntKind.i64.min<=n) && decide (n<=IntKind.i64.max))=true:=h;rw [Bool.and_eq_true,decide_eq_true_eq,decide_eq_true_eq] at h;have e1:IntKind.i64.min = -9223372036854775808:=by decide
 have e2:IntKind.i64.max=9223372036854775807:=by decide
 unfold iw;omega
theorem sg:∀ (fuel:Nat) (cs:List Value) (x:DataW H × List MemPlace),DataW.trod enc Tryz.prog W 0 (λ _=>true) true fuel 42 cs=some x->∃ v,VR W TT cs v/\inJ v/\b8 v<=Rows.uptoBulk x.1:=by
 intro fuel
 induction fuel using Nat.strongRecOn with
 |ind fuel ih =>
  intro cs x h;obtain ⟨xs,n,rfl,rfl,hlen,hxl,hf⟩:=DataW.trod_struct Tryz.underlying42 h;have ci:Tryz.prog.cellsOf 3=1:=by kernel_rfl
  have cl:Tryz.prog.cellsOf 2=1:=by kernel_rfl
  have ct:Tryz.prog.cellsOf 9=1:=by kernel_rfl
  have ck:Tryz.prog.cellsOf 39=1:=by kernel_rfl
  have cy:Tryz.prog.cellsOf 40=1:=by kernel_rfl
  have cv:Tryz.prog.cellsOf 42=5:=by kernel_rfl
  rw [cv] at hlen;have f0:=hf 0 _ rfl;have f1:=hf 1 _ rfl;have f2:=hf 2 _ rfl;have f3:=hf 3 _ rfl;have f4:=hf 4 _ rfl;clear hf
  match xs,hxl,cs,hlen with
  |[y0,y1,y2,y3,y4],_,[c0,c1,c2,c3,c4],_ =>
   simp [ci,cl,ct,ck,cy] at f0 f1 f2 f3 f4;obtain ⟨k,e0,rfl,w0⟩:=DataW.trod_int Tryz.underlying3 f0;obtain ⟨m,e1,rfl,w1⟩:=DataW.trod_int Tryz.underlying2 f1;obtain ⟨s,e2,rfl,w2⟩:=DataW.trod_string Tryz.underlying9 f2;obtain rfl:c0=.int .i64 k:=by simpa using e0
   obtain rfl:c1=.int .i64 m:=by simpa using e1
   obtain rfl:c2=.string s:=by simpa using e2
   obtain ⟨A,ca,css,kids,rfl,hk1,hk2,hk3,hk4,hk5,hk6⟩:∃ A ca css kids,c3=.slice A kids.length ca/\VRs W TT css kids/\kids.length<=ca/\(A=none->ca=0)/\RdF W TT A css.flatten/\inL kids/\dh kids<=Rows.uptoBulk y3.1:=by
    rcases DataW.trod_slice Tryz.underlying39 f3 with ⟨e3,rfl⟩ | ⟨a,len,cap,elems,rest,n',hn,e3,rfl,hb,hl,hm,hel,hk,_,_⟩
    ·exact ⟨none,0,[],[],by simpa using e3,VRs.nil,Nat.le_refl _,λ _=>rfl,RdF.nil,trivial,Nat.zero_le _⟩
    ·rw [cv] at hk;obtain ⟨css,kids,k1,k2,k3,k4,k5⟩:=ti (W:=W) a elems 0 (λ i hi=>by
      have hq:=hk i (by omega);rw [List.getElem?_eq_getElem hi] at hq;obtain ⟨c,q1,q2⟩:=Option.bind_eq_some_iff.1 hq;obtain ⟨v,q3,q4,q5⟩:=ih n' (by omega) c _ q2;exact ⟨c,v,_,List.getElem?_eq_getElem hi,by rw [Nat.zero_add];exact q1,q3,q4,q5⟩)
     refine ⟨some a,cap,css,kids,?_,k1,by omega,λ e=>by simp at e,Ah a k1 (λ i c e=>by have:=k3 i c e;rwa [Nat.zero_add] at this),k4,?_⟩
     ·rw [k2,hel];simpa using e3
     ·show _<=Rows.uptoBulk (.slice _ _);unfold Rows.uptoBulk;omega
   obtain ⟨B,cb,keys,rfl,hy1,hy2,hy3,hy4⟩:∃ B cb keys,c4=.slice B keys.length cb/\keys.length<=cb/\(B=none->cb=0)/\RdF W TT B (bY keys)/\dr keys<=Rows.uptoBulk y4.1:=by
    rcases open_strs Tryz.underlying40 Tryz.underlying9 ct f4 with ⟨e4,rfl⟩ | ⟨a,len,cap,q,Sx,e4,hb,hl,hm,hq,rfl,hx⟩
    ·exact ⟨none,0,[],by simpa using e4,Nat.le_refl _,λ _=>rfl,RdF.nil,Nat.zero_le _⟩
    ·simp at hq;subst hq;refine ⟨some a,q,(List.range len).map λ i=>(Sx i).data.toList,by simpa using e4,by simpa using hl,λ e=>by simp at e,λ hne=>?_,?_⟩
     ·have hpos:0<len:=by
       rcases len with _ | len
       ·exact absurd rfl hne
       ·omega
      obtain ⟨b,o,spot⟩:=a;have q0:=(hx 0 (by omega)).1;have hspot:spot=none:=by simpa [Addr.add] using World.cell?_spot q0
      subst hspot;refine ⟨b,o,rfl,?_,trivial,λ i hi=>?_⟩
      ·rcases Nat.lt_or_ge b W.heap.size with hlt | hge
       ·exact hlt
       ·rw [add_plain] at q0;unfold World.cell? at q0;simp [Array.getElem?_eq_none hge] at q0
      ·have hi':i<len:=by rw [di] at hi;simpa using hi
       have:=(hx i (by omega)).1;rw [add_plain] at this;rw [this];simp [bY]
     ·have:=tg (H:=H) Sx (List.range len);show _<=Rows.uptoBulk (.slice _ _);unfold Rows.uptoBulk;omega
   obtain ⟨ss,rfl⟩:∃ ss:List UInt8,s=⟨ss.toArray⟩:=⟨s.data.toList,by simp⟩
   refine ⟨.mk k m ss kids keys,VR.into k m ss hk1 hk2 hy1 hk3 hy2 hk4 hy3 rfl rfl,?_,?_⟩
   ·unfold inJ;exact ⟨tO w0,tO w1,hk5⟩
   ·unfold b8;simp only [List.map_cons,List.map_nil];unfold Rows.uptoBulk Rows.uptoBulkAll Rows.uptoBulkAll Rows.uptoBulkAll Rows.uptoBulkAll Rows.uptoBulkAll Rows.uptoBulkAll;have:Rows.uptoBulk (H:=H) (.lit (.string ss))=ss.length+1:=by unfold Rows.uptoBulk;rfl
    have e2:(Lit.string (ByteArray.mk ss.toArray).data.toList)=.string ss:=by simp
    rw [e2,this];omega
end
end
section
open Go.RowKit
attribute [local go_sem] aa ac ae ab
theorem gT {W:World} {F:Nat->Prop} {css:List (List Value)} {xs:List EJ} {A:Option Addr} (h:ERs W F css xs) (hr:RdF W F A css.flatten) {i:Nat} {x:EJ} (hx:xs[i]? = some x) :
  ∃ (b o:Nat) (k k1 n1:Int) (s1:ByteArray) (A1:Option Addr) (na1 ca1:Nat) (B1:Option Addr) (nb1 cb1:Nat) (s:ByteArray) (A2:Option Addr) (n2 ca2:Nat),A=some ⟨b,o,none⟩/\b<W.heap.size /\
   ER W F [Zi Zq k,Zi Zq k1,Zi Zq n1,Zt s1,Zs A1 na1 ca1,Zs B1 nb1 cb1,Zt s,Zs A2 n2 ca2] x /\
   ∀ W',Below W.heap.size W W'->W'.cell? ⟨b,o+i*8,none⟩=some (Zi Zq k)/\W'.cell? ⟨b,o+i*8+1,none⟩=some (Zi Zq k1)/\W'.cell? ⟨b,o+i*8+2,none⟩=some (Zi Zq n1)/\W'.cell? ⟨b,o+i*8+3,none⟩=some (Zt s1) /\
    W'.cell? ⟨b,o+i*8+4,none⟩=some (Zs A1 na1 ca1)/\W'.cell? ⟨b,o+i*8+5,none⟩=some (Zs B1 nb1 cb1)/\W'.cell? ⟨b,o+i*8+6,none⟩=some (Zt s)/\W'.cell? ⟨b,o+i*8+7,none⟩=some (Zs A2 n2 ca2):=by
 obtain ⟨b,o,c,rfl,hb,_,hc,hv,hz⟩:=h.cell (λ c x h=>h.len) (by decide) hr hx;obtain ⟨k,k1,n1,s1,A1,na1,ca1,B1,nb1,cb1,s,A2,n2,ca2,rfl⟩:=hv.form;refine ⟨b,o,k,k1,n1,s1,A1,na1,ca1,B1,nb1,cb1,s,A2,n2,ca2,rfl,hb,hv,λ W' hW=>?_⟩;have z:=λ (j:Nat) u (hj:j<8) hu=>(hW.cell (p:=⟨b,o+(i*8+j),none⟩) hb).trans (hz j u hj hu)
 exact ⟨z 0 _ (by decide) rfl,z 1 _ (by decide) rfl,z 2 _ (by decide) rfl,z 3 _ (by decide) rfl,z 4 _ (by decide) rfl,z 5 _ (by decide) rfl,z 6 _ (by decide) rfl,z 7 _ (by decide) rfl⟩
mutual
/-- what came in: an expression all parts of which are of a size -/
def cd:EJ->Prop | .mk k v s kids=>iw k/\dq v/\s.length<=4194304/\kids.length<=4194304/\ic kids
def ic:List EJ->Prop | []=>True | x::r=>cd x/\ic r
end
theorem cc:∀ {xs:List EJ},ic xs ↔ ∀ x ∈ xs,cd x
 | []=>by simp [ic]
 | x::r=>by simp [ic,cc (xs:=r)]
theorem zy (x:EJ) (cs:List Value) (F:Nat->Prop) (w:World) (hx:ER w F cs x) (hc:cd x):Calls Tryz.prog 80 #[.agg cs.toArray] w λ e w'=>e=.returned (.bool (fW x))/\Below w.heap.size w w':=by
 obtain ⟨k,v,s,kids⟩:=x;have HX:=aW (λ (W:World) (h:Below w.heap.size w W)=>hx.bel h);obtain ⟨k1,n1,s1,A1,na1,ca1,B1,nb1,cb1,A,ca,css,rfl,hv,h1,h2,h3,h4⟩:=hx.out;unfold cd at hc;obtain ⟨_,hcv,_,hck,_⟩:=hc;have HZ:=aW (λ (W:World) (h:Below w.heap.size w W)=>vB v _ F W (hv.bel h) hcv);obtain ⟨nk,hnk⟩:∃ q,kids.length=q:=⟨_,rfl⟩
 obtain ⟨z,hz⟩:∃ z,ig v=z:=⟨_,rfl⟩
 have HR:=aW (show fW (.mk k v s kids)=(decide (k=0/\s=[]/\nk=0) && z) by unfold fW;simp only [hz,hnk]);rw [HR.out,hnk];rw [hnk] at hck;rw [hz] at HZ;have HH0:=aW ((aT.nil w).push 45 #[Zi Zq k,Zi Zq k1,Zi Zq n1,Zt s1,Zs A1 na1 ca1,Zs B1 nb1 cb1,Zt ⟨s.toArray⟩,Zs A nk ca] (g:=w.heap.size) rfl);clear hx hv h1 h2 h3 h4 hcv hnk hz HR HX;by_cases h1:k=0
 ·have e1:(k == 0)=true:=by simp [h1]
  have H1:=aW h1;clear h1;by_cases hs:s=[];rotate_left
  ·go_enter Tryz.func80,Tryz.ntmps80;go_wp2;go_ret;exact ⟨av (by simp [hs]),HH0.out.1⟩
  ·subst hs;by_cases h4:nk=0
   ·have e4:((nk:Int) == 0)=true:=by rw [beq_iff_eq];omega
    have H4:=aW h4;clear h4;go_enter Tryz.func80,Tryz.ntmps80;go_wp2_with fail;refine (HZ.out _ HH0.out.1).mono ?_;rintro e w1 ⟨rfl,hb1⟩;have HH1:=aW (HH0.out.keep hb1);clear hb1;go_wp2;go_ret;exact ⟨av (by simp [H1.out,H4.out]),HH1.out.1⟩
   ·have e4:((nk:Int) == 0)=false:=by rw [beq_eq_false_iff_ne];omega
    have H4:=aW h4;clear h4;go_enter Tryz.func80,Tryz.ntmps80;go_wp2;go_ret;exact ⟨av (by simp [H4.out]),HH0.out.1⟩
 ·have e1:(k == 0)=false:=by simp [h1]
  have H1:=aW h1;clear h1;go_enter Tryz.func80,Tryz.ntmps80;go_wp2;go_ret;exact ⟨av (by simp [H1.out]),HH0.out.1⟩
end
section
open Go.RowKit Go.Shelf
attribute [local go_sem] aa ac ae ab
theorem mt {W:World} {F:Nat->Prop} {css:List (List Value)} {xs:List JV} {A:Option Addr} (h:VRs W F css xs) (hr:RdF W F A css.flatten) {i:Nat} {x:JV} (hx:xs[i]? = some x) :
  ∃ (b o:Nat) (k n:Int) (s:ByteArray) (A':Option Addr) (na ca:Nat) (B':Option Addr) (nb cb:Nat),A=some ⟨b,o,none⟩/\b<W.heap.size/\VR W F [Zi Zq k,Zi Zq n,Zt s,Zs A' na ca,Zs B' nb cb] x /\
   ∀ W',Below W.heap.size W W'->W'.cell? ⟨b,o+i*5,none⟩=some (Zi Zq k)/\W'.cell? ⟨b,o+i*5+1,none⟩=some (Zi Zq n)/\W'.cell? ⟨b,o+i*5+2,none⟩=some (Zt s)/\W'.cell? ⟨b,o+i*5+3,none⟩=some (Zs A' na ca)/\W'.cell? ⟨b,o+i*5+4,none⟩=some (Zs B' nb cb):=by
 obtain ⟨b,o,c,rfl,hb,_,hv,hc⟩:=h.cell hr hx;obtain ⟨k,n,s,A',na,ca,B',nb,cb,rfl⟩:=hv.form;refine ⟨b,o,k,n,s,A',na,ca,B',nb,cb,rfl,hb,hv,λ W' hW=>?_⟩;have z:=λ (j:Nat) u (hj:j<5) hu=>(hW.cell (p:=⟨b,o+(i*5+j),none⟩) hb).trans (hc j u hj hu)
 exact ⟨z 0 _ (by decide) rfl,z 1 _ (by decide) rfl,z 2 _ (by decide) rfl,z 3 _ (by decide) rfl,z 4 _ (by decide) rfl⟩
def gN (w:World) (t:TypeId) (cs cs':Array Value) (wr:World):Prop:=Blk wr w.heap.size t cs/\Blk wr (w.heap.size+1) t cs'/\Below w.heap.size w wr
theorem gN.new (w:World) (t:TypeId) (cs cs':Array Value):gN w t cs cs' ((w.alloc (.cells cs t)).alloc (.cells cs' t)):=by
 refine ⟨(Blk.new w t cs).alloc _,?_,((Below.refl _ w).alloc (Nat.le_refl _) _).alloc (by simp) _⟩;have:=Blk.new (w.alloc (.cells cs t)) t cs';rw [World.size_alloc] at this;exact this
theorem gN.keep {w wr wx:World} {t:TypeId} {cs cs':Array Value} (h:gN w t cs cs' wr) (hb:Below wr.heap.size wr wx):gN w t cs cs' wx:=⟨h.1.keep hb,h.2.1.keep hb,h.2.2.trans (hb.mono h.2.2.size)⟩
theorem gN.drewN {w wr:World} {t:TypeId} {cs cs':Array Value} (h:gN w t cs cs' wr) (k:Nat):gN w t cs cs' (wr.drewN k):=⟨h.1.drewN k,h.2.1.drewN k,ai h.2.2 k⟩
theorem gN.drew {w wr:World} {t:TypeId} {cs cs':Array Value} (h:gN w t cs cs' wr):gN w t cs cs' wr.drew:=⟨h.1.drew,h.2.1.drew,h.2.2.drew⟩
def EqX (p:Prop) (w:World) (e:Ending) (w':World):Prop:=∃ t:Bool,e=.returned (.bool t)/\(t=true ↔ p)/\Below w.heap.size w w'
theorem EqX.no {p:Prop} {w w':World} (h:¬ p) (hb:Below w.heap.size w w'):EqX p w (.returned (.bool false)) w':=⟨false,rfl,by simp [h],hb⟩
theorem EqX.yes {p:Prop} {w w':World} (h:p) (hb:Below w.heap.size w w'):EqX p w (.returned (.bool true)) w':=⟨true,rfl,by simp [h],hb⟩
theorem Bl (kids kidsq:List JV) (css css':List (List Value)) (A A':Option Addr) (nk nkq ca ca':Nat) (F F':Nat->Prop) (w:World) (hnk:kids.length=nk) (hnkq:kidsq.length=nkq) (hk9:nk<=4194304) (hkq9:nkq<=4194304) (h1:VRs w F css kids) (h6:RdF w F A css.flatten) (h1':VRs w F' css' kidsq) (h6':RdF w F' A' css'.flatten) (h2:nk<=ca) (h2':nkq<=ca')
  (heq:∀ (x y:JV) (c c':List Value) (W:World),x ∈ kids->y ∈ kidsq->Below w.heap.size w W->VR W F c x->VR W F' c' y->Calls Tryz.prog 147 #[.agg c.toArray,.agg c'.toArray] W (EqX (x=y) W)) :
  Calls Tryz.prog 183 #[Zs A nk ca,Zs A' nkq ca',.func (.func 147) #[] #[]] w (EqX (kids=kidsq) w):=by
 have HIH:=aW (λ (i:Nat) (x:JV) (hx:kids[i]? = some x)=>mt h1 h6 hx);have HIH':=aW (λ (i:Nat) (x:JV) (hx:kidsq[i]? = some x)=>mt h1' h6' hx);have HEQ:=aW heq;have HNK:=aW hnk;have HNKQ:=aW hnkq;clear h1 h6 h1' h6' heq hnk hnkq;by_cases el:nk=nkq
 case neg =>
  have HNO:=aW (show ¬ (kids=kidsq) from λ e=>el (by rw [← HNK.out,← HNKQ.out,e]));have hb1:((nk:Int) == nkq)=false:=by simp;omega
  have hb2:((nk:Int) != nkq)=true:=by simp;omega
  go_enter Tryz.func183,Tryz.ntmps183;go_wp2;go_ret;exact EqX.no HNO.out (Below.refl _ _)
 subst el;go_enter Tryz.func183,Tryz.ntmps183;go_wp2;go_loopg [17] nk (λ gk s17 wr => ∃ i:Nat,i<=nk/\gk=nk-i/\s17=Zi Zq i/\Hid (kids.take i=kidsq.take i)/\Hid (Below w.heap.size w wr))
 case atStart=>exact ⟨0,Nat.zero_le _,rfl,by go_num,aW rfl,aW (Below.refl _ _)⟩
 case round =>
  obtain ⟨i,hi,hgk,rfl,HSM,HB⟩:=hrel;have HG:=aW hgk;clear hgk;by_cases hlt:i<nk
  ·obtain ⟨x,hx⟩:∃ x,kids[i]? = some x:=⟨_,List.getElem?_eq_getElem (by rw [HNK.out];exact hlt)⟩
   obtain ⟨y,hy⟩:∃ y,kidsq[i]? = some y:=⟨_,List.getElem?_eq_getElem (by rw [HNKQ.out];exact hlt)⟩
   obtain ⟨b,o,k1,n1,s1,A1,na1,ca1,B1,nb1,cb1,rfl,hb,hvx,hz⟩:=HIH.out i x hx;obtain ⟨b',o',k2,n2,s2,A2,na2,ca2,B2,nb2,cb2,rfl,hb',hvx',hz'⟩:=HIH'.out i y hy;have hbA:=(Below.refl wr.heap.size wr).alloc (Nat.le_refl _) (.cells #[Zi Zq k1,Zi Zq n1,Zt s1,Zs A1 na1 ca1,Zs B1 nb1 cb1] 42);obtain ⟨q0,q1,q2,q3,q4⟩:=hz _ HB.out;obtain ⟨p0,p1,p2,p3,p4⟩:=hz' _ (HB.out.trans (hbA.mono HB.out.size));have hTS:=gN.new wr 42 #[Zi Zq k1,Zi Zq n1,Zt s1,Zs A1 na1 ca1,Zs B1 nb1 cb1] #[Zi Zq k2,Zi Zq n2,Zt s2,Zs A2 na2 ca2,Zs B2 nb2 cb2];have HB2:=aW (HB.out.trans (hTS.2.2.mono HB.out.size));have HCL:=aW (HEQ.out x y _ _ _ (List.mem_of_getElem? hx) (List.mem_of_getElem? hy) HB2.out (hvx.bel HB2.out) (hvx'.bel HB2.out));have HXY:=aW (show x=y->kids.take (i+1)=kidsq.take (i+1) from λ e=>by rw [List.take_add_one,List.take_add_one,HSM.out,hx,hy,e]);have HXN:=aW (show x≠y->¬ kids=kidsq from λ e h=>e (by rw [h,hy] at hx;exact (Option.some.inj hx).symm));obtain ⟨c1,f1,l1⟩:=hTS.1.rules;obtain ⟨c2,f2,l2⟩:=hTS.2.1.rules;have hb1:b<wr.heap.size:=Nat.lt_of_lt_of_le hb HB.out.size;have hb1':b'<wr.heap.size:=Nat.lt_of_lt_of_le hb' HB.out.size;clear hz hz' hvx hvx' hx hy hbA hTS;go_wp2_with fail;refine HCL.out.mono ?_;rintro e w2 ⟨tt,rfl,htt,hb2⟩;have HB3:=aW (HB2.out.trans (hb2.mono HB2.out.size));have HTT:=aW htt;clear hb2 htt;cases tt with
   |true =>
    have HK:=aW (HXY.out (HTT.out.1 (by trivial)));go_wp2;go_roundg (nk-(i+1))
    case measure=>rw [HG.out];omega
    case rel=>exact ⟨i+1,hlt,rfl,by go_num,HK,HB3⟩
   |false =>
    have HF:=aW (HXN.out (λ e=>by have:=HTT.out.2 e;cases this));go_wp2;go_ret;exact EqX.no HF.out HB3.out
  ·obtain rfl:i=nk:=by omega
   have HF:=aW (show kids=kidsq by
    have e1:=HSM.out;rwa [List.take_of_length_le (Nat.le_of_eq HNK.out),List.take_of_length_le (Nat.le_of_eq HNKQ.out)] at e1)
   go_wp2;go_ret;exact EqX.yes HF.out HB.out
theorem tL:∀ (N:Nat) (v v':JV),bU v<=N->∀ (cs cs':List Value) (F F':Nat->Prop) (w:World),VR w F cs v->VR w F' cs' v'->dq v->dq v'->Calls Tryz.prog 147 #[.agg cs.toArray,.agg cs'.toArray] w (EqX (v=v') w)
 | 0,v,_,h,_,_,_,_,_,_,_,_,_=>by have:=jD v;omega
 |N+1,.mk k n s kids keys,.mk kq nq sq kidsq keysq,hN,cs,cs',F,F',w,hv,hv',hC,hC'=>by
  have ih:=tL N;unfold bU at hN;obtain ⟨_,_,hsl,hkl,hyl,_,hck⟩:=hC.out;obtain ⟨_,_,hsl',hkl',hyl',_,hck'⟩:=hC'.out;obtain ⟨A,B,ca,cb,css,rfl,h1,h2,h3,h4,h5,h6,h7⟩:=hv.out;obtain ⟨A',B',ca',cb',css',rfl,h1',h2',h3',h4',h5',h6',h7'⟩:=hv'.out;have HEF:=aW (λ W (h:Below w.heap.size w W)=>Bl kids kidsq css css' A A' kids.length kidsq.length ca ca' F F' W rfl rfl hkl hkl' (h1.below h) (h6.keep (ah.of_below h)) (h1'.below h) (h6'.keep (ah.of_below h)) h2 h2'
   (λ x y c c' W2 hx hy hW2 hc hc'=>by
    obtain ⟨i,hi⟩:=List.mem_iff_getElem?.1 hx;obtain ⟨hn1,hn2⟩:=nX hi;exact ih x y (by omega) c c' F F' W2 hc hc' (hck x hx) (hck' y hy)))
  have HSE:=aW (λ W (h:Below w.heap.size w W)=>j4 B B' keys.length keysq.length cb cb' keys keysq W rfl rfl (h7.keep (ah.of_below h)).rd (h7'.keep (ah.of_below h)).rd h3 h3' hyl hyl');have HTB:=aW (gN.new w 42 #[Zi Zq k,Zi Zq n,Zt ⟨s.toArray⟩,Zs A kids.length ca,Zs B keys.length cb] #[Zi Zq kq,Zi Zq nq,Zt ⟨sq.toArray⟩,Zs A' kidsq.length ca',Zs B' keysq.length cb']);obtain ⟨nk,hnk⟩:∃ nk,kids.length=nk:=⟨_,rfl⟩
  obtain ⟨ny,hny⟩:∃ ny,keys.length=ny:=⟨_,rfl⟩
  obtain ⟨nkq,hnkq⟩:∃ nkq,kidsq.length=nkq:=⟨_,rfl⟩
  obtain ⟨nyq,hnyq⟩:∃ nyq,keysq.length=nyq:=⟨_,rfl⟩
  rw [hnk,hny,hnkq,hnyq] at HTB ⊢;rw [hnk,hnkq] at HEF;rw [hny,hnyq] at HSE;have y1:w.heap.size≠w.heap.size+1:=by omega
  have y2:w.heap.size+1≠w.heap.size:=by omega
  clear hv hv' hC hC' hck hck' h1 h1' h2 h2' h3 h3' h4 h4' h5 h5' h6 h6' h7 h7' hnk hny hnkq hnyq ih hN;obtain ⟨PP,hPP⟩:∃ PP:Prop,(JV.mk k n s kids keys=JV.mk kq nq sq kidsq keysq)=PP:=⟨_,rfl⟩
  rw [hPP];have HPN:=aW (show (k≠kq∨n≠nq∨s≠sq∨kids≠kidsq∨keys≠keysq)->¬ PP by
   rw [← hPP];intro h e;injection e with e1 e2 e3 e4 e5
   rcases h with h | h | h | h | h
   ·exact h e1
   ·exact h e2
   ·exact h e3
   ·exact h e4
   ·exact h e5)
  have HPY:=aW (show k=kq->n=nq->s=sq->kids=kidsq->keys=keysq->PP by rw [← hPP];rintro rfl rfl rfl rfl rfl;rfl);clear hPP;by_cases ek:k=kq
  case neg =>
   have HNO:=aW (HPN.out (.inl ek));have hb1:(k == kq)=false:=by simp [ek]
   go_enter Tryz.func147,Tryz.ntmps147;go_wp2;go_ret;exact EqX.no HNO.out HTB.out.2.2
  by_cases en:n=nq
  case neg =>
   have HNO:=aW (HPN.out (.inr (.inl en)));have hb1:(n == nq)=false:=by simp [en]
   subst ek;go_enter Tryz.func147,Tryz.ntmps147;go_wp2;go_ret;exact EqX.no HNO.out HTB.out.2.2
  by_cases es:s=sq
  case neg =>
   have HNO:=aW (HPN.out (.inr (.inr (.inl es))));have hb1:(s == sq)=false:=by simp [es]
   subst ek en;go_enter Tryz.func147,Tryz.ntmps147;go_wp2;go_ret;exact EqX.no HNO.out HTB.out.2.2
  subst ek en es;obtain ⟨dk,hdk⟩:∃ dk:Bool,decide (keys=keysq)=dk:=⟨_,rfl⟩
  rw [hdk] at HSE;have HDK:=aW hdk;clear hdk;cases dk with
  |false =>
   have HNO:=aW (HPN.out (.inr (.inr (.inr (.inr (of_decide_eq_false HDK.out))))));go_enter Tryz.func147,Tryz.ntmps147;go_wp2_with fail;refine (HSE.out _ HTB.out.2.2).mono ?_;rintro e w1 ⟨rfl,q,rfl⟩;have HTQ:=aW (HTB.out.drewN q);go_wp2;go_ret;exact EqX.no HNO.out HTQ.out.2.2
  | true =>
  have HKE:=aW (of_decide_eq_true HDK.out);go_enter Tryz.func147,Tryz.ntmps147;go_wp2_with fail;refine (HSE.out _ HTB.out.2.2).mono ?_;rintro e w1 ⟨rfl,q,rfl⟩;have HTQ:=aW (HTB.out.drewN q);obtain ⟨W1,hW1⟩:∃ W1,World.drewN ((w.alloc (.cells #[Zi Zq k,Zi Zq n,Zt ⟨s.toArray⟩,Zs A nk ca,Zs B ny cb] 42)).alloc (.cells #[Zi Zq k,Zi Zq n,Zt ⟨s.toArray⟩,Zs A' nkq ca',Zs B' nyq cb'] 42)) q=W1:=⟨_,rfl⟩
  rw [hW1] at HTQ ⊢;clear hW1;obtain ⟨c1,f1,l1⟩:=HTQ.out.1.rules;obtain ⟨c2,f2,l2⟩:=HTQ.out.2.1.rules;go_wp2_with fail;refine (HEF.out _ HTQ.out.2.2).mono ?_;rintro e w2 ⟨tt,rfl,htt,hb2⟩;have HB2:=aW (HTQ.out.2.2.trans (hb2.mono HTQ.out.2.2.size));have HTT:=aW htt;clear hb2 htt;go_wp2;go_ret;refine ⟨tt,rfl,⟨λ h=>HPY.out (by trivial) (by trivial) (by trivial) (HTT.out.1 h) HKE.out,λ h=>?_⟩,HB2.out⟩;cases tt with
  | true=>rfl
  | false=>exact absurd h (HPN.out (.inr (.inr (.inr (.inl λ e=>by have:=HTT.out.2 e;cases this)))))
end
end Go.Proofs.YtgmnmnnoahdjnaaGreatDoor
