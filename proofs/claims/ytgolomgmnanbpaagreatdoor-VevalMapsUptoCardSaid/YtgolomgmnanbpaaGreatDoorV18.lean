import Derived.Test.YtgolomgmnanbpaaGreatDoorV15
import Derived.Test.YtgolomgmnanbpaaGreatDoorV16
open Go.Value renaming int → Zi, slice → Zs, string → Zt, pointer → Zp
open Go.IntKind renaming i64 → Zq
set_option maxRecDepth 100000
set_option maxHeartbeats 16000000
set_option linter.unusedVariables false
set_option linter.unusedSimpArgs false
namespace Go.Proofs.YtgolomgmnanbpaaGreatDoor
section
open Go.RowKit
attribute [local go_sem] aa ac ae ab
theorem xe:∀ r,r<=12->uO r
 | 0,h=>tT 0 h (λ h0=>absurd rfl h0)
 | r+1,h=>tT (r+1) h (λ _=>xe r (by omega))
def qP (l:List SJ):Int:=if jb l=true then 0 else 332
def uX (q:Int) (w:World) (e:Ending) (w':World):Prop:=e=.returned (Zi Zq q)/\Below w.heap.size w w'
theorem rB (l:List SJ) (css:List (List Value)) (A:Option Addr) (n ca:Nat) (F:Nat->Prop) (w:World) (hG:GOE w) (hS:SRs w F css l) (hln:l.length=n) (hnc:n<=ca) (hR:RdF w F A css.flatten) (hC:bK l) (hn:n<=4194304) :
  Calls Tryz.prog 39 #[.agg #[Zs A n ca]] w (uX (qP l) w):=by
 have HM:=aW (λ (W:World) (h:Below w.heap.size w W)=>xe 12 (by omega) l css A n ca F W (hG.keep h) (RR.imp hS λ c x hc=>hc.bel h) hln hnc (hR.keep (af.of_below h)) hC hn);obtain ⟨b,hb⟩:∃ b,aZ 12 l=b:=⟨_,rfl⟩
 have HQ:=aW (show qP l=(if b=true then 0 else 332) by unfold qP jb;rw [hb]);unfold ux at HM;rw [hb] at HM;obtain ⟨q,hq⟩:∃ q,qP l=q:=⟨_,rfl⟩
 rw [hq] at HQ ⊢;clear hq;have HH0:=aW ((aj.nil w).push 46 #[Zs A n ca] (g:=w.heap.size) rfl);clear hG hS hln hnc hR hC hn hb;go_enter Tryz.func39,Tryz.ntmps39;go_wp2_with fail;refine (HM.out _ HH0.out.1).mono ?_;rintro e w1 ⟨rfl,hb1⟩;have HH1:=aW (HH0.out.keep hb1);clear hb1;cases b
 ·go_wp2;go_ret;exact ⟨by rw [HQ.out];rfl,HH1.out.1⟩
 ·go_wp2;go_ret;exact ⟨by rw [HQ.out];rfl,HH1.out.1⟩
theorem mm.blk {W:World} {g:Nat} {t:TypeId} {css:List (List Value)} {l:List JV} {ca:Nat} (h:VRs W TT css l) (hca:l.length<=ca) (hb:Blk W g t css.flatten.toArray):mm W (some ⟨g,0,none⟩) ca l :=
 ⟨css,h,hca,λ e=>by simp at e,λ hne=>⟨g,0,rfl,hb.lt,trivial,λ i hi=>by
  have:=hb.cell i;rw [Nat.zero_add,this];simp [hi]⟩⟩
theorem VR.top {W:World} {F:Nat->Prop} {cs:List Value} {v:JV} (h:VR W F cs v):VR W TT cs v:=h.mono λ _ _ _=>trivial
theorem VRs.one_ {W:World} {cs:List Value} {v:JV} (h:VR W TT cs v):VRs W TT [cs] [v]:=by
 have:=VRs.nil.snoc h;simpa using this
theorem VRs.two_ {W:World} {cs cs':List Value} {v v':JV} (h:VR W TT cs v) (h':VR W TT cs' v'):VRs W TT [cs,cs'] [v,v']:=by
 have:=(VRs.one_ h).snoc h';simpa using this
noncomputable def fZ (a b:JV):Int × Int:=if good a=true/\good b=true then (bp a b,0) else (0,140)
theorem qs (a b:JV) (cs cs':List Value) (g g':Nat) (F F':Nat->Prop) (w:World) (h:VR w F cs a) (h':VR w F' cs' b) (ha:gd a) (hb:gd b) (c:au a) (c':au b) (hB:Blk w g 25 cs.toArray) (hB':Blk w g' 25 cs'.toArray) :
  Calls Tryz.prog 191 #[Zp (some ⟨g,0,none⟩),Zp (some ⟨g',0,none⟩)] w λ e w'=>e=.returned (.tuple #[Zi Zq (bp a b),Zi Zq 0])/\Below w.heap.size w w':=by
 have HC:=aW (lT a b cs cs' F F' w h h' ha hb c c');obtain ⟨k0,n0,s0,A0,na0,ca0,B0,nb0,cb0,rfl⟩:=h.form;obtain ⟨k1,n1,s1,A1,na1,ca1,B1,nb1,cb1,rfl⟩:=h'.form;obtain ⟨R,hR⟩:∃ R,bp a b=R:=⟨_,rfl⟩
 rw [hR] at HC ⊢;clear h h' hR ha hb c c';obtain ⟨c1,f1,l1⟩:=hB.rules;obtain ⟨c2,f2,l2⟩:=hB'.rules;clear hB hB';go_enter Tryz.func191,Tryz.ntmps191;go_wp2_with fail;refine HC.out.mono ?_;rintro e w1 ⟨rfl,hg⟩;have HG:=aW hg;clear hg;go_wp2;go_ret2;exact ⟨rfl,HG.out.1⟩
theorem sg (a b:JV) (cs cs':List Value) (F F':Nat->Prop) (w:World) (hG:GOK w) (h:VR w F cs a) (h':VR w F' cs' b) (c:au a) (c':au b) :
  Calls Tryz.prog 172 #[.agg cs.toArray,.agg cs'.toArray] w λ e w'=>e=.returned (.tuple #[Zi Zq (fZ a b).1,Zi Zq (fZ a b).2])/\Below w.heap.size w w':=by
 have HV:=aW h.top;have HV':=aW h'.top;obtain ⟨k0,n0,s0,A0,na0,ca0,B0,nb0,cb0,rfl⟩:=h.form;obtain ⟨k1,n1,s1,A1,na1,ca1,B1,nb1,cb1,rfl⟩:=h'.form;have HT:=aW (λ (W:World) (hb:Below w.heap.size w W) (g ga gb:Nat) (t:TypeId)
   (h1:Blk W g t #[Zi Zq k0,Zi Zq n0,Zt s0,Zs A0 na0 ca0,Zs B0 nb0 cb0,Zi Zq k1,Zi Zq n1,Zt s1,Zs A1 na1 ca1,Zs B1 nb1 cb1])
   (h2:Blk W ga 25 #[Zi Zq k0,Zi Zq n0,Zt s0,Zs A0 na0 ca0,Zs B0 nb0 cb0]) (h3:Blk W gb 25 #[Zi Zq k1,Zi Zq n1,Zt s1,Zs A1 na1 ca1,Zs B1 nb1 cb1]) =>
  wI [a,b] (some ⟨g,0,none⟩) 2 2 (Zp (some ⟨ga,0,none⟩)) (Zp (some ⟨gb,0,none⟩)) W (hG.keep hb) (mm.blk (VRs.two_ (HV.out.bel hb) (HV'.out.bel hb)) (Nat.le_refl 2) h1) rfl (by intro x hx;simp at hx;rcases hx with rfl | rfl;exact c;exact c') (by omega)
   (λ e w'=>e=.returned (.tuple #[Zi Zq (fZ a b).1,Zi Zq (fZ a b).2])/\Below w.heap.size w w')
   (λ ⟨x,hx,hng⟩ W' hb'=>by
    have:fZ a b=(0,140):=by
     unfold fZ;rw [if_neg];rintro ⟨q1,q2⟩;simp at hx;rcases hx with rfl | rfl
     ·exact hng q1
     ·exact hng q2
    exact ⟨by rw [this],hb.trans (hb'.mono hb.size)⟩)
   (λ hall W' hb'=>by
    have hga:=hall a (by simp);have hgb:=hall b (by simp);have:fZ a b=(bp a b,0):=if_pos ⟨hga,hgb⟩;refine (qs a b _ _ ga gb TT TT W' ((HV.out.bel hb).bel hb') ((HV'.out.bel hb).bel hb') hga hgb c c' (h2.keep hb') (h3.keep hb')).mono ?_;rintro e w' ⟨rfl,hb2⟩;exact ⟨_,_,rfl,by rw [this],hb.trans ((hb'.trans (hb2.mono hb'.size)).mono hb.size)⟩))
 obtain ⟨R,hR⟩:∃ R,(fZ a b).1=R:=⟨_,rfl⟩
 obtain ⟨E,hE⟩:∃ E,(fZ a b).2=E:=⟨_,rfl⟩
 rw [hR,hE] at HT ⊢;have hb3:Below w.heap.size w (((w.alloc (.cells #[Zi Zq k0,Zi Zq n0,Zt s0,Zs A0 na0 ca0,Zs B0 nb0 cb0] 25)).alloc (.cells #[Zi Zq k1,Zi Zq n1,Zt s1,Zs A1 na1 ca1,Zs B1 nb1 cb1] 25))) :=
  ((Below.refl _ w).alloc (Nat.le_refl _) _).alloc (by simp) _
 have hA:=(Blk.new w 25 #[Zi Zq k0,Zi Zq n0,Zt s0,Zs A0 na0 ca0,Zs B0 nb0 cb0]).alloc (.cells #[Zi Zq k1,Zi Zq n1,Zt s1,Zs A1 na1 ca1,Zs B1 nb1 cb1] 25);have hB:=Blk.new (w.alloc (.cells #[Zi Zq k0,Zi Zq n0,Zt s0,Zs A0 na0 ca0,Zs B0 nb0 cb0] 25)) 25 #[Zi Zq k1,Zi Zq n1,Zt s1,Zs A1 na1 ca1,Zs B1 nb1 cb1];rw [World.size_alloc] at hB;have HB3:=aW hb3;have HA:=aW hA;have HBB:=aW hB;clear hb3 hA hB h h' hG c c' hR hE HV HV';have hmf:∀ (fn:Fn) (first cap:Array Value) (w:World),(Instr.makeFunc fn first cap).run Tryz.prog w=.ok (.func fn first cap) w:=λ _ _ _ _=>rfl
 have y1:w.heap.size≠w.heap.size+1:=by omega
 have y2:w.heap.size+1≠w.heap.size:=by omega
 go_enter Tryz.func172,Tryz.ntmps172;go_wp2_with fail;refine Calls.mono (HT.out _ (HB3.out.alloc HB3.out.size _) _ _ _ 25 ?h1 (HA.out.alloc _) (HBB.out.alloc _)) ?_
 case h1 =>
  have h:=Blk.new ((w.alloc (.cells #[Zi Zq k0,Zi Zq n0,Zt s0,Zs A0 na0 ca0,Zs B0 nb0 cb0] 25)).alloc (.cells #[Zi Zq k1,Zi Zq n1,Zt s1,Zs A1 na1 ca1,Zs B1 nb1 cb1] 25)) 25 #[Zi Zq k0,Zi Zq n0,Zt s0,Zs A0 na0 ca0,Zs B0 nb0 cb0,Zi Zq k1,Zi Zq n1,Zt s1,Zs A1 na1 ca1,Zs B1 nb1 cb1];rw [World.size_alloc,World.size_alloc] at h;exact h
 rintro e w1 ⟨rfl,hb1⟩;have HF:=aW hb1;clear hb1;go_wp2;go_ret2;exact ⟨rfl,HF.out⟩
def FN (F:Nat->Prop) (w:World) (b:Nat):Prop:=F b∨w.heap.size<=b
theorem VR.out5 {w W1 w1:World} {F:Nat->Prop} {cs:List Value} {v:JV} (h:VR w1 (FN F W1) cs v) (hF:∀ b,F b->b<w.heap.size) (hw:w.heap.size<=W1.heap.size) {g:Nat} (hg:w.heap.size<=g) (hg2:g<W1.heap.size) (a b c d e:Value) :
  VR (((((w1.setCell ⟨g,0,none⟩ a).setCell ⟨g,1,none⟩ b).setCell ⟨g,2,none⟩ c).setCell ⟨g,3,none⟩ d).setCell ⟨g,4,none⟩ e) (FN F w) cs v:=by
 have hk:∀ b,FN F W1 b->b≠g:=λ b hb=>by
  rcases hb with hb | hb
  ·have:=hF b hb;omega
  ·omega
 refine (h.keep (((((af.refl.set hk 0 a).set hk 1 b).set hk 2 c).set hk 3 d).set hk 4 e)).mono λ b _ hb=>?_
 rcases hb with hb | hb
 ·exact .inl hb
 ·exact .inr (by omega)
def ExP (o:Option JV) (F:Nat->Prop) (w:World) (e:Ending) (w':World):Prop:=∃ (cs:List Value) (v:JV) (b:Bool),e=.returned (.tuple #[.agg cs.toArray,.bool b])/\VR w' (FN F w) cs v/\au v/\o=(if b=true then some v else none)/\(b=true->good v=true)/\Below w.heap.size w w'
def BoP (o:Option Bool) (w:World) (e:Ending) (w':World):Prop:=∃ t b:Bool,e=.returned (.tuple #[.bool t,.bool b])/\o=(if b=true then some t else none)/\Below w.heap.size w w'
def bW (pv:Value) (F:Nat->Prop) (env:List (List UInt8 × JV)) (w:World) (y:EJ):Prop :=
 ∀ W (cs:List Value),Below w.heap.size w W->ER W F cs y->Calls Tryz.prog 41 #[pv,.agg cs.toArray] W (ExP (evE env y) F W)
def xP (w:World) (e:Ending) (w':World):Prop:=e=.returned (.tuple #[.agg #[Zi Zq 0,Zi Zq 0,Zt ⟨#[]⟩,Zs none 0 0,Zs none 0 0],.bool false])/\Below w.heap.size w w'
theorem bM (w:World):Calls Tryz.prog 40 #[] w (xP w):=by
 have HH0:=aW ((aj.nil w).push 25 cW (g:=w.heap.size) rfl);unfold cW at HH0;obtain ⟨c0,f0,l0⟩:=HH0.out.b0.rules;go_enter Tryz.func40,Tryz.ntmps40;go_wp2;refine bodyPost_ret (v:=.tuple #[.agg #[Zi Zq 0,Zi Zq 0,Zt ⟨#[]⟩,Zs none 0 0,Zs none 0 0],.bool false]) (by simp only [results,Tryz.results40];go_simp) rfl ?_;exact ⟨rfl,by go_grown⟩
def kL (b:Bool) (w:World) (e:Ending) (w':World):Prop:=e=.returned (.tuple #[.agg #[Zi Zq 2,Zi Zq (if b=true then 1 else 0),Zt ⟨#[]⟩,Zs none 0 0,Zs none 0 0],.bool true])/\Below w.heap.size w w'
def wQ (b:Bool) (w:World) (e:Ending) (w':World):Prop:=e=.returned (.agg #[Zi Zq 2,Zi Zq (if b=true then 1 else 0),Zt ⟨#[]⟩,Zs none 0 0,Zs none 0 0])/\Below w.heap.size w w'
theorem vP (b:Bool) (w:World):Calls Tryz.prog 168 #[.bool b] w (wQ b w):=by
 have HH0:=aW (((aj.nil w).push 25 #[Zi Zq 0,Zi Zq 0,Zt ⟨#[]⟩,Zs none 0 0,Zs none 0 0] (g:=w.heap.size) rfl).push 25 #[Zi Zq 2,Zi Zq 0,Zt ⟨#[]⟩,Zs none 0 0,Zs none 0 0] (g:=w.heap.size+1) (by simp));cases b
 ·go_enter Tryz.func168,Tryz.ntmps168;go_wp2;refine bodyPost_ret (v:=.agg #[Zi Zq 2,Zi Zq 0,Zt ⟨#[]⟩,Zs none 0 0,Zs none 0 0]) (by simp only [results,Tryz.results168];go_simp) rfl ?_;exact ⟨rfl,by go_grown⟩
 ·go_enter Tryz.func168,Tryz.ntmps168;go_wp2;refine bodyPost_ret (v:=.agg #[Zi Zq 2,Zi Zq 1,Zt ⟨#[]⟩,Zs none 0 0,Zs none 0 0]) (by simp only [results,Tryz.results168];go_simp) rfl ?_;exact ⟨rfl,by go_grown⟩
def yo (n:Int) (w:World) (e:Ending) (w':World):Prop:=e=.returned (.agg #[Zi Zq 3,Zi Zq n,Zt ⟨#[]⟩,Zs none 0 0,Zs none 0 0])/\Below w.heap.size w w'
theorem og (n:Int) (w:World):Calls Tryz.prog 30 #[Zi Zq n] w (yo n w):=by
 go_enter Tryz.func30,Tryz.ntmps30;go_wp2;refine bodyPost_ret (v:=.agg #[Zi Zq 3,Zi Zq n,Zt ⟨#[]⟩,Zs none 0 0,Zs none 0 0]) (by simp only [results,Tryz.results30];go_simp) rfl ?_;exact ⟨rfl,by go_grown⟩
theorem fk (b:Bool) (w:World):Calls Tryz.prog 124 #[.bool b] w (kL b w):=by
 have HH0:=aW ((aj.nil w).push 25 #[Zi Zq 0,Zi Zq 0,Zt ⟨#[]⟩,Zs none 0 0,Zs none 0 0] (g:=w.heap.size) rfl);obtain ⟨z,hz⟩:∃ z:Int,(if b=true then 1 else 0)=z:=⟨_,rfl⟩
 unfold kL;have HV:=aW (λ W=>vP b W);unfold wQ at HV;rw [hz] at HV ⊢;clear hz;go_enter Tryz.func124,Tryz.ntmps124;go_wp2_with fail;refine (HV.out _).mono ?_;rintro e w1 ⟨rfl,hb1⟩;have HH1:=aW (HH0.out.keep hb1);clear hb1 HH0;obtain ⟨c0,f0,l0⟩:=HH1.out.b0.rules;go_wp2;refine bodyPost_ret (v:=.tuple #[.agg #[Zi Zq 2,Zi Zq z,Zt ⟨#[]⟩,Zs none 0 0,Zs none 0 0],.bool true]) (by simp only [results,Tryz.results124];go_simp) rfl ?_;exact ⟨rfl,ah HH1.out.1 (Nat.le_refl _) _ _ _ _ _⟩
theorem aw {k n:Int} {s:List UInt8} (hk:iw k) (hn:iw n) (hs:s.length<=4194304):au (.mk k n s [] []) :=
 ⟨by unfold inJ inL;exact ⟨hk,hn,trivial⟩,by unfold ar ay;omega,by unfold kH kG;exact ⟨hs,by simp,by simp,by simp,trivial⟩⟩
theorem lc (b:Bool):au (aG b):=aw (by unfold iw;omega) (by unfold iw;cases b<;>simp) (by simp)
theorem dl {n:Int} (h:iw n):au (cC n):=aw (by unfold iw;omega) h (by simp)
theorem ExP.none_ {o:Option JV} {F:Nat->Prop} {w w1 w':World} (ho:o=none) (hb:Below w.heap.size w w') :
  ExP o F w (.returned (.tuple #[.agg #[Zi Zq 0,Zi Zq 0,Zt ⟨#[]⟩,Zs none 0 0,Zs none 0 0],.bool false])) w' :=
 ⟨_,eP,false,rfl,VR.zero,aw (by unfold iw;omega) (by unfold iw;omega) (by simp),by rw [ho];rfl,(λ h=>by cases h),hb⟩
theorem ExP.bool_ {o:Option JV} {F:Nat->Prop} {w w':World} {b:Bool} {z:Int} (hz:z=if b=true then 1 else 0) (ho:o=some (aG b)) (hb:Below w.heap.size w w') :
  ExP o F w (.returned (.tuple #[.agg #[Zi Zq 2,Zi Zq z,Zt ⟨#[]⟩,Zs none 0 0,Zs none 0 0],.bool true])) w' :=
 ⟨_,aG b,true,rfl,by rw [hz];exact VR.atom 2 _ [],lc b,by rw [ho];rfl,λ _=>df b,hb⟩
theorem ExP.num_ {o:Option JV} {F:Nat->Prop} {w w':World} {n:Int} (hn:iw n) (ho:o=some (cC n)) (hb:Below w.heap.size w w') :
  ExP o F w (.returned (.tuple #[.agg #[Zi Zq 3,Zi Zq n,Zt ⟨#[]⟩,Zs none 0 0,Zs none 0 0],.bool true])) w' :=
 ⟨_,cC n,true,rfl,VR.atom 3 n [],dl hn,by rw [ho];rfl,λ _=>dt n,hb⟩
theorem np {pv:Value} {F:Nat->Prop} {env:List (List UInt8 × JV)} {x:EJ} {w:World} (hk:bW pv F env w x) (W:World) (cs:List Value) (hW:Below w.heap.size w W) (hx:ER W F cs x) :
  Calls Tryz.prog 94 #[pv,.agg cs.toArray] W (BoP (isB (evE env x)) W):=by
 have HK:=aW (λ (W':World) (h:Below W.heap.size W W')=>hk W' cs (hW.trans (h.mono hW.size)) (hx.bel h));obtain ⟨k,k1,n1,s1,A1,na1,ca1,B1,nb1,cb1,s,A,n,ca,rfl⟩:=hx.form;have HH0:=aW ((aj.nil W).push 28 #[Zi Zq k,Zi Zq k1,Zi Zq n1,Zt s1,Zs A1 na1 ca1,Zs B1 nb1 cb1,Zt s,Zs A n ca] (g:=W.heap.size) rfl);obtain ⟨o,ho⟩:∃ o,evE env x=o:=⟨_,rfl⟩
 rw [ho] at HK ⊢;clear hk hW hx ho;obtain ⟨c0,f0,l0⟩:=HH0.out.b0.rules;go_enter Tryz.func94,Tryz.ntmps94;go_wp2_with fail;refine (HK.out _ HH0.out.1).mono ?_;rintro e w1 ⟨cs1,v,b,rfl,hv,hc,ho,hg,hb1⟩;obtain ⟨vk,vn,vs,vkids,vkeys⟩:=v;obtain ⟨VA,VB,va,vb,vcss,rfl,_⟩:=hv.out;have HH1:=aW ((HH0.out.keep hb1).push 25 #[Zi Zq vk,Zi Zq vn,Zt ⟨vs.toArray⟩,Zs VA vkids.length va,Zs VB vkeys.length vb] (g:=w1.heap.size) rfl);have HO:=aW ho;obtain ⟨c1,f1,l1⟩:=(HH0.out.keep hb1).b0.rules;clear hb1 c0 f0 l0 HH0 hv hc hg ho HK;cases b
 ·go_wp2;go_quiet (fail);go_wp2;refine bodyPost_ret (v:=.tuple #[.bool (vn == 1),.bool false]) (by simp only [results,Tryz.results94];go_simp) rfl ?_;exact ⟨_,false,rfl,by rw [HO.out];rfl,(HH1.out.drewN _).1⟩
 ·by_cases h2:vk=2
  ·have e2:(vk == 2)=true:=by simp [h2]
   have H2:=aW h2;clear h2;go_wp2;go_quiet (fail);go_wp2;refine bodyPost_ret (v:=.tuple #[.bool (vn == 1),.bool true]) (by simp only [results,Tryz.results94];go_simp) rfl ?_;refine ⟨_,true,rfl,?_,(HH1.out.drewN _).1⟩;rw [HO.out];show (if vk=2 then some (decide (vn=1)) else none)=some (vn == 1)
   rw [if_pos H2.out];rfl
  ·have e2:(vk == 2)=false:=by simp [h2]
   have H2:=aW h2;clear h2;go_wp2;go_quiet (fail);go_wp2;refine bodyPost_ret (v:=.tuple #[.bool (vn == 1),.bool false]) (by simp only [results,Tryz.results94];go_simp) rfl ?_;refine ⟨_,false,rfl,?_,(HH1.out.drewN _).1⟩;rw [HO.out];show (if vk=2 then some (decide (vn=1)) else none)=none
   rw [if_neg H2.out]
end
end Go.Proofs.YtgolomgmnanbpaaGreatDoor
