import Derived.Test.YtgolomgmnanbpaaGreatDoorW23
import Derived.Test.YtgolomgmnanbpaaGreatDoorW01
import Derived.Test.YtgolomgmnanbpaaGreatDoorW24
import Derived.Test.YtgolomgmnanbpaaGreatDoorW22
import Derived.Test.YtgolomgmnanbpaaGreatDoorW19
set_option maxRecDepth 100000
set_option maxHeartbeats 16000000
namespace Go.Proofs.YtgolomgmnanbpaaGreatDoor
set_option linter.unusedVariables false
set_option linter.unusedSimpArgs false
open Go.RowKit
attribute [local go_sem] run_index_arr run_part_agg run_part_one run_field_agg
theorem eMay:∀ r,r≤12→ForM r
 | 0,h=>eMayS 0 h (fun h0=>absurd rfl h0)
 | r+1,h=>eMayS (r+1) h (fun _=>eMay r (by omega))
def prgE (l:List SJ):Int:=if mayP l=true then 0 else 332
def PrgP (q:Int) (w:World) (e:Ending) (w':World):Prop:=e=.returned (.int .i64 q)∧Below w.heap.size w w'
theorem eCheck (l:List SJ) (css:List (List Value)) (A:Option Addr) (n ca:Nat) (F:Nat→Prop) (w:World) (hG:GOE w) (hS:SRs w F css l) (hln:l.length=n) (hnc:n≤ca) (hR:RdF w F A css.flatten) (hC:camSL l) (hn:n≤4194304) :
  Calls Tryz.prog 39 #[.agg #[.slice A n ca]] w (PrgP (prgE l) w):=by
 have HM:=aW (fun (W:World) (h:Below w.heap.size w W)=>eMay 12 (by omega) l css A n ca F W (hG.keep h) (RR.imp hS fun c x hc=>hc.bel h) hln hnc (hR.keep (KeepF.of_below h)) hC hn);obtain ⟨b,hb⟩:∃ b,mayL 12 l=b:=⟨_,rfl⟩
 have HQ:=aW (show prgE l=(if b=true then 0 else 332) by unfold prgE mayP;rw [hb]);unfold MayP at HM;rw [hb] at HM;obtain ⟨q,hq⟩:∃ q,prgE l=q:=⟨_,rfl⟩
 rw [hq] at HQ ⊢;clear hq;have HH0:=aW ((Held.nil w).push 46 #[.slice A n ca] (g:=w.heap.size) rfl);clear hG hS hln hnc hR hC hn hb;go_enter Tryz.func39,Tryz.ntmps39;go_wp2_with fail;refine (HM.out _ HH0.out.1).mono ?_;rintro e w1 ⟨rfl,hb1⟩;have HH1:=aW (HH0.out.keep hb1);clear hb1;cases b
 ·go_wp2;go_ret;exact ⟨by rw [HQ.out];rfl,HH1.out.1⟩
 ·go_wp2;go_ret;exact ⟨by rw [HQ.out];rfl,HH1.out.1⟩
set_option linter.unusedVariables false
set_option linter.unusedSimpArgs false
open Go.RowKit
attribute [local go_sem] run_index_arr run_part_agg run_part_one run_field_agg
theorem RowV.blk {W:World} {g:Nat} {t:TypeId} {css:List (List Value)} {l:List JV} {ca:Nat} (h:VRs W TT css l) (hca:l.length≤ca) (hb:Blk W g t css.flatten.toArray):RowV W (some ⟨g,0,none⟩) ca l :=
 ⟨css,h,hca,fun e=>by simp at e,fun hne=>⟨g,0,rfl,hb.lt,trivial,fun i hi=>by
  have:=hb.cell i;rw [Nat.zero_add,this];simp [hi]⟩⟩
theorem VR.top {W:World} {F:Nat→Prop} {cs:List Value} {v:JV} (h:VR W F cs v):VR W TT cs v:=h.mono fun _ _ _=>trivial
theorem VRs.one_ {W:World} {cs:List Value} {v:JV} (h:VR W TT cs v):VRs W TT [cs] [v]:=by
 have:=VRs.nil.snoc h;simpa using this
theorem VRs.two_ {W:World} {cs cs':List Value} {v v':JV} (h:VR W TT cs v) (h':VR W TT cs' v'):VRs W TT [cs,cs'] [v,v']:=by
 have:=(VRs.one_ h).snoc h';simpa using this
noncomputable def cmpO (a b:JV):Int × Int:=if good a=true∧good b=true then (cmpJ a b,0) else (0,140)
theorem cCompare1 (a b:JV) (cs cs':List Value) (g g':Nat) (F F':Nat→Prop) (w:World) (h:VR w F cs a) (h':VR w F' cs' b) (ha:gd a) (hb:gd b) (c:Came a) (c':Came b) (hB:Blk w g 25 cs.toArray) (hB':Blk w g' 25 cs'.toArray) :
  Calls Tryz.prog 191 #[.pointer (some ⟨g,0,none⟩),.pointer (some ⟨g',0,none⟩)] w fun e w'=>e=.returned (.tuple #[.int .i64 (cmpJ a b),.int .i64 0])∧Below w.heap.size w w':=by
 have HC:=aW (cCompare_any a b cs cs' F F' w h h' ha hb c c');obtain ⟨k0,n0,s0,A0,na0,ca0,B0,nb0,cb0,rfl⟩:=h.form;obtain ⟨k1,n1,s1,A1,na1,ca1,B1,nb1,cb1,rfl⟩:=h'.form;obtain ⟨R,hR⟩:∃ R,cmpJ a b=R:=⟨_,rfl⟩
 rw [hR] at HC ⊢;clear h h' hR ha hb c c';obtain ⟨c1,f1,l1⟩:=hB.rules;obtain ⟨c2,f2,l2⟩:=hB'.rules;clear hB hB';go_enter Tryz.func191,Tryz.ntmps191;go_wp2_with fail;refine HC.out.mono ?_;rintro e w1 ⟨rfl,hg⟩;have HG:=aW hg;clear hg;go_wp2;go_ret2;exact ⟨rfl,HG.out.1⟩
theorem cComp (a b:JV) (cs cs':List Value) (F F':Nat→Prop) (w:World) (hG:GOK w) (h:VR w F cs a) (h':VR w F' cs' b) (c:Came a) (c':Came b) :
  Calls Tryz.prog 172 #[.agg cs.toArray,.agg cs'.toArray] w fun e w'=>e=.returned (.tuple #[.int .i64 (cmpO a b).1,.int .i64 (cmpO a b).2])∧Below w.heap.size w w':=by
 have HV:=aW h.top;have HV':=aW h'.top;obtain ⟨k0,n0,s0,A0,na0,ca0,B0,nb0,cb0,rfl⟩:=h.form;obtain ⟨k1,n1,s1,A1,na1,ca1,B1,nb1,cb1,rfl⟩:=h'.form;have HT:=aW (fun (W:World) (hb:Below w.heap.size w W) (g ga gb:Nat) (t:TypeId)
   (h1:Blk W g t #[.int .i64 k0,.int .i64 n0,.string s0,.slice A0 na0 ca0,.slice B0 nb0 cb0,.int .i64 k1,.int .i64 n1,.string s1,.slice A1 na1 ca1,.slice B1 nb1 cb1])
   (h2:Blk W ga 25 #[.int .i64 k0,.int .i64 n0,.string s0,.slice A0 na0 ca0,.slice B0 nb0 cb0]) (h3:Blk W gb 25 #[.int .i64 k1,.int .i64 n1,.string s1,.slice A1 na1 ca1,.slice B1 nb1 cb1]) =>
  toldI [a,b] (some ⟨g,0,none⟩) 2 2 (.pointer (some ⟨ga,0,none⟩)) (.pointer (some ⟨gb,0,none⟩)) W (hG.keep hb) (RowV.blk (VRs.two_ (HV.out.bel hb) (HV'.out.bel hb)) (Nat.le_refl 2) h1) rfl (by intro x hx;simp at hx;rcases hx with rfl | rfl;exact c;exact c') (by omega)
   (fun e w'=>e=.returned (.tuple #[.int .i64 (cmpO a b).1,.int .i64 (cmpO a b).2])∧Below w.heap.size w w')
   (fun ⟨x,hx,hng⟩ W' hb'=>by
    have:cmpO a b=(0,140):=by
     unfold cmpO;rw [if_neg];rintro ⟨q1,q2⟩;simp at hx;rcases hx with rfl | rfl
     ·exact hng q1
     ·exact hng q2
    exact ⟨by rw [this],hb.trans (hb'.mono hb.size)⟩)
   (fun hall W' hb'=>by
    have hga:=hall a (by simp);have hgb:=hall b (by simp);have:cmpO a b=(cmpJ a b,0):=if_pos ⟨hga,hgb⟩;refine (cCompare1 a b _ _ ga gb TT TT W' ((HV.out.bel hb).bel hb') ((HV'.out.bel hb).bel hb') hga hgb c c' (h2.keep hb') (h3.keep hb')).mono ?_;rintro e w' ⟨rfl,hb2⟩;exact ⟨_,_,rfl,by rw [this],hb.trans ((hb'.trans (hb2.mono hb'.size)).mono hb.size)⟩))
 obtain ⟨R,hR⟩:∃ R,(cmpO a b).1=R:=⟨_,rfl⟩
 obtain ⟨E,hE⟩:∃ E,(cmpO a b).2=E:=⟨_,rfl⟩
 rw [hR,hE] at HT ⊢;have hb3:Below w.heap.size w (((w.alloc (.cells #[.int .i64 k0,.int .i64 n0,.string s0,.slice A0 na0 ca0,.slice B0 nb0 cb0] 25)).alloc (.cells #[.int .i64 k1,.int .i64 n1,.string s1,.slice A1 na1 ca1,.slice B1 nb1 cb1] 25))) :=
  ((Below.refl _ w).alloc (Nat.le_refl _) _).alloc (by simp) _
 have hA:=(Blk.new w 25 #[.int .i64 k0,.int .i64 n0,.string s0,.slice A0 na0 ca0,.slice B0 nb0 cb0]).alloc (.cells #[.int .i64 k1,.int .i64 n1,.string s1,.slice A1 na1 ca1,.slice B1 nb1 cb1] 25);have hB:=Blk.new (w.alloc (.cells #[.int .i64 k0,.int .i64 n0,.string s0,.slice A0 na0 ca0,.slice B0 nb0 cb0] 25)) 25 #[.int .i64 k1,.int .i64 n1,.string s1,.slice A1 na1 ca1,.slice B1 nb1 cb1];rw [World.size_alloc] at hB;have HB3:=aW hb3;have HA:=aW hA;have HBB:=aW hB;clear hb3 hA hB h h' hG c c' hR hE HV HV';have hmf:∀ (fn:Fn) (first cap:Array Value) (w:World),(Instr.makeFunc fn first cap).run Tryz.prog w=.ok (.func fn first cap) w:=fun _ _ _ _=>rfl
 have y1:w.heap.size≠w.heap.size+1:=by omega
 have y2:w.heap.size+1≠w.heap.size:=by omega
 go_enter Tryz.func172,Tryz.ntmps172;go_wp2_with fail;refine Calls.mono (HT.out _ (HB3.out.alloc HB3.out.size _) _ _ _ 25 ?h1 (HA.out.alloc _) (HBB.out.alloc _)) ?_
 case h1 =>
  have h:=Blk.new ((w.alloc (.cells #[.int .i64 k0,.int .i64 n0,.string s0,.slice A0 na0 ca0,.slice B0 nb0 cb0] 25)).alloc (.cells #[.int .i64 k1,.int .i64 n1,.string s1,.slice A1 na1 ca1,.slice B1 nb1 cb1] 25)) 25 #[.int .i64 k0,.int .i64 n0,.string s0,.slice A0 na0 ca0,.slice B0 nb0 cb0,.int .i64 k1,.int .i64 n1,.string s1,.slice A1 na1 ca1,.slice B1 nb1 cb1];rw [World.size_alloc,World.size_alloc] at h;exact h
 rintro e w1 ⟨rfl,hb1⟩;have HF:=aW hb1;clear hb1;go_wp2;go_ret2;exact ⟨rfl,HF.out⟩
set_option linter.unusedVariables false
set_option linter.unusedSimpArgs false
open Go.RowKit
attribute [local go_sem] run_index_arr run_part_agg run_part_one run_field_agg
def FN (F:Nat→Prop) (w:World) (b:Nat):Prop:=F b∨w.heap.size≤b
theorem VR.out5 {w W1 w1:World} {F:Nat→Prop} {cs:List Value} {v:JV} (h:VR w1 (FN F W1) cs v) (hF:∀ b,F b→b<w.heap.size) (hw:w.heap.size≤W1.heap.size) {g:Nat} (hg:w.heap.size≤g) (hg2:g<W1.heap.size) (a b c d e:Value) :
  VR (((((w1.setCell ⟨g,0,none⟩ a).setCell ⟨g,1,none⟩ b).setCell ⟨g,2,none⟩ c).setCell ⟨g,3,none⟩ d).setCell ⟨g,4,none⟩ e) (FN F w) cs v:=by
 have hk:∀ b,FN F W1 b→b≠g:=fun b hb=>by
  rcases hb with hb | hb
  ·have:=hF b hb;omega
  ·omega
 refine (h.keep (((((KeepF.refl.set hk 0 a).set hk 1 b).set hk 2 c).set hk 3 d).set hk 4 e)).mono fun b _ hb=>?_
 rcases hb with hb | hb
 ·exact .inl hb
 ·exact .inr (by omega)
def ExP (o:Option JV) (F:Nat→Prop) (w:World) (e:Ending) (w':World):Prop:=∃ (cs:List Value) (v:JV) (b:Bool),e=.returned (.tuple #[.agg cs.toArray,.bool b])∧VR w' (FN F w) cs v∧Came v∧o=(if b=true then some v else none)∧(b=true→good v=true)∧Below w.heap.size w w'
def BoP (o:Option Bool) (w:World) (e:Ending) (w':World):Prop:=∃ t b:Bool,e=.returned (.tuple #[.bool t,.bool b])∧o=(if b=true then some t else none)∧Below w.heap.size w w'
def KidC (pv:Value) (F:Nat→Prop) (env:List (List UInt8 × JV)) (w:World) (y:EJ):Prop :=
 ∀ W (cs:List Value),Below w.heap.size w W→ER W F cs y→Calls Tryz.prog 41 #[pv,.agg cs.toArray] W (ExP (evE env y) F W)
def NonP (w:World) (e:Ending) (w':World):Prop:=e=.returned (.tuple #[.agg #[.int .i64 0,.int .i64 0,.string ⟨#[]⟩,.slice none 0 0,.slice none 0 0],.bool false])∧Below w.heap.size w w'
theorem mNone (w:World):Calls Tryz.prog 40 #[] w (NonP w):=by
 have HH0:=aW ((Held.nil w).push 25 zeroCs (g:=w.heap.size) rfl);unfold zeroCs at HH0;obtain ⟨c0,f0,l0⟩:=HH0.out.b0.rules;go_enter Tryz.func40,Tryz.ntmps40;go_wp2;refine bodyPost_ret (v:=.tuple #[.agg #[.int .i64 0,.int .i64 0,.string ⟨#[]⟩,.slice none 0 0,.slice none 0 0],.bool false]) (by simp only [results,Tryz.results40];go_simp) rfl ?_;exact ⟨rfl,by go_grown⟩
def TruP (b:Bool) (w:World) (e:Ending) (w':World):Prop:=e=.returned (.tuple #[.agg #[.int .i64 2,.int .i64 (if b=true then 1 else 0),.string ⟨#[]⟩,.slice none 0 0,.slice none 0 0],.bool true])∧Below w.heap.size w w'
def VBoP (b:Bool) (w:World) (e:Ending) (w':World):Prop:=e=.returned (.agg #[.int .i64 2,.int .i64 (if b=true then 1 else 0),.string ⟨#[]⟩,.slice none 0 0,.slice none 0 0])∧Below w.heap.size w w'
theorem vBoolV (b:Bool) (w:World):Calls Tryz.prog 168 #[.bool b] w (VBoP b w):=by
 have HH0:=aW (((Held.nil w).push 25 #[.int .i64 0,.int .i64 0,.string ⟨#[]⟩,.slice none 0 0,.slice none 0 0] (g:=w.heap.size) rfl).push 25 #[.int .i64 2,.int .i64 0,.string ⟨#[]⟩,.slice none 0 0,.slice none 0 0] (g:=w.heap.size+1) (by simp));cases b
 ·go_enter Tryz.func168,Tryz.ntmps168;go_wp2;refine bodyPost_ret (v:=.agg #[.int .i64 2,.int .i64 0,.string ⟨#[]⟩,.slice none 0 0,.slice none 0 0]) (by simp only [results,Tryz.results168];go_simp) rfl ?_;exact ⟨rfl,by go_grown⟩
 ·go_enter Tryz.func168,Tryz.ntmps168;go_wp2;refine bodyPost_ret (v:=.agg #[.int .i64 2,.int .i64 1,.string ⟨#[]⟩,.slice none 0 0,.slice none 0 0]) (by simp only [results,Tryz.results168];go_simp) rfl ?_;exact ⟨rfl,by go_grown⟩
def VInP (n:Int) (w:World) (e:Ending) (w':World):Prop:=e=.returned (.agg #[.int .i64 3,.int .i64 n,.string ⟨#[]⟩,.slice none 0 0,.slice none 0 0])∧Below w.heap.size w w'
theorem vIntV (n:Int) (w:World):Calls Tryz.prog 30 #[.int .i64 n] w (VInP n w):=by
 go_enter Tryz.func30,Tryz.ntmps30;go_wp2;refine bodyPost_ret (v:=.agg #[.int .i64 3,.int .i64 n,.string ⟨#[]⟩,.slice none 0 0,.slice none 0 0]) (by simp only [results,Tryz.results30];go_simp) rfl ?_;exact ⟨rfl,by go_grown⟩
theorem mTruth (b:Bool) (w:World):Calls Tryz.prog 124 #[.bool b] w (TruP b w):=by
 have HH0:=aW ((Held.nil w).push 25 #[.int .i64 0,.int .i64 0,.string ⟨#[]⟩,.slice none 0 0,.slice none 0 0] (g:=w.heap.size) rfl);obtain ⟨z,hz⟩:∃ z:Int,(if b=true then 1 else 0)=z:=⟨_,rfl⟩
 unfold TruP;have HV:=aW (fun W=>vBoolV b W);unfold VBoP at HV;rw [hz] at HV ⊢;clear hz;go_enter Tryz.func124,Tryz.ntmps124;go_wp2_with fail;refine (HV.out _).mono ?_;rintro e w1 ⟨rfl,hb1⟩;have HH1:=aW (HH0.out.keep hb1);clear hb1 HH0;obtain ⟨c0,f0,l0⟩:=HH1.out.b0.rules;go_wp2;refine bodyPost_ret (v:=.tuple #[.agg #[.int .i64 2,.int .i64 z,.string ⟨#[]⟩,.slice none 0 0,.slice none 0 0],.bool true]) (by simp only [results,Tryz.results124];go_simp) rfl ?_;exact ⟨rfl,five_bel HH1.out.1 (Nat.le_refl _) _ _ _ _ _⟩
theorem came_atom {k n:Int} {s:List UInt8} (hk:iw k) (hn:iw n) (hs:s.length≤4194304):Came (.mk k n s [] []) :=
 ⟨by unfold inJ inL;exact ⟨hk,hn,trivial⟩,by unfold nodesJ nodesL;omega,by unfold lenJ lenL;exact ⟨hs,by simp,by simp,by simp,trivial⟩⟩
theorem came_bool (b:Bool):Came (jBool b):=came_atom (by unfold iw;omega) (by unfold iw;cases b<;>simp) (by simp)
theorem came_num {n:Int} (h:iw n):Came (jNum n):=came_atom (by unfold iw;omega) h (by simp)
theorem ExP.none_ {o:Option JV} {F:Nat→Prop} {w w1 w':World} (ho:o=none) (hb:Below w.heap.size w w') :
  ExP o F w (.returned (.tuple #[.agg #[.int .i64 0,.int .i64 0,.string ⟨#[]⟩,.slice none 0 0,.slice none 0 0],.bool false])) w' :=
 ⟨_,jZero,false,rfl,VR.zero,came_atom (by unfold iw;omega) (by unfold iw;omega) (by simp),by rw [ho];rfl,(fun h=>by cases h),hb⟩
theorem ExP.bool_ {o:Option JV} {F:Nat→Prop} {w w':World} {b:Bool} {z:Int} (hz:z=if b=true then 1 else 0) (ho:o=some (jBool b)) (hb:Below w.heap.size w w') :
  ExP o F w (.returned (.tuple #[.agg #[.int .i64 2,.int .i64 z,.string ⟨#[]⟩,.slice none 0 0,.slice none 0 0],.bool true])) w' :=
 ⟨_,jBool b,true,rfl,by rw [hz];exact VR.atom 2 _ [],came_bool b,by rw [ho];rfl,fun _=>good_bool b,hb⟩
theorem ExP.num_ {o:Option JV} {F:Nat→Prop} {w w':World} {n:Int} (hn:iw n) (ho:o=some (jNum n)) (hb:Below w.heap.size w w') :
  ExP o F w (.returned (.tuple #[.agg #[.int .i64 3,.int .i64 n,.string ⟨#[]⟩,.slice none 0 0,.slice none 0 0],.bool true])) w' :=
 ⟨_,jNum n,true,rfl,VR.atom 3 n [],came_num hn,by rw [ho];rfl,fun _=>good_int n,hb⟩
theorem mBoolean {pv:Value} {F:Nat→Prop} {env:List (List UInt8 × JV)} {x:EJ} {w:World} (hk:KidC pv F env w x) (W:World) (cs:List Value) (hW:Below w.heap.size w W) (hx:ER W F cs x) :
  Calls Tryz.prog 94 #[pv,.agg cs.toArray] W (BoP (isB (evE env x)) W):=by
 have HK:=aW (fun (W':World) (h:Below W.heap.size W W')=>hk W' cs (hW.trans (h.mono hW.size)) (hx.bel h));obtain ⟨k,k1,n1,s1,A1,na1,ca1,B1,nb1,cb1,s,A,n,ca,rfl⟩:=hx.form;have HH0:=aW ((Held.nil W).push 28 #[.int .i64 k,.int .i64 k1,.int .i64 n1,.string s1,.slice A1 na1 ca1,.slice B1 nb1 cb1,.string s,.slice A n ca] (g:=W.heap.size) rfl);obtain ⟨o,ho⟩:∃ o,evE env x=o:=⟨_,rfl⟩
 rw [ho] at HK ⊢;clear hk hW hx ho;obtain ⟨c0,f0,l0⟩:=HH0.out.b0.rules;go_enter Tryz.func94,Tryz.ntmps94;go_wp2_with fail;refine (HK.out _ HH0.out.1).mono ?_;rintro e w1 ⟨cs1,v,b,rfl,hv,hc,ho,hg,hb1⟩;obtain ⟨vk,vn,vs,vkids,vkeys⟩:=v;obtain ⟨VA,VB,va,vb,vcss,rfl,_⟩:=hv.out;have HH1:=aW ((HH0.out.keep hb1).push 25 #[.int .i64 vk,.int .i64 vn,.string ⟨vs.toArray⟩,.slice VA vkids.length va,.slice VB vkeys.length vb] (g:=w1.heap.size) rfl);have HO:=aW ho;obtain ⟨c1,f1,l1⟩:=(HH0.out.keep hb1).b0.rules;clear hb1 c0 f0 l0 HH0 hv hc hg ho HK;cases b
 ·go_wp2;go_quiet (fail);go_wp2;refine bodyPost_ret (v:=.tuple #[.bool (vn == 1),.bool false]) (by simp only [results,Tryz.results94];go_simp) rfl ?_;exact ⟨_,false,rfl,by rw [HO.out];rfl,(HH1.out.drewN _).1⟩
 ·by_cases h2:vk=2
  ·have e2:(vk == 2)=true:=by simp [h2]
   have H2:=aW h2;clear h2;go_wp2;go_quiet (fail);go_wp2;refine bodyPost_ret (v:=.tuple #[.bool (vn == 1),.bool true]) (by simp only [results,Tryz.results94];go_simp) rfl ?_;refine ⟨_,true,rfl,?_,(HH1.out.drewN _).1⟩;rw [HO.out];show (if vk=2 then some (decide (vn=1)) else none)=some (vn == 1)
   rw [if_pos H2.out];rfl
  ·have e2:(vk == 2)=false:=by simp [h2]
   have H2:=aW h2;clear h2;go_wp2;go_quiet (fail);go_wp2;refine bodyPost_ret (v:=.tuple #[.bool (vn == 1),.bool false]) (by simp only [results,Tryz.results94];go_simp) rfl ?_;refine ⟨_,false,rfl,?_,(HH1.out.drewN _).1⟩;rw [HO.out];show (if vk=2 then some (decide (vn=1)) else none)=none
   rw [if_neg H2.out]
end Go.Proofs.YtgolomgmnanbpaaGreatDoor
