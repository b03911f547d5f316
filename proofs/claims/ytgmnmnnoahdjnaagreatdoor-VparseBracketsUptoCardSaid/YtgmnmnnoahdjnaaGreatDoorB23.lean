import Derived.Test.YtgmnmnnoahdjnaaGreatDoorB19
set_option maxRecDepth 100000
set_option maxHeartbeats 16000000
set_option linter.unusedVariables false
set_option linter.unusedSimpArgs false
namespace Go.Proofs.YtgmnmnnoahdjnaaGreatDoor
section
open Go.RowKit Go.Shelf
attribute [local go_sem] aa ac ae ab Oper.semAt_some
theorem rj (w0:World) (g rb wb:Nat) (A:Option Addr) (cap:Nat) (l:List UInt8) (p0:Nat) (w:World) (hG:GOK w0) (hr:Rd w0 A (al l)) (hcap:l.length≤cap) (hlen:l.length≤4194304)
  (hp0:p0≤l.length) (hgr:g≠rb) (hgw:g≠wb) (hg0:w0.heap.size≤g) (hW:aN (· < w0.heap.size) w0 w)
  (hV:VB w g A cap l p0 0) (hrb:Blk w rb 109 #[.pointer (some ⟨g,0,none⟩)]) (hwb:Blk w wb 165 (kA g)) :
  mA Fence.wide 2 Tryz.prog 134 #[.pointer (some ⟨rb,0,none⟩),.pointer (some ⟨wb,0,none⟩)] tO
   (StV g A cap l) (KpV w0.heap.size g rb wb) (fun pre x=>pre++[x] <+: (cB l p0).1) (wB g A cap l p0) (fun pre _=>pre <+: (cB l p0).1) w:=by
 intro k J Jx W hW2 hJ _ hY h0;exact pX w0 g rb wb A cap l p0 k J Jx W hG hr hcap hlen hp0 hgr hgw hg0 (hW.trans (aN.of_below hW2 (fun i hi=>Nat.lt_of_lt_of_le hi hW.1))) hJ hY (hV.keep hW2) (hrb.keep hW2) (hwb.keep hW2) h0
def gh (l:List UInt8):List ak × Int × Int :=
 if 512<l.length then ([],0,3) else match (cB l 0).2 with | none=>((cB l 0).1,0,0) | some e=>([],e.1,e.2)
def kL (r:List ak × Int × Int) (w:World) (e:Ending) (w':World):Prop :=
 ∃ v,e=.returned (.tuple #[v,.int .i64 r.2.1,.int .i64 r.2.2])∧TS w' v r.1∧Below w.heap.size w w'
theorem p9 (l:List UInt8):∀ (k p:Nat),(eO l k p).1.length≤k
 | 0,_=>by simp [eO]
 |k+1,p=>by
  unfold eO;split
  ·cases hv:cX l (aG l p) with
   | inr e=>simp
   |inl r =>
    obtain ⟨kd,t,n,m⟩:=r;have:=p9 l k m;simp;omega
  ·simp
theorem nD (l:List UInt8) (p:Nat):(cB l p).1.length≤l.length+1-p:=p9 l _ p
theorem Rd.below_at {W W':World} {b o N:Nat} {xs:List Value} (h:Rd W (some ⟨b,o,none⟩) xs) (hb:Below N W W') (hN:b<N):Rd W' (some ⟨b,o,none⟩) xs:=fun hn=>by
 obtain ⟨b',o',e,hlt,hx⟩:=h hn;obtain ⟨rfl,rfl⟩:b=b'∧o=o':=by simpa using e
 exact ⟨b,o,rfl,Nat.lt_of_lt_of_le hlt hb.size,fun i hi=>by rw [← hx i hi];exact World.cell?_of_block (w:=W) (hb.block b hN)⟩
def kB (w:World) (A:Option Addr) (cap:Nat) (l:List UInt8) (pre:List ak) (W:World):Prop :=
 (∃ v,Boxed W (w.heap.size+2) 77 v∧W.ownsRow (w.heap.size+1) 86 4 v pre.length (bu pre))∧Below w.heap.size w W∧(∃ p why,VB W (w.heap.size+1) A cap l p why) ∧
  Blk W (w.heap.size+3) 109 #[.pointer (some ⟨w.heap.size+1,0,none⟩)]∧Blk W (w.heap.size+4) 165 (kA (w.heap.size+1))∧w.heap.size+5≤W.heap.size
theorem VB.putObj {W:World} {g:Nat} {A:Option Addr} {cap:Nat} {l:List UInt8} {p why:Int} {k:Nat} {o:Obj} (o':Obj) (h:VB W g A cap l p why) (ho:W.heap[k]? = some o) (hc:o.isCells=false):VB (W.putObj k o') g A cap l p why :=
 ⟨h.1.putObj o' ho hc,h.2.putObj o' ho hc⟩
theorem kB.putObj {w:World} {A:Option Addr} {cap:Nat} {l:List UInt8} {pre:List ak} {W:World} {k:Nat} {o:Obj} (o':Obj) (h:kB w A cap l pre W) (hk:w.heap.size≤k) (ho:W.heap[k]? = some o) (hc:o.isCells=false):kB w A cap l pre (W.putObj k o'):=by
 obtain ⟨⟨v,hv,hr⟩,hb,⟨p,why,hV⟩,h1,h2,h3⟩:=h;exact ⟨⟨v,Blk.putObj o' hv ho hc,ownsRow_putObj hr o' ho hc⟩,bv hb k o' hk,⟨p,why,hV.putObj o' ho hc⟩,h1.putObj o' ho hc,h2.putObj o' ho hc,by simpa [World.putObj] using h3⟩
theorem kB.alloc {w:World} {A:Option Addr} {cap:Nat} {l:List UInt8} {pre:List ak} {W:World} (h:kB w A cap l pre W) (o:Obj):kB w A cap l pre (W.alloc o):=by
 obtain ⟨⟨v,hv,hr⟩,hb,⟨p,why,hV⟩,h1,h2,h3⟩:=h;exact ⟨⟨v,Blk.alloc hv o,hr.alloc o⟩,hb.alloc hb.size o,⟨p,why,hV.keep ((Below.refl _ W).alloc (Nat.le_refl _) o)⟩,h1.alloc o,h2.alloc o,by simp;omega⟩
theorem kB.step {w:World} {A:Option Addr} {cap:Nat} {l:List UInt8} {pre:List ak} {W W':World} (h:kB w A cap l pre W) (hs:StV (w.heap.size+1) A cap l W W'):kB w A cap l pre W':=by
 obtain ⟨⟨v,hv,hr⟩,hb,⟨p,why,hV⟩,h1,h2,h3⟩:=h;have hne:=dj hr hV.1 (by decide);exact ⟨⟨v,hv.kept hs.1 (by simp),hr.kept hs.1 (.inr (Ne.symm hne))⟩,hb.grown hs.1 hb.size (fun k e=>by cases e;omega),hs.2 ⟨p,why,hV⟩,h1.grown hs.1 (by simp),h2.grown hs.1 (by simp),Nat.le_trans h3 hs.1.size⟩
theorem xv (s:ByteArray) (w:World) (hG:GOK w) (hs:s.size≤512):Calls Tryz.prog 50 #[.string s] w (kL (gh (sl s)) w):=by
 obtain ⟨i0,hi,hz0,hz1,hz2⟩:=info_parts vI;refine (callsIn_wide (n:=3)).1 ?_;refine callsIn_of_wp_marks Tryz.func50 rfl trivial ?_ rfl;simp only [Tryz.ntmps50,List.size_toArray,List.length_cons,List.length_nil,Nat.reduceAdd,Nat.reduceSub,Array.replicate_succ,Array.replicate_zero,List.push_toArray,List.append_toArray,List.nil_append,List.cons_append];refine wpIn_wide.2 ?_;obtain ⟨cap,W1,hcv,hcap,hb1,hs1,hr1⟩:=iW (P:=Tryz.prog) w 9 67 5 s Tryz.underlying9 Tryz.underlying67 Tryz.underlying5;rw [← eD s] at hcap;have hlen:(sl s).length≤512:=by rw [eD];exact hs
 obtain ⟨l,hl⟩:∃ l,sl s=l:=⟨_,rfl⟩
 have hsz:s.size=l.length:=by rw [← hl,eD]
 rw [hl] at hr1 hcap hlen;rw [hsz] at hcv;have HSZ:=aW hsz;have HSL:=aW hl;have hsi:(512:Int)<(s.size:Int)→False:=by omega
 have hs512:(s.size:Int)≤512:=by omega
 clear hsz hl hs;have HR:=aW hr1;have HB1:=aW hb1;have HG:=aW hG;clear hr1 hb1 hG;go_wp2_with (go_at_call 84;refine (ri _ _).mono ?_;rintro e w2 ⟨rfl,hrb,hwb,hs2,hb2⟩);rw [show w.heap.size+1+1+1+1=w.heap.size+4 from rfl,show w.heap.size+1+1+1=w.heap.size+3 from rfl,show w.heap.size+1+1=w.heap.size+2 from rfl];have hbr:=Blk.new W1 113 (cA (some ⟨w.heap.size,0,none⟩) l.length cap 0 0);have hbo:=Blk.new (W1.alloc (.cells (cA (some ⟨w.heap.size,0,none⟩) l.length cap 0 0) 113)) 77 #[.slice none 0 0];rw [hs1] at hbr;simp only [World.size_alloc,hs1] at hrb hwb hs2 hb2 hbo;have hb3:Below W1.heap.size W1 w2:=(((Below.refl _ W1).alloc (Nat.le_refl _) _).alloc (by simp) _).trans (hb2.mono (by omega));have hV2:VB w2 (w.heap.size+1) (some ⟨w.heap.size,0,none⟩) cap l 0 0:=⟨((hbr.alloc _).below hb2 (by omega)),(HR.out.below hb3)⟩
 have hI0:kB w (some ⟨w.heap.size,0,none⟩) cap l [] w2:=⟨⟨_,hbo.below hb2 (by omega),World.ownsRow_nil _ _ _ _⟩,HB1.out.trans (hb3.mono HB1.out.size),⟨0,0,hV2⟩,hrb,hwb,by omega⟩
 clear hbr hbo hb2;refine (wpIn_wide (n:=3)).1 ?_;refine qf rfl (by omega) (gf:=134) (lb:=#[.pointer (some ⟨w.heap.size+3,0,none⟩),.pointer (some ⟨w.heap.size+4,0,none⟩)]) rfl trivial (enters_of Tryz.func134 (by kernel_rfl) rfl)
  (rj W1 (w.heap.size+1) (w.heap.size+3) (w.heap.size+4) (some ⟨w.heap.size,0,none⟩) cap l 0 w2 (HG.out.keep HB1.out) HR.out hcap (by omega) (Nat.zero_le _) (by omega) (by omega) (by omega) (aN.of_below hb3 (fun _ h=>h)) hV2 hrb hwb) (Below.refl _ _) (fun _=>rfl)
  (fun A B k o hs hk ho _=>(hs.1.block k (Array.getElem?_eq_some_iff.1 ho).1 (by simp;omega)).trans ho)
  (fun h k=>h.trans k) (fun W k o o' hk _ _=>aN.putObj (N:=w2.heap.size) (by intro j hj;omega) W k o' hk)
  (fun xs W k o o' _ ho hc h=>by obtain ⟨h1,q,er,h2,h3⟩:=h;exact ⟨h1,q,er,h2.putObj o' ho hc,h3⟩) (fun _ _ _ _ _ _ _ _ h=>h)
  (kB w (some ⟨w.heap.size,0,none⟩) cap l) (fun _ _ _=>False) (fun s A B hs h=>h.step hs) (fun _ _ _ _ _ h=>h) (fun s W k o o' hk ho hc h=>h.putObj o' (by omega) ho hc) (fun _ _ _ _ _ _ _ _ _ h=>h) (fun o o'=>(hI0.alloc o).alloc o')
  (fun pre x a1 W => ∃ tb,a1={ tmps:=#[.string s,undef,.slice none 0 0,.int .i64 0,.int .i64 0,.pointer (some ⟨w.heap.size+1,0,none⟩),.pointer (some ⟨w.heap.size+2,0,none⟩),.pointer (some ⟨tb,0,none⟩),.string s,.int .i64 s.size,.bool (decide (512<(s.size:Int))),.string s,.slice (some ⟨w.heap.size,0,none⟩) l.length cap,
   .agg #[.int .i64 0,.int .i64 0,.slice (some ⟨w.heap.size,0,none⟩) l.length cap],.pointer (some ⟨w.heap.size+1,0,none⟩),.pointer (some ⟨w.heap.size+1,0,none⟩),.func (.func 134) #[] #[.pointer (some ⟨w.heap.size+3,0,none⟩),.pointer (some ⟨w.heap.size+4,0,none⟩)],.agg #[.int .i64 x.1,.int .i64 x.2.1,.string ⟨x.2.2.1.toArray⟩,.int .i64 x.2.2.2],undef,undef,undef,undef,undef,undef,undef,undef,undef,undef,undef,undef,undef,undef,undef,undef,undef,undef,undef,undef,undef],defers:=[] }∧Blk W tb 86 #[.int .i64 x.1,.int .i64 x.2.1,.string ⟨x.2.2.1.toArray⟩,.int .i64 x.2.2.2]∧kB w (some ⟨w.heap.size,0,none⟩) cap l pre W)
  ?hI1p ?assign ?body ?done ?stop
 case hI1p =>
  rintro pre x a1 W k o o' hk ho hc ⟨tb,e,h1,h2⟩;exact ⟨tb,e,h1.putObj o' ho hc,h2.putObj o' (by omega) ho hc⟩
 case assign =>
  intro k pre x W hI hadm;have hIA:=hI.alloc (.cells #[.int .i64 x.1,.int .i64 x.2.1,.string ⟨x.2.2.1.toArray⟩,.int .i64 x.2.2.2] 86);have HIA:=aW hIA;clear hIA;simp only [tO,sW];gi_wp2;have hba:Below W.heap.size W (W.alloc (.cells #[.int .i64 x.1,.int .i64 x.2.1,.string ⟨x.2.2.1.toArray⟩,.int .i64 x.2.2.2] 86)):=(Below.refl _ W).alloc (Nat.le_refl _) _;exact ⟨⟨W.heap.size,rfl,Blk.new _ _ _,HIA.out⟩,KeepsFrom.below_ hba,aN.of_below hba (fun k hk=>by have:=hI.2.2.2.2.2;omega)⟩
 case body =>
  rintro k pre x a1 W ⟨tb,rfl,htb,hI⟩ hadm;obtain ⟨⟨v,hv,hrow⟩,hB,⟨p,why,hV⟩,h1,h2,h3⟩:=hI;have hpl:pre.length+1≤513:=by have:=hadm.length_le;have:=nD l 0;simp at *;omega
  have hc:=hv.cell;have hlt:=hv.lt;obtain ⟨c1,f1,l1⟩:=htb.rules;have hnews:∀ j u,(kK x)[j]? = some u→(W.alloc (.cells #[.int .i64 x.1,.int .i64 x.2.1,.string ⟨x.2.2.1.toArray⟩,.int .i64 x.2.2.2] 86)).cell? ((⟨W.heap.size,0,none⟩:Addr).add j)=some u:=by
   obtain ⟨ad,e,h⟩:=(Rd.of_blk (Blk.new W 86 #[.int .i64 x.1,.int .i64 x.2.1,.string ⟨x.2.2.1.toArray⟩,.int .i64 x.2.2.2])).at_ (by simp);cases e
   exact h
  have HW:=aW (And.intro hnews (And.intro hV (And.intro h1 (And.intro h2 hB))));clear hnews hV h1 h2 hB;gi_wp2_with (gi_at_builtin;refine wpListIn_append_own _ rfl _ _ 77 rfl (w.heap.size+1) 86 i0 _ 4 40 Tryz.underlying77 hi hz0 hz1 hz2 rfl (by decide) _ _ _ rfl (hrow.alloc _) ⟨W.heap.size,0,none⟩ 1 1 (kK x) rfl rfl HW.out.1 (by have:=oC [x];simpa [bu] using this) (by unfold maxLen;omega) (by omega) (by simp;omega) ?_;intro v' w1 hown' hgrow _;obtain ⟨g',cap',rfl⟩:=ownsRow_succ hown';obtain ⟨hv1,hv2,hr2,hk2,hb2⟩:=hv.appended (by decide) hrow (by omega) (by omega) hown' hgrow;have hc1:=hv1.cell;have hf1:=hv1.frozen);obtain ⟨_,hV,h1,h2,hB⟩:=HW.out;have hV':Blk (w1.setCell ⟨w.heap.size+2,0,none⟩ (.slice (some ⟨g',0,none⟩) (pre.length+1) cap')) (w.heap.size+1) 113 _:=((hV.1.alloc _).grown hgrow (dj hrow hV.1 (by decide))).far (by simp) _;have h1':Blk (w1.setCell ⟨w.heap.size+2,0,none⟩ (.slice (some ⟨g',0,none⟩) (pre.length+1) cap')) (w.heap.size+3) 109 _:=((h1.alloc _).grown hgrow (dj hrow h1 (by decide))).far (by simp) _;have h2':Blk (w1.setCell ⟨w.heap.size+2,0,none⟩ (.slice (some ⟨g',0,none⟩) (pre.length+1) cap')) (w.heap.size+4) 165 _:=((h2.alloc _).grown hgrow (dj hrow h2 (by decide))).far (by simp) _;refine ⟨hk2.from _,⟨hb2.size,?_⟩,⟨_,hv2,?_⟩,hB.trans (hb2.mono (by omega)),⟨p,why,hV',hV.2.below_at hb2 (by omega)⟩,h1',h2',Nat.le_trans h3 hb2.size⟩
  ·rintro k (hk | rfl | rfl | rfl)
   ·exact hb2.block k (by omega)
   ·exact gX hV.1 hV'
   ·exact gX h1 h1'
   ·exact gX h2 h2'
  ·have e:bu (pre++[x])=bu pre++kK x:=by rw [oB];simp [bu]
   rw [e,List.length_append,List.length_singleton];exact hr2
 case done =>
  rintro D xs W hD ⟨rfl,q,er,hV,hend⟩ hI hK;obtain ⟨⟨v,hv,hrow⟩,hB,_,_,_,h3⟩:=hI;obtain ⟨c1,f1,l1⟩:=hV.1.rules;unfold cA at c1;have c2:=hv.cell;by_cases her:er=0
  ·subst her;rw [if_pos rfl] at hend;have HS:=aW (show gh l=((cB l 0).1,0,0) by unfold gh;rw [if_neg (by omega),hend]);clear hend;go_wp2;refine ⟨by simp,.inl ⟨_,_,rfl,run_takeDeferred hK,?_⟩⟩;refine ⟨.tuple #[v,.int .i64 0,.int .i64 0],by simp only [results,Tryz.results50];go_simp,?_⟩;rw [HSL.out,HS.out];exact ⟨v,rfl,TS.of_own (ownsRow_putObj hrow (.deferred none) hK rfl),bv hB D _ (by omega)⟩
  ·have her':(er != 0)=true:=by simpa using her
   rw [if_neg her] at hend;have HS:=aW (show gh l=([],q,er) by unfold gh;rw [if_neg (by omega),hend]);clear hend;go_wp2;go_quiet (fail);go_wp2;have hK1:(W.drewN nq).heap[D]? = some (.deferred (some [])):=hK;refine ⟨by simp,.inl ⟨_,_,rfl,run_takeDeferred hK1,?_⟩⟩;refine ⟨.tuple #[.slice none 0 0,.int .i64 q,.int .i64 er],by simp only [results,Tryz.results50];go_simp,?_⟩;rw [HSL.out,HS.out];exact ⟨_,rfl,TS.nil,bv (ai hB _) D _ (by omega)⟩
 case stop =>
  rintro D c pre W _ _ h _;exact h.elim
theorem vM (s:ByteArray) (w:World) (hG:GOK w) (hs:s.size≤4194304):Calls Tryz.prog 50 #[.string s] w (kL (gh (sl s)) w):=by
 by_cases h:s.size≤512
 ·exact xv s w hG h
 ·have HS:=aW (show gh (sl s)=([],0,3) by unfold gh;rw [if_pos (by rw [eD];omega)]);go_enter Tryz.func50,Tryz.ntmps50;go_wp2;go_ret3;rw [HS.out];exact ⟨_,rfl,TS.nil,Below.refl _ _⟩
end
section
open Go.RowKit Go.Shelf
attribute [local go_sem] aa ac ae ab
theorem lC {W:World} {F:Nat→Prop} {css:List (List Value)} {xs:List JV} {A:Option Addr} (h:VRs W F css xs) (hr:RdF W F A css.flatten) {i:Nat} {x:JV} (hx:xs[i]? = some x) :
  ∃ (b o:Nat) (k n:Int) (s:ByteArray) (A':Option Addr) (na ca:Nat) (B':Option Addr) (nb cb:Nat),A=some ⟨b,o,none⟩∧b<W.heap.size∧VR W F [.int .i64 k,.int .i64 n,.string s,.slice A' na ca,.slice B' nb cb] x ∧
   ∀ W',Below W.heap.size W W'→W'.cell? ⟨b,o+i*5,none⟩=some (.int .i64 k)∧W'.cell? ⟨b,o+i*5+1,none⟩=some (.int .i64 n)∧W'.cell? ⟨b,o+i*5+2,none⟩=some (.string s)∧W'.cell? ⟨b,o+i*5+3,none⟩=some (.slice A' na ca)∧W'.cell? ⟨b,o+i*5+4,none⟩=some (.slice B' nb cb):=by
 obtain ⟨b,o,c,rfl,hb,_,hv,hc⟩:=h.cell hr hx;obtain ⟨k,n,s,A',na,ca,B',nb,cb,rfl⟩:=hv.form;refine ⟨b,o,k,n,s,A',na,ca,B',nb,cb,rfl,hb,hv,fun W' hW=>?_⟩;have z:=fun (j:Nat) u (hj:j<5) hu=>(hW.cell (p:=⟨b,o+(i*5+j),none⟩) hb).trans (hc j u hj hu)
 exact ⟨z 0 _ (by decide) rfl,z 1 _ (by decide) rfl,z 2 _ (by decide) rfl,z 3 _ (by decide) rfl,z 4 _ (by decide) rfl⟩
def gm (w:World) (t:TypeId) (cs cs':Array Value) (wr:World):Prop:=Blk wr w.heap.size t cs∧Blk wr (w.heap.size+1) t cs'∧Below w.heap.size w wr
theorem gm.new (w:World) (t:TypeId) (cs cs':Array Value):gm w t cs cs' ((w.alloc (.cells cs t)).alloc (.cells cs' t)):=by
 refine ⟨(Blk.new w t cs).alloc _,?_,((Below.refl _ w).alloc (Nat.le_refl _) _).alloc (by simp) _⟩;have:=Blk.new (w.alloc (.cells cs t)) t cs';rw [World.size_alloc] at this;exact this
theorem gm.keep {w wr wx:World} {t:TypeId} {cs cs':Array Value} (h:gm w t cs cs' wr) (hb:Below wr.heap.size wr wx):gm w t cs cs' wx:=⟨h.1.keep hb,h.2.1.keep hb,h.2.2.trans (hb.mono h.2.2.size)⟩
theorem gm.drewN {w wr:World} {t:TypeId} {cs cs':Array Value} (h:gm w t cs cs' wr) (k:Nat):gm w t cs cs' (wr.drewN k):=⟨h.1.drewN k,h.2.1.drewN k,ai h.2.2 k⟩
theorem gm.drew {w wr:World} {t:TypeId} {cs cs':Array Value} (h:gm w t cs cs' wr):gm w t cs cs' wr.drew:=⟨h.1.drew,h.2.1.drew,h.2.2.drew⟩
def EqX (p:Prop) (w:World) (e:Ending) (w':World):Prop:=∃ t:Bool,e=.returned (.bool t)∧(t=true ↔ p)∧Below w.heap.size w w'
theorem EqX.no {p:Prop} {w w':World} (h:¬ p) (hb:Below w.heap.size w w'):EqX p w (.returned (.bool false)) w':=⟨false,rfl,by simp [h],hb⟩
theorem EqX.yes {p:Prop} {w w':World} (h:p) (hb:Below w.heap.size w w'):EqX p w (.returned (.bool true)) w':=⟨true,rfl,by simp [h],hb⟩
theorem ze (kids kidsq:List JV) (css css':List (List Value)) (A A':Option Addr) (nk nkq ca ca':Nat) (F F':Nat→Prop) (w:World) (hnk:kids.length=nk) (hnkq:kidsq.length=nkq) (hk9:nk≤4194304) (hkq9:nkq≤4194304) (h1:VRs w F css kids) (h6:RdF w F A css.flatten) (h1':VRs w F' css' kidsq) (h6':RdF w F' A' css'.flatten) (h2:nk≤ca) (h2':nkq≤ca')
  (heq:∀ (x y:JV) (c c':List Value) (W:World),x ∈ kids→y ∈ kidsq→Below w.heap.size w W→VR W F c x→VR W F' c' y→Calls Tryz.prog 147 #[.agg c.toArray,.agg c'.toArray] W (EqX (x=y) W)) :
  Calls Tryz.prog 183 #[.slice A nk ca,.slice A' nkq ca',.func (.func 147) #[] #[]] w (EqX (kids=kidsq) w):=by
 have HIH:=aW (fun (i:Nat) (x:JV) (hx:kids[i]? = some x)=>lC h1 h6 hx);have HIH':=aW (fun (i:Nat) (x:JV) (hx:kidsq[i]? = some x)=>lC h1' h6' hx);have HEQ:=aW heq;have HNK:=aW hnk;have HNKQ:=aW hnkq;clear h1 h6 h1' h6' heq hnk hnkq;by_cases el:nk=nkq
 case neg =>
  have HNO:=aW (show ¬ (kids=kidsq) from fun e=>el (by rw [← HNK.out,← HNKQ.out,e]));have hb1:((nk:Int) == nkq)=false:=by simp;omega
  have hb2:((nk:Int) != nkq)=true:=by simp;omega
  go_enter Tryz.func183,Tryz.ntmps183;go_wp2;go_ret;exact EqX.no HNO.out (Below.refl _ _)
 subst el;go_enter Tryz.func183,Tryz.ntmps183;go_wp2;go_loopg [17] nk (fun gk s17 wr => ∃ i:Nat,i≤nk∧gk=nk-i∧s17=.int .i64 i∧Hid (kids.take i=kidsq.take i)∧Hid (Below w.heap.size w wr))
 case atStart=>exact ⟨0,Nat.zero_le _,rfl,by go_num,aW rfl,aW (Below.refl _ _)⟩
 case round =>
  obtain ⟨i,hi,hgk,rfl,HSM,HB⟩:=hrel;have HG:=aW hgk;clear hgk;by_cases hlt:i<nk
  ·obtain ⟨x,hx⟩:∃ x,kids[i]? = some x:=⟨_,List.getElem?_eq_getElem (by rw [HNK.out];exact hlt)⟩
   obtain ⟨y,hy⟩:∃ y,kidsq[i]? = some y:=⟨_,List.getElem?_eq_getElem (by rw [HNKQ.out];exact hlt)⟩
   obtain ⟨b,o,k1,n1,s1,A1,na1,ca1,B1,nb1,cb1,rfl,hb,hvx,hz⟩:=HIH.out i x hx;obtain ⟨b',o',k2,n2,s2,A2,na2,ca2,B2,nb2,cb2,rfl,hb',hvx',hz'⟩:=HIH'.out i y hy;have hbA:=(Below.refl wr.heap.size wr).alloc (Nat.le_refl _) (.cells #[.int .i64 k1,.int .i64 n1,.string s1,.slice A1 na1 ca1,.slice B1 nb1 cb1] 42);obtain ⟨q0,q1,q2,q3,q4⟩:=hz _ HB.out;obtain ⟨p0,p1,p2,p3,p4⟩:=hz' _ (HB.out.trans (hbA.mono HB.out.size));have hTS:=gm.new wr 42 #[.int .i64 k1,.int .i64 n1,.string s1,.slice A1 na1 ca1,.slice B1 nb1 cb1] #[.int .i64 k2,.int .i64 n2,.string s2,.slice A2 na2 ca2,.slice B2 nb2 cb2];have HB2:=aW (HB.out.trans (hTS.2.2.mono HB.out.size));have HCL:=aW (HEQ.out x y _ _ _ (List.mem_of_getElem? hx) (List.mem_of_getElem? hy) HB2.out (hvx.bel HB2.out) (hvx'.bel HB2.out));have HXY:=aW (show x=y→kids.take (i+1)=kidsq.take (i+1) from fun e=>by rw [List.take_add_one,List.take_add_one,HSM.out,hx,hy,e]);have HXN:=aW (show x≠y→¬ kids=kidsq from fun e h=>e (by rw [h,hy] at hx;exact (Option.some.inj hx).symm));obtain ⟨c1,f1,l1⟩:=hTS.1.rules;obtain ⟨c2,f2,l2⟩:=hTS.2.1.rules;have hb1:b<wr.heap.size:=Nat.lt_of_lt_of_le hb HB.out.size;have hb1':b'<wr.heap.size:=Nat.lt_of_lt_of_le hb' HB.out.size;clear hz hz' hvx hvx' hx hy hbA hTS;go_wp2_with fail;refine HCL.out.mono ?_;rintro e w2 ⟨tt,rfl,htt,hb2⟩;have HB3:=aW (HB2.out.trans (hb2.mono HB2.out.size));have HTT:=aW htt;clear hb2 htt;cases tt with
   |true =>
    have HK:=aW (HXY.out (HTT.out.1 (by trivial)));go_wp2;go_roundg (nk-(i+1))
    case measure=>rw [HG.out];omega
    case rel=>exact ⟨i+1,hlt,rfl,by go_num,HK,HB3⟩
   |false =>
    have HF:=aW (HXN.out (fun e=>by have:=HTT.out.2 e;cases this));go_wp2;go_ret;exact EqX.no HF.out HB3.out
  ·obtain rfl:i=nk:=by omega
   have HF:=aW (show kids=kidsq by
    have e1:=HSM.out;rwa [List.take_of_length_le (Nat.le_of_eq HNK.out),List.take_of_length_le (Nat.le_of_eq HNKQ.out)] at e1)
   go_wp2;go_ret;exact EqX.yes HF.out HB.out
theorem rW:∀ (N:Nat) (v v':JV),bI v≤N→∀ (cs cs':List Value) (F F':Nat→Prop) (w:World),VR w F cs v→VR w F' cs' v'→df v→df v'→Calls Tryz.prog 147 #[.agg cs.toArray,.agg cs'.toArray] w (EqX (v=v') w)
 | 0,v,_,h,_,_,_,_,_,_,_,_,_=>by have:=jd v;omega
 |N+1,.mk k n s kids keys,.mk kq nq sq kidsq keysq,hN,cs,cs',F,F',w,hv,hv',hC,hC'=>by
  have ih:=rW N;unfold bI at hN;obtain ⟨_,_,hsl,hkl,hyl,_,hck⟩:=hC.out;obtain ⟨_,_,hsl',hkl',hyl',_,hck'⟩:=hC'.out;obtain ⟨A,B,ca,cb,css,rfl,h1,h2,h3,h4,h5,h6,h7⟩:=hv.out;obtain ⟨A',B',ca',cb',css',rfl,h1',h2',h3',h4',h5',h6',h7'⟩:=hv'.out;have HEF:=aW (fun W (h:Below w.heap.size w W)=>ze kids kidsq css css' A A' kids.length kidsq.length ca ca' F F' W rfl rfl hkl hkl' (h1.below h) (h6.keep (ah.of_below h)) (h1'.below h) (h6'.keep (ah.of_below h)) h2 h2'
   (fun x y c c' W2 hx hy hW2 hc hc'=>by
    obtain ⟨i,hi⟩:=List.mem_iff_getElem?.1 hx;obtain ⟨hn1,hn2⟩:=mZ hi;exact ih x y (by omega) c c' F F' W2 hc hc' (hck x hx) (hck' y hy)))
  have HSE:=aW (fun W (h:Below w.heap.size w W)=>oz B B' keys.length keysq.length cb cb' keys keysq W rfl rfl (h7.keep (ah.of_below h)).rd (h7'.keep (ah.of_below h)).rd h3 h3' hyl hyl');have HTB:=aW (gm.new w 42 #[.int .i64 k,.int .i64 n,.string ⟨s.toArray⟩,.slice A kids.length ca,.slice B keys.length cb] #[.int .i64 kq,.int .i64 nq,.string ⟨sq.toArray⟩,.slice A' kidsq.length ca',.slice B' keysq.length cb']);obtain ⟨nk,hnk⟩:∃ nk,kids.length=nk:=⟨_,rfl⟩
  obtain ⟨ny,hny⟩:∃ ny,keys.length=ny:=⟨_,rfl⟩
  obtain ⟨nkq,hnkq⟩:∃ nkq,kidsq.length=nkq:=⟨_,rfl⟩
  obtain ⟨nyq,hnyq⟩:∃ nyq,keysq.length=nyq:=⟨_,rfl⟩
  rw [hnk,hny,hnkq,hnyq] at HTB ⊢;rw [hnk,hnkq] at HEF;rw [hny,hnyq] at HSE;have y1:w.heap.size≠w.heap.size+1:=by omega
  have y2:w.heap.size+1≠w.heap.size:=by omega
  clear hv hv' hC hC' hck hck' h1 h1' h2 h2' h3 h3' h4 h4' h5 h5' h6 h6' h7 h7' hnk hny hnkq hnyq ih hN;obtain ⟨PP,hPP⟩:∃ PP:Prop,(JV.mk k n s kids keys=JV.mk kq nq sq kidsq keysq)=PP:=⟨_,rfl⟩
  rw [hPP];have HPN:=aW (show (k≠kq∨n≠nq∨s≠sq∨kids≠kidsq∨keys≠keysq)→¬ PP by
   rw [← hPP];intro h e;injection e with e1 e2 e3 e4 e5
   rcases h with h | h | h | h | h
   ·exact h e1
   ·exact h e2
   ·exact h e3
   ·exact h e4
   ·exact h e5)
  have HPY:=aW (show k=kq→n=nq→s=sq→kids=kidsq→keys=keysq→PP by rw [← hPP];rintro rfl rfl rfl rfl rfl;rfl);clear hPP;by_cases ek:k=kq
  case neg =>
   have HNO:=aW (HPN.out (.inl ek));have hb1:(k == kq)=false:=by simp [ek]
   go_enter Tryz.func147,Tryz.ntmps147;go_wp2;go_ret;exact EqX.no HNO.out HTB.out.2.2
  by_cases en:n=nq
  case neg =>
   have HNO:=aW (HPN.out (.inr (.inl en)));have hb1:(n == nq)=false:=by simp [en]
   subst ek;go_enter Tryz.func147,Tryz.ntmps147;go_wp2;go_ret;exact EqX.no HNO.out HTB.out.2.2
  by_cases es:s=sq
  case neg =>
   have HNO:=aW (HPN.out (.inr (.inr (.inl es))));have hb1:(s == sq)=false:=by simp [es]
   subst ek en;go_enter Tryz.func147,Tryz.ntmps147;go_wp2;go_ret;exact EqX.no HNO.out HTB.out.2.2
  subst ek en es;obtain ⟨dk,hdk⟩:∃ dk:Bool,decide (keys=keysq)=dk:=⟨_,rfl⟩
  rw [hdk] at HSE;have HDK:=aW hdk;clear hdk;cases dk with
  |false =>
   have HNO:=aW (HPN.out (.inr (.inr (.inr (.inr (of_decide_eq_false HDK.out))))));go_enter Tryz.func147,Tryz.ntmps147;go_wp2_with fail;refine (HSE.out _ HTB.out.2.2).mono ?_;rintro e w1 ⟨rfl,q,rfl⟩;have HTQ:=aW (HTB.out.drewN q);go_wp2;go_ret;exact EqX.no HNO.out HTQ.out.2.2
  | true =>
  have HKE:=aW (of_decide_eq_true HDK.out);go_enter Tryz.func147,Tryz.ntmps147;go_wp2_with fail;refine (HSE.out _ HTB.out.2.2).mono ?_;rintro e w1 ⟨rfl,q,rfl⟩;have HTQ:=aW (HTB.out.drewN q);obtain ⟨W1,hW1⟩:∃ W1,World.drewN ((w.alloc (.cells #[.int .i64 k,.int .i64 n,.string ⟨s.toArray⟩,.slice A nk ca,.slice B ny cb] 42)).alloc (.cells #[.int .i64 k,.int .i64 n,.string ⟨s.toArray⟩,.slice A' nkq ca',.slice B' nyq cb'] 42)) q=W1:=⟨_,rfl⟩
  rw [hW1] at HTQ ⊢;clear hW1;obtain ⟨c1,f1,l1⟩:=HTQ.out.1.rules;obtain ⟨c2,f2,l2⟩:=HTQ.out.2.1.rules;go_wp2_with fail;refine (HEF.out _ HTQ.out.2.2).mono ?_;rintro e w2 ⟨tt,rfl,htt,hb2⟩;have HB2:=aW (HTQ.out.2.2.trans (hb2.mono HTQ.out.2.2.size));have HTT:=aW htt;clear hb2 htt;go_wp2;go_ret;refine ⟨tt,rfl,⟨fun h=>HPY.out (by trivial) (by trivial) (by trivial) (HTT.out.1 h) HKE.out,fun h=>?_⟩,HB2.out⟩;cases tt with
  | true=>rfl
  | false=>exact absurd h (HPN.out (.inr (.inr (.inr (.inl fun e=>by have:=HTT.out.2 e;cases this)))))
end
end Go.Proofs.YtgmnmnnoahdjnaaGreatDoor
