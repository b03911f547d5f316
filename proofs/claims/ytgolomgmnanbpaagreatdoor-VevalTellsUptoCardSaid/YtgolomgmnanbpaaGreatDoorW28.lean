import Derived.Test.YtgolomgmnanbpaaGreatDoorW25
import Derived.Shelf.Spec.SearchS
import Derived.Shelf.Lay
import Derived.Shelf.SlGeneric
import Derived.Ground.Names2Prog
import Derived.Test.YtgolomgmnanbpaaGreatDoorW01
import Derived.Test.YtgolomgmnanbpaaGreatDoorW16
import Derived.Test.YtgolomgmnanbpaaGreatDoorW19
set_option maxRecDepth 100000
set_option maxHeartbeats 16000000
namespace Go.Proofs
open Go.Shelf
shelf_lay Lays2.n26 Nm2 26 at Tryz as Tryz.bsS
end Go.Proofs
namespace Go.Proofs.YtgolomgmnanbpaaGreatDoor
set_option linter.unusedVariables false
set_option linter.unusedSimpArgs false
open Go.RowKit
attribute [local go_sem] run_index_arr run_part_agg run_part_one run_field_agg
theorem up_head:∀ (keys:List (List UInt8)) (x:List UInt8),UpB keys→∃ k,k≤keys.length∧(∀ t,t<k→ltB (keys.getD t x) x=true)∧(∀ t,k≤t→ltB (keys.getD t x) x=false)
 | [],x,_=>⟨0,Nat.le_refl _,fun t h=>by omega,fun t _=>by simpa using ltB_irrefl x⟩
 | a::r,x,h=>by
  have h2:=List.pairwise_cons.1 h;by_cases ha:ltB a x=true
  ·obtain ⟨k,h3,h4,h5⟩:=up_head r x h2.2;refine ⟨k+1,by simp;omega,fun t ht=>?_,fun t ht=>?_⟩
   ·cases t with
    | zero=>simpa using ha
    | succ t=>simpa using h4 t (by omega)
   ·cases t with
    | zero=>omega
    | succ t=>simpa using h5 t (by omega)
  ·refine ⟨0,by simp,fun t ht=>by omega,fun t _=>?_⟩;cases t with
   | zero=>simpa using ha
   | succ t =>
    rw [List.getD_cons_succ];rcases Nat.lt_or_ge t r.length with hlt | hge
    ·rw [List.getD_eq_getElem?_getD,List.getElem?_eq_getElem hlt,Option.getD_some];cases hq:ltB r[t] x with
     | false=>rfl
     | true=>exact absurd (ltB_trans (h2.1 _ (List.getElem_mem hlt)) hq) ha
    ·rw [List.getD_eq_getElem?_getD,List.getElem?_eq_none hge];simpa using ltB_irrefl x
def bsI (keys:List (List UInt8)) (x:List UInt8):Nat:=Go.Lib.bsGo (fun t=>ltB (keys.getD t x) x) keys.length 0 keys.length
theorem bs_idx {keys:List (List UInt8)} {x:List UInt8} (h:UpB keys):keys.idxOf? x=if bsI keys x<keys.length∧keys.getD (bsI keys x) x=x then some (bsI keys x) else none:=by
 obtain ⟨k,hk,h1,h2⟩:=up_head keys x h;have e:bsI keys x=k:=Go.Lib.bsGo_spec _ k h1 h2 _ 0 _ (by omega) (Nat.zero_le _) hk;rw [e];have hat:∀ j (hj:j<keys.length),keys.getD j x=keys[j]:=fun j hj=>by rw [List.getD_eq_getElem?_getD,List.getElem?_eq_getElem hj,Option.getD_some]
 split
 ·rename_i hc
  refine List.idxOf?_eq_some_iff.2 ⟨hc.1,by rw [← hat k hc.1];exact hc.2,fun j hj he=>?_⟩;have:=h1 j hj;rw [hat j (by omega),he] at this;exact ltB_irrefl x this
 ·rename_i hc
  refine List.idxOf?_eq_none_iff.2 fun hm=>?_
  obtain ⟨j,hj,he⟩:=List.getElem_of_mem hm;rcases Nat.lt_trichotomy j k with hlt | rfl | hgt
  ·have:=h1 j hlt;rw [hat j hj,he] at this;exact ltB_irrefl x this
  ·exact hc ⟨hj,by rw [hat j hj,he]⟩
  ·have h3:=List.pairwise_iff_getElem.1 h k j (by omega) hj hgt;have h4:=h2 k (Nat.le_refl _);rw [hat k (by omega)] at h4;rw [he,h4] at h3;cases h3
theorem bsS_any (keys:List (List UInt8)) (x:List UInt8) (F:Nat→Prop) (B:Option Addr) (n cb:Nat) (w:World) (hn:keys.length=n) (hr:RdF w F B (strV keys)) (hl:n≤4194304) :
  Calls Tryz.prog 188 #[.slice B n cb,.string ⟨x.toArray⟩] w fun e w'=>e=.returned (.tuple #[.int .i64 (bsI keys x:Nat),.bool (decide (bsI keys x<n∧keys.getD (bsI keys x) x=x))])∧Below w.heap.size w w':=by
 by_cases hne:keys=[]
 ·subst hne;obtain rfl:0=n:=hn;refine (Any2.slices_BinarySearch_string_empty Tryz.bsS B cb ⟨x.toArray⟩ w).mono ?_;rintro e w' ⟨rfl,rfl⟩;exact ⟨by simp [bsI,Go.Lib.bsGo],Below.refl _ _⟩
 ·obtain ⟨b,o,rfl,hb,_,hx⟩:=hr (by simpa [strV] using hne);refine (Any2.slices_BinarySearch_string Tryz.bsS b o n cb (fun t=>⟨(keys.getD t x).toArray⟩) ⟨x.toArray⟩ w (by omega) (fun j hj=>?_)).mono ?_
  ·have hj':j<keys.length:=by omega
   rw [hx j (by rw [strV_len];exact hj')];simp [strV,List.getD_eq_getElem?_getD,List.getElem?_eq_getElem hj']
  ·rintro e w' ⟨rfl,q,rfl⟩;have e1:(Go.Lib.bsGo (fun t=>Op.bytesLess (ByteArray.mk (keys.getD t x).toArray).toList (ByteArray.mk x.toArray).toList) n 0 n)=bsI keys x:=by
    unfold bsI ltB;rw [hn];simp only [Go.Lib.toList_data,List.toList_toArray]
   rw [e1];have e2:decide (bsI keys x<n∧(⟨(keys.getD (bsI keys x) x).toArray⟩:ByteArray)=⟨x.toArray⟩)=decide (bsI keys x<n∧keys.getD (bsI keys x) x=x):=by
    refine decide_eq_decide.2 ⟨fun h=>⟨h.1,?_⟩,fun h=>⟨h.1,by rw [h.2]⟩⟩;have:=h.2;injection this with this
    exact List.toArray_inj this
   exact ⟨by rw [e2],bel_drewN (Below.refl _ _) q⟩
def plI (keys:List (List UInt8)) (x:List UInt8):Int:=match keys.idxOf? x with | some i=>(i:Int) | none => -1
theorem vPlace (keys:List (List UInt8)) (x:List UInt8) (F:Nat→Prop) (B:Option Addr) (n cb:Nat) (w:World) (hn:keys.length=n) (hr:RdF w F B (strV keys)) (hl:n≤4194304) (hu:UpB keys) :
  Calls Tryz.prog 166 #[.slice B n cb,.string ⟨x.toArray⟩] w fun e w'=>e=.returned (.int .i64 (plI keys x))∧Below w.heap.size w w':=by
 have HB:=aW (bsS_any keys x F B n cb w hn hr hl);have hq:plI keys x=if bsI keys x<n∧keys.getD (bsI keys x) x=x then (bsI keys x:Int) else -1:=by
  unfold plI;rw [bs_idx hu,hn];by_cases hc:bsI keys x<n∧keys.getD (bsI keys x) x=x
  ·rw [if_pos hc,if_pos hc]
  ·rw [if_neg hc,if_neg hc]
 obtain ⟨p,hp⟩:∃ p,plI keys x=p:=⟨_,rfl⟩
 obtain ⟨j,hj⟩:∃ j,bsI keys x=j:=⟨_,rfl⟩
 rw [hp] at hq ⊢;rw [hj] at hq HB;clear hn hr hl hu hp hj;by_cases hc:j<n∧keys.getD j x=x
 ·rw [decide_eq_true hc] at HB;rw [if_pos hc] at hq;have HQ:=aW hq;clear hc hq;go_enter Tryz.func166,Tryz.ntmps166;go_wp2_with fail;refine HB.out.mono ?_;rintro e w1 ⟨rfl,hb1⟩;have HB1:=aW hb1;clear hb1;go_wp2;go_ret;exact ⟨by rw [HQ.out];rfl,HB1.out⟩
 ·rw [decide_eq_false hc] at HB;rw [if_neg hc] at hq;have HQ:=aW hq;clear hc hq;go_enter Tryz.func166,Tryz.ntmps166;go_wp2_with fail;refine HB.out.mono ?_;rintro e w1 ⟨rfl,hb1⟩;have HB1:=aW hb1;clear hb1;go_wp2;go_ret;exact ⟨by rw [HQ.out];rfl,HB1.out⟩
end Go.Proofs.YtgolomgmnanbpaaGreatDoor
namespace Go.Proofs.YtgolomgmnanbpaaGreatDoor
set_option linter.unusedVariables false
set_option linter.unusedSimpArgs false
open Go.RowKit
attribute [local go_sem] run_index_arr run_part_agg run_part_one run_field_agg
def KidP (o:Option JV) (F:Nat→Prop) (w:World) (e:Ending) (w':World):Prop:=∃ (cs:List Value) (u:JV) (b:Bool),e=.returned (.tuple #[.agg cs.toArray,.bool b])∧VR w' F cs u∧Came u∧o=(if b=true then some u else none)∧(b=true→good u=true)∧Below w.heap.size w w'
theorem KidP.none_ {o:Option JV} {F:Nat→Prop} {w w':World} (ho:o=none) (hb:Below w.heap.size w w') :
  KidP o F w (.returned (.tuple #[.agg #[.int .i64 0,.int .i64 0,.string ⟨#[]⟩,.slice none 0 0,.slice none 0 0],.bool false])) w' :=
 ⟨_,jZero,false,rfl,VR.zero,came_atom (by unfold iw;omega) (by unfold iw;omega) (by simp),by rw [ho];rfl,(fun h=>by cases h),hb⟩
theorem vKid {k n:Int} {s:List UInt8} {kids:List JV} {keys:List (List UInt8)} {cs:List Value} {F:Nat→Prop} (i:Int) (w:World) (hG:GOK w) (hv:VR w F cs (.mk k n s kids keys)) (hc:Came (.mk k n s kids keys)) (hg:good (.mk k n s kids keys)=true) :
  Calls Tryz.prog 165 #[.agg cs.toArray,.int .i64 6,.int .i64 i] w (KidP (if k=6∧0≤i then kids[i.toNat]? else none) F w):=by
 have HR:=aW (fun (W:World) (h:Below w.heap.size w W)=>vRightG _ cs F W (hG.keep h) (hv.bel h) hc);rw [hg] at HR;obtain ⟨A,B,ca,cb,css,rfl,hvs,h1,h2,h3,h4,h5,h6⟩:=hv.out;have HGD:=aW (fun (u:JV) (hu:u ∈ kids)=>And.intro (good_kid (v:=.mk k n s kids keys) hg hu) (hc.out.2.2.2.2.2.2 u hu));have hnk:kids.length≤4194304:=hc.out.2.2.2.1;have HKC:=aW (fun (j:Nat) (x:JV) (hx:kids[j]? = some x)=>kid_cellsG (hvs.mono (F':=fun b=>F b∧b<w.heap.size) fun b hb hF=>⟨hF,hb⟩) (h5.mono (F':=fun b=>F b∧b<w.heap.size) fun b hb hF=>⟨hF,hb⟩) hx);obtain ⟨nk,hnk2⟩:∃ q,kids.length=q:=⟨_,rfl⟩
 obtain ⟨ny,hny⟩:∃ q,keys.length=q:=⟨_,rfl⟩
 rw [hnk2] at hnk h1;rw [hnk2,hny] at HR ⊢;rw [hny] at h2;have HNK:=aW hnk2;have HH0:=aW (((Held.nil w).push 25 #[.int .i64 k,.int .i64 n,.string ⟨s.toArray⟩,.slice A nk ca,.slice B ny cb] (g:=w.heap.size) rfl).push 25 #[.int .i64 0,.int .i64 0,.string ⟨#[]⟩,.slice none 0 0,.slice none 0 0] (g:=w.heap.size+1) (by simp));clear hG hv hc hg hvs h3 h4 h5 h6 hnk2 hny;obtain ⟨c0,f0,l0⟩:=HH0.out.b1.rules;obtain ⟨c1,f1,l1⟩:=HH0.out.b0.rules;obtain ⟨op,hop⟩:∃ p,(if k=6∧0≤i then kids[i.toNat]? else none)=p:=⟨_,rfl⟩
 have HOP:=aW hop;rw [hop];clear hop;by_cases h6:k=6
 ·subst h6;by_cases hi:i<0
  ·have HI:=aW hi;go_enter Tryz.func165,Tryz.ntmps165;go_wp2;refine bodyPost_ret (v:=.tuple #[.agg #[.int .i64 0,.int .i64 0,.string ⟨#[]⟩,.slice none 0 0,.slice none 0 0],.bool false]) (by simp only [results,Tryz.results165];go_simp) rfl ?_;exact KidP.none_ (by rw [← HOP.out,if_neg (by have:=HI.out;omega)]) HH0.out.1
  ·obtain ⟨j,rfl⟩:∃ j:Nat,(j:Int)=i:=⟨i.toNat,by omega⟩
   by_cases hj:j<nk
   ·obtain ⟨x,hx⟩:∃ x,kids[j]? = some x:=⟨_,List.getElem?_eq_getElem (by rw [HNK.out];exact hj)⟩
    obtain ⟨b,o,kx,nx,sx,Ax,nax,cax,Bx,nbx,cbx,rfl,hb,hVR,hz⟩:=HKC.out j x hx;have HX:=aW (HGD.out x (List.mem_of_getElem? hx));have HOX:=aW (show op=some x by rw [← HOP.out,if_pos (by first | exact ⟨rfl,by omega⟩ | exact ⟨trivial,by omega⟩),show ((j:Int)).toNat=j by omega,hx]);have HVR:=aW hVR;have HZ:=aW hz;have HLB:=aW hb;clear hVR hz hx hi hb HOP HGD HKC;go_enter Tryz.func165,Tryz.ntmps165;go_wp2_with fail;refine (HR.out _ HH0.out.1).mono ?_;rintro e w1 ⟨rfl,hb1⟩;have HH1:=aW (HH0.out.keep hb1);clear hb1 c0 f0 l0 c1 f1 l1;obtain ⟨c0,f0,l0⟩:=HH1.out.b1.rules;obtain ⟨c1,f1,l1⟩:=HH1.out.b0.rules;obtain ⟨z0,z1,z2,z3,z4⟩:=HZ.out _ HH1.out.1;have lb:b<w1.heap.size:=by have:=HLB.out;have:=HH1.out.1.size;omega
    go_wp2;refine bodyPost_ret (v:=.tuple #[.agg #[.int .i64 kx,.int .i64 nx,.string sx,.slice Ax nax cax,.slice Bx nbx cbx],.bool true]) (by simp only [results,Tryz.results165];go_simp) rfl ?_;have hne:∀ b,(F b∧b<w.heap.size)→b≠w.heap.size+1:=fun b hb=>by have:=hb.2;omega
    exact ⟨_,x,true,rfl,((HVR.out.bel HH1.out.1).keep (((((KeepF.refl.set hne 0 _).set hne 1 _).set hne 2 _).set hne 3 _).set hne 4 _)).mono (fun b _ hb=>hb.1),HX.out.2,HOX.out,fun _=>HX.out.1,five_bel HH1.out.1 (by omega) _ _ _ _ _⟩
   ·have HJ:=aW hj;go_enter Tryz.func165,Tryz.ntmps165;go_wp2;refine bodyPost_ret (v:=.tuple #[.agg #[.int .i64 0,.int .i64 0,.string ⟨#[]⟩,.slice none 0 0,.slice none 0 0],.bool false]) (by simp only [results,Tryz.results165];go_simp) rfl ?_;exact KidP.none_ (by rw [← HOP.out,if_pos (by first | exact ⟨rfl,by omega⟩ | exact ⟨trivial,by omega⟩),List.getElem?_eq_none (by rw [HNK.out];have:=HJ.out;omega)]) HH0.out.1
 ·have e1:(k == 6)=false:=by simp [h6]
  have e2:(k != 6)=true:=by simp [h6]
  have H6:=aW h6;clear h6;go_enter Tryz.func165,Tryz.ntmps165;go_wp2;refine bodyPost_ret (v:=.tuple #[.agg #[.int .i64 0,.int .i64 0,.string ⟨#[]⟩,.slice none 0 0,.slice none 0 0],.bool false]) (by simp only [results,Tryz.results165];go_simp) rfl ?_;exact KidP.none_ (by rw [← HOP.out,if_neg (fun h=>H6.out h.1)]) HH0.out.1
set_option linter.unusedVariables false
set_option linter.unusedSimpArgs false
open Go.RowKit
attribute [local go_sem] run_index_arr run_part_agg run_part_one run_field_agg
theorem index_strK {s:List UInt8} {i:Nat} {a:UInt8} (ha:s[i]? = some a) (W:World):(Instr.index 9 (.string ⟨s.toArray⟩) (.int .i64 (i:Int))).run Tryz.prog W=.ok (.int .u8 a.toNat) W:=by
 obtain ⟨hi,e⟩:=List.getElem?_eq_some_iff.1 ha;have hsz:(ByteArray.mk s.toArray).size=s.length:=by simp [ByteArray.size]
 rw [run_index_string W 9 ⟨s.toArray⟩ .i64 (i:Int) Tryz.underlying9,dif_pos ⟨by omega,by rw [hsz];omega⟩];subst e;rfl
theorem infoByteK:(Tryz.prog.info? 5).map (fun i=>(i.zero,i.size,i.bytes))=some (some (.int .u8 0),1,1):=by kernel_rfl
def OwnB (base:Nat) (row:Value) (n:Nat) (l:List UInt8) (w:World):Prop:=l.length=n∧w.ownsRow base 5 1 row n (byteV l)∧base≤w.heap.size
theorem OwnB.nil (w:World):OwnB w.heap.size (.slice none 0 0) 0 [] w:=⟨rfl,World.ownsRow_nil _ _ _ _,Nat.le_refl _⟩
theorem OwnB.bel {base n:Nat} {row:Value} {l:List UInt8} {w w':World} (h:OwnB base row n l w) (hb:Below w.heap.size w w'):OwnB base row n l w':=⟨h.1,ownBel h.2.1 hb,Nat.le_trans h.2.2 hb.size⟩
def Gr (row:Value) (w:World) (row':Value) (w':World):Prop:=w.grownBy w' row.ownBlock∧(row'.ownBlock=row.ownBlock∨∃ k,row'.ownBlock=some k∧w.heap.size≤k)
theorem Gr.refl (row:Value) (w:World):Gr row w row w:=⟨World.grownBy.refl w _,.inl rfl⟩
theorem Gr.trans {a b c:Value} {w w1 w2:World} (h:Gr a w b w1) (k:Gr b w1 c w2):Gr a w c w2:=by
 obtain ⟨h1,h2⟩:=h;obtain ⟨k1,k2⟩:=k;refine ⟨⟨k1.os.trans h1.os,k1.tape.trans h1.tape,k1.output.trans h1.output,Nat.le_trans h1.size k1.size,fun i hi hne=>(k1.block i (Nat.lt_of_lt_of_le hi h1.size) ?_).trans (h1.block i hi hne)⟩,?_⟩
 ·rcases h2 with h2 | ⟨q,h2,h3⟩
  ·rw [h2];exact hne
  ·rw [h2];intro e;injection e with e;omega
 ·rcases k2 with k2 | ⟨q,k2,k3⟩
  ·rcases h2 with h2 | ⟨q',h2,h3⟩
   ·exact .inl (k2.trans h2)
   ·exact .inr ⟨q',k2.trans h2,h3⟩
  ·exact .inr ⟨q,k2,Nat.le_trans h1.size k3⟩
theorem Gr.bel {row:Value} {w w':World} (h:Below w.heap.size w w'):Gr row w row w':=⟨gbBel h _,.inl rfl⟩
theorem Gr.size {a b:Value} {w w':World} (h:Gr a w b w'):w.heap.size≤w'.heap.size:=h.1.size
theorem Gr.keepF {a b:Value} {w w':World} {F:Nat→Prop} (h:Gr a w b w') (hF:∀ k,F k→some k≠a.ownBlock):KeepF F w w':=⟨h.1.size,fun k hf hk=>h.1.block k hk (hF k hf)⟩
theorem Gr.blk {a b:Value} {w w':World} {g:Nat} {t:TypeId} {cs:Array Value} (h:Gr a w b w') (hb:Blk w g t cs) (hg:some g≠a.ownBlock):Blk w' g t cs:=(h.1.block g hb.lt hg).trans hb
theorem Gr.below {a b:Value} {w w':World} {base:Nat} (h:Gr a w b w') (hb:base≤w.heap.size) (ho:∀ k,a.ownBlock=some k→base≤k):Below base w w':=(Below.refl base w).grown h.1 hb ho
theorem OwnB.post {base n M:Nat} {row row2:Value} {l m:List UInt8} {w w6:World} {o:Obj} (h:OwnB base row n l w) (hown:w6.ownsRow base 5 1 row2 (n+M) (byteV l++byteV m)) (hM:m.length=M) (hgr:(w.alloc o).grownBy w6 row.ownBlock) (hob:row2.ownBlock=row.ownBlock∨row2.ownBlock=some (w.alloc o).heap.size):OwnB base row2 (n+M) (l++m) w6∧Gr row w row2 w6:=by
 have hg:Gr row w row2 w6:=(Gr.bel ((Below.refl _ w).alloc (Nat.le_refl _) o)).trans ⟨hgr,hob.imp id fun e=>⟨_,e,Nat.le_refl _⟩⟩;exact ⟨⟨by rw [List.length_append,h.1,hM],by rw [byteV_app];exact hown,Nat.le_trans h.2.2 hg.size⟩,hg⟩
def LayP (base:Nat) (m:List UInt8) (row:Value) (w:World) (e:Ending) (w':World):Prop:=∃ row' n',e=.returned row'∧OwnB base row' n' m w'∧Gr row w row' w'
def encT (s:List UInt8):List UInt8:=s.flatMap fun c=>if c=0 then [0,255] else [c]
theorem encT_len (s:List UInt8):(encT s).length≤2*s.length:=by
 induction s with
 | nil=>simp [encT]
 | cons c r ih =>
  unfold encT at ih ⊢;rw [List.flatMap_cons,List.length_append,List.length_cons];split
  ·show 2+_≤_;omega
  ·show 1+_≤_;omega
theorem codeT_enc (s:List UInt8):codeT s=5::(encT s++[0,0]):=rfl
theorem kLayText (row:Value) (base n:Nat) (l s:List UInt8) (w:World) (h:OwnB base row n l w) (hn:n≤100000000000) (hs:s.length≤4194304) :
  Calls Tryz.prog 102 #[row,.string ⟨s.toArray⟩] w (LayP base (l++codeT s) row w):=by
 obtain ⟨i0,hi,hz0,hz1,hz2⟩:=info_parts infoByteK;have HI:=aW hi;have HO:=aW h;obtain ⟨ns,hns⟩:∃ q,s.length=q:=⟨_,rfl⟩
 have hsz:(ByteArray.mk s.toArray).size=ns:=by rw [← hns];simp [ByteArray.size]
 have HIX:=aW (fun (i:Nat) (a:UInt8) (ha:s[i]? = some a) W=>index_strK ha W);have HN:=aW hns;obtain ⟨S,hS⟩:∃ S:ByteArray,⟨s.toArray⟩=S:=⟨_,rfl⟩
 rw [hS] at HIX hsz ⊢;rw [hns] at hs;have HFIN:=aW (fun (r:Value) (m:Nat) (w':World) (ho:OwnB base r m (l++5::(encT s++[0,0])) w') (hb:Gr row w r w')=>show LayP base (l++codeT s) row w (.returned r) w' from ⟨r,m,rfl,ho,hb⟩);clear hi h hns hS;go_enter Tryz.func102,Tryz.ntmps102;have HA2:=aW (HO.out.2.1.alloc (.cells #[.int .u8 5] 5));have HR2:=aW (Rd.of_blk (Blk.new w 5 #[.int .u8 5]));have HB2:=aW (show base≤(w.alloc (.cells #[.int .u8 5] 5)).heap.size by have:=HO.out.2.2;simp;omega);go_wp2_with (at_builtin;refine wpList_append_rd _ rfl _ _ 76 rfl base 5 i0 _ 1 1 Tryz.underlying76 HI.out hz0 hz1 hz2 rfl (by decide) row n (byteV l) rfl HA2.out (some ⟨w.heap.size,0,none⟩) 1 1 (fun h=>by cases h) [.int .u8 5] rfl rfl HR2.out (byteV_one [5]) (by unfold maxLen;omega) (by omega) HB2.out ?_;intro row2 w2 hown2 hgr2 hob2);have H2P:=aW (HO.out.post (m:=[5]) (M:=1) hown2 rfl hgr2 hob2);clear hown2 hgr2 hob2;go_loopg [0,11] ns (fun gk s0 s11 wr => ∃ (i m:Nat) (r:Value),r=s0∧i≤ns∧m≤n+1+2*i∧gk=ns-i∧s11=.int .i64 (i:Int)∧Hid (OwnB base r m (l++5::encT (s.take i)) wr)∧Hid (Gr row w r wr))
 case atStart=>exact ⟨0,n+1,_,rfl,Nat.zero_le _,by omega,by go_num,rfl,aW H2P.out.1,aW H2P.out.2⟩
 case round =>
  obtain ⟨i,m,r,rfl,hin,hm,hgk,rfl,HOW,HBW⟩:=hrel;have HG:=aW hgk;clear hgk H2P HA2 HR2 HB2 HO;by_cases hlt:i<ns
  ·obtain ⟨c,hc⟩:∃ c,s[i]? = some c:=⟨_,List.getElem?_eq_getElem (by rw [HN.out];exact hlt)⟩
   have hix:=fun W=>HIX.out i c hc W
   have HTK:=aW (show encT (s.take (i+1))=encT (s.take i)++(if c=0 then [0,255] else [c]) by rw [List.take_add_one,hc];unfold encT;simp);obtain ⟨cn,hcn⟩:∃ q,c.toNat=q:=⟨_,rfl⟩
   have HCN:=aW hcn;rw [hcn] at hix;clear hc hcn;have HA3:=aW (HOW.out.2.1.alloc (.cells #[.int .u8 (cn:Int)] 5));have HR3:=aW (Rd.of_blk (Blk.new wr 5 #[.int .u8 (cn:Int)]));have HB3:=aW (show base≤(wr.alloc (.cells #[.int .u8 (cn:Int)] 5)).heap.size by have:=HOW.out.2.2;simp;omega);by_cases h0:cn=0
   ·have hc0:c=0:=by rw [← UInt8.toNat_inj,HCN.out,h0];rfl
    subst h0;go_upto_region 6 with (at_builtin;refine wpList_append_rd _ rfl _ _ 76 rfl base 5 i0 _ 1 1 Tryz.underlying76 HI.out hz0 hz1 hz2 rfl (by decide) r m (byteV (l++5::encT (s.take i))) rfl HA3.out (some ⟨wr.heap.size,0,none⟩) 1 1 (fun h=>by cases h) [.int .u8 ((0:Nat):Int)] rfl rfl HR3.out (byteV_one [0]) (by unfold maxLen;omega) (by omega) HB3.out ?_;intro row3 w3 hown3 hgr3 hob3);have H3P:=aW (HOW.out.post (m:=[0]) (M:=1) hown3 rfl hgr3 hob3);clear hown3 hgr3 hob3 HA3 HR3 HB3;have HO3:=aW H3P.out.1;have HA4:=aW (HO3.out.2.1.alloc (.cells #[.int .u8 255] 5));have HR4:=aW (Rd.of_blk (Blk.new w3 5 #[.int .u8 255]));have HB4:=aW (show base≤(w3.alloc (.cells #[.int .u8 255] 5)).heap.size by have:=HO3.out.2.2;simp;omega);go_wp2_with (at_builtin;refine wpList_append_rd _ rfl _ _ 76 rfl base 5 i0 _ 1 1 Tryz.underlying76 HI.out hz0 hz1 hz2 rfl (by decide) row3 (m+1) (byteV (l++5::encT (s.take i)++[0])) rfl HA4.out (some ⟨w3.heap.size,0,none⟩) 1 1 (fun h=>by cases h) [.int .u8 255] rfl rfl HR4.out (byteV_one [255]) (by unfold maxLen;omega) (by omega) HB4.out ?_;intro row4 w4 hown4 hgr4 hob4);have H4P:=aW (HO3.out.post (m:=[255]) (M:=1) hown4 rfl hgr4 hob4);clear hown4 hgr4 hob4;have HL:=aW (show l++5::encT (s.take i)++[0]++[255]=l++5::encT (s.take (i+1)) by rw [HTK.out,if_pos hc0];simp);go_roundg (ns-(i+1))
    case measure=>rw [HG.out];omega
    case rel=>exact ⟨i+1,m+1+1,_,rfl,by omega,by omega,rfl,by go_num,aW (by rw [← HL.out];exact H4P.out.1),aW ((HBW.out.trans H3P.out.2).trans H4P.out.2)⟩
   ·have hc0:¬ c=0:=fun e=>h0 (by rw [← HCN.out,e];rfl)
    have h0b:((cn:Int) == 0)=false:=by rw [beq_eq_false_iff_ne];omega
    have hcc:byteV [c]=[.int .u8 (cn:Int)]:=by show [Value.int .u8 ((c.toNat:Nat):Int)]=_;rw [HCN.out]
    have HCC:=aW hcc;clear hcc;go_upto_region 6 with (at_builtin;refine wpList_append_rd _ rfl _ _ 76 rfl base 5 i0 _ 1 1 Tryz.underlying76 HI.out hz0 hz1 hz2 rfl (by decide) r m (byteV (l++5::encT (s.take i))) rfl HA3.out (some ⟨wr.heap.size,0,none⟩) 1 1 (fun h=>by cases h) [.int .u8 (cn:Int)] rfl rfl HR3.out (by rw [← HCC.out];exact byteV_one [c]) (by unfold maxLen;omega) (by omega) HB3.out ?_;intro row3 w3 hown3 hgr3 hob3);have H3P:=aW (HOW.out.post (m:=[c]) (M:=1) (by rw [HCC.out];exact hown3) rfl hgr3 hob3);clear hown3 hgr3 hob3 HA3 HR3 HB3;have HL:=aW (show l++5::encT (s.take i)++[c]=l++5::encT (s.take (i+1)) by rw [HTK.out,if_neg hc0];simp);go_wp2;go_roundg (ns-(i+1))
    case measure=>rw [HG.out];omega
    case rel=>exact ⟨i+1,m+1,_,rfl,by omega,by omega,rfl,by go_num,aW (by rw [← HL.out];exact H3P.out.1),aW (HBW.out.trans H3P.out.2)⟩
  ·obtain rfl:i=ns:=by omega
   have hl:l++5::encT (s.take i)=l++5::encT s:=by rw [List.take_of_length_le (Nat.le_of_eq HN.out)]
   rw [hl] at HOW;clear hl;have HA5:=aW (HOW.out.2.1.alloc (.cells #[.int .u8 0,.int .u8 0] 5));have HR5:=aW (Rd.of_blk (Blk.new wr 5 #[.int .u8 0,.int .u8 0]));have HB5:=aW (show base≤(wr.alloc (.cells #[.int .u8 0,.int .u8 0] 5)).heap.size by have:=HOW.out.2.2;simp;omega);go_wp2_with (at_builtin;refine wpList_append_rd _ rfl _ _ 76 rfl base 5 i0 _ 1 1 Tryz.underlying76 HI.out hz0 hz1 hz2 rfl (by decide) r m (byteV (l++5::encT s)) rfl HA5.out (some ⟨wr.heap.size,0,none⟩) 2 2 (fun h=>by cases h) [.int .u8 0,.int .u8 0] rfl rfl HR5.out (byteV_one [0,0]) (by unfold maxLen;omega) (by omega) HB5.out ?_;intro row3 w3 hown3 hgr3 hob3);have H3P:=aW (HOW.out.post (m:=[0,0]) (M:=2) hown3 rfl hgr3 hob3);clear hown3 hgr3 hob3;have HX:=aW (HFIN.out _ _ _ (by have:=H3P.out.1;simpa using this) (HBW.out.trans H3P.out.2));go_ret;exact HX.out
set_option linter.unusedVariables false
set_option linter.unusedSimpArgs false
open Go.RowKit
attribute [local go_sem] run_index_arr run_part_agg run_part_one run_field_agg
theorem byte_is {m d:Nat} {E:Int} (h:E=((m / d % 256:Nat):Int)):[Value.int .u8 E]=byteV [UInt8.ofNat (m / d)]:=by
 subst h;show [Value.int .u8 ((m / d % 256:Nat):Int)]=[Value.int .u8 (((UInt8.ofNat (m / d)).toNat:Nat):Int)]
 rw [UInt8.toNat_ofNat']
theorem numB8_step {m j by_:Nat} (h:([56,48,40,32,24,16,8,0]:List Nat)[j]? = some by_):numB8 m (j+1)=numB8 m j++[UInt8.ofNat (m / 2 ^ by_)]:=by
 unfold numB8;rw [List.take_add_one,h,List.map_append];rfl
theorem kLay3 (row:Value) (base n:Nat) (l:List UInt8) (w:World) (v:Int) (t:List UInt8) (A B:Option Addr) (nk ca ny cb:Nat) (h:OwnB base row n l w) (hn:n≤100000000000) (hv:iw v) :
  Calls Tryz.prog 65 #[row,.agg #[.int .i64 3,.int .i64 v,.string ⟨t.toArray⟩,.slice A nk ca,.slice B ny cb]] w (LayP base (l++codeN v) row w):=by
 obtain ⟨i0,hi,hz0,hz1,hz2⟩:=info_parts infoByteK;have HI:=aW hi;have HH0:=aW ((Held.nil w).push 25 #[.int .i64 3,.int .i64 v,.string ⟨t.toArray⟩,.slice A nk ca,.slice B ny cb] (g:=w.heap.size) rfl);have HO:=aW (h.bel HH0.out.1);obtain ⟨W0,hW0⟩:∃ W0,w.alloc (.cells #[.int .i64 3,.int .i64 v,.string ⟨t.toArray⟩,.slice A nk ca,.slice B ny cb] 25)=W0:=⟨_,rfl⟩
 rw [hW0] at HH0 HO;have HW0:=aW hW0;clear hi h hW0;have HA2:=aW (HO.out.2.1.alloc (.cells #[.int .u8 4] 5));have HR2:=aW (Rd.of_blk (Blk.new W0 5 #[.int .u8 4]));have HB2:=aW (show base≤(W0.alloc (.cells #[.int .u8 4] 5)).heap.size by have:=HO.out.2.2;simp;omega);go_enter Tryz.func65,Tryz.ntmps65;go_upto_region 10 with fail;rw [HW0.out];go_upto_region 11 with (at_builtin;refine wpList_append_rd _ rfl _ _ 76 rfl base 5 i0 _ 1 1 Tryz.underlying76 HI.out hz0 hz1 hz2 rfl (by decide) row n (byteV l) rfl HA2.out (some ⟨W0.heap.size,0,none⟩) 1 1 (fun h=>by cases h) [.int .u8 4] rfl rfl HR2.out (byteV_one [4]) (by unfold maxLen;omega) (by omega) HB2.out ?_;intro row2 w2 hown2 hgr2 hob2);rw [xor_num hv];obtain ⟨m,hm⟩:∃ m,(v+9223372036854775808).toNat=m:=⟨_,rfl⟩
 have hm64:m<18446744073709551616:=by unfold iw at hv;omega
 rw [hm];have H2P:=aW (HO.out.post (m:=[4]) (M:=1) hown2 rfl hgr2 hob2);have HFIN:=aW (fun (r:Value) (k:Nat) (w':World) (ho:OwnB base r k (l++4::numB8 m 8) w') (hb:Gr row W0 r w')=>show LayP base (l++codeN v) row w (.returned r) w' from ⟨r,k,rfl,by rw [codeN_8,hm];exact ho,(Gr.bel HH0.out.1).trans hb⟩);clear hown2 hgr2 hob2 hm HA2 HR2 HB2 hv;go_wp2;go_loopg [0,6] 8 (fun gk s0 s6 wr => ∃ (j:Nat) (b:Int) (r:Value),r=s0∧j≤8∧gk=8-j∧s6=.int .i64 b∧b=56-8*j∧Hid (OwnB base r (n+1+j) (l++4::numB8 m j) wr)∧Hid (Gr row W0 r wr))
 case atStart=>exact ⟨0,56,_,rfl,by omega,by go_num,rfl,by omega,aW (by simpa [numB8] using H2P.out.1),aW H2P.out.2⟩
 case round =>
  obtain ⟨j,b,r,rfl,hj,hgk,rfl,hb,HOW,HBW⟩:=hrel;have HG:=aW hgk;clear hgk H2P;have HA:=aW (fun (x:Int)=>HOW.out.2.1.alloc (.cells #[.int .u8 x] 5));have HR:=aW (fun (x:Int)=>Rd.of_blk (Blk.new wr 5 #[.int .u8 x]));have HB:=aW (fun (x:Int)=>show base≤(wr.alloc (.cells #[.int .u8 x] 5)).heap.size by have:=HOW.out.2.2;simp;omega);rcases (by omega:j=0∨j=1∨j=2∨j=3∨j=4∨j=5∨j=6∨j=7∨j=8) with rfl | rfl | rfl | rfl | rfl | rfl | rfl | rfl | rfl
  ·obtain rfl:b=56:=by omega
   have HST:=aW (numB8_step (m:=m) (j:=0) (by_:=56) rfl);clear hb hj;go_upto_region 13 with (at_builtin;refine wpList_append_rd _ rfl _ _ 76 rfl base 5 i0 _ 1 1 Tryz.underlying76 HI.out hz0 hz1 hz2 rfl (by decide) r (n+1+0) (byteV (l++4::numB8 m 0)) rfl (HA.out _) (some ⟨wr.heap.size,0,none⟩) 1 1 (fun h=>by cases h) [.int .u8 _] rfl rfl (HR.out _) (by intro u hu;obtain rfl:=List.mem_singleton.1 hu;rfl) (by unfold maxLen;omega) (by omega) (HB.out _) ?_;intro row3 w3 hown3 hgr3 hob3);rw [byte_is (m:=m) (d:=72057594037927936) ?_] at hown3;rotate_left
   ·omega
   have H3P:=aW (HOW.out.post (m:=[UInt8.ofNat (m / 72057594037927936)]) (M:=1) hown3 rfl hgr3 hob3);clear hown3 hgr3 hob3;go_wp2;go_roundg (8-(0+1))
   case measure=>rw [HG.out];omega
   case rel=>exact ⟨1,48,_,rfl,by omega,by first | rfl | omega,by go_num,by omega,aW (by rw [HST.out,← List.cons_append,← List.append_assoc];exact H3P.out.1),aW (HBW.out.trans H3P.out.2)⟩
  ·obtain rfl:b=48:=by omega
   have HST:=aW (numB8_step (m:=m) (j:=1) (by_:=48) rfl);clear hb hj;go_upto_region 13 with (at_builtin;refine wpList_append_rd _ rfl _ _ 76 rfl base 5 i0 _ 1 1 Tryz.underlying76 HI.out hz0 hz1 hz2 rfl (by decide) r (n+1+1) (byteV (l++4::numB8 m 1)) rfl (HA.out _) (some ⟨wr.heap.size,0,none⟩) 1 1 (fun h=>by cases h) [.int .u8 _] rfl rfl (HR.out _) (by intro u hu;obtain rfl:=List.mem_singleton.1 hu;rfl) (by unfold maxLen;omega) (by omega) (HB.out _) ?_;intro row3 w3 hown3 hgr3 hob3);rw [byte_is (m:=m) (d:=281474976710656) ?_] at hown3;rotate_left
   ·omega
   have H3P:=aW (HOW.out.post (m:=[UInt8.ofNat (m / 281474976710656)]) (M:=1) hown3 rfl hgr3 hob3);clear hown3 hgr3 hob3;go_wp2;go_roundg (8-(1+1))
   case measure=>rw [HG.out];omega
   case rel=>exact ⟨2,40,_,rfl,by omega,by first | rfl | omega,by go_num,by omega,aW (by rw [HST.out,← List.cons_append,← List.append_assoc];exact H3P.out.1),aW (HBW.out.trans H3P.out.2)⟩
  ·obtain rfl:b=40:=by omega
   have HST:=aW (numB8_step (m:=m) (j:=2) (by_:=40) rfl);clear hb hj;go_upto_region 13 with (at_builtin;refine wpList_append_rd _ rfl _ _ 76 rfl base 5 i0 _ 1 1 Tryz.underlying76 HI.out hz0 hz1 hz2 rfl (by decide) r (n+1+2) (byteV (l++4::numB8 m 2)) rfl (HA.out _) (some ⟨wr.heap.size,0,none⟩) 1 1 (fun h=>by cases h) [.int .u8 _] rfl rfl (HR.out _) (by intro u hu;obtain rfl:=List.mem_singleton.1 hu;rfl) (by unfold maxLen;omega) (by omega) (HB.out _) ?_;intro row3 w3 hown3 hgr3 hob3);rw [byte_is (m:=m) (d:=1099511627776) ?_] at hown3;rotate_left
   ·omega
   have H3P:=aW (HOW.out.post (m:=[UInt8.ofNat (m / 1099511627776)]) (M:=1) hown3 rfl hgr3 hob3);clear hown3 hgr3 hob3;go_wp2;go_roundg (8-(2+1))
   case measure=>rw [HG.out];omega
   case rel=>exact ⟨3,32,_,rfl,by omega,by first | rfl | omega,by go_num,by omega,aW (by rw [HST.out,← List.cons_append,← List.append_assoc];exact H3P.out.1),aW (HBW.out.trans H3P.out.2)⟩
  ·obtain rfl:b=32:=by omega
   have HST:=aW (numB8_step (m:=m) (j:=3) (by_:=32) rfl);clear hb hj;go_upto_region 13 with (at_builtin;refine wpList_append_rd _ rfl _ _ 76 rfl base 5 i0 _ 1 1 Tryz.underlying76 HI.out hz0 hz1 hz2 rfl (by decide) r (n+1+3) (byteV (l++4::numB8 m 3)) rfl (HA.out _) (some ⟨wr.heap.size,0,none⟩) 1 1 (fun h=>by cases h) [.int .u8 _] rfl rfl (HR.out _) (by intro u hu;obtain rfl:=List.mem_singleton.1 hu;rfl) (by unfold maxLen;omega) (by omega) (HB.out _) ?_;intro row3 w3 hown3 hgr3 hob3);rw [byte_is (m:=m) (d:=4294967296) ?_] at hown3;rotate_left
   ·omega
   have H3P:=aW (HOW.out.post (m:=[UInt8.ofNat (m / 4294967296)]) (M:=1) hown3 rfl hgr3 hob3);clear hown3 hgr3 hob3;go_wp2;go_roundg (8-(3+1))
   case measure=>rw [HG.out];omega
   case rel=>exact ⟨4,24,_,rfl,by omega,by first | rfl | omega,by go_num,by omega,aW (by rw [HST.out,← List.cons_append,← List.append_assoc];exact H3P.out.1),aW (HBW.out.trans H3P.out.2)⟩
  ·obtain rfl:b=24:=by omega
   have HST:=aW (numB8_step (m:=m) (j:=4) (by_:=24) rfl);clear hb hj;go_upto_region 13 with (at_builtin;refine wpList_append_rd _ rfl _ _ 76 rfl base 5 i0 _ 1 1 Tryz.underlying76 HI.out hz0 hz1 hz2 rfl (by decide) r (n+1+4) (byteV (l++4::numB8 m 4)) rfl (HA.out _) (some ⟨wr.heap.size,0,none⟩) 1 1 (fun h=>by cases h) [.int .u8 _] rfl rfl (HR.out _) (by intro u hu;obtain rfl:=List.mem_singleton.1 hu;rfl) (by unfold maxLen;omega) (by omega) (HB.out _) ?_;intro row3 w3 hown3 hgr3 hob3);rw [byte_is (m:=m) (d:=16777216) ?_] at hown3;rotate_left
   ·omega
   have H3P:=aW (HOW.out.post (m:=[UInt8.ofNat (m / 16777216)]) (M:=1) hown3 rfl hgr3 hob3);clear hown3 hgr3 hob3;go_wp2;go_roundg (8-(4+1))
   case measure=>rw [HG.out];omega
   case rel=>exact ⟨5,16,_,rfl,by omega,by first | rfl | omega,by go_num,by omega,aW (by rw [HST.out,← List.cons_append,← List.append_assoc];exact H3P.out.1),aW (HBW.out.trans H3P.out.2)⟩
  ·obtain rfl:b=16:=by omega
   have HST:=aW (numB8_step (m:=m) (j:=5) (by_:=16) rfl);clear hb hj;go_upto_region 13 with (at_builtin;refine wpList_append_rd _ rfl _ _ 76 rfl base 5 i0 _ 1 1 Tryz.underlying76 HI.out hz0 hz1 hz2 rfl (by decide) r (n+1+5) (byteV (l++4::numB8 m 5)) rfl (HA.out _) (some ⟨wr.heap.size,0,none⟩) 1 1 (fun h=>by cases h) [.int .u8 _] rfl rfl (HR.out _) (by intro u hu;obtain rfl:=List.mem_singleton.1 hu;rfl) (by unfold maxLen;omega) (by omega) (HB.out _) ?_;intro row3 w3 hown3 hgr3 hob3);rw [byte_is (m:=m) (d:=65536) ?_] at hown3;rotate_left
   ·omega
   have H3P:=aW (HOW.out.post (m:=[UInt8.ofNat (m / 65536)]) (M:=1) hown3 rfl hgr3 hob3);clear hown3 hgr3 hob3;go_wp2;go_roundg (8-(5+1))
   case measure=>rw [HG.out];omega
   case rel=>exact ⟨6,8,_,rfl,by omega,by first | rfl | omega,by go_num,by omega,aW (by rw [HST.out,← List.cons_append,← List.append_assoc];exact H3P.out.1),aW (HBW.out.trans H3P.out.2)⟩
  ·obtain rfl:b=8:=by omega
   have HST:=aW (numB8_step (m:=m) (j:=6) (by_:=8) rfl);clear hb hj;go_upto_region 13 with (at_builtin;refine wpList_append_rd _ rfl _ _ 76 rfl base 5 i0 _ 1 1 Tryz.underlying76 HI.out hz0 hz1 hz2 rfl (by decide) r (n+1+6) (byteV (l++4::numB8 m 6)) rfl (HA.out _) (some ⟨wr.heap.size,0,none⟩) 1 1 (fun h=>by cases h) [.int .u8 _] rfl rfl (HR.out _) (by intro u hu;obtain rfl:=List.mem_singleton.1 hu;rfl) (by unfold maxLen;omega) (by omega) (HB.out _) ?_;intro row3 w3 hown3 hgr3 hob3);rw [byte_is (m:=m) (d:=256) ?_] at hown3;rotate_left
   ·omega
   have H3P:=aW (HOW.out.post (m:=[UInt8.ofNat (m / 256)]) (M:=1) hown3 rfl hgr3 hob3);clear hown3 hgr3 hob3;go_wp2;go_roundg (8-(6+1))
   case measure=>rw [HG.out];omega
   case rel=>exact ⟨7,0,_,rfl,by omega,by first | rfl | omega,by go_num,by omega,aW (by rw [HST.out,← List.cons_append,← List.append_assoc];exact H3P.out.1),aW (HBW.out.trans H3P.out.2)⟩
  ·obtain rfl:b=0:=by omega
   have HST:=aW (numB8_step (m:=m) (j:=7) (by_:=0) rfl);clear hb hj;go_upto_region 13 with (at_builtin;refine wpList_append_rd _ rfl _ _ 76 rfl base 5 i0 _ 1 1 Tryz.underlying76 HI.out hz0 hz1 hz2 rfl (by decide) r (n+1+7) (byteV (l++4::numB8 m 7)) rfl (HA.out _) (some ⟨wr.heap.size,0,none⟩) 1 1 (fun h=>by cases h) [.int .u8 _] rfl rfl (HR.out _) (by intro u hu;obtain rfl:=List.mem_singleton.1 hu;rfl) (by unfold maxLen;omega) (by omega) (HB.out _) ?_;intro row3 w3 hown3 hgr3 hob3);rw [byte_is (m:=m) (d:=1) ?_] at hown3;rotate_left
   ·omega
   have H3P:=aW (HOW.out.post (m:=[UInt8.ofNat (m / 1)]) (M:=1) hown3 rfl hgr3 hob3);clear hown3 hgr3 hob3;go_wp2;go_roundg (8-(7+1))
   case measure=>rw [HG.out];omega
   case rel=>exact ⟨8,-8,_,rfl,by omega,by first | rfl | omega,by go_num,by omega,aW (by rw [HST.out,← List.cons_append,← List.append_assoc];exact H3P.out.1),aW (HBW.out.trans H3P.out.2)⟩
  ·obtain rfl:b = -8:=by omega
   go_wp2;go_ret;exact HFIN.out _ _ _ HOW.out HBW.out
end Go.Proofs.YtgolomgmnanbpaaGreatDoor
