import Derived.Test.YtgolomgmnanbpaaGreatDoorW19
import Derived.Test.YtgolomgmnanbpaaGreatDoorW01
import Derived.Test.YtgolomgmnanbpaaGreatDoorW11
import Derived.Test.YtgolomgmnanbpaaGreatDoorW17
import Derived.Test.YtgolomgmnanbpaaGreatDoorW18
import Derived.Test.YtgolomgmnanbpaaGreatDoorW16
import Derived.Test.YtgolomgmnanbpaaGreatDoorW20
import Derived.Lib.SlBytesConst
import Derived.KernelRfl
import Derived.Test.YtgolomgmnanbpaaGreatDoorW09
import Derived.Test.YtgolomgmnanbpaaGreatDoorW13
set_option maxRecDepth 100000
set_option maxHeartbeats 16000000
namespace Go.Proofs.YtgolomgmnanbpaaGreatDoor
set_option linter.unusedVariables false
set_option linter.unusedSimpArgs false
open Go.RowKit
attribute [local go_sem] run_index_arr run_part_agg run_part_one run_field_agg
theorem five_bel {B:Nat} {w W:World} (h:Below B w W) {g:Nat} (hg:B≤g) (a b c d e:Value) :
  Below B w (((((W.setCell ⟨g,0,none⟩ a).setCell ⟨g,1,none⟩ b).setCell ⟨g,2,none⟩ c).setCell ⟨g,3,none⟩ d).setCell ⟨g,4,none⟩ e) :=
 ((((h.setCell (p:=⟨g,0,none⟩) hg a).setCell (p:=⟨g,1,none⟩) hg b).setCell (p:=⟨g,2,none⟩) hg c).setCell (p:=⟨g,3,none⟩) hg d).setCell (p:=⟨g,4,none⟩) hg e
def zeroCs:Array Value:=#[.int .i64 0,.int .i64 0,.string ⟨#[]⟩,.slice none 0 0,.slice none 0 0]
def WhoP (cs:Array Value) (n:Int) (w:World) (e:Ending) (w':World):Prop:=e=.returned (.tuple #[.agg cs,.int .i64 n])∧Below w.heap.size w w'
theorem vWhole_any (v:JV) (cs:List Value) (F:Nat→Prop) (w:World) (hG:GOK w) (hv:VR w F cs v) (hc:Came v) :
  Calls Tryz.prog 92 #[.agg cs.toArray] w (WhoP (if good v=true then cs.toArray else zeroCs) (if good v=true then 0 else 140) w):=by
 have HV:=aW (fun (W:World) (h:Below w.heap.size w W)=>hv.bel h);obtain ⟨k0,n0,s0,A0,na0,ca0,B0,nb0,cb0,rfl⟩:=hv.form;have HG:=aW hG;have HC:=aW hc;have HH0:=aW (((Held.nil w).push 25 #[.int .i64 k0,.int .i64 n0,.string s0,.slice A0 na0 ca0,.slice B0 nb0 cb0] (g:=w.heap.size) rfl).push 25 zeroCs (g:=w.heap.size+1) (by simp));clear hv hG hc;unfold zeroCs at *;by_cases hg:good v=true
 ·have HK:=aW (show chkJ v=0 by unfold chkJ;rw [if_pos hg]);rw [if_pos hg,if_pos hg];clear hg;obtain ⟨c1,f1,l1⟩:=HH0.out.b1.rules;go_enter Tryz.func92,Tryz.ntmps92;go_wp2_with fail;refine (vChk_is HK.out (HG.out.keep HH0.out.1) (HV.out _ HH0.out.1) HC.out).mono ?_;rintro e w1 ⟨rfl,hb1⟩;have HH1:=aW (HH0.out.keep hb1);clear hb1 c1 f1 l1 HH0;obtain ⟨c1,f1,l1⟩:=HH1.out.b1.rules;obtain ⟨c2,f2,l2⟩:=HH1.out.b0.rules;go_wp2;refine bodyPost_ret (v:=.tuple #[.agg #[.int .i64 k0,.int .i64 n0,.string s0,.slice A0 na0 ca0,.slice B0 nb0 cb0],.int .i64 0]) (by simp only [results,Tryz.results92];go_simp) rfl ?_;exact ⟨rfl,five_bel HH1.out.1 (by omega) _ _ _ _ _⟩
 ·have HK:=aW (show chkJ v=140 by unfold chkJ;rw [if_neg hg]);rw [if_neg hg,if_neg hg];clear hg;obtain ⟨c1,f1,l1⟩:=HH0.out.b1.rules;go_enter Tryz.func92,Tryz.ntmps92;go_wp2_with fail;refine (vChk_is HK.out (HG.out.keep HH0.out.1) (HV.out _ HH0.out.1) HC.out).mono ?_;rintro e w1 ⟨rfl,hb1⟩;have HH1:=aW (HH0.out.keep hb1);clear hb1 c1 f1 l1 HH0;obtain ⟨c2,f2,l2⟩:=HH1.out.b0.rules;go_wp2;refine bodyPost_ret (v:=.tuple #[.agg #[.int .i64 0,.int .i64 0,.string ⟨#[]⟩,.slice none 0 0,.slice none 0 0],.int .i64 140]) (by simp only [results,Tryz.results92];go_simp) rfl ?_;exact ⟨rfl,five_bel HH1.out.1 (by omega) _ _ _ _ _⟩
theorem infoVal6:(Tryz.prog.info? 25).map (fun i=>(i.zero,i.size,i.bytes))=some (some (.agg #[.int .i64 0,.int .i64 0,.string ⟨#[]⟩,.slice none 0 0,.slice none 0 0]),5,80):=by kernel_rfl
/-- slices.Clone of a row of values: the same cells in a row of one's own -/
theorem valClone_any (css:List (List Value)) (xs:List JV) (F:Nat→Prop) (A:Option Addr) (n cap:Nat) (w:World) (h1:VRs w F css xs) (hn:xs.length=n) (hr:RdF w F A css.flatten) (hl:n≤4194304) :
  Calls Tryz.prog 167 #[.slice A n cap] w (fun e w' => ∃ v,e=.returned v∧w'.ownsRow w.heap.size 25 5 v n css.flatten∧Below w.heap.size w w'):=by
 obtain ⟨i0,hi,hz0,hz1,hz2⟩:=info_parts infoVal6;have hnil:=fun (A:Option Addr) (n c:Nat) (w:World)=>Lib.run_eql_slice_nil (P:=Tryz.prog) (w:=w) 22 25 A n c 0 0 Tryz.underlying22
 have hfl:css.flatten.length=n*5:=by rw [h1.flat,hn]
 have hone:=h1.one;have hrd:Rd w A css.flatten:=fun hne=>by
  obtain ⟨b,o,e,hb,_,hc⟩:=hr hne;exact ⟨b,o,e,hb,hc⟩
 rcases A with _ | ad
 ·have hts:css.flatten=[]:=by
   cases hcf:css.flatten with
   | nil=>rfl
   | cons x r =>
    obtain ⟨b,o,e,_⟩:=hr (by rw [hcf];simp);cases e
  rw [hts] at hfl ⊢;obtain rfl:n=0:=by simp at hfl;omega
  clear h1 hr hone hrd hts hfl hn;go_enter Tryz.func167,Tryz.ntmps167;go_wp2;go_ret;exact ⟨_,rfl,World.ownsRow_nil _ _ _ _,Below.refl _ _⟩
 ·have HR:=aW hrd;clear h1 hr hn;generalize css.flatten=L at hfl hone hrd HR ⊢;clear hrd;go_enter Tryz.func167,Tryz.ntmps167;go_wp2_with (at_builtin;refine wpList_append_rd _ rfl _ _ 22 rfl w.heap.size 25 i0 _ 5 80 Tryz.underlying22 hi hz0 hz1 hz2 rfl (by decide) _ 0 [] rfl (World.ownsRow_made w #[] 0 (Nat.le_refl _) (by decide) rfl) (some ad) n cap (by intro h;cases h) L rfl hfl (HR.out.alloc _) hone (by unfold maxLen;omega) (by omega) (by simp) ?_;intro v' w1 hown hgr _);go_ret;rw [Nat.zero_add,List.nil_append] at hown;exact ⟨_,rfl,hown,((Below.refl _ w).alloc (Nat.le_refl _) _).grown hgr (by simp) (fun k e=>by cases e;exact Nat.le_refl _)⟩
set_option linter.unusedVariables false
set_option linter.unusedSimpArgs false
open Go.RowKit
attribute [local go_sem] run_index_arr run_part_agg run_part_one run_field_agg
theorem vr_list {W:World} {F:Nat→Prop} {css:List (List Value)} {xs:List JV} {n cap:Nat} {A:Option Addr} (h1:VRs W F css xs) (hn:xs.length=n) (hnc:n≤cap) (hA:A=none→cap=0) (hr:RdF W F A css.flatten) :
  VR W F [.int .i64 5,.int .i64 0,.string ⟨#[]⟩,.slice A n cap,.slice none 0 0] (.mk 5 0 [] xs []):=by
 exact VR.into 5 0 [] h1 (by rw [hn];exact hnc) (Nat.le_refl 0) hA (fun _=>rfl) hr (fun hne=>absurd rfl hne) hn.symm rfl
theorem own_parts {w:World} {base:Nat} {e:TypeId} {size n:Nat} {v:Value} {xs:List Value} (h:w.ownsRow base e size v n xs):∃ A cap,v=.slice A n cap∧n≤cap∧(A=none→cap=0)∧RdF w (fun b=>base≤b) A xs:=by
 obtain ⟨A,cap,e1,h1,h2⟩:=Rd.of_own h;refine ⟨A,cap,e1,h1,?_,fun hne=>?_⟩;rotate_left
 ·obtain ⟨b,o,e2,hb,hc⟩:=h2 hne;exact ⟨b,o,e2,hb,(h.lt b (by rw [e1,e2];rfl)).1,hc⟩
 rintro rfl;rcases h.2 with ⟨e2,_⟩ | ⟨g,cap',cur,e2,_⟩
 ·rw [e1] at e2;injection e2
 ·rw [e1] at e2;injection e2 with e2;cases e2
set_option linter.unusedVariables false
set_option linter.unusedSimpArgs false
open Go.RowKit
attribute [local go_sem] run_index_arr run_part_agg run_part_one run_field_agg
def TexP (s:List UInt8) (w:World) (e:Ending) (w':World):Prop:=∃ cs:Array Value,e=.returned (.tuple #[.agg cs,.int .i64 (if good (.mk 4 0 s [] [])=true then 0 else 140)]) ∧
 (good (.mk 4 0 s [] [])=true→VR w' TT cs.toList (.mk 4 0 s [] []))∧Below w.heap.size w w'
theorem vTextV_any (s:List UInt8) (w:World) (hG:GOK w) (hc:Came (.mk 4 0 s [] [])):Calls Tryz.prog 59 #[.string ⟨s.toArray⟩] w (TexP s w):=by
 have HG:=aW hG;have HC:=aW hc;have HH0:=aW ((Held.nil w).push 25 zeroCs (g:=w.heap.size) rfl);unfold zeroCs at HH0;clear hG hc;go_enter Tryz.func59,Tryz.ntmps59;go_wp2_with fail;refine (vWhole_any (.mk 4 0 s [] []) [.int .i64 4,.int .i64 0,.string ⟨s.toArray⟩,.slice none 0 0,.slice none 0 0] TT _ (HG.out.keep HH0.out.1) (VR.atom 4 0 s) HC.out).mono ?_;rintro e w2 ⟨rfl,hb2⟩;have HH2:=aW (HH0.out.keep hb2);clear hb2 HH0;obtain ⟨c3,f3,l3⟩:=HH2.out.b0.rules;by_cases hg:good (.mk 4 0 s [] [])=true
 ·unfold TexP;rw [if_pos hg,if_pos hg];go_wp2;refine bodyPost_ret (v:=.tuple #[.agg #[.int .i64 4,.int .i64 0,.string ⟨s.toArray⟩,.slice none 0 0,.slice none 0 0],.int .i64 0]) (by simp only [results,Tryz.results59];go_simp) rfl ?_;exact ⟨_,by rw [if_pos hg],fun _=>VR.atom 4 0 s,five_bel HH2.out.1 (Nat.le_refl _) _ _ _ _ _⟩
 ·unfold TexP;rw [if_neg hg,if_neg hg];unfold zeroCs;go_wp2;refine bodyPost_ret (v:=.tuple #[.agg #[.int .i64 0,.int .i64 0,.string ⟨#[]⟩,.slice none 0 0,.slice none 0 0],.int .i64 140]) (by simp only [results,Tryz.results59];go_simp) rfl ?_;exact ⟨_,by rw [if_neg hg],fun h=>absurd h hg,five_bel HH2.out.1 (Nat.le_refl _) _ _ _ _ _⟩
set_option linter.unusedVariables false
set_option linter.unusedSimpArgs false
open Go.RowKit
attribute [local go_sem] run_index_arr run_part_agg run_part_one run_field_agg
def RowV (w:World) (A:Option Addr) (ca:Nat) (l:List JV):Prop:=∃ css,VRs w TT css l∧l.length≤ca∧(A=none→ca=0)∧RdF w TT A css.flatten
theorem RowV.bel {w w':World} {A:Option Addr} {ca:Nat} {l:List JV} (h:RowV w A ca l) (hb:Below w.heap.size w w'):RowV w' A ca l:=by
 obtain ⟨css,h1,h2,h3,h4⟩:=h;exact ⟨css,h1.below hb,h2,h3,h4.keep (KeepF.of_below hb)⟩
theorem RowV.nil {w:World}:RowV w none 0 []:=⟨[],VRs.nil,Nat.le_refl _,fun _=>rfl,RdF.nil⟩
theorem toldI (l:List JV) (A:Option Addr) (nk ca:Nat) (c0 c1:Value) (w:World) (hG:GOK w) (hr:RowV w A ca l) (hnk:l.length=nk) (hC:∀ x ∈ l,Came x) (hlen:nk≤4194304) (Q:Ending→World→Prop)
  (hbad:(∃ x ∈ l,¬ gd x)→∀ W,Below w.heap.size w W→Q (.returned (.tuple #[.int .i64 0,.int .i64 140])) W)
  (hcall:(∀ x ∈ l,gd x)→∀ W,Below w.heap.size w W→Calls Tryz.prog 191 #[c0,c1] W (fun e w' => ∃ a:Value,∃ b:Int,e=.returned (.tuple #[a,.int .i64 b])∧Q (.returned (.tuple #[a,.int .i64 b])) w')) :
  Calls Tryz.prog 190 #[.slice A nk ca,.func (.func 191) #[] #[c0,c1]] w (Q):=by
 obtain ⟨css,hr1,hr2,hr3,hr4⟩:=hr;have HIH:=aW (fun (i:Nat) (x:JV) (hx:l[i]? = some x)=>kid_cellsG hr1 hr4 hx);have HCK:=aW (fun (x:JV) (hx:x ∈ l) (W:World) (h:Below w.heap.size w W) (cs:List Value) (hv:VR W TT cs x)=>vCheckG x cs TT W (hG.keep h) hv (hC x hx));have HBAD:=aW hbad;have HCALL:=aW hcall;rw [hnk] at hr2;have HNK:=aW hnk;clear hG hr1 hr3 hr4 hC hbad hcall hnk;go_enter Tryz.func190,Tryz.ntmps190;go_wp2;go_loopg [12] nk (fun gk s12 wr => ∃ i:Nat,i≤nk∧gk=nk-i∧s12=.int .i64 i∧Hid (∀ x ∈ l.take i,gd x)∧Hid (Below w.heap.size w wr))
 case atStart=>exact ⟨0,Nat.zero_le _,rfl,by go_num,aW (fun x h=>by simp at h),aW (Below.refl _ _)⟩
 case round =>
  obtain ⟨i,hi,hgk,rfl,HGD,HB⟩:=hrel;have HG:=aW hgk;clear hgk;by_cases hlt:i<nk
  ·obtain ⟨x,hx⟩:∃ x,l[i]? = some x:=⟨_,List.getElem?_eq_getElem (by rw [HNK.out];exact hlt)⟩
   obtain ⟨b,o,k1,n1,s1,A1,na1,ca1,B1,nb1,cb1,rfl,hb,hvx,hz⟩:=HIH.out i x hx;obtain ⟨q0,q1,q2,q3,q4⟩:=hz _ HB.out;have hbA:=(Below.refl wr.heap.size wr).alloc (Nat.le_refl _) (.cells #[.int .i64 k1,.int .i64 n1,.string s1,.slice A1 na1 ca1,.slice B1 nb1 cb1] 25);have HB2:=aW (HB.out.trans (hbA.mono HB.out.size));have hck:=HCK.out x (List.mem_of_getElem? hx) _ HB2.out _ (hvx.bel HB2.out);have hb1:b<wr.heap.size:=Nat.lt_of_lt_of_le hb HB.out.size;have HTK:=aW (show gd x→∀ y ∈ l.take (i+1),gd y from fun g y hy=>by
    rw [List.take_add_one,hx] at hy;rcases List.mem_append.1 hy with hy | hy
    ·exact HGD.out y hy
    ·obtain rfl:y=x:=by simpa using hy
     exact g)
   have HXM:=aW (List.mem_of_getElem? hx);clear hz hvx hx hbA;by_cases hg:gd x
   ·rw [show chkJ x=0 from if_pos hg] at hck;have HCL:=aW hck;clear hck;go_wp2_with fail;refine HCL.out.mono ?_;rintro e w2 ⟨rfl,hb2⟩;have HB3:=aW (HB2.out.trans (hb2.mono HB2.out.size));clear hb2;go_wp2;go_roundg (nk-(i+1))
    case measure=>rw [HG.out];omega
    case rel=>exact ⟨i+1,hlt,rfl,by go_num,aW (HTK.out hg),HB3⟩
   ·rw [show chkJ x=140 from if_neg hg] at hck;have HCL:=aW hck;clear hck;go_wp2_with fail;refine HCL.out.mono ?_;rintro e w2 ⟨rfl,hb2⟩;have HB3:=aW (HB2.out.trans (hb2.mono HB2.out.size));have HXB:=aW (HBAD.out ⟨x,HXM.out,hg⟩);clear hb2;go_wp2;exact HXB.out _ HB3.out
  ·obtain rfl:i=nk:=by omega
   have hall:=HGD.out;rw [List.take_of_length_le (Nat.le_of_eq HNK.out)] at hall;have HCC:=aW (HCALL.out hall _ HB.out);clear hall;go_wp2_with fail;refine HCC.out.mono ?_;rintro e w2 ⟨a,b,rfl,hq⟩;have HQ:=aW hq;clear hq;go_wp2;exact HQ.out
set_option linter.unusedVariables false
set_option linter.unusedSimpArgs false
open Go.RowKit
attribute [local go_sem] run_index_arr run_part_agg run_part_one run_field_agg
def sizR (v:JV):Int × Int:=if good v=true then (((canJ v).length:Int),0) else (0,140)
def SizP (r:Int × Int) (w:World) (e:Ending) (w':World):Prop:=e=.returned (.tuple #[.int .i64 r.1,.int .i64 r.2])∧Below w.heap.size w w'
theorem pSize_any (v:JV) (cs:List Value) (F:Nat→Prop) (w:World) (hv:VR w F cs v) (hG:GOK w) (hC:Came v):Calls Tryz.prog 66 #[.agg cs.toArray] w (SizP (sizR v) w):=by
 have HV:=aW (fun (W:World) (h:Below w.heap.size w W)=>hv.bel h);obtain ⟨k0,n0,s0,A0,na0,ca0,B0,nb0,cb0,rfl⟩:=hv.form;have HG:=aW hG;have HC:=aW hC;have HH0:=aW ((Held.nil w).push 25 #[.int .i64 k0,.int .i64 n0,.string s0,.slice A0 na0 ca0,.slice B0 nb0 cb0] (g:=w.heap.size) rfl);clear hv hG hC;by_cases hg:good v=true
 ·have HK:=aW (show chkJ v=0 by unfold chkJ;rw [if_pos hg]);have HS:=aW (fun (W:World) (h:Below w.heap.size w W)=>sSize (nodesJ v) v 8 (Nat.le_refl _) (good_J hg).1 HC.out _ F W (HV.out W h) (HG.out.keep h));have hr:sizR v=(((canJ v).length:Int),0):=by unfold sizR;rw [if_pos hg]
  rw [hr];obtain ⟨q,hq⟩:∃ q,(canJ v).length=q:=⟨_,rfl⟩
  unfold SizS at HS;rw [hq] at HS ⊢;clear hr hq hg;go_enter Tryz.func66,Tryz.ntmps66;go_wp2_with fail;refine (vChk_is HK.out (HG.out.keep HH0.out.1) (HV.out _ HH0.out.1) HC.out).mono ?_;rintro e w1 ⟨rfl,hb1⟩;have HH1:=aW (HH0.out.keep hb1);clear hb1;obtain ⟨c1,f1,l1⟩:=HH1.out.b0.rules;go_wp2_with fail;refine (HS.out _ HH1.out.1).mono ?_;rintro e w2 ⟨rfl,hb2⟩;have HH2:=aW (HH1.out.keep hb2);clear hb2 c1 f1 l1;go_wp2;go_ret2;exact ⟨rfl,HH2.out.1⟩
 ·have HK:=aW (show chkJ v=140 by unfold chkJ;rw [if_neg hg]);have hr:sizR v=(0,140):=by unfold sizR;rw [if_neg hg]
  rw [hr];clear hr hg;go_enter Tryz.func66,Tryz.ntmps66;go_wp2_with fail;refine (vChk_is HK.out (HG.out.keep HH0.out.1) (HV.out _ HH0.out.1) HC.out).mono ?_;rintro e w1 ⟨rfl,hb1⟩;have HH1:=aW (HH0.out.keep hb1);clear hb1;go_wp2;go_ret2;exact ⟨rfl,HH1.out.1⟩
set_option linter.unusedVariables false
set_option linter.unusedSimpArgs false
open Go.RowKit
attribute [local go_sem] run_index_arr run_part_agg run_part_one run_field_agg
def TwoB (w:World) (t:TypeId) (cs cs':Array Value) (wr:World):Prop:=Blk wr w.heap.size t cs∧Blk wr (w.heap.size+1) t cs'∧Below w.heap.size w wr
theorem TwoB.new (w:World) (t:TypeId) (cs cs':Array Value):TwoB w t cs cs' ((w.alloc (.cells cs t)).alloc (.cells cs' t)):=by
 refine ⟨(Blk.new w t cs).alloc _,?_,((Below.refl _ w).alloc (Nat.le_refl _) _).alloc (by simp) _⟩;have:=Blk.new (w.alloc (.cells cs t)) t cs';rw [World.size_alloc] at this;exact this
theorem TwoB.keep {w wr wx:World} {t:TypeId} {cs cs':Array Value} (h:TwoB w t cs cs' wr) (hb:Below wr.heap.size wr wx):TwoB w t cs cs' wx:=⟨h.1.keep hb,h.2.1.keep hb,h.2.2.trans (hb.mono h.2.2.size)⟩
theorem TwoB.drewN {w wr:World} {t:TypeId} {cs cs':Array Value} (h:TwoB w t cs cs' wr) (k:Nat):TwoB w t cs cs' (wr.drewN k):=⟨h.1.drewN k,h.2.1.drewN k,bel_drewN h.2.2 k⟩
theorem TwoB.drew {w wr:World} {t:TypeId} {cs cs':Array Value} (h:TwoB w t cs cs' wr):TwoB w t cs cs' wr.drew:=⟨h.1.drew,h.2.1.drew,h.2.2.drew⟩
def EqS (p:Prop) (w:World) (e:Ending) (w':World):Prop:=∃ t:Bool,e=.returned (.bool t)∧(t=true ↔ p)∧Below w.heap.size w w'
theorem EqS.no {p:Prop} {w w':World} (h:¬ p) (hb:Below w.heap.size w w'):EqS p w (.returned (.bool false)) w':=⟨false,rfl,by simp [h],hb⟩
theorem EqS.yes {p:Prop} {w w':World} (h:p) (hb:Below w.heap.size w w'):EqS p w (.returned (.bool true)) w':=⟨true,rfl,by simp [h],hb⟩
theorem rOneG:∀ (N:Nat) (v v':JV),nodesJ v≤N→∀ (d d':Nat) (cs cs':List Value) (F F':Nat→Prop) (w:World),VR w F cs v→VR w F' cs' v'→goodJ d v=true→goodJ d' v'=true→Came v→Came v' →
  Calls Tryz.prog 56 #[.agg cs.toArray,.agg cs'.toArray] w (EqS (v=v') w)
 | 0,v,_,h,_,_,_,_,_,_,_,_,_,_,_,_,_=>by have:=nodesJ_pos v;omega
 | N+1,.mk k n s kids keys,.mk kq nq sq kidsq keysq,hN,d,d',cs,cs',F,F',w,hv,hv',hR,hR',hC,hC'=>by
  have ih:=rOneG N;obtain ⟨hal,hdd,hrk⟩:=goodJ_out hR;obtain ⟨hal',hdd',hrk'⟩:=goodJ_out hR';unfold nodesJ at hN;obtain ⟨_,_,hsl,hkl,hyl,_,hck⟩:=hC.out;obtain ⟨_,_,hsl',hkl',hyl',_,hck'⟩:=hC'.out;obtain ⟨A,B,ca,cb,css,rfl,h1,h2,h3,h4,h5,h6,h7⟩:=hv.out;obtain ⟨A',B',ca',cb',css',rfl,h1',h2',h3',h4',h5',h6',h7'⟩:=hv'.out;have HIH:=aW (fun (i:Nat) (x:JV) (hx:kids[i]? = some x)=>kid_cellsG h1 h6 hx);have HIH':=aW (fun (i:Nat) (x:JV) (hx:kidsq[i]? = some x)=>kid_cellsG h1' h6' hx);have HKY:=aW (show RdF w (fun _=>True) B (strV keys) from h7.mono fun _ _ _=>trivial);have HKY':=aW (show RdF w (fun _=>True) B' (strV keysq) from h7'.mono fun _ _ _=>trivial);obtain ⟨q1,q2⟩:=keyed hal;obtain ⟨q1',q2'⟩:=keyed hal';have HQ2:=aW q2;have HQ2':=aW q2';have HRK:=aW (goodL_iff.1 hrk);have HRK':=aW (goodL_iff.1 hrk');have HCK:=aW hck;have HCK':=aW hck';have HI:=aW ih;obtain ⟨nk,hnk⟩:∃ nk,kids.length=nk:=⟨_,rfl⟩
  obtain ⟨ny,hny⟩:∃ ny,keys.length=ny:=⟨_,rfl⟩
  obtain ⟨nkq,hnkq⟩:∃ nkq,kidsq.length=nkq:=⟨_,rfl⟩
  obtain ⟨nyq,hnyq⟩:∃ nyq,keysq.length=nyq:=⟨_,rfl⟩
  rw [hnk] at h2 hkl q1;rw [hny] at h3 hyl q1;rw [hnkq] at h2' hkl' q1';rw [hnyq] at h3' hyl' q1';have HNK:=aW hnk;have HNY:=aW hny;have HNKQ:=aW hnkq;have HNYQ:=aW hnyq;rw [hnk,hny,hnkq,hnyq];obtain ⟨T,hT⟩:∃ T,nodesL kids=T:=⟨_,rfl⟩
  have HT:=aW hT;rw [hT] at hN;have HTB:=aW (TwoB.new w 25 #[.int .i64 k,.int .i64 n,.string ⟨s.toArray⟩,.slice A nk ca,.slice B ny cb] #[.int .i64 kq,.int .i64 nq,.string ⟨sq.toArray⟩,.slice A' nkq ca',.slice B' nyq cb']);clear hv hv' hal hrk hal' hrk' h1 h1' h4 h4' h5 h5' h6 h6' h7 h7' hnk hny hnkq hnyq hT ih hdd hdd' hR hR' hC hC' hck hck' q2 q2';have y1:w.heap.size≠w.heap.size+1:=by omega
  have y2:w.heap.size+1≠w.heap.size:=by omega
  by_cases ek:k=kq
  case neg =>
   have HNO:=aW (show ¬ (JV.mk k n s kids keys=JV.mk kq nq sq kidsq keysq) from fun e=>by injection e with e _ _ _ _;exact ek e);have hb1:(k == kq)=false:=by simp [ek]
   have hb2:(k != kq)=true:=by simp [ek]
   go_enter Tryz.func56,Tryz.ntmps56;go_wp2;go_ret;exact EqS.no HNO.out HTB.out.2.2
  by_cases en:n=nq
  case neg =>
   have HNO:=aW (show ¬ (JV.mk k n s kids keys=JV.mk kq nq sq kidsq keysq) from fun e=>by injection e with _ e _ _ _;exact en e);have hb1:(n == nq)=false:=by simp [en]
   have hb2:(n != nq)=true:=by simp [en]
   subst ek;go_enter Tryz.func56,Tryz.ntmps56;go_wp2;go_ret;exact EqS.no HNO.out HTB.out.2.2
  by_cases es:s=sq
  case neg =>
   have HNO:=aW (show ¬ (JV.mk k n s kids keys=JV.mk kq nq sq kidsq keysq) from fun e=>by injection e with _ _ e _ _;exact es e);have hb1:(s == sq)=false:=by simp [es]
   have hb2:(s != sq)=true:=by simp [es]
   subst ek en;go_enter Tryz.func56,Tryz.ntmps56;go_wp2;go_ret;exact EqS.no HNO.out HTB.out.2.2
  by_cases el:nk=nkq
  case neg =>
   have HNO:=aW (show ¬ (JV.mk k n s kids keys=JV.mk kq nq sq kidsq keysq) from fun e=>by injection e with _ _ _ e _;exact el (by rw [← HNK.out,← HNKQ.out,e]));have hb1:((nk:Int) == nkq)=false:=by simp;omega
   have hb2:((nk:Int) != nkq)=true:=by simp;omega
   subst ek en es;go_enter Tryz.func56,Tryz.ntmps56;go_wp2;go_ret;exact EqS.no HNO.out HTB.out.2.2
  subst ek en es el;obtain ⟨PP,hPP⟩:∃ PP:Prop,(JV.mk k n s kids keys=JV.mk k n s kidsq keysq)=PP:=⟨_,rfl⟩
  rw [hPP];have HPN:=aW (show (kids≠kidsq∨keys≠keysq)→¬ PP by rw [← hPP];intro h e;injection e with _ _ _ e1 e2;rcases h with h | h;exact h e1;exact h e2);have HPY:=aW (show kids=kidsq→keys=keysq→PP by rw [← hPP];intro h e;rw [h,e]);clear hPP;have hcs:(k == 6)=true∧nk=ny∧nk=nyq∨(k == 6)=false∧Hid (keys=keysq):=by
   by_cases h:k=6
   ·exact .inl ⟨by simpa using h,(q1 h).symm,(q1' h).symm⟩
   ·exact .inr ⟨by simpa using h,aW (by rw [HQ2.out h,HQ2'.out h])⟩
  clear q1 q1';go_enter Tryz.func56,Tryz.ntmps56;go_wp2;go_loopg [5] nk (fun gk s5 wr => ∃ i:Nat,i≤nk∧gk=nk-i∧s5=.int .i64 i∧Hid (kids.take i=kidsq.take i∧((k == 6)=true→keys.take i=keysq.take i))∧Hid (TwoB w 25 #[.int .i64 k,.int .i64 n,.string ⟨s.toArray⟩,.slice A nk ca,.slice B ny cb] #[.int .i64 k,.int .i64 n,.string ⟨s.toArray⟩,.slice A' nk ca',.slice B' nyq cb'] wr))
  case atStart=>exact ⟨0,Nat.zero_le _,rfl,by go_num,aW ⟨rfl,fun _=>rfl⟩,HTB⟩
  case round =>
   obtain ⟨i,hi,hgk,rfl,HSM,HB⟩:=hrel;have HG:=aW hgk;clear hgk HTB;obtain ⟨c1,f1,l1⟩:=HB.out.1.rules;obtain ⟨c2,f2,l2⟩:=HB.out.2.1.rules;have z0:=c1 0;have z3:=c1 3;have z4:=c1 4;have u3:=c2 3;have u4:=c2 4;simp at z0 z3 z4 u3 u4;by_cases hlt:i<nk
   ·obtain ⟨x,hx⟩:∃ x,kids[i]? = some x:=⟨_,List.getElem?_eq_getElem (by rw [HNK.out];exact hlt)⟩
    obtain ⟨y,hy⟩:∃ y,kidsq[i]? = some y:=⟨_,List.getElem?_eq_getElem (by rw [HNKQ.out];exact hlt)⟩
    obtain ⟨b,o,k1,n1,s1,A1,na1,ca1,B1,nb1,cb1,rfl,hb,hvx,hz⟩:=HIH.out i x hx;obtain ⟨b',o',k2,n2,s2,A2,na2,ca2,B2,nb2,cb2,rfl,hb',hvx',hz'⟩:=HIH'.out i y hy;obtain ⟨q0,q1,q2,q3,q4⟩:=hz _ HB.out.2.2;obtain ⟨p0,p1,p2,p3,p4⟩:=hz' _ HB.out.2.2;obtain ⟨hn1,hn2⟩:=nodesL_at hx;have hn4:=HT.out;have hcl:=HI.out x y (by omega) (d-1) (d'-1) _ _ F F' _ (hvx.bel HB.out.drew.2.2) (hvx'.bel HB.out.drew.2.2) (HRK.out x (List.mem_of_getElem? hx)) (HRK'.out y (List.mem_of_getElem? hy)) (HCK.out x (List.mem_of_getElem? hx)) (HCK'.out y (List.mem_of_getElem? hy));have HCL:=aW hcl;have HZ:=aW hz;have HZ':=aW hz';have HXY:=aW (show x=y→kids.take (i+1)=kidsq.take (i+1) from fun e=>by rw [List.take_add_one,List.take_add_one,HSM.out.1,hx,hy,e]);have HXN:=aW (show x≠y→¬ PP from fun e=>HPN.out (.inl fun h=>e (by rw [h,hy] at hx;exact (Option.some.inj hx).symm)));clear hcl hz hz' hvx hvx' hx hy hn1 hn2 hn4 c1 c2;rcases hcs with ⟨hk6,rfl,rfl⟩ | ⟨hk6,HKK⟩
    ·obtain ⟨t,ht⟩:∃ t,keys[i]? = some t:=⟨_,List.getElem?_eq_getElem (by rw [HNY.out];exact hlt)⟩
     obtain ⟨u,hu⟩:∃ u,keysq[i]? = some u:=⟨_,List.getElem?_eq_getElem (by rw [HNYQ.out];exact hlt)⟩
     obtain ⟨d1,o1,rfl,hd1⟩:=strV_some HKY.out (by rw [HNY.out];omega);obtain ⟨d2,o2,rfl,hd2⟩:=strV_some HKY'.out (by rw [HNYQ.out];omega);have HC1:=aW (fun W (h:Below w.heap.size w W)=>strV_cell (n:=0) (HKY.out.keep (KeepF.of_below h)) ht);have HC2:=aW (fun W (h:Below w.heap.size w W)=>strV_cell (n:=0) (HKY'.out.keep (KeepF.of_below h)) hu);have x1:=HC1.out _ HB.out.2.2;have x2:=HC2.out _ HB.out.2.2;have HTU:=aW (show t=u→keys.take (i+1)=keysq.take (i+1) from fun e=>by rw [List.take_add_one,List.take_add_one,HSM.out.2 hk6,ht,hu,e]);have HTN:=aW (show t≠u→¬ PP from fun e=>HPN.out (.inr fun h=>e (by rw [h,hu] at ht;exact (Option.some.inj ht).symm)));clear ht hu;by_cases htu:t=u
     ·subst htu;have HKN:=aW (HTU.out rfl);clear HTU HTN;go_wp2;go_region_held3 (fun w'=>w'.cell? ⟨w.heap.size,0,none⟩=some (.int .i64 k)∧w'.cell? ⟨w.heap.size,3,none⟩=some (.slice (some ⟨b,o,none⟩) nk ca)∧w'.cell? ⟨w.heap.size,4,none⟩=some (.slice (some ⟨d1,o1,none⟩) nk cb)∧w'.cell? ⟨w.heap.size+1,3,none⟩=some (.slice (some ⟨b',o',none⟩) nk ca')∧w'.cell? ⟨w.heap.size+1,4,none⟩=some (.slice (some ⟨d2,o2,none⟩) nk cb') ∧
      w'.cell? ⟨d1,o1+i,none⟩=some (.string ⟨t.toArray⟩)∧w'.cell? ⟨d2,o2+i,none⟩=some (.string ⟨t.toArray⟩) ∧
      w'.cell? ⟨b,o+i*5,none⟩=some (.int .i64 k1)∧w'.cell? ⟨b,o+i*5+1,none⟩=some (.int .i64 n1)∧w'.cell? ⟨b,o+i*5+2,none⟩=some (.string s1)∧w'.cell? ⟨b,o+i*5+3,none⟩=some (.slice A1 na1 ca1)∧w'.cell? ⟨b,o+i*5+4,none⟩=some (.slice B1 nb1 cb1) ∧
      w'.cell? ⟨b',o'+i*5,none⟩=some (.int .i64 k2)∧w'.cell? ⟨b',o'+i*5+1,none⟩=some (.int .i64 n2)∧w'.cell? ⟨b',o'+i*5+2,none⟩=some (.string s2)∧w'.cell? ⟨b',o'+i*5+3,none⟩=some (.slice A2 na2 ca2)∧w'.cell? ⟨b',o'+i*5+4,none⟩=some (.slice B2 nb2 cb2)) (go_keep)
       ((go_at_call 56;refine HCL.out.mono ?_;rintro e w2 ⟨tt,rfl,htt,hb2⟩;have hB2:=HB.out.drew.keep hb2;have e0:=hB2.1.cell 0;have e3:=hB2.1.cell 3;have e4:=hB2.1.cell 4;have r3:=hB2.2.1.cell 3;have r4:=hB2.2.1.cell 4;simp at e0 e3 e4 r3 r4;have x3:=HC1.out _ hB2.2.2;have x4:=HC2.out _ hB2.2.2;obtain ⟨v0,v1,v2,v3,v4⟩:=HZ.out _ hB2.2.2;obtain ⟨t0,t1,t2,t3,t4⟩:=HZ'.out _ hB2.2.2))
      have HB2:=aW hB2;have HTT:=aW htt;clear hB2 hb2 htt;cases tt with
      | true =>
       go_wp2;go_roundg (nk-(i+1))
       case measure=>rw [HG.out];omega
       case rel=>exact ⟨i+1,hlt,rfl,by go_num,aW ⟨HXY.out (HTT.out.1 (by trivial)),fun _=>HKN.out⟩,HB2⟩
      | false =>
       have HF:=aW (HXN.out (fun e=>by have:=HTT.out.2 e;cases this));go_wp2;go_ret;exact EqS.no HF.out HB2.out.2.2
     ·have HF:=aW (HTN.out htu);have hb1:(t == u)=false:=by simp [htu]
      have hb2:(t != u)=true:=by simp [htu]
      clear HTU HTN HKY HKY' HIH HIH' HCL HI;go_wp2;go_quiet (fail);go_wp2;go_ret;exact EqS.no HF.out (HB.out.drewN nq).2.2
    ·go_wp2;refine wp_region_held_drew (S:=fun w'=>w'.cell? ⟨w.heap.size,0,none⟩=some (.int .i64 k)∧w'.cell? ⟨w.heap.size,3,none⟩=some (.slice (some ⟨b,o,none⟩) nk ca)∧w'.cell? ⟨w.heap.size+1,3,none⟩=some (.slice (some ⟨b',o',none⟩) nk ca') ∧
           w'.cell? ⟨b,o+i*5,none⟩=some (.int .i64 k1)∧w'.cell? ⟨b,o+i*5+1,none⟩=some (.int .i64 n1)∧w'.cell? ⟨b,o+i*5+2,none⟩=some (.string s1)∧w'.cell? ⟨b,o+i*5+3,none⟩=some (.slice A1 na1 ca1)∧w'.cell? ⟨b,o+i*5+4,none⟩=some (.slice B1 nb1 cb1) ∧
           w'.cell? ⟨b',o'+i*5,none⟩=some (.int .i64 k2)∧w'.cell? ⟨b',o'+i*5+1,none⟩=some (.int .i64 n2)∧w'.cell? ⟨b',o'+i*5+2,none⟩=some (.string s2)∧w'.cell? ⟨b',o'+i*5+3,none⟩=some (.slice A2 na2 ca2)∧w'.cell? ⟨b',o'+i*5+4,none⟩=some (.slice B2 nb2 cb2)) (by kernel_rfl) (by exact ⟨z0,z3,u3,q0,q1,q2,q3,q4,p0,p1,p2,p3,p4⟩) (fun hHeld=>?_)
     refine tA 0 41 (.pointer (some ⟨w.heap.size,0,none⟩)) rfl ?_
     try simp only [pU]
     refine tA 1 42 (.int .i64 k) rfl ?_
     try simp only [pU]
     refine tA 2 43 (.bool false) rfl ?_
     try simp only [pU]
     refine tA 3 44 (.bool false) rfl ?_
     try simp only [pU]
     refine tN 4 45 undef rfl ?_
     try simp only [pU]
     refine tN 5 46 undef rfl ?_
     try simp only [pU]
     refine tN 6 47 undef rfl ?_
     try simp only [pU]
     refine tN 7 48 undef rfl ?_
     try simp only [pU]
     refine tN 8 49 undef rfl ?_
     try simp only [pU]
     refine tN 9 50 undef rfl ?_
     try simp only [pU]
     refine tN 10 51 undef rfl ?_
     try simp only [pU]
     refine tN 11 52 undef rfl ?_
     try simp only [pU]
     refine tN 12 53 undef rfl ?_
     try simp only [pU]
     refine tN 13 54 undef rfl ?_
     try simp only [pU]
     refine tN 14 55 undef rfl ?_
     try simp only [pU]
     refine tA 15 56 (.bool false) rfl ?_
     try simp only [pU]
     refine tA 16 57 (.bool false) rfl ?_
     try simp only [pU]
     refine tA 17 58 (.pointer (some ⟨w.heap.size,3,none⟩)) rfl ?_
     try simp only [pU]
     refine tA 18 59 (.slice (some ⟨b,o,none⟩) nk ca) rfl ?_
     try simp only [pU]
     refine tA 19 60 (.int .i64 i) rfl ?_
     try simp only [pU]
     refine tA 20 61 (.pointer (some ⟨b,o+i*5,none⟩)) rfl ?_
     try simp only [pU]
     refine tA 21 62 (.agg #[.int .i64 k1,.int .i64 n1,.string s1,.slice A1 na1 ca1,.slice B1 nb1 cb1]) rfl ?_
     try simp only [pU]
     refine tA 22 63 (.pointer (some ⟨w.heap.size+1,3,none⟩)) rfl ?_
     try simp only [pU]
     refine tA 23 64 (.slice (some ⟨b',o',none⟩) nk ca') rfl ?_
     try simp only [pU]
     refine tA 24 65 (.int .i64 i) rfl ?_
     try simp only [pU]
     refine tA 25 66 (.pointer (some ⟨b',o'+i*5,none⟩)) rfl ?_
     try simp only [pU]
     refine tA 26 67 (.agg #[.int .i64 k2,.int .i64 n2,.string s2,.slice A2 na2 ca2,.slice B2 nb2 cb2]) rfl ?_
     try simp only [pU]
     refine aV 27 68 rfl (fun K hK=>?_);go_simp;refine HCL.out.mono ?_;rintro e w2 ⟨tt,rfl,htt,hb2⟩;have hB2:=HB.out.drew.keep hb2;have e0:=hB2.1.cell 0;have e3:=hB2.1.cell 3;have r3:=hB2.2.1.cell 3;simp at e0 e3 r3;obtain ⟨v0,v1,v2,v3,v4⟩:=HZ.out _ hB2.2.2;obtain ⟨t0,t1,t2,t3,t4⟩:=HZ'.out _ hB2.2.2;refine hK.out _ _ (⟨e0,e3,r3,v0,v1,v2,v3,v4,t0,t1,t2,t3,t4⟩) (fun hHeld2=>?_);clear hK K hHeld
     try simp only [pU]
     refine tA 28 69 (.bool (!tt)) rfl ?_
     try simp only [pU]
     refine tA 29 70 (.bool (!tt)) rfl ?_
     try simp only [pU]
     refine aX ?_;have HB2:=aW hB2;have HTT:=aW htt;clear hB2 hb2 htt;cases tt with
     | true =>
      go_wp2;go_roundg (nk-(i+1))
      case measure=>rw [HG.out];omega
      case rel=>exact ⟨i+1,hlt,rfl,by go_num,aW ⟨HXY.out (HTT.out.1 (by trivial)),fun e=>absurd (hk6.symm.trans e) (by decide)⟩,HB2⟩
     | false =>
      have HF:=aW (HXN.out (fun e=>by have:=HTT.out.2 e;cases this));go_wp2;go_ret;exact EqS.no HF.out HB2.out.2.2
   ·obtain rfl:i=nk:=by omega
    have HF:=aW (show PP by
     have e1:=HSM.out.1;rw [List.take_of_length_le (Nat.le_of_eq HNK.out),List.take_of_length_le (Nat.le_of_eq HNKQ.out)] at e1;refine HPY.out e1 ?_;rcases hcs with ⟨h6,h7,h8⟩ | ⟨_,h⟩
     ·have e2:=HSM.out.2 h6;rwa [List.take_of_length_le (Nat.le_of_eq (HNY.out.trans h7.symm)),List.take_of_length_le (Nat.le_of_eq (HNYQ.out.trans h8.symm))] at e2
     ·exact h.out)
    clear hcs;go_wp2;go_ret;exact EqS.yes HF.out HB.out.2.2
theorem rSameG (v v':JV) (cs cs':List Value) (F F':Nat→Prop) (w:World) (hv:VR w F cs v) (hv':VR w F' cs' v') (hC:Came v) (hC':Came v') :
  Calls Tryz.prog 18 #[.agg cs.toArray,.agg cs'.toArray] w (EqS (good v=true∧good v'=true∧v=v') w):=by
 have H1:=aW (fun W (h:Below w.heap.size w W)=>rRightG v cs F W (hv.bel h) hC);have H2:=aW (fun W (h:Below w.heap.size w W)=>rRightG v' cs' F' W (hv'.bel h) hC');have H3:=aW (fun W (h:Below w.heap.size w W) (g:good v=true) (g':good v'=true)=>rOneG _ v v' (Nat.le_refl _) 8 8 cs cs' F F' W (hv.bel h) (hv'.bel h) (by unfold good at g;rw [Bool.and_eq_true] at g;exact g.1) (by unfold good at g';rw [Bool.and_eq_true] at g';exact g'.1) hC hC');obtain ⟨k0,n0,s0,A0,na0,ca0,B0,nb0,cb0,rfl⟩:=hv.form;obtain ⟨k1,n1,s1,A1,na1,ca1,B1,nb1,cb1,rfl⟩:=hv'.form;have HB:=aW (TwoB.new w 25 #[.int .i64 k0,.int .i64 n0,.string s0,.slice A0 na0 ca0,.slice B0 nb0 cb0] #[.int .i64 k1,.int .i64 n1,.string s1,.slice A1 na1 ca1,.slice B1 nb1 cb1]);clear hv hv' hC hC';obtain ⟨g,hg⟩:∃ g,good v=g:=⟨_,rfl⟩
 obtain ⟨g',hg'⟩:∃ g',good v'=g':=⟨_,rfl⟩
 rw [hg] at H1 H3 ⊢;rw [hg'] at H2 H3 ⊢;clear hg hg';cases g with
 | false =>
  go_enter Tryz.func18,Tryz.ntmps18;go_wp2_with fail;refine (H1.out _ HB.out.2.2).mono ?_;rintro e w1 ⟨rfl,hb1⟩;have HB1:=aW (HB.out.keep hb1);clear hb1;go_wp2;go_ret;exact EqS.no (fun e=>by cases e.1) HB1.out.2.2
 | true =>
 cases g' with
 | false =>
  go_enter Tryz.func18,Tryz.ntmps18;go_wp2_with fail;refine (H1.out _ HB.out.2.2).mono ?_;rintro e w1 ⟨rfl,hb1⟩;have HB1:=aW (HB.out.keep hb1);clear hb1;obtain ⟨c1,f1,l1⟩:=HB1.out.1.rules;obtain ⟨c2,f2,l2⟩:=HB1.out.2.1.rules;go_wp2_with fail;refine (H2.out _ HB1.out.2.2).mono ?_;rintro e w2 ⟨rfl,hb2⟩;have HB2:=aW (HB1.out.keep hb2);clear hb2;go_wp2;go_ret;exact EqS.no (fun e=>by cases e.2.1) HB2.out.2.2
 | true =>
  go_enter Tryz.func18,Tryz.ntmps18;go_wp2_with fail;refine (H1.out _ HB.out.2.2).mono ?_;rintro e w1 ⟨rfl,hb1⟩;have HB1:=aW (HB.out.keep hb1);clear hb1;obtain ⟨c1,f1,l1⟩:=HB1.out.1.rules;obtain ⟨c2,f2,l2⟩:=HB1.out.2.1.rules;go_wp2_with fail;refine (H2.out _ HB1.out.2.2).mono ?_;rintro e w2 ⟨rfl,hb2⟩;have HB2:=aW (HB1.out.keep hb2);clear hb2 c1 f1 l1 c2 f2 l2;obtain ⟨c1,f1,l1⟩:=HB2.out.1.rules;obtain ⟨c2,f2,l2⟩:=HB2.out.2.1.rules;go_wp2_with fail;refine (H3.out _ HB2.out.2.2 (by trivial) (by trivial)).mono ?_;rintro e w3 ⟨tt,rfl,htt,hb3⟩;have HB3:=aW (HB2.out.keep hb3);have HTT:=aW htt;clear hb3 htt;go_wp2;go_ret;exact ⟨tt,rfl,by rw [HTT.out];simp,HB3.out.2.2⟩
set_option linter.unusedVariables false
set_option linter.unusedSimpArgs false
open Go.RowKit Go.Shelf
attribute [local go_sem] run_index_arr run_part_agg run_part_one run_field_agg
end Go.Proofs.YtgolomgmnanbpaaGreatDoor
