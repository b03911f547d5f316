import Derived.Test.YtgolomgmnanbpaaGreatDoorW25
import Derived.Test.YtgolomgmnanbpaaGreatDoorW01
import Derived.Test.YtgolomgmnanbpaaGreatDoorW28
import Derived.Deep.RegionHeld3
import Derived.Test.YtgolomgmnanbpaaGreatDoorW32
import Derived.Test.YtgolomgmnanbpaaGreatDoorW31
import Derived.Test.YtgolomgmnanbpaaGreatDoorW30
import Derived.Test.YtgolomgmnanbpaaGreatDoorW29
import Derived.Test.YtgolomgmnanbpaaGreatDoorW19
set_option maxRecDepth 100000
set_option maxHeartbeats 16000000
namespace Go.Proofs.YtgolomgmnanbpaaGreatDoor
set_option linter.unusedVariables false
set_option linter.unusedSimpArgs false
open Go.RowKit
attribute [local go_sem] run_index_arr run_part_agg run_part_one run_field_agg
def LisFP (F:Nat→Prop) (xs:List JV) (w:World) (e:Ending) (w':World):Prop:=∃ cs:Array Value,e=.returned (.tuple #[.agg cs,.int .i64 (if good (.mk 5 0 [] xs [])=true then 0 else 140)]) ∧
 (good (.mk 5 0 [] xs [])=true→VR w' (FN F w) cs.toList (.mk 5 0 [] xs []))∧(¬ good (.mk 5 0 [] xs [])=true→cs=zeroCs)∧Below w.heap.size w w'
theorem vListF (css:List (List Value)) (xs:List JV) (F:Nat→Prop) (A:Option Addr) (n cap:Nat) (w:World) (hG:GOK w) (h1:VRs w F css xs) (hn:xs.length=n) (hr:RdF w F A css.flatten) (hl:n≤4194304) (hc:Came (.mk 5 0 [] xs [])) :
  Calls Tryz.prog 123 #[.slice A n cap] w (LisFP F xs w):=by
 have HB0:=aW ((Below.refl w.heap.size w).alloc (Nat.le_refl _) (.cells zeroCs 25));have HCL:=aW (valClone_any css xs F A n cap _ (h1.below HB0.out) hn (hr.keep (KeepF.of_below HB0.out)) hl);have HV0:=aW (h1.mono (F':=fun b=>(F b∧b<w.heap.size)∨w.heap.size<b) fun b hb hF=>.inl ⟨hF,hb⟩);have HG:=aW hG;have HN:=aW hn;have HC:=aW hc;have HH0:=aW ((Held.nil w).push 25 zeroCs (g:=w.heap.size) rfl);clear h1 hn hr hl hc hG;have HNE:=aW (fun (b:Nat) (h:(F b∧b<w.heap.size)∨w.heap.size<b)=>show b≠w.heap.size by omega);have HTO:=aW (fun (b:Nat) (h:(F b∧b<w.heap.size)∨w.heap.size<b)=>show FN F w b from h.elim (fun h=>.inl h.1) (fun h=>.inr (by omega)));unfold zeroCs at HB0 HCL HH0;go_enter Tryz.func123,Tryz.ntmps123;go_wp2_with fail;refine HCL.out.mono ?_;rintro e w1 ⟨v1,rfl,hown,hb1⟩;obtain ⟨A1,c1,rfl,hc1,hA1,hr1⟩:=own_parts hown;have HH1:=aW (HH0.out.keep hb1);have HVL:=aW (vr_list (F:=fun b=>(F b∧b<w.heap.size)∨w.heap.size<b) ((HV0.out).below HH1.out.1) HN.out hc1 hA1 (hr1.mono fun b _ hb=>by simp at hb;exact .inr (by omega)));clear hb1 hown hc1 hA1 hr1 HH0 HCL HB0;go_wp2_with fail;refine (vWhole_any (.mk 5 0 [] xs []) [.int .i64 5,.int .i64 0,.string ⟨#[]⟩,.slice A1 n c1,.slice none 0 0] _ w1 (HG.out.keep HH1.out.1) HVL.out HC.out).mono ?_;rintro e w2 ⟨rfl,hb2⟩;have HH2:=aW (HH1.out.keep hb2);have HVL2:=aW (HVL.out.bel hb2);clear hb2 HH1 HVL;obtain ⟨c3,f3,l3⟩:=HH2.out.b0.rules;by_cases hg:good (.mk 5 0 [] xs [])=true
 ·unfold LisFP;rw [if_pos hg,if_pos hg];go_wp2;have hb5:=five_bel HH2.out.1 (g:=w.heap.size) (Nat.le_refl _) (.int .i64 5) (.int .i64 0) (.string ⟨#[]⟩) (.slice A1 n c1) (.slice none 0 0);refine bodyPost_ret (v:=.tuple #[.agg #[.int .i64 5,.int .i64 0,.string ⟨#[]⟩,.slice A1 n c1,.slice none 0 0],.int .i64 0]) (by simp only [results,Tryz.results123];go_simp) rfl ?_;exact ⟨_,by rw [if_pos hg],fun _=>(HVL2.out.keep (((((KeepF.refl.set HNE.out 0 _).set HNE.out 1 _).set HNE.out 2 _).set HNE.out 3 _).set HNE.out 4 _)).mono (fun b _ hb=>HTO.out b hb),fun h=>absurd hg h,hb5⟩
 ·unfold LisFP;rw [if_neg hg,if_neg hg];unfold zeroCs;go_wp2;refine bodyPost_ret (v:=.tuple #[.agg #[.int .i64 0,.int .i64 0,.string ⟨#[]⟩,.slice none 0 0,.slice none 0 0],.int .i64 140]) (by simp only [results,Tryz.results123];go_simp) rfl ?_;exact ⟨zeroCs,by rw [if_neg hg];rfl,fun h=>absurd h hg,fun _=>rfl,five_bel HH2.out.1 (Nat.le_refl _) _ _ _ _ _⟩
set_option linter.unusedVariables false
set_option linter.unusedSimpArgs false
open Go.RowKit
attribute [local go_sem] run_index_arr run_part_agg run_part_one run_field_agg
theorem vGet {v:JV} {cs:List Value} {F:Nat→Prop} (t:List UInt8) (w:World) (hG:GOK w) (hv:VR w F cs v) (hc:Came v) (hg:good v=true) :
  Calls Tryz.prog 122 #[.agg cs.toArray,.string ⟨t.toArray⟩] w (KidP (getJ v t) F w):=by
 obtain ⟨k,n,s,kids,keys⟩:=v;have HK:=aW (fun (W:World) (i:Int) (h:Below w.heap.size w W)=>vKid i W (hG.keep h) ((hv.mono (F':=fun b=>F b∧b<w.heap.size) fun b hb hF=>⟨hF,hb⟩).bel h) hc hg);have hup:UpB keys:=by
  have h1:=(goodJ_out (good_J hg).1).1;by_cases h6:k=6
  ·subst h6;exact (keysOk_iff.1 (goodA_obj h1).2.2.2).2
  ·have:=goodA_kind h1;have hky:keys=[]:=by
    by_cases h5:k=5
    ·subst h5;exact (goodA_list h1).2.2
    ·exact (goodA_leaf h1 (by omega)).2
   rw [hky];exact List.Pairwise.nil
 have hgj:getJ (.mk k n s kids keys) t=(if k=6∧0≤plI keys t then kids[(plI keys t).toNat]? else none):=by
  unfold getJ plI;show (if k=6 then _ else none)=_
  by_cases h6:k=6
  ·rw [if_pos h6];show (match keys.idxOf? t with | some i=>kids[i]? | none=>none)=_
   cases keys.idxOf? t with
   | none=>simp
   | some i=>simp [h6]
  ·rw [if_neg h6,if_neg (fun h=>h6 h.1)]
 rw [hgj];obtain ⟨A,B,ca,cb,css,rfl,hvs,h1,h2,h3,h4,h5,h6⟩:=hv.out;obtain ⟨ny,hny⟩:∃ q,keys.length=q:=⟨_,rfl⟩
 obtain ⟨nk,hnk⟩:∃ q,kids.length=q:=⟨_,rfl⟩
 have hcy:ny≤4194304:=by rw [← hny];exact hc.out.2.2.2.2.1
 have HPL:=aW (fun (W:World) (h:Below w.heap.size w W)=>vPlace keys t F B ny cb W hny (h6.keep (KeepF.of_below h)) hcy hup);obtain ⟨p,hp⟩:∃ p,plI keys t=p:=⟨_,rfl⟩
 rw [hnk,hny] at HK ⊢;rw [hp] at HPL ⊢;have HH0:=aW (((Held.nil w).push 25 #[.int .i64 k,.int .i64 n,.string ⟨s.toArray⟩,.slice A nk ca,.slice B ny cb] (g:=w.heap.size) rfl).push 25 #[.int .i64 0,.int .i64 0,.string ⟨#[]⟩,.slice none 0 0,.slice none 0 0] (g:=w.heap.size+1) (by simp));clear hG hv hc hg hvs h1 h2 h3 h4 h5 h6 hnk hny hcy hup hgj hp;obtain ⟨op,hop⟩:∃ q,(if k=6∧0≤p then kids[p.toNat]? else none)=q:=⟨_,rfl⟩
 have HKP:=aW (HK.out · p);rw [hop] at HKP ⊢;clear hop HK;obtain ⟨c0,f0,l0⟩:=HH0.out.b1.rules;have k0:=c0 0;have k1:=c0 1;have k2:=c0 2;have k3:=c0 3;have k4:=c0 4;simp at k0 k1 k2 k3 k4;go_enter Tryz.func122,Tryz.ntmps122;go_wp2;go_region_held3 (fun w'=>w'.cell? ⟨w.heap.size,0,none⟩=some (.int .i64 k)∧w'.cell? ⟨w.heap.size,1,none⟩=some (.int .i64 n)∧w'.cell? ⟨w.heap.size,2,none⟩=some (.string ⟨s.toArray⟩)∧w'.cell? ⟨w.heap.size,3,none⟩=some (.slice A nk ca)∧w'.cell? ⟨w.heap.size,4,none⟩=some (.slice B ny cb)) (go_keep) (first | (go_at_call 165;refine (HKP.out _ HH1.out.1).mono ?_;rintro e w2 ⟨cs2,u2,b2,rfl,hv2,hc2,ho2,hg2,hb2⟩;obtain ⟨k6,n6,s6,A6,na6,ca6,B6,nb6,cb6,rfl⟩:=hv2.form;have HH2:=aW (HH1.out.keep hb2);have HQ2:=aW (And.intro hv2 (And.intro hc2 (And.intro ho2 hg2)));have d0:=HH2.out.b1.cell 0;have d1:=HH2.out.b1.cell 1;have d2:=HH2.out.b1.cell 2;have d3:=HH2.out.b1.cell 3;have d4:=HH2.out.b1.cell 4;simp at d0 d1 d2 d3 d4;obtain ⟨c9,f9,l9⟩:=HH2.out.b0.rules) | (go_at_call 166;refine (HPL.out _ HH0.out.drew.1).mono ?_;rintro e w1 ⟨rfl,hb1⟩;have HH1:=aW (HH0.out.drew.keep hb1);have d0:=HH1.out.b1.cell 0;have d1:=HH1.out.b1.cell 1;have d2:=HH1.out.b1.cell 2;have d3:=HH1.out.b1.cell 3;have d4:=HH1.out.b1.cell 4;simp at d0 d1 d2 d3 d4))
 all_goals
  go_wp2;refine bodyPost_ret (v:=.tuple #[.agg #[.int .i64 k6,.int .i64 n6,.string s6,.slice A6 na6 ca6,.slice B6 nb6 cb6],.bool b2]) (by simp only [results,Tryz.results122];go_simp) rfl ?_;have hne:∀ b,(F b∧b<w.heap.size)→b≠w.heap.size+1:=fun b hb=>by have:=hb.2;omega
  exact ⟨_,u2,b2,rfl,(HQ2.out.1.keep (((((KeepF.refl.set hne 0 _).set hne 1 _).set hne 2 _).set hne 3 _).set hne 4 _)).mono (fun b _ hb=>hb.1),HQ2.out.2.1,HQ2.out.2.2.1,HQ2.out.2.2.2,five_bel HH2.out.1 (by omega) _ _ _ _ _⟩
set_option linter.unusedVariables false
set_option linter.unusedSimpArgs false
open Go.RowKit
attribute [local go_sem] run_index_arr run_part_agg run_part_one run_field_agg
theorem kLay:∀ (N:Nat) (v:JV),nodesJ v≤N→∀ d,goodJ d v=true→Came v→ForV v
 | 0,v,h,_,_,_=>by have:=nodesJ_pos v;omega
 | N+1,.mk k n s kids keys,hN,d,hg,hc=>by
  intro row base m l cs w ho hv hn;obtain ⟨h1,_,h3⟩:=goodJ_out hg;obtain ⟨_,hiw,hsl,hkl,hyl,hyy,hkc⟩:=hc.out;have ih:∀ x ∈ kids,ForV x:=fun x hx=>kLay N x (by unfold nodesJ at hN;have:=nodesL_in hx;omega) (d-1) (goodL_iff.1 h3 x hx) (hkc x hx)
  obtain ⟨A,B,ca,cb,css,rfl,hvs,hca,hcb,_,_,hrA,hrB⟩:=hv.out;have hmn:m≤100000000000:=by omega
  have hk:=goodA_kind h1;rcases (by omega:k=1∨k=2∨k=3∨k=4∨k=5∨k=6) with rfl | rfl | rfl | rfl | rfl | rfl
  ·have e:codeJ (.mk 1 n s kids keys)=[1]:=by unfold codeJ;rfl
   rw [e];exact kLay1 row base m l w n s A B _ ca _ cb ho hmn
  ·have hn01:n=0∨n=1:=by unfold goodA at h1;simp at h1;exact h1.1.1.1
   rcases hn01 with rfl | rfl
   ·have e:codeJ (.mk 2 0 s kids keys)=[2]:=by unfold codeJ;rfl
    rw [e];exact kLay20 row base m l w 0 s A B _ ca _ cb ho hmn
   ·have e:codeJ (.mk 2 1 s kids keys)=[3]:=by unfold codeJ;rfl
    rw [e];exact kLay21 row base m l w 0 s A B _ ca _ cb ho hmn
  ·have e:codeJ (.mk 3 n s kids keys)=codeN n:=by unfold codeJ;rfl
   rw [e];exact kLay3 row base m l w n s A B _ ca _ cb ho hmn hiw
  ·have e:codeJ (.mk 4 n s kids keys)=codeT s:=by unfold codeJ;rfl
   rw [e];exact kLay4 row base m l w n s A B _ ca _ cb ho hmn hsl
  ·have e:codeJ (.mk 5 n s kids keys)=6::(codeL false kids keys++[0]):=by unfold codeJ;rfl
   rw [e] at hn ⊢;exact kLay5 row base m l w n s A B _ ca _ cb kids keys css ho hvs hrA hrB rfl rfl (fun h=>by cases h) hca hcb hkl hyy ih hn
  ·have e:codeJ (.mk 6 n s kids keys)=7::(codeL true kids keys++[0]):=by unfold codeJ;rfl
   rw [e] at hn ⊢;exact kLay6 row base m l w n s A B _ ca _ cb kids keys css ho hvs hrA hrB rfl rfl (fun _=>(goodA_obj h1).2.2.1) hca hcb hkl hyy ih hn
def EncP (v:JV) (w:World) (e:Ending) (w':World):Prop:=∃ (A:Option Addr) (n cap:Nat) (er:Int),e=.returned (.tuple #[.slice A n cap,.int .i64 er])∧(good v=true→er=0∧n=(codeJ v).length)∧(good v=false→er=140∧n=0)∧Below w.heap.size w w'
theorem kEncode (v:JV) (cs:List Value) (F:Nat→Prop) (w:World) (hG:GOK w) (hv:VR w F cs v) (hc:Came v):Calls Tryz.prog 36 #[.agg cs.toArray] w (EncP v w):=by
 have HV:=aW hv;obtain ⟨k1,n1,s1,A1,na1,ca1,B1,nb1,cb1,rfl⟩:=hv.form;have HH0:=aW ((Held.nil w).push 25 #[.int .i64 k1,.int .i64 n1,.string s1,.slice A1 na1 ca1,.slice B1 nb1 cb1] (g:=w.heap.size) rfl);have HCK:=aW (fun (q:Int) (hq:chkJ v=q)=>vChk_is hq (hG.keep HH0.out.1) (hv.bel HH0.out.1) hc);have HC:=aW hc;clear hG hv hc;obtain ⟨c0,f0,l0⟩:=HH0.out.b0.rules;by_cases hg:good v=true
 ·have HE:=aW (HCK.out 0 (by unfold chkJ;rw [if_pos hg]));have HLY:=aW (kLay _ v (Nat.le_refl _) 8 ((good_J hg).1) HC.out);have hbk:=codeJ_len v;have hbn:=bulk_nodes v 8 ((good_J hg).1) HC.out.lens;have hnd:=(good_J hg).2;have hcl:(codeJ v).length≤100000000000:=by omega
  have HCL:=aW hcl;have HGD:=aW hg;clear hg HCK hbk hbn hnd hcl;go_enter Tryz.func36,Tryz.ntmps36;go_wp2_with fail;refine HE.out.mono ?_;rintro e w1 ⟨rfl,hb1⟩;have HH1:=aW (HH0.out.keep hb1);have HLC:=aW (HLY.out (.slice none 0 0) w1.heap.size 0 [] _ w1 (OwnB.nil w1) ((HV.out.bel HH1.out.1).mono fun b hb _=>hb) (by have:=HCL.out;omega));clear hb1 c0 f0 l0;obtain ⟨c0,f0,l0⟩:=HH1.out.b0.rules;go_wp2_with fail;refine HLC.out.mono ?_;rintro e w2 ⟨r2,m2,rfl,ho2,hg2⟩;have HB2:=aW (HH1.out.1.trans ((hg2.below (base:=w1.heap.size) (Nat.le_refl _) (fun k h=>by cases h)).mono HH1.out.1.size));obtain ⟨A2,c2,rfl,_⟩:=own_parts ho2.2.1;have HL2:=aW ho2.1;clear ho2 hg2 c0 f0 l0;go_wp2;go_ret2;exact ⟨A2,m2,c2,0,rfl,fun _=>⟨rfl,by rw [← HL2.out];rfl⟩,fun h=>(by rw [HGD.out] at h;cases h),HB2.out⟩
 ·have HE:=aW (HCK.out 140 (by unfold chkJ;rw [if_neg hg]));have HGD:=aW hg;clear hg HCK;go_enter Tryz.func36,Tryz.ntmps36;go_wp2_with fail;refine HE.out.mono ?_;rintro e w1 ⟨rfl,hb1⟩;have HH1:=aW (HH0.out.keep hb1);clear hb1 c0 f0 l0;go_wp2;go_ret2;exact ⟨none,0,0,140,rfl,fun h=>absurd h HGD.out,fun _=>⟨rfl,rfl⟩,HH1.out.1⟩
set_option linter.unusedVariables false
set_option linter.unusedSimpArgs false
open Go.RowKit
attribute [local go_sem] run_index_arr run_part_agg run_part_one run_field_agg
def BegP (g:Nat) (p:Nat) (w:World) (e:Ending) (w':World):Prop:=e=.returned (.bool (decide (p<256)))∧w'=(if p<256 then w.setCell ⟨g,0,none⟩ (.int .i64 ((p+1:Nat):Int)) else w)
theorem mBegins (g p:Nat) (ev mv:Value) (w:World) (hB:Blk w g 88 #[.int .i64 (p:Int),ev,mv]) (hp:p≤256):Calls Tryz.prog 95 #[.pointer (some ⟨g,0,none⟩)] w (BegP g p w):=by
 obtain ⟨c0,f0,l0⟩:=hB.rules;by_cases h:p<256
 ·have HH:=aW h;have he:((p:Int) == 256)=false:=by rw [beq_eq_false_iff_ne];omega
  have HE:=aW (show ((p+1:Nat):Int)=(p:Int)+1 by omega);clear hB h;go_enter Tryz.func95,Tryz.ntmps95;go_wp2;go_ret;exact ⟨by rw [decide_eq_true HH.out];rfl,by rw [if_pos HH.out,HE.out]⟩
 ·obtain rfl:p=256:=by omega
  clear hB h;go_enter Tryz.func95,Tryz.ntmps95;go_wp2;go_ret;exact ⟨rfl,rfl⟩
set_option linter.unusedVariables false
set_option linter.unusedSimpArgs false
open Go.RowKit
attribute [local go_sem] run_index_arr run_part_agg run_part_one run_field_agg
theorem SumP.cases {o:Int} {w w':World} {e:Ending} (h:SumP o w e w'):w'=w∧(iw o∧e=.returned (.tuple #[.int .i64 o,.bool true])∨¬ iw o∧e=.returned (.tuple #[.int .i64 0,.bool false])):=by
 obtain ⟨n,f,rfl,h1,h2,rfl⟩:=h;refine ⟨rfl,?_⟩;cases f with
 | true=>obtain ⟨g1,rfl⟩:=h1 rfl;exact .inl ⟨g1,rfl⟩
 | false=>obtain ⟨g1,rfl⟩:=h2 rfl;exact .inr ⟨g1,rfl⟩
theorem prod_no1 {p m o:Int} (h:o=p+p+m) (hs:(0≤p∧0≤m)∨(p≤0∧m≤0)) (hp:¬ iw p):¬ iw o:=by unfold iw at *;omega
theorem prod_no2 {p m o:Int} (h:o=p+p+m) (hs:(0≤p∧0≤m)∨(p≤0∧m≤0)) (hp:¬ iw (p+p)):¬ iw o:=by unfold iw at *;omega
theorem prod_no3 {q o:Int} (h:o=q+9223372036854775807+1) (hq:iw q) (hp:¬ iw (q+9223372036854775807)):¬ iw o:=by unfold iw at *;omega
theorem prod_o3 {q m o a:Int} (h:o=q+m) (hm:m = -a) (ha:a = -9223372036854775808):o=q+9223372036854775807+1:=by omega
theorem prod_neg {a na:Int} (h:-a=na) (ha:iw a) (hm:¬ a = -9223372036854775808):iw na∧IntKind.i64.wrap (-a)=na:=by rw [IntKind.wrap_i64];unfold iw at *;omega
theorem iw_max:iw 9223372036854775807:=by unfold iw;omega
theorem iw_one:iw 1:=by unfold iw;omega
theorem rProdV (a:Int) (ha:iw a):∀ (N:Nat) (b:Int) (w:World),b.natAbs≤N→iw b→Calls Tryz.prog 55 #[.int .i64 a,.int .i64 b] w (SumP (a*b) w):=by
 intro N
 induction N with
 | zero =>
  intro b w hN hb;obtain rfl:b=0:=by omega
  rw [Int.mul_zero];go_enter Tryz.func55,Tryz.ntmps55;go_wp2;go_ret2;exact SumP.yes (by unfold iw;omega)
 | succ N ih =>
  intro b w hN hb;by_cases h0:b=0
  ·subst h0;rw [Int.mul_zero];go_enter Tryz.func55,Tryz.ntmps55;go_wp2;go_ret2;exact SumP.yes (by unfold iw;omega)
  obtain ⟨p,m,hp,hab,hrm,hsg⟩:=prod_parts a b;obtain ⟨d,hd⟩:∃ d,b.tdiv 2=d:=⟨_,rfl⟩
  obtain ⟨r,hr⟩:∃ r,b.tmod 2=r:=⟨_,rfl⟩
  have h1:=Int.mul_tdiv_add_tmod b 2;rw [hd] at hp h1;rw [hr] at hrm h1;unfold iw at ha hb;have hdN:d.natAbs≤N:=by
   have:d.natAbs=b.natAbs / 2:=by rw [← hd,Int.natAbs_tdiv];rfl
   omega
  have hdi:iw d:=by
   have:d.natAbs=b.natAbs / 2:=by rw [← hd,Int.natAbs_tdiv];rfl
   unfold iw;omega
  have HIH:=aW (show ∀ w,Calls Tryz.prog 55 #[.int .i64 a,.int .i64 d] w (SumP p w) from fun w=>by rw [← hp];exact ih d w hdN hdi);obtain ⟨o,ho⟩:∃ o,a*b=o:=⟨_,rfl⟩
  rw [ho] at hab ⊢;have hdw:IntKind.i64.wrap (b.tdiv 2)=d:=by rw [hd,IntKind.wrap_i64];unfold iw at hdi;omega
  have HRM:=aW hr;have hb0:(b == 0)=false:=by simp [h0]
  have HS:=aW (fun (x y:Int) (w:World) (hx:iw x) (hy:iw y)=>rSumV x y w hx hy);have HY:=aW (fun (h:iw o)=>SumP.yes (w:=w) h);have HN:=aW (fun (h:¬ iw o)=>SumP.no (w:=w) h);have HF:=aW (And.intro hab (And.intro hrm (And.intro hsg ha)));have HA:=aW (show iw a from ha);clear ih hp ho hN hb hdN hdi h1 hab hrm hsg ha hd hr h0;go_enter Tryz.func55,Tryz.ntmps55;go_wp2_with fail;refine (HIH.out _).mono ?_;intro e w1 h;obtain ⟨rfl,⟨hpi,rfl⟩ | ⟨hpi,rfl⟩⟩:=h.cases;rotate_left
  ·have HX:=aW (HN.out (prod_no1 HF.out.1 HF.out.2.2.1 hpi));clear HY HN HF hpi h;go_wp2;go_ret2;exact HX.out
  have HPI:=aW hpi;clear hpi h HIH;go_wp2_with fail;refine (HS.out _ _ _ HPI.out HPI.out).mono ?_;intro e w2 h;obtain ⟨rfl,⟨hpi,rfl⟩ | ⟨hpi,rfl⟩⟩:=h.cases;rotate_left
  ·have HX:=aW (HN.out (prod_no2 HF.out.1 HF.out.2.2.1 hpi));clear HY HN HF hpi h;go_wp2;go_ret2;exact HX.out
  have HPP:=aW hpi;obtain ⟨pp,hpp⟩:∃ pp,p+p=pp:=⟨_,rfl⟩
  rw [hpp] at HPP HF;simp only [];rw [hpp];clear hpi h hpp;rcases HF.out.2.1 with ⟨hr0,hm⟩ | ⟨hr1,hm⟩ | ⟨hr2,hm⟩
  ·have HX:=aW (show SumP o w2 (.returned (.tuple #[.int .i64 pp,.bool true])) w2 by
    have h9:o=pp:=by rw [HF.out.1,hm,Int.add_zero]
    rw [← h9];exact HY.out (by rw [h9];exact HPP.out))
   have e1:(b.tmod 2 == 1)=false:=by rw [HRM.out,hr0];rfl
   have e2:(b.tmod 2 == -1)=false:=by rw [HRM.out,hr0];rfl
   clear HY HN HF hm hr0;go_wp2;go_ret2;exact HX.out
  ·have HO:=aW (show o=pp+a by rw [HF.out.1,hm]);have e1:(b.tmod 2 == 1)=true:=by rw [HRM.out,hr1];rfl
   have HX:=aW (HS.out pp a w2 HPP.out HA.out);clear HY HN HF hm hr1;go_wp2_with fail;refine HX.out.mono ?_;intro e w3 h;rw [← HO.out] at h;obtain ⟨n,f,rfl,h1,h2,rfl⟩:=h;have H9:=aW (And.intro h1 h2);clear h1 h2;go_wp2;go_ret2;exact ⟨n,f,rfl,H9.out.1,H9.out.2,rfl⟩
  ·have e1:(b.tmod 2 == 1)=false:=by rw [HRM.out,hr2];rfl
   have e2:(b.tmod 2 == -1)=true:=by rw [HRM.out,hr2];rfl
   by_cases hmin:a = -9223372036854775808
   ·have em:(a == -9223372036854775808)=true:=by simp [hmin]
    have HX:=aW (HS.out pp 9223372036854775807 w2 HPP.out iw_max);have HO:=aW (prod_o3 HF.out.1 hm hmin);have HNO:=aW (prod_no3 HO.out HPP.out);have HM:=aW hmin;clear HF hm hr2 hmin;go_wp2_with fail;refine HX.out.mono ?_;intro e w3 h;obtain ⟨rfl,⟨hpi,rfl⟩ | ⟨hpi,rfl⟩⟩:=h.cases;rotate_left
    ·have HZ:=aW (HN.out (HNO.out hpi));clear HY HN h hpi;go_wp2;go_ret2;exact HZ.out
    obtain ⟨pq,hpq⟩:∃ pq,pp+9223372036854775807=pq:=⟨_,rfl⟩
    have HZ:=aW (HS.out (pp+9223372036854775807) 1 w3 hpi iw_one);rw [hpq] at HZ HO;simp only [];rw [hpq];clear h hpi hpq HY HN HNO;go_wp2_with fail;refine HZ.out.mono ?_;intro e w4 h;rw [← HO.out] at h;obtain ⟨n,f,rfl,h1,h2,rfl⟩:=h;have H9:=aW (And.intro h1 h2);clear h1 h2;go_wp2;go_ret2;exact ⟨n,f,rfl,H9.out.1,H9.out.2,rfl⟩
   ·have em:(a == -9223372036854775808)=false:=by simp [hmin]
    obtain ⟨na,hna⟩:∃ na,-a=na:=⟨_,rfl⟩
    have hnw:=(prod_neg hna HA.out hmin).2;have HX:=aW (HS.out pp na w2 HPP.out (prod_neg hna HA.out hmin).1);have HO:=aW (show o=pp+na by rw [HF.out.1,hm,hna]);clear HY HN HF hm hr2 hna;go_wp2_with fail;refine HX.out.mono ?_;intro e w3 h;rw [← HO.out] at h;obtain ⟨n,f,rfl,h1,h2,rfl⟩:=h;have H9:=aW (And.intro h1 h2);clear h1 h2;go_wp2;go_ret2;exact ⟨n,f,rfl,H9.out.1,H9.out.2,rfl⟩
set_option linter.unusedVariables false
set_option linter.unusedSimpArgs false
open Go.RowKit
attribute [local go_sem] run_index_arr run_part_agg run_part_one run_field_agg
def IsP (o:Option JV) (F:Nat→Prop) (w:World) (e:Ending) (w':World):Prop:=∃ (k n:Int) (s:ByteArray) (A:Option Addr) (na ca:Nat) (B:Option Addr) (nb cb:Nat) (v:JV) (b:Bool),
 e=.returned (.agg #[.int .i64 k,.int .i64 n,.string s,.slice A na ca,.slice B nb cb,.bool b])∧VR w' (FN F w) [.int .i64 k,.int .i64 n,.string s,.slice A na ca,.slice B nb cb] v∧Came v∧o=(if b=true then some v else none)∧(b=true→good v=true)∧(b=false→v=jZero)∧Below w.heap.size w w'
def KidR (EA:Option Addr) (n ec:Nat) (F:Nat→Prop) (env:List (List UInt8 × JV)) (w:World) (y:EJ):Prop :=
 ∀ W (cs:List Value),Below w.heap.size w W→ER W F cs y→Calls Tryz.prog 17 #[.agg cs.toArray,.slice EA n ec] W (IsP (evE env y) F W)
theorem IsP.nil {o:Option JV} {F:Nat→Prop} {w w':World} (ho:o=none) (hb:Below w.heap.size w w'):IsP o F w (.returned (.agg #[.int .i64 0,.int .i64 0,.string ⟨#[]⟩,.slice none 0 0,.slice none 0 0,.bool false])) w' :=
 ⟨0,0,⟨#[]⟩,none,0,0,none,0,0,jZero,false,rfl,VR.zero,came_atom (by unfold iw;omega) (by unfold iw;omega) (by simp),by rw [ho];rfl,(fun h=>by cases h),fun _=>rfl,hb⟩
theorem IsP.nilC {o:Option JV} {F:Nat→Prop} {w W:World} (ho:o=none) (hb:Below w.heap.size w W):IsP o F w (.returned (.agg #[.int .i64 0,.int .i64 0,.string ⟨#[]⟩,.slice none 0 0,.slice none 0 0,.bool false])) (W.setCells (w.heap.size+1) 0 [.int .i64 0,.int .i64 0,.string ⟨#[]⟩,.slice none 0 0,.slice none 0 0,.bool false]):=IsP.nil ho (bel_setC (Nat.le_succ _) _ 0 hb)
theorem IsP.put {o:Option JV} {F:Nat→Prop} {w W:World} {k n:Int} {s:ByteArray} {A:Option Addr} {na ca:Nat} {B:Option Addr} {nb cb:Nat} {v:JV} (ho:o=some v) (hg:good v=true) (hc:Came v) (hF:∀ b,F b→b<w.heap.size) (hv:VR W (fun b=>F b∨w.heap.size+2≤b) [.int .i64 k,.int .i64 n,.string s,.slice A na ca,.slice B nb cb] v) (hb:Below w.heap.size w W) :
  IsP o F w (.returned (.agg #[.int .i64 k,.int .i64 n,.string s,.slice A na ca,.slice B nb cb,.bool true])) (W.setCells (w.heap.size+1) 0 [.int .i64 k,.int .i64 n,.string s,.slice A na ca,.slice B nb cb,.bool true]):=by
 have hk:∀ b,(F b∨w.heap.size+2≤b)→b≠w.heap.size+1:=fun b hb=>by
  rcases hb with hb | hb
  ·have:=hF b hb;omega
  ·omega
 refine ⟨k,n,s,A,na,ca,B,nb,cb,v,true,rfl,?_,hc,by rw [ho];rfl,fun _=>hg,(fun h=>by cases h),bel_setC (Nat.le_succ _) _ 0 hb⟩;exact (hv.keep (KeepF.setC hk _ 0 KeepF.refl)).mono fun b _ h=>h.imp id fun h=>by omega
theorem IsP.val {F:Nat→Prop} {w W W' W2:World} {cs:List Value} {v:JV} (hs:w.heap.size+2≤W.heap.size) (hv:VR W' (FN F W) cs v) (hb:Below W'.heap.size W' W2):VR W2 (fun b=>F b∨w.heap.size+2≤b) cs v :=
 (hv.mono fun b _ h=>h.imp id fun h=>by omega).bel hb
theorem atomJ_put {o:Option JV} {F:Nat→Prop} {w W:World} {k n:Int} {s:List UInt8} (ho:o=some (.mk k n s [] [])) (hg:good (.mk k n s [] [])=true) (hc:Came (.mk k n s [] [])) (hF:∀ b,F b→b<w.heap.size) (hb:Below w.heap.size w W) :
  IsP o F w (.returned (.agg #[.int .i64 k,.int .i64 n,.string ⟨s.toArray⟩,.slice none 0 0,.slice none 0 0,.bool true])) (W.setCells (w.heap.size+1) 0 [.int .i64 k,.int .i64 n,.string ⟨s.toArray⟩,.slice none 0 0,.slice none 0 0,.bool true]) :=
 IsP.put ho hg hc hF (VR.atom k n s) hb
theorem Blk.set6C {w:World} {g:Nat} {t:TypeId} {c0 c1 c2 c3 c4 c5:Value} (h:Blk w g t #[c0,c1,c2,c3,c4,c5]) (x0 x1 x2 x3 x4 x5:Value):Blk (w.setCells g 0 [x0,x1,x2,x3,x4,x5]) g t #[x0,x1,x2,x3,x4,x5]:=by
 replace h:=h.set_ 0 x0;simp only [List.setIfInBounds_toArray,List.set_cons_succ,List.set_cons_zero] at h;replace h:=h.set_ 1 x1;simp only [List.setIfInBounds_toArray,List.set_cons_succ,List.set_cons_zero] at h;replace h:=h.set_ 2 x2;simp only [List.setIfInBounds_toArray,List.set_cons_succ,List.set_cons_zero] at h;replace h:=h.set_ 3 x3;simp only [List.setIfInBounds_toArray,List.set_cons_succ,List.set_cons_zero] at h;replace h:=h.set_ 4 x4;simp only [List.setIfInBounds_toArray,List.set_cons_succ,List.set_cons_zero] at h;replace h:=h.set_ 5 x5;simp only [List.setIfInBounds_toArray,List.set_cons_succ,List.set_cons_zero] at h;exact h
theorem vr_head {W:World} {F:Nat→Prop} {k n:Int} {s:ByteArray} {A:Option Addr} {na ca:Nat} {B:Option Addr} {nb cb:Nat} {v:JV} (h:VR W F [.int .i64 k,.int .i64 n,.string s,.slice A na ca,.slice B nb cb] v):v.kind=k∧v.num=n∧s=⟨v.txt.toArray⟩∧na=v.kids.length:=by
 obtain ⟨vk,vn,vs,vks,vys⟩:=v;obtain ⟨_,_,_,_,_,e,_⟩:=h.out;injection e with e1 e;injection e with e2 e;injection e with e3 e;injection e with e4 e
 injection e1 with _ e1;injection e2 with _ e2;injection e3 with e3;injection e4 with _ e4 _
 exact ⟨e1.symm,e2.symm,e3,e4⟩
theorem came_iw {v:JV} (h:Came v):iw v.num:=by
 obtain ⟨vk,vn,vs,vks,vys⟩:=v;exact h.out.2.1
theorem comb_no {env:List (List UInt8 × JV)} {K:Int} {v:JV} {s:List UInt8} {a:JV} (h:8≤K∧K≤13):combJ env K v s [some a,none]=none:=by
 unfold combJ;rw [if_neg (by omega),if_neg (by omega),if_neg (by omega)];show (if K=3 then _ else _)=none
 rw [if_neg (by omega),if_neg (by omega),if_neg (by omega),if_neg (by omega),if_neg (by omega)];rfl
theorem comb_nm {env:List (List UInt8 × JV)} {K:Int} {v:JV} {s:List UInt8} {a b:JV} (h:8≤K∧K≤10):combJ env K v s [some a,some b]=if a.kind=3∧b.kind=3 then numO K a.num b.num else none:=by
 unfold combJ;rw [if_neg (by omega),if_neg (by omega),if_neg (by omega)];show (if K=3 then _ else _)=_
 rw [if_neg (by omega),if_neg (by omega),if_neg (by omega),if_neg (by omega),if_neg (by omega)];show (if 11≤K then _ else _)=_
 rw [if_neg (by omega)]
theorem comb_or {env:List (List UInt8 × JV)} {K:Int} {v:JV} {s:List UInt8} {a b:JV} (h:11≤K∧K≤13):combJ env K v s [some a,some b]=some (ordO K (cmpJ a b)):=by
 unfold combJ;rw [if_neg (by omega),if_neg (by omega),if_neg (by omega)];show (if K=3 then _ else _)=_
 rw [if_neg (by omega),if_neg (by omega),if_neg (by omega),if_neg (by omega),if_neg (by omega)];show (if 11≤K then _ else _)=_
 rw [if_pos (by omega)]
theorem isB_if (a:JV):isB (some a)=if a.kind=2 then some (decide (a.num=1)) else none:=rfl
theorem numI_yes {o:Int} (h:iw o):numR o=some (jNum o):=by unfold numR;exact if_pos h
theorem numI_no {o:Int} (h:¬ iw o):numR o=none:=by unfold numR;exact if_neg h
theorem zeroC0 {x:Nat}:x+0*8=x:=by omega
set_option linter.unusedVariables false
set_option linter.unusedSimpArgs false
open Go.RowKit
attribute [local go_sem] run_index_arr run_part_agg run_part_one run_field_agg
theorem rEv3 {env:List (List UInt8 × JV)} {v:JV} {s:List UInt8} {ya yb:EJ} {cs:List Value} {EA:Option Addr} {n ec:Nat} {F:Nat→Prop} {w:World} (hF:∀ b,F b→b<w.heap.size) (hx:ER w F cs (.mk 3 v s [ya])) (hcx:camE (.mk 3 v s [ya]))
  (ka:KidR EA n ec F env w ya) (kb:KidR EA n ec F env w yb) (oa ob:Option JV) (hoa:evE env ya=oa) (hob:evE env yb=ob) (op:Option JV) (hop:combJ env 3 v s [oa]=op) :
  Calls Tryz.prog 17 #[.agg cs.toArray,.slice EA n ec] w (IsP op F w):=by
 obtain ⟨k1,n1,s1,A1,na1,ca1,B1,nb1,cb1,A,ca,css0,rfl,hv,h1,h2,h3,h4⟩:=hx.out;obtain ⟨b,o,kx,px,nx,sx,Ax,nax,cax,Bx,nbx,cbx,zx,Cx,ncx,ccx,rfl,hb,hER,hz⟩:=kid_cellsE h1 h4 (i:=0) (x:=ya) rfl;have HKA:=aW (fun (W:World) (h:Below w.heap.size w W)=>ka W _ h (hER.bel h));rw [hoa] at HKA;obtain ⟨nr,hnr⟩:∃ q:Nat,1=q:=⟨_,rfl⟩
 have hnr1:0<nr:=by omega
 have HFF:=aW hF;have HOP:=aW hop;have HVS:=aW hv;have HH0:=aW (((Held.nil w).push 28 #[.int .i64 3,.int .i64 k1,.int .i64 n1,.string s1,.slice A1 na1 ca1,.slice B1 nb1 cb1,.string ⟨s.toArray⟩,.slice (some ⟨b,o,none⟩) nr ca] (g:=w.heap.size) rfl).push 40 #[.int .i64 0,.int .i64 0,.string ⟨#[]⟩,.slice none 0 0,.slice none 0 0,.bool false] (g:=w.heap.size+1) (by simp));obtain ⟨z0,z1,z2,z3,z4,z5,z6,z7⟩:=hz _ HH0.out.1;rw [zeroC0] at z0 z1 z2 z3 z4 z5 z6 z7;have hlb:b<w.heap.size:=hb;have hlb2:b≠w.heap.size+1:=by omega
 rw [show ([ya]:List EJ).length=nr from hnr];obtain ⟨c0,f0,l0⟩:=HH0.out.b1.rules;clear hF hx hcx hv h1 h2 h3 h4 hER hz hb hoa hob hop hnr ka kb;go_enter Tryz.func17,Tryz.ntmps17;go_wp2_with fail;refine (HKA.out _ HH0.out.1).mono ?_;rintro e w1 ⟨k5,n5,s5,A5,na5,ca5,B5,nb5,cb5,va,ba,rfl,hva,hca,hoa,hga,hza,hb1⟩;obtain ⟨WA,hWA⟩:∃ W,w1.alloc (.cells #[.int .i64 k5,.int .i64 n5,.string s5,.slice A5 na5 ca5,.slice B5 nb5 cb5,.bool ba] 40)=W:=⟨_,rfl⟩
 have HWA:=aW hWA;have HH1:=aW (show Held [(w1.heap.size,40,#[.int .i64 k5,.int .i64 n5,.string s5,.slice A5 na5 ca5,.slice B5 nb5 cb5,.bool ba]),(w.heap.size+1,40,#[.int .i64 0,.int .i64 0,.string ⟨#[]⟩,.slice none 0 0,.slice none 0 0,.bool false]),(w.heap.size,28,#[.int .i64 3,.int .i64 k1,.int .i64 n1,.string s1,.slice A1 na1 ca1,.slice B1 nb1 cb1,.string ⟨s.toArray⟩,.slice (some ⟨b,o,none⟩) nr ca])] w WA by rw [← hWA];exact (HH0.out.keep hb1).push 40 #[.int .i64 k5,.int .i64 n5,.string s5,.slice A5 na5 ca5,.slice B5 nb5 cb5,.bool ba] (g:=w1.heap.size) rfl);have HW1:=aW (show Below w1.heap.size w1 WA by rw [← hWA];exact (Below.refl _ w1).alloc (Nat.le_refl _) _);have HVA:=aW (fun (W:World) (h:Below w1.heap.size w1 W)=>IsP.val (w:=w) (by simp) hva h);have HQA:=aW (And.intro hca (And.intro hoa (And.intro hga hza)));have hs1:w.heap.size+2≤w1.heap.size:=by have:=hb1.size;simpa using this
 have hn1:w1.heap.size≠w.heap.size+1:=by omega
 have hn2:w1.heap.size≠w.heap.size:=by omega
 clear hWA hva hca hoa hga hza hb1 c0 f0 l0 z0 z1 z2 z3 z4 z5 z6 z7 HKA;go_upto_region 24 with fail;rw [HWA.out];clear HWA;obtain ⟨c0,f0,l0⟩:=HH1.out.b2.rules;obtain ⟨c1,f1,l1⟩:=HH1.out.b1.rules;obtain ⟨c2,f2,l2⟩:=HH1.out.b0.rules;cases ba with
 | false =>
  have HX:=aW (show op=none by rw [← HOP.out,HQA.out.2.1];rfl);go_upto_region 25 with fail
  try simp only []
  go_step;go_step;go_step;go_step;refine wpList_store_mid rfl 40 (.tmp 4) (.tmp 98) rfl (w.heap.size+1) 0 #[.int .i64 0,.int .i64 0,.string ⟨#[]⟩,.slice none 0 0,.slice none 0 0,.bool false] rfl rfl HH1.out.b1.there (by kernel_rfl) (by first | kernel_rfl | simp [Value.oneCell']) ?_;have HBR:=aW (HH1.out.b1.set6C (.int .i64 0) (.int .i64 0) (.string ⟨#[]⟩) (.slice none 0 0) (.slice none 0 0) (.bool false));have HPT:=aW (show IsP op F w (.returned (.agg #[.int .i64 0,.int .i64 0,.string ⟨#[]⟩,.slice none 0 0,.slice none 0 0,.bool false])) (WA.setCells (w.heap.size+1) 0 [.int .i64 0,.int .i64 0,.string ⟨#[]⟩,.slice none 0 0,.slice none 0 0,.bool false]) from IsP.nilC HX.out HH1.out.1);obtain ⟨WG,hWG⟩:∃ W',WA.setCells (w.heap.size+1) 0 [.int .i64 0,.int .i64 0,.string ⟨#[]⟩,.slice none 0 0,.slice none 0 0,.bool false]=W':=⟨_,rfl⟩
  rw [hWG] at HBR HPT
  try simp only []
  rw [hWG];clear hWG;obtain ⟨cR,fR,lR⟩:=HBR.out.rules;go_wp2_with ((with_reducible refine bodyPost_ret (v:=.agg #[.int .i64 0,.int .i64 0,.string ⟨#[]⟩,.slice none 0 0,.slice none 0 0,.bool false]) ?_ rfl ?_);(simp only [results,Tryz.results17];go_simp);exact HPT.out)
 | true =>
 have HOA:=aW (show oa=some va from HQA.out.2.1);have HGA:=aW (HQA.out.2.2.1 rfl);have HCA:=aW HQA.out.1;clear HQA;go_wp2_with fail;refine (rBoolV _ _ _ _ _ _ _ _ _ _ _).mono ?_;rintro e w2 ⟨rfl,hb2⟩;have HH2:=aW (HH1.out.keep hb2);have HW2:=aW (HW1.out.trans (hb2.mono HW1.out.size));clear hb2 c0 f0 l0 c1 f1 l1 c2 f2 l2;obtain ⟨c0,f0,l0⟩:=HH2.out.b2.rules;obtain ⟨c1,f1,l1⟩:=HH2.out.b1.rules;obtain ⟨c2,f2,l2⟩:=HH2.out.b0.rules;have HGT:=aW (fun (W:World) (h:Below w1.heap.size w1 W)=>rGetV (F:=fun b=>F b∨w.heap.size+2≤b) s W (HVA.out W h) HCA.out HGA.out);have HO:=aW (show op=getJ va s by rw [← HOP.out,HOA.out];rfl);go_upto_region 29 with fail;go_wp2_with fail;refine (HGT.out _ HW2.out).mono ?_;rintro e w3 ⟨cs6,vb,bb,rfl,hvb,hcb,hob,hgb,hb3⟩;obtain ⟨k6,n6,s6,A6,na6,ca6,B6,nb6,cb6,rfl⟩:=hvb.form;obtain ⟨WB,hWB⟩:∃ W,w3.alloc (.cells #[.int .i64 k6,.int .i64 n6,.string s6,.slice A6 na6 ca6,.slice B6 nb6 cb6] 25)=W:=⟨_,rfl⟩
 have HWB:=aW hWB;have HH3:=aW (show Held [(w3.heap.size,25,#[.int .i64 k6,.int .i64 n6,.string s6,.slice A6 na6 ca6,.slice B6 nb6 cb6]),(w1.heap.size,40,#[.int .i64 k5,.int .i64 n5,.string s5,.slice A5 na5 ca5,.slice B5 nb5 cb5,.bool true]),(w.heap.size+1,40,#[.int .i64 0,.int .i64 0,.string ⟨#[]⟩,.slice none 0 0,.slice none 0 0,.bool false]),(w.heap.size,28,#[.int .i64 3,.int .i64 k1,.int .i64 n1,.string s1,.slice A1 na1 ca1,.slice B1 nb1 cb1,.string ⟨s.toArray⟩,.slice (some ⟨b,o,none⟩) nr ca])] w WB by rw [← hWB];exact (HH2.out.keep hb3).push 25 #[.int .i64 k6,.int .i64 n6,.string s6,.slice A6 na6 ca6,.slice B6 nb6 cb6] (g:=w3.heap.size) rfl);have HW3:=aW (show Below w3.heap.size w3 WB by rw [← hWB];exact (Below.refl _ w3).alloc (Nat.le_refl _) _);have HVB:=aW (fun (W:World) (h:Below w3.heap.size w3 W)=>hvb.bel h);have HQB:=aW (And.intro hcb (And.intro hob hgb));have hn3:w3.heap.size≠w.heap.size+1:=by have:=hb3.size;have:=HH2.out.b0.lt;omega
 clear hWB hvb hcb hob hgb hb3 c0 f0 l0 c1 f1 l1 c2 f2 l2;go_upto_region 30 with fail;rw [HWB.out];clear HWB;obtain ⟨c0,f0,l0⟩:=HH3.out.b3.rules;obtain ⟨c3,f3,l3⟩:=HH3.out.b0.rules;cases bb with
 | false =>
  have HX:=aW (show op=none by rw [HO.out,HQB.out.2.1];rfl);go_upto_region 31 with fail
  try simp only []
  go_step;go_step;go_step;go_step;refine wpList_store_mid rfl 40 (.tmp 4) (.tmp 118) rfl (w.heap.size+1) 0 #[.int .i64 0,.int .i64 0,.string ⟨#[]⟩,.slice none 0 0,.slice none 0 0,.bool false] rfl rfl HH3.out.b2.there (by kernel_rfl) (by first | kernel_rfl | simp [Value.oneCell']) ?_;have HBR:=aW (HH3.out.b2.set6C (.int .i64 0) (.int .i64 0) (.string ⟨#[]⟩) (.slice none 0 0) (.slice none 0 0) (.bool false));have HPT:=aW (show IsP op F w (.returned (.agg #[.int .i64 0,.int .i64 0,.string ⟨#[]⟩,.slice none 0 0,.slice none 0 0,.bool false])) (WB.setCells (w.heap.size+1) 0 [.int .i64 0,.int .i64 0,.string ⟨#[]⟩,.slice none 0 0,.slice none 0 0,.bool false]) from IsP.nilC HX.out HH3.out.1);obtain ⟨WG,hWG⟩:∃ W',WB.setCells (w.heap.size+1) 0 [.int .i64 0,.int .i64 0,.string ⟨#[]⟩,.slice none 0 0,.slice none 0 0,.bool false]=W':=⟨_,rfl⟩
  rw [hWG] at HBR HPT
  try simp only []
  rw [hWG];clear hWG;obtain ⟨cR,fR,lR⟩:=HBR.out.rules;go_wp2_with ((with_reducible refine bodyPost_ret (v:=.agg #[.int .i64 0,.int .i64 0,.string ⟨#[]⟩,.slice none 0 0,.slice none 0 0,.bool false]) ?_ rfl ?_);(simp only [results,Tryz.results17];go_simp);exact HPT.out)
 | true =>
 have HX:=aW (show op=some vb by rw [HO.out,HQB.out.2.1];rfl);go_upto_region 32 with fail;go_wp2_with fail;refine (rSomeV _ _ _ _ _ _ _ _ _ _).mono ?_;rintro e w5 ⟨rfl,hb5⟩;have HH5:=aW (HH3.out.keep hb5);have HW5:=aW (HW3.out.trans (hb5.mono HW3.out.size));clear hb5 c0 f0 l0 c3 f3 l3
 try simp only []
 go_step;refine wpList_store_mid rfl 40 (.tmp 4) (.tmp 120) rfl (w.heap.size+1) 0 #[.int .i64 k6,.int .i64 n6,.string s6,.slice A6 na6 ca6,.slice B6 nb6 cb6,.bool true] rfl rfl HH5.out.b2.there (by kernel_rfl) (by first | kernel_rfl | simp [Value.oneCell']) ?_;have HBR:=aW (HH5.out.b2.set6C (.int .i64 k6) (.int .i64 n6) (.string s6) (.slice A6 na6 ca6) (.slice B6 nb6 cb6) (.bool true));have HPT:=aW (show IsP op F w (.returned (.agg #[.int .i64 k6,.int .i64 n6,.string s6,.slice A6 na6 ca6,.slice B6 nb6 cb6,.bool true])) (w5.setCells (w.heap.size+1) 0 [.int .i64 k6,.int .i64 n6,.string s6,.slice A6 na6 ca6,.slice B6 nb6 cb6,.bool true]) from IsP.put HX.out (by first | exact HQB.out.2.2 rfl | exact HQB.out.2.2 trivial) HQB.out.1 HFF.out (HVB.out _ HW5.out) HH5.out.1);obtain ⟨WG,hWG⟩:∃ W',w5.setCells (w.heap.size+1) 0 [.int .i64 k6,.int .i64 n6,.string s6,.slice A6 na6 ca6,.slice B6 nb6 cb6,.bool true]=W':=⟨_,rfl⟩
 rw [hWG] at HBR HPT
 try simp only []
 rw [hWG];clear hWG;obtain ⟨cR,fR,lR⟩:=HBR.out.rules;go_wp2_with ((with_reducible refine bodyPost_ret (v:=.agg #[.int .i64 k6,.int .i64 n6,.string s6,.slice A6 na6 ca6,.slice B6 nb6 cb6,.bool true]) ?_ rfl ?_);(simp only [results,Tryz.results17];go_simp);exact HPT.out)
set_option linter.unusedVariables false
set_option linter.unusedSimpArgs false
open Go.RowKit
attribute [local go_sem] run_index_arr run_part_agg run_part_one run_field_agg
theorem rEv1 {env:List (List UInt8 × JV)} {v:JV} {s:List UInt8} {ya yb:EJ} {cs:List Value} {EA:Option Addr} {n ec:Nat} {F:Nat→Prop} {w:World} (hF:∀ b,F b→b<w.heap.size) (hx:ER w F cs (.mk 1 v s [])) (hcx:camE (.mk 1 v s [])) (hgv:good v=true) (op:Option JV) (hop:combJ env 1 v s []=op) :
  Calls Tryz.prog 17 #[.agg cs.toArray,.slice EA n ec] w (IsP op F w):=by
 obtain ⟨k1,n1,s1,A1,na1,ca1,B1,nb1,cb1,A,ca,css0,rfl,hv,h1,h2,h3,h4⟩:=hx.out;have HFF:=aW hF;have HOP:=aW hop;have HVS:=aW hv;have HH0:=aW (((Held.nil w).push 28 #[.int .i64 1,.int .i64 k1,.int .i64 n1,.string s1,.slice A1 na1 ca1,.slice B1 nb1 cb1,.string ⟨s.toArray⟩,.slice A 0 ca] (g:=w.heap.size) rfl).push 40 #[.int .i64 0,.int .i64 0,.string ⟨#[]⟩,.slice none 0 0,.slice none 0 0,.bool false] (g:=w.heap.size+1) (by simp));obtain ⟨W0,hW0⟩:∃ W,(w.alloc (.cells #[.int .i64 1,.int .i64 k1,.int .i64 n1,.string s1,.slice A1 na1 ca1,.slice B1 nb1 cb1,.string ⟨s.toArray⟩,.slice A 0 ca] 28)).alloc (.cells #[.int .i64 0,.int .i64 0,.string ⟨#[]⟩,.slice none 0 0,.slice none 0 0,.bool false] 40)=W:=⟨_,rfl⟩
 have HHW:=aW (show Held [(w.heap.size+1,40,#[.int .i64 0,.int .i64 0,.string ⟨#[]⟩,.slice none 0 0,.slice none 0 0,.bool false]),(w.heap.size,28,#[.int .i64 1,.int .i64 k1,.int .i64 n1,.string s1,.slice A1 na1 ca1,.slice B1 nb1 cb1,.string ⟨s.toArray⟩,.slice A 0 ca])] w W0 by rw [← hW0];exact HH0.out);have HW0:=aW hW0;clear hW0 HH0;have HX:=aW (show op=some v by rw [← HOP.out];rfl);have HGV:=aW (And.intro hgv (by unfold camE at hcx;exact hcx.2.1:Came v));clear hF hx hcx hv h1 h2 h3 h4 hop hgv;go_enter Tryz.func17,Tryz.ntmps17;go_upto_region 1 with fail;rw [HW0.out];obtain ⟨c0,f0,l0⟩:=HHW.out.b1.rules;go_upto_region 3 with fail;go_wp2_with fail;refine (rSomeV _ _ _ _ _ _ _ _ _ _).mono ?_;rintro e w5 ⟨rfl,hb5⟩;have HH5:=aW (HHW.out.keep hb5);clear hb5 c0 f0 l0
 try simp only []
 go_step;refine wpList_store_mid rfl 40 (.tmp 4) (.tmp 29) rfl (w.heap.size+1) 0 #[.int .i64 k1,.int .i64 n1,.string s1,.slice A1 na1 ca1,.slice B1 nb1 cb1,.bool true] rfl rfl HH5.out.b0.there (by kernel_rfl) (by first | kernel_rfl | simp [Value.oneCell']) ?_;have HBR:=aW (HH5.out.b0.set6C (.int .i64 k1) (.int .i64 n1) (.string s1) (.slice A1 na1 ca1) (.slice B1 nb1 cb1) (.bool true));have HPT:=aW (show IsP op F w (.returned (.agg #[.int .i64 k1,.int .i64 n1,.string s1,.slice A1 na1 ca1,.slice B1 nb1 cb1,.bool true])) (w5.setCells (w.heap.size+1) 0 [.int .i64 k1,.int .i64 n1,.string s1,.slice A1 na1 ca1,.slice B1 nb1 cb1,.bool true]) from IsP.put HX.out HGV.out.1 HGV.out.2 HFF.out ((HVS.out.bel HH5.out.1).mono fun b _ h=>.inl h) HH5.out.1);obtain ⟨WG,hWG⟩:∃ W',w5.setCells (w.heap.size+1) 0 [.int .i64 k1,.int .i64 n1,.string s1,.slice A1 na1 ca1,.slice B1 nb1 cb1,.bool true]=W':=⟨_,rfl⟩
 rw [hWG] at HBR HPT
 try simp only []
 rw [hWG];clear hWG;obtain ⟨cR,fR,lR⟩:=HBR.out.rules;go_wp2_with ((with_reducible refine bodyPost_ret (v:=.agg #[.int .i64 k1,.int .i64 n1,.string s1,.slice A1 na1 ca1,.slice B1 nb1 cb1,.bool true]) ?_ rfl ?_);(simp only [results,Tryz.results17];go_simp);exact HPT.out)
set_option linter.unusedVariables false
set_option linter.unusedSimpArgs false
open Go.RowKit
attribute [local go_sem] run_index_arr run_part_agg run_part_one run_field_agg
def CelP (cs:Array Value) (w:World) (e:Ending) (w':World):Prop:=e=.returned (.agg cs)∧Below w.heap.size w w'
theorem lNamed (s:ByteArray) (w:World):Calls Tryz.prog 26 #[.string s] w (CelP #[.int .i64 2,.int .i64 0,.int .i64 0,.string ⟨#[]⟩,.slice none 0 0,.slice none 0 0,.string s,.slice none 0 0] w):=by
 go_enter Tryz.func26,Tryz.ntmps26;go_wp2;refine bodyPost_ret (v:=.agg #[.int .i64 2,.int .i64 0,.int .i64 0,.string ⟨#[]⟩,.slice none 0 0,.slice none 0 0,.string s,.slice none 0 0]) (by simp only [results,Tryz.results26];go_simp) rfl ?_;exact ⟨rfl,by go_grown⟩
theorem lIn25 (n:Int) (w:World):Calls Tryz.prog 31 #[.int .i64 n] w (CelP #[.int .i64 1,.int .i64 3,.int .i64 n,.string ⟨#[]⟩,.slice none 0 0,.slice none 0 0,.string ⟨#[]⟩,.slice none 0 0] w):=by
 go_enter Tryz.func31,Tryz.ntmps31;go_wp2;refine bodyPost_ret (v:=.agg #[.int .i64 1,.int .i64 3,.int .i64 n,.string ⟨#[]⟩,.slice none 0 0,.slice none 0 0,.string ⟨#[]⟩,.slice none 0 0]) (by simp only [results,Tryz.results31];go_simp) rfl ?_;exact ⟨rfl,by go_grown⟩
end Go.Proofs.YtgolomgmnanbpaaGreatDoor
