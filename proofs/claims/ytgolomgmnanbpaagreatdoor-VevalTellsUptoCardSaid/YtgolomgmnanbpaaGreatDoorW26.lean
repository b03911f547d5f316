import Derived.Test.YtgolomgmnanbpaaGreatDoorW25
import Derived.Test.YtgolomgmnanbpaaGreatDoorW01
import Derived.Test.YtgolomgmnanbpaaGreatDoorW19
import Derived.Test.YtgolomgmnanbpaaGreatDoorW18
import Derived.Test.YtgolomgmnanbpaaGreatDoorW16
import Derived.Test.YtgolomgmnanbpaaGreatDoorW23
set_option maxRecDepth 100000
set_option maxHeartbeats 16000000
namespace Go.Proofs.YtgolomgmnanbpaaGreatDoor
set_option linter.unusedVariables false
set_option linter.unusedSimpArgs false
open Go.RowKit
attribute [local go_sem] run_index_arr run_part_agg run_part_one run_field_agg
theorem ptsN_fuel:∀ (f g:Nat) (l:List UInt8),l.length≤f→l.length≤g→ptsN f l=ptsN g l
 | 0,0,l,_,_=>rfl
 | 0,g+1,l,h,_=>by
  obtain rfl:l=[]:=List.eq_nil_of_length_eq_zero (by omega);rfl
 | f+1,0,l,_,h=>by
  obtain rfl:l=[]:=List.eq_nil_of_length_eq_zero (by omega);rfl
 | f+1,g+1,l,h1,h2=>by
  cases l with
  | nil=>rfl
  | cons c r =>
   rw [ptsN,ptsN,ptsN_fuel f g]
   ·rw [List.length_drop];simp at h1 ⊢;omega
   ·rw [List.length_drop];simp at h2 ⊢;omega
theorem ptsJ_step {l:List UInt8} (hne:l≠[]) (hm:(cpBegin l).2≠0):ptsJ l=ptsJ (l.drop (cpBegin l).2)+1:=by
 cases l with
 | nil=>exact absurd rfl hne
 | cons c r =>
  unfold ptsJ;have e:max 1 (cpBegin (c::r)).2=(cpBegin (c::r)).2:=Nat.max_eq_right (by omega);rw [List.length_cons,ptsN,e];congr 1;refine ptsN_fuel _ _ _ ?_ (Nat.le_refl _);rw [List.length_drop,List.length_cons];omega
theorem ptsJ_le (l:List UInt8):ptsJ l≤l.length:=by
 have:∀ (f:Nat) (l:List UInt8),ptsN f l≤l.length:=by
  intro f
  induction f with
  | zero=>intro l;cases l<;>simp [ptsN]
  | succ f ih =>
   intro l;cases l with
   | nil=>simp [ptsN]
   | cons c r =>
    have h:=ih ((c::r).drop (max 1 (cpBegin (c::r)).2));rw [List.length_drop] at h;rw [ptsN];simp only [List.length_cons] at h ⊢;omega
 exact this _ l
theorem infoIntP:(Tryz.prog.info? 3).map (fun i=>(i.zero,i.size,i.bytes))=some (some (.int .i64 0),1,8):=by kernel_rfl
def PtsP (base n:Nat) (xs:List Value) (p:Int) (row:Value) (w:World) (e:Ending) (w':World):Prop:=∃ row':Value,e=.returned row'∧w'.ownsRow base 3 1 row' (n+1) (xs++[.int .i64 p])∧∀ B,(∀ k,row.ownBlock=some k→B≤k)→B≤w.heap.size→Below B w w'
theorem uPt1 (row:Value) (base n:Nat) (xs:List Value) (p:Int) (w:World) (hown:w.ownsRow base 3 1 row n xs) (hb:base≤w.heap.size) (hn:n≤4194304) :
  Calls Tryz.prog 170 #[row,.int .i64 p] w (PtsP base n xs p row w):=by
 obtain ⟨i0,hi,hz0,hz1,hz2⟩:=info_parts infoIntP;have HI:=aW hi;have HO:=aW (hown.alloc (.cells #[.int .i64 p] 3));have HR:=aW (Rd.of_blk (Blk.new w 3 #[.int .i64 p]));have HRW:=aW (And.intro (show row=row from rfl) hb);have HFIN:=aW (fun (v':Value) (w6:World) (h1:w6.ownsRow base 3 1 v' (n+1) (xs++[.int .i64 p])) (h2:(w.alloc (.cells #[.int .i64 p] 3)).grownBy w6 row.ownBlock)=>show PtsP base n xs p row w (.returned v') w6 from
  ⟨v',rfl,h1,fun B hB hBw=>((Below.refl B w).alloc hBw _).grown h2 (by simp;omega) hB⟩)
 clear hi hown;go_enter Tryz.func170,Tryz.ntmps170;go_wp2_with (at_builtin;refine wpList_append_rd _ rfl _ _ 96 rfl base 3 i0 _ 1 8 Tryz.underlying96 HI.out hz0 hz1 hz2 rfl (by decide) row n xs rfl HO.out (some ⟨w.heap.size,0,none⟩) 1 1 (fun h=>by cases h) [.int .i64 p] rfl rfl HR.out (by intro u hu;obtain rfl:=List.mem_singleton.1 hu;rfl) (by unfold maxLen;omega) (by omega) (by simp;omega) ?_;intro row2 w6 hown6 hgr6 hob6);have HX:=aW (HFIN.out _ _ hown6 hgr6);clear hown6 hgr6 hob6;go_ret;exact HX.out
def TruL (s:List UInt8) (w:World) (e:Ending) (w':World):Prop:=(∃ (A:Option Addr) (cap:Nat),e=.returned (.tuple #[.slice A (ptsJ s) cap,.int .i64 0,.int .i64 0]))∧Below w.heap.size w w'
theorem uThroughL (s:List UInt8) (w:World) (hG:GOK w) (hl:s.length≤4194304) (hok:txtOk s=true) :
  Calls Tryz.prog 169 #[.string ⟨s.toArray⟩,.slice none 0 0,.func (.func 170) #[] #[]] w (TruL s w):=by
 obtain ⟨ba,hba⟩:∃ ba:ByteArray,(⟨s.toArray⟩:ByteArray)=ba:=⟨_,rfl⟩
 have hsl:sl ba=s:=by rw [← hba,sl_mk]
 rw [hba];obtain ⟨cap,W1,hcv,hcap,hb1,hs1,hr1⟩:=conv_bytes (P:=Tryz.prog) w 9 76 5 ba Tryz.underlying9 Tryz.underlying76 Tryz.underlying5;rw [hsl] at hr1;have hsz:ba.size=s.length:=by rw [← hsl,sl_len]
 rw [hsz] at hcv hcap;have HR:=aW hr1;have HB1:=aW hb1;have hlt1:w.heap.size<W1.heap.size:=by omega
 clear hr1 hb1 hsl hba hsz hs1;have HGK:=aW hG;clear hG;obtain ⟨tt,htt⟩:∃ tt,ptsJ s=tt:=⟨_,rfl⟩
 have HTT:=aW htt;have HFIN:=aW (fun (A:Option Addr) (c:Nat) (w':World) (h:Below w.heap.size w w')=>show TruL s w (.returned (.tuple #[.slice A tt c,.int .i64 0,.int .i64 0])) w' from ⟨⟨A,c,by rw [htt]⟩,h⟩);have HOK:=aW hok;clear htt hok;go_enter Tryz.func169,Tryz.ntmps169;go_wp2;go_loopg [1,10] s.length (fun gk s1 s10 wr => ∃ (p n:Nat) (row:Value) (xs:List Value),row=s1∧p≤s.length∧n≤p∧gk=s.length-p∧s10=.int .i64 p∧Hid (txtOk (s.drop p)=true∧n+ptsJ (s.drop p)=tt)∧Hid (wr.ownsRow W1.heap.size 3 1 row n xs)∧Hid (Below W1.heap.size W1 wr))
 case atStart=>exact ⟨0,0,_,[],rfl,Nat.zero_le _,Nat.le_refl _,by go_num,by go_num,aW ⟨by rw [List.drop_zero];exact HOK.out,by rw [List.drop_zero,HTT.out];omega⟩,aW (World.ownsRow_nil _ _ _ _),aW (Below.refl _ _)⟩
 case round =>
  obtain ⟨p,n,row,xs,rfl,hp,hnp,hgk,rfl,HQ,HO,HW⟩:=hrel;have HG:=aW hgk;clear hgk;by_cases hlt:p<s.length
  ·obtain ⟨c,m,hcm⟩:∃ c m,cpBegin (s.drop p)=(c,m):=⟨_,_,rfl⟩
   have hne:s.drop p≠[]:=by intro e;have h:=congrArg List.length e;rw [List.length_drop] at h;simp at h;omega
   have hle:=cpBegin_le4 (s.drop p);have hst:=txtOk_step hne;have hps:=fun h=>ptsJ_step hne h
   rw [hcm] at hle hst hps;rw [List.length_drop] at hle;have hpn:p+m≤s.length:=by have:=hle.1;simp only at this;omega
   have hm4:m≤4:=hle.2;rw [List.drop_drop] at hst hps;have hm0:m≠0:=fun e=>by
    have h:=HQ.out.1;rw [hst,if_pos e] at h;cases h
   have hW:=HB1.out.trans (HW.out.mono HB1.out.size);have hcell:∀ i x,(s.drop p)[i]? = some x→wr.cell? ⟨w.heap.size,p+i,none⟩=some (.int .u8 x.toNat):=fun i x hx=>by
    rw [List.getElem?_drop] at hx;have h:=BS.at_ (n:=0) (cap:=0) (HR.out.below HW.out) hx;rwa [Nat.zero_add] at h
   have hNX:=next_any w.heap.size p (cap-p) (s.drop p) wr hne (HGK.out.keep hW) (by have:=HW.out.size;omega) hcell (by rw [List.length_drop];omega) (by rw [List.length_drop];omega);rw [hcm,List.length_drop] at hNX;have HNX:=aW hNX;have hcapp:¬ cap=p:=by omega
   have HQ2:=aW (show txtOk (s.drop (p+m))=true∧n+1+ptsJ (s.drop (p+m))=tt by
    obtain ⟨q1,q2⟩:=HQ.out;refine ⟨by rw [hst,if_neg hm0] at q1;exact q1,?_⟩;rw [hps hm0] at q2;simp only at q2;omega)
   have hm1:((m:Int) == 0)=false:=by simp;omega
   clear hNX hcell hW hcm hne hle hst hps;go_wp2_with fail;refine HNX.out.mono ?_;rintro e w1 ⟨rfl,hb2⟩;have HO2:=aW (ownBel HO.out hb2);have HW2:=aW (HW.out.trans (hb2.mono HW.out.size));have HLT:=aW (fun (k:Nat) (h:row.ownBlock=some k)=>(HO.out.lt k h).1);clear hb2;go_wp2_with fail;refine (uPt1 row W1.heap.size n xs c w1 HO2.out HW2.out.size (by omega)).mono ?_;rintro e w2 ⟨row2,rfl,hown,hbel⟩;have HO3:=aW hown;have HW3:=aW (HW2.out.trans (hbel W1.heap.size HLT.out HW2.out.size));clear hown hbel;go_wp2;go_roundg (s.length-(p+m))
   case measure=>rw [HG.out];omega
   case rel=>exact ⟨p+m,n+1,row2,_,rfl,hpn,by omega,rfl,by go_num,HQ2,HO3,HW3⟩
  ·obtain rfl:p=s.length:=by omega
   have hn:n=tt:=by
    have h:=HQ.out.2;rw [List.drop_length] at h;have:ptsJ []=0:=rfl;omega
   subst hn;obtain ⟨RA,rc,rfl,_⟩:=own_parts HO.out;go_wp2;go_ret3;exact HFIN.out _ _ _ (HB1.out.trans (HW.out.mono HB1.out.size))
theorem uPoints (s:List UInt8) (w:World) (hG:GOK w) (hl:s.length≤4194304) (hok:txtOk s=true):Calls Tryz.prog 125 #[.string ⟨s.toArray⟩] w (TruL s w):=by
 have HT:=aW (uThroughL s w hG hl hok);clear hl hG hok;obtain ⟨er,her⟩:∃ er,ptsJ s=er:=⟨_,rfl⟩
 unfold TruL at HT ⊢;rw [her] at HT ⊢;clear her;go_enter Tryz.func125,Tryz.ntmps125;go_wp2_with fail;refine HT.out.mono ?_;rintro e w1 ⟨⟨A,c,rfl⟩,hb⟩;have HB:=aW hb;clear hb;go_wp2;go_ret3;exact ⟨⟨_,_,rfl⟩,HB.out⟩
set_option linter.unusedVariables false
set_option linter.unusedSimpArgs false
open Go.RowKit
attribute [local go_sem] run_index_arr run_part_agg run_part_one run_field_agg
theorem rZeroG (v:JV) (cs:List Value) (F:Nat→Prop) (w:World) (hv:VR w F cs v):Calls Tryz.prog 16 #[.agg cs.toArray] w (BoolS (zeroJ v) w):=by
 obtain ⟨k,n,s,kids,keys⟩:=v;obtain ⟨A,B,a,b,css,rfl,_⟩:=hv.out;obtain ⟨nk,hnk⟩:∃ q,kids.length=q:=⟨_,rfl⟩
 obtain ⟨ny,hny⟩:∃ q,keys.length=q:=⟨_,rfl⟩
 obtain ⟨g,hg⟩:∃ g,zeroJ (.mk k n s kids keys)=g:=⟨_,rfl⟩
 have hz:g=decide (k=0∧n=0∧s=[]∧nk+ny=0):=by rw [← hg,zeroJ,hnk,hny]
 obtain ⟨sv,hsv⟩:∃ b:ByteArray,(⟨s.toArray⟩:ByteArray)=b:=⟨_,rfl⟩
 have hse:sv.toList=s:=by rw [← hsv,ByteArray.toList_eq]
 rw [hg,hnk,hny,hsv];clear hv hnk hny hsv hg;by_cases h1:k=0;rotate_left
 ·have e1:(k == 0)=false:=by simp [h1]
  obtain rfl:g=false:=by rw [hz];exact decide_eq_false fun h=>h1 h.1
  have HH0:=aW ((Held.nil w).push 25 #[.int .i64 k,.int .i64 n,.string sv,.slice A nk a,.slice B ny b] (g:=w.heap.size) rfl);obtain ⟨c0,f0,l0⟩:=HH0.out.b0.rules;clear h1 hse hz;go_enter Tryz.func16,Tryz.ntmps16;go_wp2;go_ret;exact ⟨rfl,HH0.out.1⟩
 subst h1;by_cases h2:n=0;rotate_left
 ·have e1:(n == 0)=false:=by simp [h2]
  obtain rfl:g=false:=by rw [hz];exact decide_eq_false fun h=>h2 h.2.1
  have HH0:=aW ((Held.nil w).push 25 #[.int .i64 0,.int .i64 n,.string sv,.slice A nk a,.slice B ny b] (g:=w.heap.size) rfl);obtain ⟨c0,f0,l0⟩:=HH0.out.b0.rules;clear h2 hse hz;go_enter Tryz.func16,Tryz.ntmps16;go_wp2;go_ret;exact ⟨rfl,HH0.out.1⟩
 subst h2;by_cases h3:s=[];rotate_left
 ·have hsn:¬ sv.toList=[]:=by rw [hse];exact h3
  obtain rfl:g=false:=by rw [hz];exact decide_eq_false fun h=>h3 h.2.2.1
  have HH0:=aW ((Held.nil w).push 25 #[.int .i64 0,.int .i64 0,.string sv,.slice A nk a,.slice B ny b] (g:=w.heap.size) rfl);obtain ⟨c0,f0,l0⟩:=HH0.out.b0.rules;clear h3 hz hse;go_enter Tryz.func16,Tryz.ntmps16;go_wp2;go_ret;exact ⟨rfl,HH0.out.1⟩
 have hsy:sv.toList=[]:=by rw [hse];exact h3
 clear hse;by_cases h4:nk=0;rotate_left
 ·have e1:((nk:Int) == 0)=false:=by simp;omega
  obtain rfl:g=false:=by rw [hz];exact decide_eq_false fun h=>by omega
  have HH0:=aW ((Held.nil w).push 25 #[.int .i64 0,.int .i64 0,.string sv,.slice A nk a,.slice B ny b] (g:=w.heap.size) rfl);obtain ⟨c0,f0,l0⟩:=HH0.out.b0.rules;clear h3 hz;go_enter Tryz.func16,Tryz.ntmps16;go_wp2;go_ret;exact ⟨rfl,HH0.out.1⟩
 subst h4;by_cases h5:ny=0;rotate_left
 ·have e1:((ny:Int) == 0)=false:=by simp;omega
  obtain rfl:g=false:=by rw [hz];exact decide_eq_false fun h=>by omega
  have HH0:=aW ((Held.nil w).push 25 #[.int .i64 0,.int .i64 0,.string sv,.slice A 0 a,.slice B ny b] (g:=w.heap.size) rfl);obtain ⟨c0,f0,l0⟩:=HH0.out.b0.rules;clear h3 hz;go_enter Tryz.func16,Tryz.ntmps16;go_wp2;go_ret;exact ⟨rfl,HH0.out.1⟩
 subst h5;obtain rfl:g=true:=by rw [hz];exact decide_eq_true ⟨rfl,rfl,h3,rfl⟩
 have HH0:=aW ((Held.nil w).push 25 #[.int .i64 0,.int .i64 0,.string sv,.slice A 0 a,.slice B 0 b] (g:=w.heap.size) rfl);obtain ⟨c0,f0,l0⟩:=HH0.out.b0.rules;clear h3 hz;go_enter Tryz.func16,Tryz.ntmps16;go_wp2;go_ret;exact ⟨rfl,HH0.out.1⟩
theorem rKids (k:Int) (q:Int) (hq:kidsN k=q) (w:World):Calls Tryz.prog 42 #[.int .i64 k] w fun e w'=>e=.returned (.int .i64 q)∧w=w':=by
 have HQ:=aW hq;clear hq;have hk:k=1∨k=2∨k=3∨k=5∨k=6∨k=7∨k=4∨((k == 1)=false∧(k == 2)=false∧(k == 3)=false∧(k == 5)=false∧(k == 6)=false∧(k == 7)=false∧(k == 4)=false):=by
  simp only [beq_eq_false_iff_ne];omega
 rcases hk with rfl | rfl | rfl | rfl | rfl | rfl | rfl | ⟨h1,h2,h3,h5,h6,h7,h4⟩
 rotate_right
 ·obtain rfl:q=2:=by
   have g1:=beq_eq_false_iff_ne.1 h1;have g2:=beq_eq_false_iff_ne.1 h2;have g3:=beq_eq_false_iff_ne.1 h3;have g4:=beq_eq_false_iff_ne.1 h4;have g5:=beq_eq_false_iff_ne.1 h5;have g6:=beq_eq_false_iff_ne.1 h6;have g7:=beq_eq_false_iff_ne.1 h7;rw [← HQ.out];unfold kidsN;rw [if_neg (by omega),if_neg (by omega),if_neg (by omega)]
  clear HQ;go_enter Tryz.func42,Tryz.ntmps42;go_wp2;go_ret;exact ⟨rfl,rfl⟩
 all_goals
  obtain rfl:=HQ.out.symm.trans (by rfl:kidsN _=_);clear HQ;go_enter Tryz.func42,Tryz.ntmps42;go_wp2;go_ret;exact ⟨rfl,rfl⟩
theorem good_kinds {v:JV} (h:good v=true):1≤v.kind∧v.kind≤6:=by
 obtain ⟨k,n,s,kids,keys⟩:=v;have h1:=(goodJ_out (good_J h).1).1;show 1≤k∧k≤6
 unfold goodA at h1;split at h1
 ·omega
 split at h1
 ·omega
 split at h1
 ·omega
 split at h1
 ·omega
 split at h1
 ·omega
 split at h1
 ·omega
 cases h1
theorem rLit (v:JV) (cs:List Value) (F:Nat→Prop) (w:World) (hv:VR w F cs v) (hc:Came v):Calls Tryz.prog 43 #[.agg cs.toArray] w (BoolS (litOk v) w):=by
 have HRI:=aW (fun (W:World) (h:Below w.heap.size w W)=>rRightG v cs F W (hv.bel h) hc);have HK:=aW (fun (h:good v=true)=>good_kinds h);have HLT:=aW (show litOk v=(good v && (decide (v.kind=3∧0≤v.num) || decide (v.kind=1∨v.kind=2∨v.kind=4))) from rfl);obtain ⟨g,hg⟩:∃ g,litOk v=g:=⟨_,rfl⟩
 obtain ⟨k,n,s,kids,keys⟩:=v;obtain ⟨A,B,a,b,css,rfl,_⟩:=hv.out;have HH0:=aW ((Held.nil w).push 25 #[.int .i64 k,.int .i64 n,.string ⟨s.toArray⟩,.slice A kids.length a,.slice B keys.length b] (g:=w.heap.size) rfl);rw [hg] at HLT ⊢;clear hv hc hg;obtain ⟨c0,f0,l0⟩:=HH0.out.b0.rules;obtain ⟨gd,hgd⟩:∃ q,good (.mk k n s kids keys)=q:=⟨_,rfl⟩
 rw [hgd] at HRI HLT HK;clear hgd;cases gd with
 | false =>
  obtain rfl:g=false:=HLT.out;clear HLT HK;go_enter Tryz.func43,Tryz.ntmps43;go_wp2_with fail;refine (HRI.out _ HH0.out.1).mono ?_;rintro e w1 ⟨rfl,hb1⟩;have HH1:=aW (HH0.out.keep hb1);clear hb1 c0 f0 l0;go_wp2;go_ret;exact ⟨rfl,HH1.out.1⟩
 | true =>
  have hk:1≤k∧k≤6:=HK.out rfl;have hgv:g=(decide (k=3∧0≤n) || decide (k=1∨k=2∨k=4)):=HLT.out;clear HLT HK;by_cases h4:4<k
  ·have e4:¬ k≤4:=by omega
   have e5:decide (k≤4)=false:=decide_eq_false e4;obtain rfl:g=false:=by rw [hgv,decide_eq_false (by omega),decide_eq_false (by omega)];rfl
   clear hgv;go_enter Tryz.func43,Tryz.ntmps43;go_wp2_with fail;refine (HRI.out _ HH0.out.1).mono ?_;rintro e w1 ⟨rfl,hb1⟩;have HH1:=aW (HH0.out.keep hb1);clear hb1 c0 f0 l0;obtain ⟨c0,f0,l0⟩:=HH1.out.b0.rules;go_wp2;go_ret;exact ⟨rfl,HH1.out.1⟩
  have e4:k≤4:=by omega
  have e5:decide (k≤4)=true:=decide_eq_true e4;by_cases h3:k=3;rotate_left
  ·have e3:(k != 3)=true:=by simp [h3]
   obtain rfl:g=true:=by rw [hgv,decide_eq_true (p:=k=1∨k=2∨k=4) (by omega),Bool.or_true]
   clear hgv;go_enter Tryz.func43,Tryz.ntmps43;go_wp2_with fail;refine (HRI.out _ HH0.out.1).mono ?_;rintro e w1 ⟨rfl,hb1⟩;have HH1:=aW (HH0.out.keep hb1);clear hb1 c0 f0 l0;obtain ⟨c0,f0,l0⟩:=HH1.out.b0.rules;go_wp2;go_ret;exact ⟨rfl,HH1.out.1⟩
  subst h3;have HGV:=aW (show g=decide (0≤n) by rw [hgv];simp);by_cases h0:0≤n
  ·obtain rfl:g=true:=by rw [HGV.out];exact decide_eq_true h0
   have e0:decide (0≤n)=true:=decide_eq_true h0;clear hgv HGV;go_enter Tryz.func43,Tryz.ntmps43;go_wp2_with fail;refine (HRI.out _ HH0.out.1).mono ?_;rintro e w1 ⟨rfl,hb1⟩;have HH1:=aW (HH0.out.keep hb1);clear hb1 c0 f0 l0;obtain ⟨c0,f0,l0⟩:=HH1.out.b0.rules;go_wp2;go_ret;exact ⟨rfl,HH1.out.1⟩
  ·obtain rfl:g=false:=by rw [HGV.out];exact decide_eq_false h0
   have e0:decide (0≤n)=false:=decide_eq_false h0;clear hgv HGV;go_enter Tryz.func43,Tryz.ntmps43;go_wp2_with fail;refine (HRI.out _ HH0.out.1).mono ?_;rintro e w1 ⟨rfl,hb1⟩;have HH1:=aW (HH0.out.keep hb1);clear hb1 c0 f0 l0;obtain ⟨c0,f0,l0⟩:=HH1.out.b0.rules;go_wp2;go_ret;exact ⟨rfl,HH1.out.1⟩
end Go.Proofs.YtgolomgmnanbpaaGreatDoor
