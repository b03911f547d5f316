import Derived.Test.YtgolomgmnanbpaaGreatDoorW17
import Derived.Test.YtgolomgmnanbpaaGreatDoorW16
import Derived.Deep.WholeRow
import Derived.Test.YtgolomgmnanbpaaGreatDoorW01
import Derived.Test.YtgolomgmnanbpaaGreatDoorW02
import Derived.Test.YtgolomgmnanbpaaGreatDoorW12
import Derived.Test.YtgolomgmnanbpaaGreatDoorW05
import Derived.Test.YtgolomgmnanbpaaGreatDoorW08
import Derived.Test.YtgolomgmnanbpaaGreatDoorW14
set_option maxRecDepth 100000
set_option maxHeartbeats 16000000
namespace Go.Proofs.YtgolomgmnanbpaaGreatDoor
set_option linter.unusedVariables false
set_option linter.unusedSimpArgs false
open Go.RowKit
theorem good_J {v:JV} (h:good v=true):goodJ 8 v=true∧nodesJ v≤256:=by
 unfold good at h;simp only [Bool.and_eq_true,decide_eq_true_eq] at h;exact h
theorem vChk_is {v:JV} {n:Int} (h:chkJ v=n) {cs:List Value} {F:Nat→Prop} {w:World} (hG:GOK w) (hv:VR w F cs v) (hc:Came v):Calls Tryz.prog 29 #[.agg cs.toArray] w fun e w'=>e=.returned (.int .i64 n)∧Below w.heap.size w w':=by
 have h9:=vCheckG v cs F w hG hv hc;rw [h] at h9;exact h9
set_option linter.unusedVariables false
set_option linter.unusedSimpArgs false
open Go.RowKit
attribute [local go_sem] run_index_arr run_part_agg run_part_one run_field_agg
structure GOE (w:World):Prop where
 gok:GOK w
 lt:0<w.heap.size
 c0:w.cell? ⟨0,0,none⟩=some (.string ⟨#[]⟩)
 c1:w.cell? ⟨0,1,none⟩=some (.int .i64 0)
 c2:w.cell? ⟨0,2,none⟩=some (.int .i64 0)
theorem GOE.keep {w w':World} (h:GOE w) (hb:Below w.heap.size w w'):GOE w' :=
 ⟨h.gok.keep hb,Nat.lt_of_lt_of_le h.lt hb.size,(hb.cell (p:=⟨0,0,none⟩) h.lt).trans h.c0,(hb.cell (p:=⟨0,1,none⟩) h.lt).trans h.c1,(hb.cell (p:=⟨0,2,none⟩) h.lt).trans h.c2⟩
def opsL:List (List UInt8 × Int × Int):=[([111,114],15,1),([97,110,100],14,2),([61,61],11,4),([60],12,4),([60,61],13,4),([43],9,5),([45],10,5),([42],8,6),([110,111,116],5,3),([115,105,122,101],6,7),([107,105,110,100],7,7)]
def opCells (o:List UInt8 × Int × Int):List Value:=[.string ⟨o.1.toArray⟩,.int .i64 o.2.1,.int .i64 o.2.2]
def opsV:Value:=.agg #[.string ⟨#[111,114]⟩,.int .i64 15,.int .i64 1,.string ⟨#[97,110,100]⟩,.int .i64 14,.int .i64 2,.string ⟨#[61,61]⟩,.int .i64 11,.int .i64 4,.string ⟨#[60]⟩,.int .i64 12,.int .i64 4,.string ⟨#[60,61]⟩,.int .i64 13,.int .i64 4,.string ⟨#[43]⟩,.int .i64 9,.int .i64 5,.string ⟨#[45]⟩,.int .i64 10,.int .i64 5,.string ⟨#[42]⟩,.int .i64 8,.int .i64 6,.string ⟨#[110,111,116]⟩,.int .i64 5,.int .i64 3,.string ⟨#[115,105,122,101]⟩,.int .i64 6,.int .i64 7,.string ⟨#[107,105,110,100]⟩,.int .i64 7,.int .i64 7]
def noOp:List UInt8 × Int × Int:=([],0,0)
def ofJ (k:Int):List UInt8 × Int × Int:=(opsL.find? fun o=>decide (o.2.1=k)).getD noOp
theorem wp_store_new {P:Program} {op:Oper} {a:Act} {w:World} {K:Act→World→Prop} {Q:Exit→Act→World→Prop} (ty:TypeId) (x y:Operand) (ho:op.op=.store ty x y)
  (old cells:Array Value) (hx:a.eval x=.pointer (some ⟨w.heap.size,0,none⟩)) (hy:a.eval y=.agg cells)
  (hi:(P.info? ty).map (·.size)=some cells.size) (hs:old.size=cells.size) (h1:cells.all (·.oneCell')=true)
  (h:K (a.put op.dst undef) (w.alloc (.cells cells ty))):op.wp P a (w.alloc (.cells old ty)) K Q:=by
 unfold Oper.wp execOp;simp only [ho,hx,hy,Instr.storeAt,Instr.sureAddr,Sem.run_bind,Sem.run_pure,Result.andThen_ok,run_storeVar_new w ty old cells hi hs h1];exact h
theorem results_cell1 {P:Program} {fn:Func} {tmps:Array Value} {a:Nat} {t:TypeId} {ad:Addr} {v:Value} {w:World} (hf:fn.results=#[ResultVar.cell a t]) (hx:tmps.getD a undef=.pointer (some ad)) (hl:(loadVar t ad).run P w=.ok v w):(results fn tmps).run P w=.ok v w:=by
 unfold results;rw [hf];have hx':tmps[a]?.getD undef=.pointer (some ad):=by simpa using hx
 simp [hx',asAddr,hl,Sem.run_bind,Result.andThen]
theorem eOperators (w:World):Calls Tryz.prog 185 #[] w fun e w'=>e=.returned opsV∧Below w.heap.size w w':=by
 go_enter Tryz.func185,Tryz.ntmps185;go_step;go_step;go_step;go_step;go_step;go_step;go_step;go_step;go_step;go_step;go_step;go_step;go_step;go_step;go_step;go_step;go_step;go_step;go_step;go_step;go_step;go_step;go_step;go_step;go_step;go_step;go_step;go_step;go_step;go_step;go_step;go_step;go_step;go_step;go_step;go_step;go_step;go_step;go_step;go_step;go_step;go_step;go_step;go_step;go_step;go_step;go_step;go_step;refine wp_store_new 208 (.tmp 0) (.tmp 12) rfl _ _ rfl rfl (by kernel_rfl) (by kernel_rfl) (by kernel_rfl) ?_;go_wp2;refine bodyPost_ret (v:=opsV) (results_cell1 Tryz.results185 rfl (run_loadVar_new w 208 _ 11 183 Tryz.underlying208 (by kernel_rfl))) rfl ?_;exact ⟨rfl,(Below.refl _ w).alloc (Nat.le_refl _) _⟩
theorem ops_at (k:Nat) (h:k<11) (w:World):(Instr.index 208 opsV (.int .i64 (k:Int))).run Tryz.prog w=.ok (.agg (opCells (opsL.getD k noOp)).toArray) w:=by
 rcases (by omega:k=0∨k=1∨k=2∨k=3∨k=4∨k=5∨k=6∨k=7∨k=8∨k=9∨k=10) with rfl | rfl | rfl | rfl | rfl | rfl | rfl | rfl | rfl | rfl | rfl<;>kernel_rfl
theorem find_at {k:Int}:∀ {l:List (List UInt8 × Int × Int)} {i:Nat},i<l.length→(∀ j,j<i→(l.getD j noOp).2.1≠k)→(l.getD i noOp).2.1=k→(l.find? fun o=>decide (o.2.1=k)).getD noOp=l.getD i noOp
 | x::r,0,h,_,e=>by
  have e:x.2.1=k:=by simpa using e
  simp [e]
 | x::r,i+1,h,hj,e=>by
  have hx:x.2.1≠k:=by simpa using hj 0 (by omega)
  rw [List.find?_cons,decide_eq_false hx];simp only [List.getD_cons_succ];exact find_at (by simpa using h) (fun j hj'=>by simpa using hj (j+1) (by omega)) (by simpa using e)
theorem find_no {k:Int}:∀ {l:List (List UInt8 × Int × Int)},(∀ j,j<l.length→(l.getD j noOp).2.1≠k)→(l.find? fun o=>decide (o.2.1=k)).getD noOp=noOp
 | [],_=>rfl
 | x::r,hj=>by
  have hx:x.2.1≠k:=by simpa using hj 0 (by simp)
  rw [List.find?_cons,decide_eq_false hx];exact find_no fun j h=>by simpa using hj (j+1) (by simpa using h)
theorem three_bel {B:Nat} {w W:World} (h:Below B w W) {g:Nat} (hg:B≤g) (a b c:Value):Below B w (((W.setCell ⟨g,0,none⟩ a).setCell ⟨g,1,none⟩ b).setCell ⟨g,2,none⟩ c) :=
 ((h.setCell (p:=⟨g,0,none⟩) hg a).setCell (p:=⟨g,1,none⟩) hg b).setCell (p:=⟨g,2,none⟩) hg c
def OfP (k:Int) (w:World) (e:Ending) (w':World):Prop:=e=.returned (.agg (opCells (ofJ k)).toArray)∧Below w.heap.size w w'
theorem eOf (q:Int) (w:World) (hG:GOE w):Calls Tryz.prog 157 #[.int .i64 q] w (OfP q w):=by
 have HG:=aW hG;have HH0:=aW ((Held.nil w).push 183 #[.string ⟨#[]⟩,.int .i64 0,.int .i64 0] (g:=w.heap.size) rfl);clear hG;go_enter Tryz.func157,Tryz.ntmps157;go_wp2_with fail;refine (eOperators _).mono ?_;rintro e w1 ⟨rfl,hb1⟩;have HH1:=aW (HH0.out.keep hb1);clear hb1 HH0;go_wp2;go_loopw [4,6] (fun _ i wr => ∃ k:Nat,k≤11∧i=.int .i64 k∧Hid (Held [(w.heap.size,183,#[.string ⟨#[]⟩,.int .i64 0,.int .i64 0])] w wr)∧Hid (∀ j,j<k→(opsL.getD j noOp).2.1≠q)) (fun _ i _=>11-(intOf i).toNat)
 case atStart=>exact ⟨0,by omega,rfl,HH1,aW (by intro j hj;omega)⟩
 case round =>
  obtain ⟨k,hk,rfl,HH,HN⟩:=hrel;by_cases h11:k<11
  ·have hix:=fun W=>ops_at k h11 W
   obtain ⟨⟨t,q1,q2⟩,hx⟩:∃ x,opsL.getD k noOp=x:=⟨_,rfl⟩
   rw [hx] at hix;unfold opCells at hix;simp only at hix;have HX:=aW hx;clear hx;have HH2:=aW (HH.out.push 183 #[.string ⟨t.toArray⟩,.int .i64 q1,.int .i64 q2] (g:=wr.heap.size) rfl);obtain ⟨c1,f1,l1⟩:=HH.out.b0.rules;by_cases hq:q1=q
   ·have HR:=aW (show ofJ q=(t,q1,q2) by unfold ofJ;rw [find_at (l:=opsL) (i:=k) h11 HN.out (by rw [HX.out];exact hq),HX.out]);have hqe:(q1 == q)=true:=by simp [hq]
    go_wp2;refine bodyPost_ret (v:=.agg #[.string ⟨t.toArray⟩,.int .i64 q,.int .i64 q2]) (by simp only [results,Tryz.results157];go_simp) rfl ?_;exact ⟨by rw [HR.out,← hq];rfl,(three_bel HH.out.1 (Nat.le_refl _) _ _ _).alloc (by have:=HH.out.1.size;simpa using this) _⟩
   ·have hqe:(q1 == q)=false:=by simp [hq]
    go_wp2;go_roundw
    case rel=>exact ⟨k+1,by omega,by go_num,aW HH2.out.pop,aW (fun j hj=>by
     by_cases hjk:j=k
     ·rw [hjk,HX.out];exact hq
     ·exact HN.out j (by omega))⟩
    case measure=>simp [intOf];omega
  ·obtain rfl:k=11:=by omega
   have HR:=aW (show ofJ q=noOp by unfold ofJ;exact find_no (fun j hj=>HN.out j hj));have hg:=HG.out.keep HH.out.1;have hg0:=hg.c0;have hg1:=hg.c1;have hg2:=hg.c2;clear hg;obtain ⟨c0,f0,l0⟩:=HH.out.b0.rules;go_wp2;refine bodyPost_ret (v:=.agg #[.string ⟨#[]⟩,.int .i64 0,.int .i64 0]) (by simp only [results,Tryz.results157];go_simp) rfl ?_;exact ⟨by rw [HR.out];rfl,three_bel HH.out.1 (Nat.le_refl _) _ _ _⟩
theorem eAhead (t:ByteArray) (k l:Int) (w:World):Calls Tryz.prog 186 #[.agg #[.string t,.int .i64 k,.int .i64 l]] w fun e w'=>e=.returned (.bool (decide (l=3∨l=7)))∧Below w.heap.size w w':=by
 have HH0:=aW ((Held.nil w).push 183 #[.string t,.int .i64 k,.int .i64 l] (g:=w.heap.size) rfl);by_cases h3:l=3
 ·have h1:(l == 3)=true:=by simp [h3]
  have H3:=aW h3;clear h3;go_enter Tryz.func186,Tryz.ntmps186;go_wp2;go_ret;exact ⟨ret_bool (by simp [H3.out]),HH0.out.1⟩
 ·have h1:(l == 3)=false:=by simp [h3]
  go_enter Tryz.func186,Tryz.ntmps186;go_wp2;go_ret;exact ⟨ret_bool (by rw [Bool.eq_iff_iff];simp [h3]),HH0.out.1⟩
def kidsO (l:Int):Nat:=if l=3∨l=7 then 1 else 2
theorem eKids (t:ByteArray) (k l:Int) (w:World):Calls Tryz.prog 160 #[.agg #[.string t,.int .i64 k,.int .i64 l]] w fun e w'=>e=.returned (.int .i64 (kidsO l))∧Below w.heap.size w w':=by
 have HH0:=aW ((Held.nil w).push 183 #[.string t,.int .i64 k,.int .i64 l] (g:=w.heap.size) rfl);unfold kidsO;obtain ⟨b,hb⟩:∃ b,decide (l=3∨l=7)=b:=⟨_,rfl⟩
 have HA:=aW (fun W=>eAhead t k l W);rw [hb] at HA;have hn:(if l=3∨l=7 then 1 else 2)=(if b=true then 1 else 2):=by rw [← hb];simp
 rw [hn];clear hn hb;go_enter Tryz.func160,Tryz.ntmps160;go_wp2_with fail;refine (HA.out _).mono ?_;rintro e w1 ⟨rfl,hb1⟩;have HH1:=aW (HH0.out.keep hb1);clear hb1;cases b
 ·go_wp2;go_ret;exact ⟨rfl,HH1.out.1⟩
 ·go_wp2;go_ret;exact ⟨rfl,HH1.out.1⟩
theorem eZeroV (v:JV) (cs:List Value) (F:Nat→Prop) (w:World) (hv:VR w F cs v) (hc:Came v):Calls Tryz.prog 159 #[.agg cs.toArray] w fun e w'=>e=.returned (.bool (zeroJ v))∧Below w.heap.size w w':=by
 obtain ⟨k,n,s,kids,keys⟩:=v;obtain ⟨A,B,ca,cb,css,rfl,_⟩:=hv.out;obtain ⟨_,_,_,hl1,hl2,_⟩:=hc.out;obtain ⟨nk,hnk⟩:∃ q,kids.length=q:=⟨_,rfl⟩
 obtain ⟨ny,hny⟩:∃ q,keys.length=q:=⟨_,rfl⟩
 have HZ:=aW (show zeroJ (.mk k n s kids keys)=decide (k=0∧n=0∧s=[]∧nk+ny=0) by unfold zeroJ;simp only [hnk,hny]);rw [hnk] at hl1 ⊢;rw [hny] at hl2 ⊢;have HH0:=aW ((Held.nil w).push 25 #[.int .i64 k,.int .i64 n,.string ⟨s.toArray⟩,.slice A nk ca,.slice B ny cb] (g:=w.heap.size) rfl);clear hv hc hnk hny;rw [HZ.out];clear HZ;by_cases h1:k=0
 ·have e1:(k == 0)=true:=by simp [h1]
  have H1:=aW h1;clear h1;by_cases h2:n=0
  ·have e2:(n == 0)=true:=by simp [h2]
   have H2:=aW h2;clear h2;by_cases h3:s=[]
   ·subst h3;by_cases h4:nk+ny=0
    ·have e4:((nk:Int)+ny == 0)=true:=by rw [beq_iff_eq];omega
     have H4:=aW h4;clear h4;go_enter Tryz.func159,Tryz.ntmps159;go_wp2;go_ret;exact ⟨ret_bool (by simp [H1.out,H2.out,H4.out,e4]),HH0.out.1⟩
    ·have e4:((nk:Int)+ny == 0)=false:=by rw [beq_eq_false_iff_ne];omega
     have H4:=aW h4;clear h4;go_enter Tryz.func159,Tryz.ntmps159;go_wp2;go_ret;exact ⟨ret_bool (by have:=H4.out;simp [H1.out,H2.out,e4];omega),HH0.out.1⟩
   ·have e3:((ByteArray.mk s.toArray).toList == (ByteArray.mk #[]).toList)=false:=by
     rw [beq_eq_false_iff_ne,ByteArray.toList_eq,ByteArray.toList_eq];simpa using h3
    have H3:=aW h3;clear h3;go_enter Tryz.func159,Tryz.ntmps159;go_wp2;go_ret;exact ⟨ret_bool (by simp [H3.out]),HH0.out.1⟩
  ·have e2:(n == 0)=false:=by simp [h2]
   have H2:=aW h2;clear h2;go_enter Tryz.func159,Tryz.ntmps159;go_wp2;go_ret;exact ⟨ret_bool (by simp [H2.out]),HH0.out.1⟩
 ·have e1:(k == 0)=false:=by simp [h1]
  have H1:=aW h1;clear h1;go_enter Tryz.func159,Tryz.ntmps159;go_wp2;go_ret;exact ⟨ret_bool (by simp [H1.out]),HH0.out.1⟩
theorem eLiteral (v:JV) (cs:List Value) (F:Nat→Prop) (w:World) (hG:GOE w) (hv:VR w F cs v) (hc:Came v):Calls Tryz.prog 158 #[.agg cs.toArray] w fun e w'=>e=.returned (.bool (litOk v))∧Below w.heap.size w w':=by
 have HV:=aW (fun (W:World) (h:Below w.heap.size w W)=>hv.bel h);obtain ⟨k,n,s,kids,keys⟩:=v;obtain ⟨A,B,ca,cb,css,rfl,_⟩:=hv.out;obtain ⟨nk,hnk⟩:∃ q,kids.length=q:=⟨_,rfl⟩
 obtain ⟨ny,hny⟩:∃ q,keys.length=q:=⟨_,rfl⟩
 have HZ:=aW (show litOk (.mk k n s kids keys)=(good (.mk k n s kids keys) && (decide (k=3∧0≤n) || decide (k=1∨k=2∨k=4))) from rfl);rw [hnk,hny] at HV ⊢;have HH0:=aW ((Held.nil w).push 25 #[.int .i64 k,.int .i64 n,.string ⟨s.toArray⟩,.slice A nk ca,.slice B ny cb] (g:=w.heap.size) rfl);have HG:=aW hG.gok;have HC:=aW hc;obtain ⟨b,hb⟩:∃ b,good (.mk k n s kids keys)=b:=⟨_,rfl⟩
 have HK:=aW (show chkJ (.mk k n s kids keys)=(if b=true then 0 else 140) by unfold chkJ;rw [hb]);rw [hb] at HZ;rw [HZ.out];clear hv hc hnk hny hb hG HZ;go_enter Tryz.func158,Tryz.ntmps158;go_wp2_with fail;refine (vChk_is HK.out (HG.out.keep HH0.out.1) (HV.out _ HH0.out.1) HC.out).mono ?_;rintro e w1 ⟨rfl,hb1⟩;have HH1:=aW (HH0.out.keep hb1);clear hb1 HH0;obtain ⟨c0,f0,l0⟩:=HH1.out.b0.rules;cases b
 ·go_wp2;go_ret;exact ⟨rfl,HH1.out.1⟩
 ·by_cases h3:k=3
  ·have e3:(k == 3)=true:=by simp [h3]
   have H3:=aW h3;clear h3;go_wp2;go_ret;exact ⟨ret_bool (by rw [Bool.eq_iff_iff];simp [H3.out]),HH1.out.1⟩
  ·have e3:(k == 3)=false:=by simp [h3]
   have H3:=aW h3;clear h3;by_cases h1:k=1
   ·have e1:(k == 1)=true:=by simp [h1]
    have H1:=aW h1;clear h1;go_wp2;go_ret;exact ⟨ret_bool (by simp [H1.out]),HH1.out.1⟩
   ·have e1:(k == 1)=false:=by simp [h1]
    have H1:=aW h1;clear h1;by_cases h2:k=2
    ·have e2:(k == 2)=true:=by simp [h2]
     have H2:=aW h2;clear h2;go_wp2;go_ret;exact ⟨ret_bool (by simp [H2.out]),HH1.out.1⟩
    ·have e2:(k == 2)=false:=by simp [h2]
     have H2:=aW h2;clear h2;by_cases h4:k=4
     ·have e4:(k == 4)=true:=by simp [h4]
      have H4:=aW h4;clear h4;go_wp2;go_ret;exact ⟨ret_bool (by simp [H4.out]),HH1.out.1⟩
     ·have e4:(k == 4)=false:=by simp [h4]
      have H4:=aW h4;clear h4;go_wp2;go_ret;exact ⟨ret_bool (by simp [H1.out,H2.out,H3.out,H4.out]),HH1.out.1⟩
set_option linter.unusedVariables false
set_option linter.unusedSimpArgs false
mutual
theorem goodJ_up:∀ (d:Nat) (v:JV),goodJ d v=true→goodJ (d+1) v=true
 | d,.mk k n s kids keys,h=>by
  obtain ⟨h1,h2,h3⟩:=goodJ_out h;unfold goodJ;rw [h1,Nat.add_sub_cancel];by_cases h0:d=0
  ·subst h0;have hk:¬ 5≤k:=fun e=>h2 e rfl
   cases kids with
   | nil=>simp [goodL]
   | cons x r =>
    exfalso;unfold goodA at h1;simp only [List.length_cons] at h1;have:k=1∨k=2∨k=3∨k=4∨k=5∨k=6∨(k≠1∧k≠2∧k≠3∧k≠4∧k≠5∧k≠6):=by omega
    rcases this with rfl | rfl | rfl | rfl | rfl | rfl | ⟨a1,a2,a3,a4,a5,a6⟩
    ·simp at h1
    ·simp at h1
    ·simp at h1
    ·simp at h1
    ·omega
    ·omega
    ·rw [if_neg a1,if_neg a2,if_neg a3,if_neg a4,if_neg a5,if_neg a6] at h1;cases h1
  ·have hl:=goodL_up (d-1) kids h3;rw [show d-1+1=d by omega] at hl;rw [hl];simp
theorem goodL_up:∀ (d:Nat) (xs:List JV),goodL d xs=true→goodL (d+1) xs=true
 | d,[],_=>rfl
 | d,x::r,h=>by
  unfold goodL at h ⊢;rw [Bool.and_eq_true] at h;rw [goodJ_up d x h.1,goodL_up d r h.2];rfl
end
theorem good_kid {v x:JV} (h:good v=true) (hx:x ∈ v.kids):good x=true:=by
 obtain ⟨k,n,s,kids,keys⟩:=v;have hx:x ∈ kids:=hx;unfold good at h ⊢;rw [Bool.and_eq_true,decide_eq_true_eq] at h ⊢;obtain ⟨h1,h2⟩:=h;obtain ⟨_,_,h3⟩:=goodJ_out h1;unfold nodesJ at h2;have:=nodesL_in hx;exact ⟨goodJ_up 7 x (goodL_iff.1 h3 x hx),by omega⟩
theorem good_bool (b:Bool):good (jBool b)=true:=by cases b<;>rfl
theorem good_int (n:Int):good (jNum n)=true:=by
 unfold good jNum goodJ goodA nodesJ nodesL goodL;simp
theorem good_kind (k:Int):good (jText (kindT k))=true:=by
 unfold kindT;split
 ·decide
 split
 ·decide
 split
 ·decide
 split
 ·decide
 split
 ·decide
 ·decide
theorem look_mem:∀ {env:List (List UInt8 × JV)} {s:List UInt8} {v:JV},lookJ env s=some v→∃ b ∈ env,b.2=v
 | (t,u)::r,s,v,h=>by
  unfold lookJ at h;cases hr:lookJ r s with
  | some z=>rw [hr] at h;obtain ⟨b,hb,e⟩:=look_mem hr;exact ⟨b,List.mem_cons_of_mem _ hb,e.trans (Option.some.inj h)⟩
  | none =>
   rw [hr] at h;simp only at h;split at h
   ·exact ⟨_,List.mem_cons_self,Option.some.inj h⟩
   ·cases h
theorem goL_app (env:List (List UInt8 × JV)):∀ (l m:List SJ) (st:MSt),goL env st (l++m)=goL env (goL env st l) m
 | [],m,st=>by show goL env st m=_;rw [goL]
 | x::r,m,st=>by show goL env st (x::(r++m))=_;rw [goL,goL,goL_app env r m]
theorem mayL_app {d:Nat} {l m:List SJ}:mayL d (l++m)=(mayL d l && mayL d m):=by
 induction l with
 | nil=>simp [mayL]
 | cons x r ih=>show (mayS d x && mayL d (r++m))=_;rw [ih,mayL,Bool.and_assoc]
theorem look_app (env:List (List UInt8 × JV)) (s t:List UInt8) (v:JV):lookJ (env++[(s,v)]) t=if s=t then some v else lookJ env t:=by
 induction env with
 | nil=>show lookJ [(s,v)] t=_;simp [lookJ]
 | cons b r ih =>
  obtain ⟨u,z⟩:=b;show lookJ ((u,z)::(r++[(s,v)])) t=_
  rw [lookJ,ih,lookJ];by_cases h:s=t
  ·rw [if_pos h,if_pos h]
  ·rw [if_neg h,if_neg h]
set_option linter.unusedVariables false
set_option linter.unusedSimpArgs false
theorem xor63 {r:Nat} (h:r<9223372036854775808):r ^^^ 9223372036854775808=9223372036854775808+r:=by
 have e:(9223372036854775808:Nat)=2 ^ 63:=by decide
 rw [e] at h ⊢;refine Nat.eq_of_testBit_eq fun i=>?_
 rw [Nat.testBit_xor,Nat.testBit_two_pow];rcases Nat.lt_trichotomy i 63 with hi | rfl | hi
 ·rw [Nat.testBit_two_pow_add_gt hi,decide_eq_false (by omega),Bool.xor_false]
 ·rw [Nat.testBit_two_pow_add_eq,decide_eq_true rfl,Bool.xor_true]
 ·rw [decide_eq_false (by omega),Bool.xor_false];have h1:r<2 ^ i:=Nat.lt_of_lt_of_le h (Nat.pow_le_pow_right (by decide) (by omega));have h2:2 ^ 63+r<2 ^ i:=by
   have:2 ^ 64≤2 ^ i:=Nat.pow_le_pow_right (by decide) (by omega);have e2:(2:Nat) ^ 64=2 ^ 63+2 ^ 63:=by decide
   omega
  rw [Nat.testBit_lt_two_pow h1,Nat.testBit_lt_two_pow h2]
theorem xor63' {r:Nat} (h:r<9223372036854775808):(9223372036854775808+r) ^^^ 9223372036854775808=r:=by
 rw [← xor63 h,Nat.xor_assoc,Nat.xor_self,Nat.xor_zero]
theorem u64_nat (a b:Nat) (ha:a<18446744073709551616) (hb:b<18446744073709551616):bits .xor .u64 (a:Int) (b:Int)=((a ^^^ b:Nat):Int):=by
 have hx:a ^^^ b<2 ^ 64:=Nat.xor_lt_two_pow (by omega) (by omega);show IntKind.u64.wrap ((BitVec.ofInt 64 (a:Int) ^^^ BitVec.ofInt 64 (b:Int)).toNat:Int)=_
 rw [BitVec.toNat_xor,BitVec.ofInt_natCast,BitVec.ofInt_natCast,BitVec.toNat_ofNat,BitVec.toNat_ofNat,Nat.mod_eq_of_lt (by omega),Nat.mod_eq_of_lt (by omega),IntKind.wrap_u64];omega
theorem xor_num {v:Int} (hv:iw v):bits .xor .u64 (IntKind.u64.wrap v) 9223372036854775808=((v+9223372036854775808).toNat:Int):=by
 unfold iw at hv;rw [IntKind.wrap_u64];by_cases h:0≤v
 ·obtain ⟨a,rfl⟩:∃ a:Nat,(a:Int)=v:=⟨v.toNat,by omega⟩
  have e1:(a:Int) % 18446744073709551616=(a:Int):=by omega
  rw [e1,show (9223372036854775808:Int)=((9223372036854775808:Nat):Int) from rfl,u64_nat _ _ (by omega) (by decide),xor63 (by omega)];congr 1;omega
 ·obtain ⟨a,ha⟩:∃ a:Nat,(a:Int)=v+9223372036854775808:=⟨(v+9223372036854775808).toNat,by omega⟩
  have e1:v % 18446744073709551616=((9223372036854775808+a:Nat):Int):=by omega
  rw [e1,show (9223372036854775808:Int)=((9223372036854775808:Nat):Int) from rfl,u64_nat _ _ (by omega) (by decide),xor63' (by omega)];congr 1;omega
def numB8 (m j:Nat):List UInt8:=(([56,48,40,32,24,16,8,0]:List Nat).take j).map fun by_=>UInt8.ofNat (m / 2 ^ by_)
theorem codeN_8 (n:Int):codeN n=4::numB8 (n+9223372036854775808).toNat 8:=rfl
set_option linter.unusedVariables false
set_option linter.unusedSimpArgs false
def kidsN (k:Int):Int:=if k=1∨k=2 then 0 else if k=3∨k=5∨k=6∨k=7 then 1 else if k=4 then -1 else 2
mutual
def dpR:Nat→EJ→Nat
 | room,.mk k v s kids=>if room=0 then 13 else if okX k v s kids.length=true then (match dpL (room-1) kids with | none=>0 | some m=>m+1) else 0
def dpL:Nat→List EJ→Option Nat
 | _,[]=>some 0
 | room,x::r=>if dpR room x=0 then none else match dpL room r with | none=>none | some m=>some (max (dpR room x) m)
end
def dpF (r:Nat) (l:List EJ):Nat:=l.foldl (fun m x=>if m<dpR r x then dpR r x else m) 0
theorem dpL_none {r:Nat}:∀ {l:List EJ} {x:EJ},x ∈ l→dpR r x=0→dpL r l=none
 | y::l,x,hx,h0=>by
  unfold dpL;rcases List.mem_cons.1 hx with rfl | hx
  ·rw [if_pos h0]
  ·split
   ·rfl
   ·rw [dpL_none hx h0]
theorem dpF_go {r:Nat}:∀ (l:List EJ) (m:Nat),(∀ x ∈ l,dpR r x≠0)→∃ q,dpL r l=some q∧l.foldl (fun m x=>if m<dpR r x then dpR r x else m) m=max m q
 | [],m,_=>⟨0,by rw [dpL],by simp⟩
 | x::l,m,h=>by
  obtain ⟨q,h1,h2⟩:=dpF_go l (if m<dpR r x then dpR r x else m) fun y hy=>h y (List.mem_cons_of_mem _ hy)
  refine ⟨max (dpR r x) q,by rw [dpL,if_neg (h x List.mem_cons_self),h1],?_⟩;rw [List.foldl_cons,h2];split<;>omega
theorem dpL_some {r:Nat} {l:List EJ} (h:∀ x ∈ l,dpR r x≠0):dpL r l=some (dpF r l):=by
 obtain ⟨q,h1,h2⟩:=dpF_go l 0 h;unfold dpF;rw [h1,h2,Nat.zero_max]
theorem dpL_lt {r n:Nat}:∀ {l:List EJ} {q:Nat},dpL r l=some q→(q<n+1 ↔ ∀ x ∈ l,dpR r x<n+1)
 | [],q,h=>by
  rw [dpL] at h;obtain rfl:=Option.some.inj h;simp
 | x::l,q,h=>by
  rw [dpL] at h;split at h
  ·cases h
  ·split at h
   ·cases h
   ·rename_i m hm
    obtain rfl:=Option.some.inj h;have:=dpL_lt (n:=n) hm;simp only [List.mem_cons,forall_eq_or_imp,← this];omega
theorem dpL_all {r:Nat}:∀ {l:List EJ} {q:Nat},dpL r l=some q→∀ x ∈ l,dpR r x≠0
 | y::l,q,h,x,hx=>by
  intro e;rw [dpL_none hx e] at h;cases h
theorem deep_same:∀ (R:Nat) (x:EJ),(dpR R x≠0∧dpR R x<R) ↔ (R≠0∧deepE (R-1) x≠0)
 | 0,.mk k v s kids=>by
  constructor
  ·rintro ⟨_,h⟩;omega
  ·rintro ⟨h,_⟩;exact absurd rfl h
 | 1,.mk k v s kids=>by
  constructor
  ·rintro ⟨h1,h2⟩;omega
  ·rintro ⟨_,h⟩;exact absurd rfl (deepE_out h).1
 | n+2,.mk k v s kids=>by
  have ih:=fun x=>deep_same (n+1) x
  constructor
  ·rintro ⟨h1,h2⟩;refine ⟨by omega,?_⟩;rw [dpR,if_neg (by omega)] at h1 h2;by_cases hk:okX k v s kids.length=true
   ·rw [if_pos hk] at h1 h2;cases hd:dpL (n+2-1) kids with
    | none=>rw [hd] at h1;exact absurd rfl h1
    | some q =>
     rw [hd] at h2;refine deepE_into (by omega) hk fun x hx=>?_
     have h3:q+1<n+2:=h2;have:=(ih x).1 ⟨dpL_all hd x hx,(dpL_lt hd).1 (by omega) x hx⟩;exact this.2
   ·rw [if_neg hk] at h1;exact absurd rfl h1
  ·rintro ⟨_,h⟩;obtain ⟨_,hk,hkids⟩:=deepE_out h;have h9:∀ x ∈ kids,dpR (n+1) x≠0∧dpR (n+1) x<n+1:=fun x hx=>(ih x).2 ⟨by omega,hkids x hx⟩
   rw [dpR,if_neg (by omega),if_pos hk,show n+2-1=n+1 by omega,dpL_some fun x hx=>(h9 x hx).1];refine ⟨by simp,?_⟩;have:=(dpL_lt (n:=n) (dpL_some fun x hx=>(h9 x hx).1)).2 fun x hx=>(h9 x hx).2
   show dpF (n+1) kids+1<n+2
   omega
theorem deep_may (x:EJ):(1≤dpR 13 x∧dpR 13 x≤12) ↔ fitE x:=by
 have:=deep_same 13 x;unfold fitE;constructor
 ·rintro ⟨h1,h2⟩;exact (this.1 ⟨by omega,by omega⟩).2
 ·intro h;have h9:=this.2 ⟨by omega,h⟩;omega
def okA (k:Int) (nk:Nat):Bool:=decide (1≤k∧k≤15) && (decide (kidsN k<0) || decide ((nk:Int)=kidsN k))
def okB (k:Int) (v:JV):Bool:=if k=1 then litOk v else zeroJ v
def okC (k:Int) (s:List UInt8):Bool:=if k=2∨k=3 then nameOk s else decide (s=[])
theorem okX_abc (k:Int) (v:JV) (s:List UInt8) (nk:Nat):okX k v s nk=(okA k nk && (okB k v && okC k s)):=by
 have hk:k<1∨15<k∨k=1∨k=2∨k=3∨k=4∨(5≤k∧k≤7)∨(8≤k∧k≤15):=by omega
 unfold okX okA okB okC;rcases hk with h | h | rfl | rfl | rfl | rfl | ⟨h,h'⟩ | ⟨h,h'⟩
 ·have e:decide (1≤k∧k≤15)=false:=decide_eq_false (by omega);rw [e,if_neg (by omega)];split
  ·simp
  ·rw [if_neg (by omega),if_neg (by omega),if_neg (by omega),if_neg (by omega),if_neg (by omega)];simp
 ·have e:decide (1≤k∧k≤15)=false:=decide_eq_false (by omega);rw [e,if_neg (by omega)];split
  ·simp
  ·rw [if_neg (by omega),if_neg (by omega),if_neg (by omega),if_neg (by omega),if_neg (by omega)];simp
 ·simp [kidsN];cases litOk v<;>simp [Bool.and_comm]
 ·simp [kidsN];cases zeroJ v<;>simp [Bool.and_comm]
 ·have e3:decide ((nk:Int)=1)=decide (nk=1):=by rw [decide_eq_decide];omega
  simp [kidsN,e3];cases zeroJ v<;>simp [Bool.and_comm]
 ·simp [kidsN]
 ·have n1:¬ k=1:=by omega
  have n2:¬ k=2:=by omega
  have n3:¬ k=3:=by omega
  have n4:¬ k=4:=by omega
  have n5:5≤k∧k≤7:=by omega
  have n6:¬ (k=2∨k=3):=by omega
  have e:decide (1≤k∧k≤15)=true:=decide_eq_true (by omega);have e2:kidsN k=1:=by unfold kidsN;rw [if_neg (by omega),if_pos (by omega)]
  have e3:decide ((nk:Int)=1)=decide (nk=1):=by rw [decide_eq_decide];omega
  rw [if_neg n1,if_neg n1,if_neg n2,if_neg n3,if_neg n4,if_pos n5,if_neg n6,e,e2,e3];cases zeroJ v<;>simp [Bool.and_comm]
 ·have n1:¬ k=1:=by omega
  have n2:¬ k=2:=by omega
  have n3:¬ k=3:=by omega
  have n4:¬ k=4:=by omega
  have n5:¬ (5≤k∧k≤7):=by omega
  have n6:¬ (k=2∨k=3):=by omega
  have n7:8≤k∧k≤15:=by omega
  have e:decide (1≤k∧k≤15)=true:=decide_eq_true (by omega);have e2:kidsN k=2:=by unfold kidsN;rw [if_neg (by omega),if_neg (by omega),if_neg (by omega)]
  have e3:decide ((nk:Int)=2)=decide (nk=2):=by rw [decide_eq_decide];omega
  rw [if_neg n1,if_neg n1,if_neg n2,if_neg n3,if_neg n4,if_neg n5,if_pos n7,if_neg n6,e,e2,e3];cases zeroJ v<;>simp [Bool.and_comm]
set_option linter.unusedVariables false
set_option linter.unusedSimpArgs false
open Go.RowKit
attribute [local go_sem] run_index_arr run_part_agg run_part_one run_field_agg
def natV (cs:List Nat):List Value:=cs.map fun n:Nat=>Value.int .i64 (n:Int)
def RptP (cs:List Nat) (w:World) (e:Ending) (w':World):Prop:=(∃ A cap,e=.returned (.tuple #[.slice A cs.length cap,.int .i64 0,.bool true])∧cs.length≤cap∧Rd w' A (natV cs))∧Below w.heap.size w w'
theorem rPts (v:Value) (cs:List Nat) (w:World) (hcp:∀ c ∈ cs,isCp (c:Int)=true) (hv:BS w v (cs.flatMap cpBytes)) (hlen:(cs.flatMap cpBytes).length≤4194304) :
  Calls Tryz.prog 50 #[v] w (RptP cs w):=by
 obtain ⟨i0,hi,hz0,hz1,hz2⟩:=info_parts infoInt;obtain ⟨hl1,hl2⟩:=cps_len hcp;obtain ⟨l,hle⟩:∃ l,cs.flatMap cpBytes=l:=⟨_,rfl⟩
 rw [hle] at hv hl1 hl2 hlen;have hl:l.length≤4194304:=hlen;obtain ⟨A,cap,rfl,hcap,hr⟩:=hv;have HL:=aW hle;have HCP:=aW hcp;have HR:=aW hr;have HI:=aW hi;clear hle hcp hr hl1 hl2 hi hlen;go_enter Tryz.func50,Tryz.ntmps50;go_wp2;go_loopg [5,6] l.length (fun gk s5 s6 wr => ∃ (p:Nat) (pre suf:List Nat),p≤l.length∧pre.length≤p∧gk=l.length-p∧s6=.int .i64 p∧Hid (l.drop p=suf.flatMap cpBytes)∧Hid (∀ c ∈ suf,isCp (c:Int)=true)∧Hid (cs=pre++suf) ∧
  wr.ownsRow w.heap.size 3 1 s5 pre.length (natV pre)∧Below w.heap.size w wr)
 case atStart=>exact ⟨0,[],cs,Nat.zero_le _,Nat.le_refl _,rfl,by go_num,aW (by rw [List.drop_zero,HL.out]),HCP,aW rfl,World.ownsRow_nil _ _ _ _,Below.refl _ _⟩
 case round =>
  obtain ⟨p,pre,suf,hp,hpp,hgk,rfl,HS,HQ,HPS,hown,hbw⟩:=hrel;have HG:=aW hgk;clear hgk;by_cases hlt:p<l.length
  ·obtain ⟨b,o,rfl,hb⟩:=HR.out.some_ (show 0<l.length by omega);cases suf with
   | nil=>have h:=congrArg List.length HS.out;rw [List.length_drop] at h;simp at h;omega
   | cons c suf =>
    have hc:=HQ.out c List.mem_cons_self;have hd:=HS.out;rw [List.flatMap_cons] at hd;obtain ⟨k1,k2,k3⟩:=cpBegin_bytes c (suf.flatMap cpBytes) hc;rw [← hd] at k1;obtain ⟨n,hn⟩:∃ n,(cpBytes c).length=n:=⟨_,rfl⟩
    rw [hn] at k1 k2 k3;have hpn:p+n≤l.length:=by have h:=congrArg List.length hd;rw [List.length_drop,List.length_append,hn] at h;omega
    have HD:=aW (show l.drop (p+n)=suf.flatMap cpBytes by rw [← List.drop_drop,hd,← hn,List.drop_left]);have HPS2:=aW (show cs=(pre++[c])++suf by rw [HPS.out];simp);have hB:=rBegin_any (.slice (some ⟨b,o+p,none⟩) (l.length-p) (cap-p)) (l.drop p) wr (BS.dropN (n:=0) (HR.out.below hbw) hcap p hp) (by rw [List.length_drop];omega);rw [k1] at hB;have HB:=aW hB;have HQ2:=aW (fun x hx=>HQ.out x (List.mem_cons_of_mem c hx));have hcapp:¬ cap=p:=by omega
    have hn0:((n:Int) == 0)=false:=by simp;omega
    clear hB k1 hd hc hn HQ HS HPS;go_wp2_with fail;refine HB.out.mono ?_;rintro e w1 ⟨rfl,hb1⟩;have hown1:=own_below hown hb1;go_wp2_with (at_builtin;refine wpList_append_own _ rfl _ _ 96 rfl w.heap.size 3 i0 (.int .i64 0) 1 8 Tryz.underlying96 HI.out hz0 hz1 hz2 rfl (by decide) _ _ _ rfl (hown1.alloc _) ⟨w1.heap.size,0,none⟩ 1 1 [.int .i64 c] rfl rfl (cell_one_new _ _ _) (by simp [Value.oneCell']) (by unfold maxLen;omega) (by omega) (by have:=hbw.size;have:=hb1.size;simp;omega) ?_;intro v2 w2 hown2 hgr2 _);go_roundg (l.length-(p+n))
    case measure=>rw [HG.out];omega
    case rel =>
     have s1:=hbw.size;have s2:=hb1.size;refine ⟨p+n,pre++[c],suf,hpn,by rw [List.length_append,List.length_singleton];omega,rfl,by go_num,HD,HQ2,HPS2,?_,?_⟩
     ·rw [List.length_append,List.length_singleton];have e:natV (pre++[c])=natV pre++[.int .i64 c]:=by simp [natV]
      rw [e];exact hown2
     ·refine ((hbw.trans (hb1.mono s1)).alloc (by omega) _).grown hgr2 (by simp;omega) (fun k e=>?_);exact (hown1.lt k e).1
  ·cases suf with
   | cons c suf =>
    exfalso;have h:=congrArg List.length HS.out;rw [List.length_drop,List.flatMap_cons,List.length_append] at h;have:=(cpBegin_bytes c [] (HQ.out c List.mem_cons_self)).2.1;omega
   | nil =>
    have hpe:pre=cs:=by rw [HPS.out,List.append_nil]
    subst hpe;obtain ⟨Ao,co,rfl,hco,hro⟩:=Rd.of_own hown;have HF:=aW (show RptP pre w (.returned (.tuple #[.slice Ao pre.length co,.int .i64 0,.bool true])) wr from ⟨⟨_,_,rfl,hco,hro⟩,hbw⟩);clear hco hro hown HCP HL HPS HQ HS HR;go_wp2;go_ret3;exact HF.out
end Go.Proofs.YtgolomgmnanbpaaGreatDoor
