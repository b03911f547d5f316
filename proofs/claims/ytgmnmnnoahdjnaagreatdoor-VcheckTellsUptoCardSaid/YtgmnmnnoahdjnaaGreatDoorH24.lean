import Derived.Test.YtgmnmnnoahdjnaaGreatDoorH21
import Derived.Deep.WholeRow
import Derived.Test.YtgmnmnnoahdjnaaGreatDoorH20
open Go.Value renaming int → Zi, slice → Zs, string → Zt, pointer → Zp
open Go.IntKind renaming i64 → Zq
set_option maxRecDepth 100000
set_option maxHeartbeats 16000000
set_option linter.unusedVariables false
set_option linter.unusedSimpArgs false
namespace Go.Proofs.YtgmnmnnoahdjnaaGreatDoor
section
open Go.RowKit
theorem wk {v:JV} (h:dg v=true):dR 8 v=true/\aN v<=256:=by
 unfold dg at h;simp only [Bool.and_eq_true,decide_eq_true_eq] at h;exact h
theorem vm {v:JV} {n:Int} (h:sc v=n) {cs:List Value} {F:Nat->Prop} {w:World} (hG:GOK w) (hv:VR w F cs v) (hc:cN v):Calls Tryz.prog 162 #[.agg cs.toArray] w λ e w'=>e=.returned (Zi Zq n)/\Below w.heap.size w w':=by
 have h9:=vl v cs F w hG hv hc;rw [h] at h9;exact h9
end
section
open Go.RowKit
attribute [local go_sem] ab ae af ac
structure GOE (w:World):Prop where
 gok:GOK w
 lt:0<w.heap.size
 c0:w.cell? ⟨0,0,none⟩=some (Zt ⟨#[]⟩)
 c1:w.cell? ⟨0,1,none⟩=some (Zi Zq 0)
 c2:w.cell? ⟨0,2,none⟩=some (Zi Zq 0)
theorem GOE.keep {w w':World} (h:GOE w) (hb:Below w.heap.size w w'):GOE w' :=
 ⟨h.gok.keep hb,Nat.lt_of_lt_of_le h.lt hb.size,(hb.cell (p:=⟨0,0,none⟩) h.lt).trans h.c0,(hb.cell (p:=⟨0,1,none⟩) h.lt).trans h.c1,(hb.cell (p:=⟨0,2,none⟩) h.lt).trans h.c2⟩
def eJ:List (List UInt8 × Int × Int):=[([111,114],15,1),([97,110,100],14,2),([61,61],11,4),([60],12,4),([60,61],13,4),([43],9,5),([45],10,5),([42],8,6),([110,111,116],5,3),([115,105,122,101],6,7),([107,105,110,100],7,7)]
def fx (o:List UInt8 × Int × Int):List Value:=[Zt ⟨o.1.toArray⟩,Zi Zq o.2.1,Zi Zq o.2.2]
def wS:Value:=.agg #[Zt ⟨#[111,114]⟩,Zi Zq 15,Zi Zq 1,Zt ⟨#[97,110,100]⟩,Zi Zq 14,Zi Zq 2,Zt ⟨#[61,61]⟩,Zi Zq 11,Zi Zq 4,Zt ⟨#[60]⟩,Zi Zq 12,Zi Zq 4,Zt ⟨#[60,61]⟩,Zi Zq 13,Zi Zq 4,Zt ⟨#[43]⟩,Zi Zq 9,Zi Zq 5,Zt ⟨#[45]⟩,Zi Zq 10,Zi Zq 5,Zt ⟨#[42]⟩,Zi Zq 8,Zi Zq 6,Zt ⟨#[110,111,116]⟩,Zi Zq 5,Zi Zq 3,Zt ⟨#[115,105,122,101]⟩,Zi Zq 6,Zi Zq 7,Zt ⟨#[107,105,110,100]⟩,Zi Zq 7,Zi Zq 7]
def fY:List UInt8 × Int × Int:=([],0,0)
def ofJ (k:Int):List UInt8 × Int × Int:=(eJ.find? λ o=>decide (o.2.1=k)).getD fY
theorem iV {P:Program} {op:Oper} {a:Act} {w:World} {K:Act->World->Prop} {Q:Exit->Act->World->Prop} (ty:TypeId) (x y:Operand) (ho:op.op=.store ty x y)
  (old cells:Array Value) (hx:a.eval x=Zp (some ⟨w.heap.size,0,none⟩)) (hy:a.eval y=.agg cells)
  (hi:(P.info? ty).map (·.size)=some cells.size) (hs:old.size=cells.size) (h1:cells.all (·.oneCell')=true)
  (h:K (a.put op.dst undef) (w.alloc (.cells cells ty))):op.wp P a (w.alloc (.cells old ty)) K Q:=by
 unfold Oper.wp execOp;simp only [ho,hx,hy,Instr.storeAt,Instr.sureAddr,Sem.run_bind,Sem.run_pure,Result.andThen_ok,run_storeVar_new w ty old cells hi hs h1];exact h
theorem bV {P:Program} {fn:Func} {tmps:Array Value} {a:Nat} {t:TypeId} {ad:Addr} {v:Value} {w:World} (hf:fn.results=#[ResultVar.cell a t]) (hx:tmps.getD a undef=Zp (some ad)) (hl:(loadVar t ad).run P w=.ok v w):(results fn tmps).run P w=.ok v w:=by
 unfold results;rw [hf];have hx':tmps[a]?.getD undef=Zp (some ad):=by simpa using hx
 simp [hx',asAddr,hl,Sem.run_bind,Result.andThen]
theorem kg (w:World):Calls Tryz.prog 157 #[] w λ e w'=>e=.returned wS/\Below w.heap.size w w':=by
 go_enter Tryz.func157,Tryz.ntmps157;go_step;go_step;go_step;go_step;go_step;go_step;go_step;go_step;go_step;go_step;go_step;go_step;go_step;go_step;go_step;go_step;go_step;go_step;go_step;go_step;go_step;go_step;go_step;go_step;go_step;go_step;go_step;go_step;go_step;go_step;go_step;go_step;go_step;go_step;go_step;go_step;go_step;go_step;go_step;go_step;go_step;go_step;go_step;go_step;go_step;go_step;go_step;go_step;refine iV 190 (.tmp 0) (.tmp 12) rfl _ _ rfl rfl (by kernel_rfl) (by kernel_rfl) (by kernel_rfl) ?_;go_wp2;refine bodyPost_ret (v:=wS) (bV Tryz.results157 rfl (run_loadVar_new w 190 _ 11 154 Tryz.underlying190 (by kernel_rfl))) rfl ?_;exact ⟨rfl,(Below.refl _ w).alloc (Nat.le_refl _) _⟩
theorem tl (k:Nat) (h:k<11) (w:World):(Instr.index 190 wS (Zi Zq (k:Int))).run Tryz.prog w=.ok (.agg (fx (eJ.getD k fY)).toArray) w:=by
 rcases (by omega:k=0∨k=1∨k=2∨k=3∨k=4∨k=5∨k=6∨k=7∨k=8∨k=9∨k=10) with rfl | rfl | rfl | rfl | rfl | rfl | rfl | rfl | rfl | rfl | rfl<;>kernel_rfl
theorem qg {k:Int}:∀ {l:List (List UInt8 × Int × Int)} {i:Nat},i<l.length->(∀ j,j<i->(l.getD j fY).2.1≠k)->(l.getD i fY).2.1=k->(l.find? λ o=>decide (o.2.1=k)).getD fY=l.getD i fY
 |x::r,0,h,_,e=>by
  have e:x.2.1=k:=by simpa using e
  simp [e]
 |x::r,i+1,h,hj,e=>by
  have hx:x.2.1≠k:=by simpa using hj 0 (by omega)
  rw [List.find?_cons,decide_eq_false hx];simp only [List.getD_cons_succ];exact qg (by simpa using h) (λ j hj'=>by simpa using hj (j+1) (by omega)) (by simpa using e)
theorem mA {k:Int}:∀ {l:List (List UInt8 × Int × Int)},(∀ j,j<l.length->(l.getD j fY).2.1≠k)->(l.find? λ o=>decide (o.2.1=k)).getD fY=fY
 | [],_=>rfl
 |x::r,hj=>by
  have hx:x.2.1≠k:=by simpa using hj 0 (by simp)
  rw [List.find?_cons,decide_eq_false hx];exact mA λ j h=>by simpa using hj (j+1) (by simpa using h)
theorem js {B:Nat} {w W:World} (h:Below B w W) {g:Nat} (hg:B<=g) (a b c:Value):Below B w (((W.setCell ⟨g,0,none⟩ a).setCell ⟨g,1,none⟩ b).setCell ⟨g,2,none⟩ c) :=
 ((h.setCell (p:=⟨g,0,none⟩) hg a).setCell (p:=⟨g,1,none⟩) hg b).setCell (p:=⟨g,2,none⟩) hg c
def OfP (k:Int) (w:World) (e:Ending) (w':World):Prop:=e=.returned (.agg (fx (ofJ k)).toArray)/\Below w.heap.size w w'
theorem eOf (q:Int) (w:World) (hG:GOE w):Calls Tryz.prog 113 #[Zi Zq q] w (OfP q w):=by
 have HG:=aW hG;have HH0:=aW ((aH.nil w).push 154 #[Zt ⟨#[]⟩,Zi Zq 0,Zi Zq 0] (g:=w.heap.size) rfl);clear hG;go_enter Tryz.func113,Tryz.ntmps113;go_wp2_with fail;refine (kg _).mono ?_;rintro e w1 ⟨rfl,hb1⟩;have HH1:=aW (HH0.out.keep hb1);clear hb1 HH0;go_wp2;go_loopw [4,6] (λ _ i wr => ∃ k:Nat,k<=11/\i=Zi Zq k/\Hid (aH [(w.heap.size,154,#[Zt ⟨#[]⟩,Zi Zq 0,Zi Zq 0])] w wr)/\Hid (∀ j,j<k->(eJ.getD j fY).2.1≠q)) (λ _ i _=>11-(intOf i).toNat)
 case atStart=>exact ⟨0,by omega,rfl,HH1,aW (by intro j hj;omega)⟩
 case round =>
  obtain ⟨k,hk,rfl,HH,HN⟩:=hrel;by_cases h11:k<11
  ·have hix:=λ W=>tl k h11 W
   obtain ⟨⟨t,q1,q2⟩,hx⟩:∃ x,eJ.getD k fY=x:=⟨_,rfl⟩
   rw [hx] at hix;unfold fx at hix;simp only at hix;have HX:=aW hx;clear hx;have HH2:=aW (HH.out.push 154 #[Zt ⟨t.toArray⟩,Zi Zq q1,Zi Zq q2] (g:=wr.heap.size) rfl);obtain ⟨c1,f1,l1⟩:=HH.out.b0.rules;by_cases hq:q1=q
   ·have HR:=aW (show ofJ q=(t,q1,q2) by unfold ofJ;rw [qg (l:=eJ) (i:=k) h11 HN.out (by rw [HX.out];exact hq),HX.out]);have hqe:(q1 == q)=true:=by simp [hq]
    go_wp2;refine bodyPost_ret (v:=.agg #[Zt ⟨t.toArray⟩,Zi Zq q,Zi Zq q2]) (by simp only [results,Tryz.results113];go_simp) rfl ?_;exact ⟨by rw [HR.out,← hq];rfl,(js HH.out.1 (Nat.le_refl _) _ _ _).alloc (by have:=HH.out.1.size;simpa using this) _⟩
   ·have hqe:(q1 == q)=false:=by simp [hq]
    go_wp2;go_roundw
    case rel=>exact ⟨k+1,by omega,by go_num,aW HH2.out.pop,aW (λ j hj=>by
     by_cases hjk:j=k
     ·rw [hjk,HX.out];exact hq
     ·exact HN.out j (by omega))⟩
    case measure=>simp [intOf];omega
  ·obtain rfl:k=11:=by omega
   have HR:=aW (show ofJ q=fY by unfold ofJ;exact mA (λ j hj=>HN.out j hj));have hg:=HG.out.keep HH.out.1;have hg0:=hg.c0;have hg1:=hg.c1;have hg2:=hg.c2;clear hg;obtain ⟨c0,f0,l0⟩:=HH.out.b0.rules;go_wp2;refine bodyPost_ret (v:=.agg #[Zt ⟨#[]⟩,Zi Zq 0,Zi Zq 0]) (by simp only [results,Tryz.results113];go_simp) rfl ?_;exact ⟨by rw [HR.out];rfl,js HH.out.1 (Nat.le_refl _) _ _ _⟩
theorem vX (t:ByteArray) (k l:Int) (w:World):Calls Tryz.prog 115 #[.agg #[Zt t,Zi Zq k,Zi Zq l]] w λ e w'=>e=.returned (.bool (decide (l=3∨l=7)))/\Below w.heap.size w w':=by
 have HH0:=aW ((aH.nil w).push 154 #[Zt t,Zi Zq k,Zi Zq l] (g:=w.heap.size) rfl);by_cases h3:l=3
 ·have h1:(l == 3)=true:=by simp [h3]
  have H3:=aW h3;clear h3;go_enter Tryz.func115,Tryz.ntmps115;go_wp2;go_ret;exact ⟨ak (by simp [H3.out]),HH0.out.1⟩
 ·have h1:(l == 3)=false:=by simp [h3]
  go_enter Tryz.func115,Tryz.ntmps115;go_wp2;go_ret;exact ⟨ak (by rw [Bool.eq_iff_iff];simp [h3]),HH0.out.1⟩
def qo (l:Int):Nat:=if l=3∨l=7 then 1 else 2
theorem xD (t:ByteArray) (k l:Int) (w:World):Calls Tryz.prog 121 #[.agg #[Zt t,Zi Zq k,Zi Zq l]] w λ e w'=>e=.returned (Zi Zq (qo l))/\Below w.heap.size w w':=by
 have HH0:=aW ((aH.nil w).push 154 #[Zt t,Zi Zq k,Zi Zq l] (g:=w.heap.size) rfl);unfold qo;obtain ⟨b,hb⟩:∃ b,decide (l=3∨l=7)=b:=⟨_,rfl⟩
 have HA:=aW (λ W=>vX t k l W);rw [hb] at HA;have hn:(if l=3∨l=7 then 1 else 2)=(if b=true then 1 else 2):=by rw [← hb];simp
 rw [hn];clear hn hb;go_enter Tryz.func121,Tryz.ntmps121;go_wp2_with fail;refine (HA.out _).mono ?_;rintro e w1 ⟨rfl,hb1⟩;have HH1:=aW (HH0.out.keep hb1);clear hb1;cases b
 ·go_wp2;go_ret;exact ⟨rfl,HH1.out.1⟩
 ·go_wp2;go_ret;exact ⟨rfl,HH1.out.1⟩
theorem sB (v:JV) (cs:List Value) (F:Nat->Prop) (w:World) (hv:VR w F cs v) (hc:cN v):Calls Tryz.prog 120 #[.agg cs.toArray] w λ e w'=>e=.returned (.bool (dz v))/\Below w.heap.size w w':=by
 obtain ⟨k,n,s,kids,keys⟩:=v;obtain ⟨A,B,ca,cb,css,rfl,_⟩:=hv.out;obtain ⟨_,_,_,hl1,hl2,_⟩:=hc.out;obtain ⟨nk,hnk⟩:∃ q,kids.length=q:=⟨_,rfl⟩
 obtain ⟨ny,hny⟩:∃ q,keys.length=q:=⟨_,rfl⟩
 have HZ:=aW (show dz (.mk k n s kids keys)=decide (k=0/\n=0/\s=[]/\nk+ny=0) by unfold dz;simp only [hnk,hny]);rw [hnk] at hl1 ⊢;rw [hny] at hl2 ⊢;have HH0:=aW ((aH.nil w).push 42 #[Zi Zq k,Zi Zq n,Zt ⟨s.toArray⟩,Zs A nk ca,Zs B ny cb] (g:=w.heap.size) rfl);clear hv hc hnk hny;rw [HZ.out];clear HZ;by_cases h1:k=0
 ·have e1:(k == 0)=true:=by simp [h1]
  have H1:=aW h1;clear h1;by_cases h2:n=0
  ·have e2:(n == 0)=true:=by simp [h2]
   have H2:=aW h2;clear h2;by_cases h3:s=[]
   ·subst h3;by_cases h4:nk+ny=0
    ·have e4:((nk:Int)+ny == 0)=true:=by rw [beq_iff_eq];omega
     have H4:=aW h4;clear h4;go_enter Tryz.func120,Tryz.ntmps120;go_wp2;go_ret;exact ⟨ak (by simp [H1.out,H2.out,H4.out,e4]),HH0.out.1⟩
    ·have e4:((nk:Int)+ny == 0)=false:=by rw [beq_eq_false_iff_ne];omega
     have H4:=aW h4;clear h4;go_enter Tryz.func120,Tryz.ntmps120;go_wp2;go_ret;exact ⟨ak (by have:=H4.out;simp [H1.out,H2.out,e4];omega),HH0.out.1⟩
   ·have e3:((ByteArray.mk s.toArray).toList == (ByteArray.mk #[]).toList)=false:=by
     rw [beq_eq_false_iff_ne,ByteArray.toList_eq,ByteArray.toList_eq];simpa using h3
    have H3:=aW h3;clear h3;go_enter Tryz.func120,Tryz.ntmps120;go_wp2;go_ret;exact ⟨ak (by simp [H3.out]),HH0.out.1⟩
  ·have e2:(n == 0)=false:=by simp [h2]
   have H2:=aW h2;clear h2;go_enter Tryz.func120,Tryz.ntmps120;go_wp2;go_ret;exact ⟨ak (by simp [H2.out]),HH0.out.1⟩
 ·have e1:(k == 0)=false:=by simp [h1]
  have H1:=aW h1;clear h1;go_enter Tryz.func120,Tryz.ntmps120;go_wp2;go_ret;exact ⟨ak (by simp [H1.out]),HH0.out.1⟩
theorem sy (v:JV) (cs:List Value) (F:Nat->Prop) (w:World) (hG:GOE w) (hv:VR w F cs v) (hc:cN v):Calls Tryz.prog 119 #[.agg cs.toArray] w λ e w'=>e=.returned (.bool (fW v))/\Below w.heap.size w w':=by
 have HV:=aW (λ (W:World) (h:Below w.heap.size w W)=>hv.bel h);obtain ⟨k,n,s,kids,keys⟩:=v;obtain ⟨A,B,ca,cb,css,rfl,_⟩:=hv.out;obtain ⟨nk,hnk⟩:∃ q,kids.length=q:=⟨_,rfl⟩
 obtain ⟨ny,hny⟩:∃ q,keys.length=q:=⟨_,rfl⟩
 have HZ:=aW (show fW (.mk k n s kids keys)=(dg (.mk k n s kids keys) && (decide (k=3/\0<=n) || decide (k=1∨k=2∨k=4))) from rfl);rw [hnk,hny] at HV ⊢;have HH0:=aW ((aH.nil w).push 42 #[Zi Zq k,Zi Zq n,Zt ⟨s.toArray⟩,Zs A nk ca,Zs B ny cb] (g:=w.heap.size) rfl);have HG:=aW hG.gok;have HC:=aW hc;obtain ⟨b,hb⟩:∃ b,dg (.mk k n s kids keys)=b:=⟨_,rfl⟩
 have HK:=aW (show sc (.mk k n s kids keys)=(if b=true then 0 else 140) by unfold sc;rw [hb]);rw [hb] at HZ;rw [HZ.out];clear hv hc hnk hny hb hG HZ;go_enter Tryz.func119,Tryz.ntmps119;go_wp2_with fail;refine (vm HK.out (HG.out.keep HH0.out.1) (HV.out _ HH0.out.1) HC.out).mono ?_;rintro e w1 ⟨rfl,hb1⟩;have HH1:=aW (HH0.out.keep hb1);clear hb1 HH0;obtain ⟨c0,f0,l0⟩:=HH1.out.b0.rules;cases b
 ·go_wp2;go_ret;exact ⟨rfl,HH1.out.1⟩
 ·by_cases h3:k=3
  ·have e3:(k == 3)=true:=by simp [h3]
   have H3:=aW h3;clear h3;go_wp2;go_ret;exact ⟨ak (by rw [Bool.eq_iff_iff];simp [H3.out]),HH1.out.1⟩
  ·have e3:(k == 3)=false:=by simp [h3]
   have H3:=aW h3;clear h3;by_cases h1:k=1
   ·have e1:(k == 1)=true:=by simp [h1]
    have H1:=aW h1;clear h1;go_wp2;go_ret;exact ⟨ak (by simp [H1.out]),HH1.out.1⟩
   ·have e1:(k == 1)=false:=by simp [h1]
    have H1:=aW h1;clear h1;by_cases h2:k=2
    ·have e2:(k == 2)=true:=by simp [h2]
     have H2:=aW h2;clear h2;go_wp2;go_ret;exact ⟨ak (by simp [H2.out]),HH1.out.1⟩
    ·have e2:(k == 2)=false:=by simp [h2]
     have H2:=aW h2;clear h2;by_cases h4:k=4
     ·have e4:(k == 4)=true:=by simp [h4]
      have H4:=aW h4;clear h4;go_wp2;go_ret;exact ⟨ak (by simp [H4.out]),HH1.out.1⟩
     ·have e4:(k == 4)=false:=by simp [h4]
      have H4:=aW h4;clear h4;go_wp2;go_ret;exact ⟨ak (by simp [H1.out,H2.out,H3.out,H4.out]),HH1.out.1⟩
end
section
section
variable {T:List al}
theorem ia (hT:WT T):∀ (n:Nat),(∀ lvl p,lvl<=8->p<T.length->12*(T.length-p)+(10-lvl)<=n->aB T (n+1) lvl p=aB T n lvl p)/\(∀ lvl x p,lvl<=7->p<T.length->12*(T.length-p)+11<=n->fC T (n+1) lvl x p=fC T n lvl x p) /\
  (∀ x p,p<T.length->12*(T.length-p)+1<=n->dB T (n+1) x p=dB T n x p)/\(∀ p,p<T.length->12*(T.length-p)+1<=n->bU T (n+1) p=bU T n p)/\(∀ acc p,p<T.length->12*(T.length-p)+11<=n->dA T (n+1) acc p=dA T n acc p)
 | 0=>⟨λ lvl p h1 hp h=>by omega,λ lvl x p h1 hp h=>by omega,λ x p hp h=>by omega,λ p hp h=>by omega,λ acc p hp h=>by omega⟩
 |n+1=>by
  obtain ⟨hE,hB,hP,hA,hL⟩:=ia hT n;refine ⟨λ lvl p hl hp h=>?_,λ lvl x p hl hp h=>?_,λ x p hp h=>?_,λ p hp h=>?_,λ acc p hp h=>?_⟩
  ·conv=>lhs;unfold aB
   conv=>rhs;unfold aB
   by_cases h37:lvl=3∨lvl=7
   ·rw [if_pos h37,if_pos h37];cases ho:dU T lvl p with
    | none=>exact hE (lvl+1) p (by omega) hp (by omega)
    | some k=>simp only;rw [hE lvl (p+1) hl (hT.next hp (eq ho)) (by omega)]
   ·rw [if_neg h37,if_neg h37];by_cases h8:8<=lvl
    ·rw [if_pos h8,if_pos h8,hA p hp (by omega)];have h1:=(lq hT n).2.2.2.1 p hp;cases hx:bU T n p with
     | bad q=>rfl
     | ok x q=>rw [hx] at h1;exact hP x q h1.2 (by have:=h1.1;omega)
    ·rw [if_neg h8,if_neg h8,hE (lvl+1) p (by omega) hp (by omega)];have h1:=(lq hT n).1 (lvl+1) p hp;cases hx:aB T n (lvl+1) p with
     | bad q=>rfl
     | ok x q=>rw [hx] at h1;exact hB lvl x q (by omega) h1.2 (by have:=h1.1;omega)
  ·conv=>lhs;unfold fC
   conv=>rhs;unfold fC
   cases ho:dU T lvl p with
   | none=>rfl
   |some k =>
    have h0:=hT.next hp (eq ho);simp only;rw [hE (lvl+1) (p+1) (by omega) h0 (by omega)];have h1:=(lq hT n).1 (lvl+1) (p+1) h0;cases hx:aB T n (lvl+1) (p+1) with
    | bad q=>rfl
    |ok y q =>
     rw [hx] at h1;simp only;split
     ·rfl
     ·exact hB lvl _ q hl h1.2 (by have:=h1.1;omega)
  ·conv=>lhs;unfold dB
   conv=>rhs;unfold dB
   by_cases hs:ao T p [46]=true
   ·rw [if_pos hs,if_pos hs];have h0:=hT.next hp (am hs);by_cases hk:tkK T (p+1)=1
    ·rw [if_pos hk,if_pos hk];exact hP _ (p+2) (hT.next h0 (by omega)) (by omega)
    ·rw [if_neg hk,if_neg hk]
   ·rw [if_neg hs,if_neg hs]
  ·conv=>lhs;unfold bU
   conv=>rhs;unfold bU
   split
   ·rfl
   split
   ·rfl
   split
   ·rfl
   split
   ·rfl
   split
   ·rfl
   split
   ·rfl
   split
   ·rename_i hs
    have h0:=hT.next hp (am hs);rw [hE 1 (p+1) (by omega) h0 (by omega)]
   split
   ·rename_i hs
    have h0:=hT.next hp (am hs);split
    ·rfl
    ·exact hL [] (p+1) h0 (by omega)
   ·rfl
  ·conv=>lhs;unfold dA
   conv=>rhs;unfold dA
   rw [hE 1 p (by omega) hp (by omega)];have h1:=(lq hT n).1 1 p hp;cases hx:aB T n 1 p with
   | bad q=>rfl
   |ok y q =>
    rw [hx] at h1;simp only;split
    ·rename_i hs;exact hL _ (q+1) (hT.next h1.2 (am hs)) (by have:=h1.1;omega)
    ·rfl
theorem wR {p:Nat} {k:Int} (hk:5<=k/\k<=15) (h:rdT T p=opK k):dU T (wI k) p=some k/\(∀ l,l≠wI k->dU T l p=none)/\ao T p [46]=false:=by
 have h11:k=5∨k=6∨k=7∨k=8∨k=9∨k=10∨k=11∨k=12∨k=13∨k=14∨k=15:=by omega
 rcases h11 with rfl | rfl | rfl | rfl | rfl | rfl | rfl | rfl | rfl | rfl | rfl
 all_goals
  refine ⟨?_,λ l hl=>?_,?_⟩
  ·show eI T p (es _)=_
   rw [mK h (by decide)];rfl
  ·show eI T p (es l)=_
   rw [mK h (by decide)];rcases l with _ | _ | _ | _ | _ | _ | _ | _ | l
   all_goals first | rfl | exact absurd rfl hl
  ·rw [qz h];decide
def mL:List (List UInt8):=[[111,114],[97,110,100],[110,111,116],[61,61],[60],[60,61],[43],[45],[42],[115,105,122,101],[107,105,110,100]]
theorem th:∀ (l:Nat) (x:List UInt8 × Int),x ∈ es l->x.1 ∈ mL
 | 0,x,h=>by cases h
 | 1,x,h=>by simp [es] at h;subst h;decide
 | 2,x,h=>by simp [es] at h;subst h;decide
 | 3,x,h=>by simp [es] at h;subst h;decide
 | 4,x,h=>by simp [es] at h;rcases h with rfl | rfl | rfl<;>decide
 | 5,x,h=>by simp [es] at h;rcases h with rfl | rfl<;>decide
 | 6,x,h=>by simp [es] at h;subst h;decide
 | 7,x,h=>by simp [es] at h;rcases h with rfl | rfl<;>decide
 | _+8,x,h=>by cases h
theorem lQ {p:Nat}:∀ {l:List (List UInt8 × Int)},(∀ x ∈ l,ao T p x.1=false)->eI T p l=none
 | [],_=>rfl
 |x::r,h=>by
  unfold eI;rw [if_neg (by rw [h x List.mem_cons_self];decide)];exact lQ λ y hy=>h y (List.mem_cons_of_mem _ hy)
theorem uS {p:Nat} {k:Int} {t:List UInt8} {n:Int} (h:rdT T p=(k,t,n)) (ht:¬ (k=5∨k=2)∨t ∉ mL) (l:Nat):dU T l p=none:=by
 refine lQ λ x hx=>?_
 rw [qz h,decide_eq_false_iff_not];rintro ⟨h1,h2⟩;rcases ht with ht | ht
 ·exact ht h1
 ·exact ht (h2 ▸ th l x hx)
def dC (T:List al) (lvl q:Nat):Prop:=(∀ l,lvl<=l->l≠3->l≠7->dU T l q=none)/\ao T q [46]=false
theorem dC.mono {l l' q:Nat} (h:dC T l q) (hl:l<=l'):dC T l' q:=⟨λ m hm=>h.1 m (by omega),h.2⟩
theorem dC.of {q:Nat} {k:Int} {t:List UInt8} {n:Int} (h:rdT T q=(k,t,n)) (ht:t ∉ mL) (h46:t≠[46]) (l:Nat):dC T l q :=
 ⟨λ m _ _ _=>uS h (.inr ht) m,by rw [qz h,decide_eq_false_iff_not];exact λ h=>h46 h.2⟩
theorem dC.op {q:Nat} {k:Int} (hk:5<=k/\k<=15) (h:rdT T q=opK k) {l:Nat} (hl:wI k<l):dC T l q:=by
 obtain ⟨_,h2,h3⟩:=wR hk h;exact ⟨λ m hm _ _=>h2 m (by omega),h3⟩
end
section
variable {T:List al} {x:EJ}
end
section
variable {T:List al}
theorem pF (hT:WT T):∀ (n:Nat),(∀ acc p,p<T.length->12*(T.length-p)+1<=n->bE T (n+1) acc p=bE T n acc p)/\(∀ p,p<T.length->12*(T.length-p)+1<=n->bc T (n+1) p=bc T n p)
 | 0=>⟨λ acc p hp h=>by omega,λ p hp h=>by omega⟩
 |n+1=>by
  obtain ⟨hS,hK⟩:=pF hT n;have hE:=(ia hT n).1;have hI:=λ p hp=>dr hT n 1 p hp
  have hIK:=(pG hT n).2;have hIS:=(pG hT n).1;refine ⟨λ acc p hp h=>?_,λ p hp h=>?_⟩
  ·conv=>lhs;unfold bE
   conv=>rhs;unfold bE
   split
   ·rename_i hs
    have h0:=hT.next hp (am hs);have h1:=hI (p+1) h0;rw [hE 1 (p+1) (by omega) h0 (by omega)];cases hx:aB T n 1 (p+1) with
    | bad q=>rfl
    |ok a q =>
     rw [hx] at h1;simp only;split
     ·rename_i hs2
      have h2:=hT.next h1.2 (am hs2);have h3:=hI (q+1) h2;rw [hE 1 (q+1) (by omega) h2 (by have:=h1.1;omega)];cases hy:aB T n 1 (q+1) with
      | bad r=>rfl
      |ok b r =>
       rw [hy] at h3;simp only;split
       ·rename_i hs3;exact hS _ (r+1) (hT.next h3.2 (am hs3)) (by have:=h1.1;have:=h3.1;omega)
       ·rfl
     ·rfl
   split
   ·rename_i hs
    have h0:=hT.next hp (am hs);have h1:=hI (p+1) h0;rw [hE 1 (p+1) (by omega) h0 (by omega)];cases hx:aB T n 1 (p+1) with
    | bad q=>rfl
    |ok a q =>
     rw [hx] at h1;simp only;rw [hK q h1.2 (by have:=h1.1;omega)];have h2:=hIK q h1.2;cases hy:bc T n q with
     | bad r=>rfl
     |ok body r =>
      rw [hy] at h2;simp only;split
      ·rename_i hs3
       have h4:=hT.next h2.2 (am hs3);rw [hK (r+1) h4 (by have:=h1.1;have:=h2.1;omega)];have h5:=hIK (r+1) h4;cases hz:bc T n (r+1) with
       | bad u=>rfl
       | ok els u=>rw [hz] at h5;exact hS _ u h5.2 (by have:=h1.1;have:=h2.1;have:=h5.1;omega)
      ·exact hS _ r h2.2 (by have:=h1.1;have:=h2.1;omega)
   split
   ·rename_i hs
    have h0:=hT.next hp (am hs);split
    ·rename_i hk
     have h9:=hT.next h0 (by omega);split
     ·rename_i hs2
      have h8:=hT.next h9 (am hs2);have h1:=hI (p+3) h8;rw [hE 1 (p+3) (by omega) h8 (by omega)];cases hx:aB T n 1 (p+3) with
      | bad q=>rfl
      |ok a q =>
       rw [hx] at h1;simp only;rw [hK q h1.2 (by have:=h1.1;omega)];have h2:=hIK q h1.2;cases hy:bc T n q with
       | bad r=>rfl
       | ok body r=>rw [hy] at h2;exact hS _ r h2.2 (by have:=h1.1;have:=h2.1;omega)
     ·rfl
    ·rfl
   ·rfl
  ·conv=>lhs;unfold bc
   conv=>rhs;unfold bc
   split
   ·rename_i hs
    have h0:=hT.next hp (am hs);rw [hS [] (p+1) h0 (by omega)]
   ·rfl
end
end
end Go.Proofs.YtgmnmnnoahdjnaaGreatDoor
