import Derived.Test.YtgmnmnnoahdjnaaGreatDoorC17
import Derived.Test.YtgmnmnnoahdjnaaGreatDoorC18
import Derived.Deep.WholeRow
open Go.Value renaming int → Zi, slice → Zs, string → Zt, pointer → Zp
open Go.IntKind renaming i64 → Zq
set_option maxRecDepth 100000
set_option maxHeartbeats 16000000
set_option linter.unusedVariables false
set_option linter.unusedSimpArgs false
namespace Go.Proofs.YtgmnmnnoahdjnaaGreatDoor
section
open Go.RowKit
attribute [local go_sem] aa ac ae ab
structure GOE (w:World):Prop where
 gok:GOK w
 lt:0<w.heap.size
 c0:w.cell? ⟨0,0,none⟩=some (Zt ⟨#[]⟩)
 c1:w.cell? ⟨0,1,none⟩=some (Zi Zq 0)
 c2:w.cell? ⟨0,2,none⟩=some (Zi Zq 0)
theorem GOE.keep {w w':World} (h:GOE w) (hb:Below w.heap.size w w'):GOE w' :=
 ⟨h.gok.keep hb,Nat.lt_of_lt_of_le h.lt hb.size,(hb.cell (p:=⟨0,0,none⟩) h.lt).trans h.c0,(hb.cell (p:=⟨0,1,none⟩) h.lt).trans h.c1,(hb.cell (p:=⟨0,2,none⟩) h.lt).trans h.c2⟩
def gc:List (List UInt8 × Int × Int):=[([111,114],15,1),([97,110,100],14,2),([61,61],11,4),([60],12,4),([60,61],13,4),([43],9,5),([45],10,5),([42],8,6),([110,111,116],5,3),([115,105,122,101],6,7),([107,105,110,100],7,7)]
def cT (o:List UInt8 × Int × Int):List Value:=[Zt ⟨o.1.toArray⟩,Zi Zq o.2.1,Zi Zq o.2.2]
def z8:Value:=.agg #[Zt ⟨#[111,114]⟩,Zi Zq 15,Zi Zq 1,Zt ⟨#[97,110,100]⟩,Zi Zq 14,Zi Zq 2,Zt ⟨#[61,61]⟩,Zi Zq 11,Zi Zq 4,Zt ⟨#[60]⟩,Zi Zq 12,Zi Zq 4,Zt ⟨#[60,61]⟩,Zi Zq 13,Zi Zq 4,Zt ⟨#[43]⟩,Zi Zq 9,Zi Zq 5,Zt ⟨#[45]⟩,Zi Zq 10,Zi Zq 5,Zt ⟨#[42]⟩,Zi Zq 8,Zi Zq 6,Zt ⟨#[110,111,116]⟩,Zi Zq 5,Zi Zq 3,Zt ⟨#[115,105,122,101]⟩,Zi Zq 6,Zi Zq 7,Zt ⟨#[107,105,110,100]⟩,Zi Zq 7,Zi Zq 7]
def fH:List UInt8 × Int × Int:=([],0,0)
def ofJ (k:Int):List UInt8 × Int × Int:=(gc.find? λ o=>decide (o.2.1=k)).getD fH
theorem kg {P:Program} {op:Oper} {a:Act} {w:World} {K:Act->World->Prop} {Q:Exit->Act->World->Prop} (ty:TypeId) (x y:Operand) (ho:op.op=.store ty x y)
  (old cells:Array Value) (hx:a.eval x=Zp (some ⟨w.heap.size,0,none⟩)) (hy:a.eval y=.agg cells)
  (hi:(P.info? ty).map (·.size)=some cells.size) (hs:old.size=cells.size) (h1:cells.all (·.oneCell')=true)
  (h:K (a.put op.dst undef) (w.alloc (.cells cells ty))):op.wp P a (w.alloc (.cells old ty)) K Q:=by
 unfold Oper.wp execOp;simp only [ho,hx,hy,Instr.storeAt,Instr.sureAddr,Sem.run_bind,Sem.run_pure,Result.andThen_ok,run_storeVar_new w ty old cells hi hs h1];exact h
theorem cP {P:Program} {fn:Func} {tmps:Array Value} {a:Nat} {t:TypeId} {ad:Addr} {v:Value} {w:World} (hf:fn.results=#[ResultVar.cell a t]) (hx:tmps.getD a undef=Zp (some ad)) (hl:(loadVar t ad).run P w=.ok v w):(results fn tmps).run P w=.ok v w:=by
 unfold results;rw [hf];have hx':tmps[a]?.getD undef=Zp (some ad):=by simpa using hx
 simp [hx',asAddr,hl,Sem.run_bind,Result.andThen]
theorem lZ (w:World):Calls Tryz.prog 157 #[] w λ e w'=>e=.returned z8/\Below w.heap.size w w':=by
 go_enter Tryz.func157,Tryz.ntmps157;go_step;go_step;go_step;go_step;go_step;go_step;go_step;go_step;go_step;go_step;go_step;go_step;go_step;go_step;go_step;go_step;go_step;go_step;go_step;go_step;go_step;go_step;go_step;go_step;go_step;go_step;go_step;go_step;go_step;go_step;go_step;go_step;go_step;go_step;go_step;go_step;go_step;go_step;go_step;go_step;go_step;go_step;go_step;go_step;go_step;go_step;go_step;go_step;refine kg 190 (.tmp 0) (.tmp 12) rfl _ _ rfl rfl (by kernel_rfl) (by kernel_rfl) (by kernel_rfl) ?_;go_wp2;refine bodyPost_ret (v:=z8) (cP Tryz.results157 rfl (run_loadVar_new w 190 _ 11 154 Tryz.underlying190 (by kernel_rfl))) rfl ?_;exact ⟨rfl,(Below.refl _ w).alloc (Nat.le_refl _) _⟩
theorem wG (k:Nat) (h:k<11) (w:World):(Instr.index 190 z8 (Zi Zq (k:Int))).run Tryz.prog w=.ok (.agg (cT (gc.getD k fH)).toArray) w:=by
 rcases (by omega:k=0∨k=1∨k=2∨k=3∨k=4∨k=5∨k=6∨k=7∨k=8∨k=9∨k=10) with rfl | rfl | rfl | rfl | rfl | rfl | rfl | rfl | rfl | rfl | rfl<;>kernel_rfl
theorem sW {k:Int}:∀ {l:List (List UInt8 × Int × Int)} {i:Nat},i<l.length->(∀ j,j<i->(l.getD j fH).2.1≠k)->(l.getD i fH).2.1=k->(l.find? λ o=>decide (o.2.1=k)).getD fH=l.getD i fH
 |x::r,0,h,_,e=>by
  have e:x.2.1=k:=by simpa using e
  simp [e]
 |x::r,i+1,h,hj,e=>by
  have hx:x.2.1≠k:=by simpa using hj 0 (by omega)
  rw [List.find?_cons,decide_eq_false hx];simp only [List.getD_cons_succ];exact sW (by simpa using h) (λ j hj'=>by simpa using hj (j+1) (by omega)) (by simpa using e)
theorem oZ {k:Int}:∀ {l:List (List UInt8 × Int × Int)},(∀ j,j<l.length->(l.getD j fH).2.1≠k)->(l.find? λ o=>decide (o.2.1=k)).getD fH=fH
 | [],_=>rfl
 |x::r,hj=>by
  have hx:x.2.1≠k:=by simpa using hj 0 (by simp)
  rw [List.find?_cons,decide_eq_false hx];exact oZ λ j h=>by simpa using hj (j+1) (by simpa using h)
theorem kP {B:Nat} {w W:World} (h:Below B w W) {g:Nat} (hg:B<=g) (a b c:Value):Below B w (((W.setCell ⟨g,0,none⟩ a).setCell ⟨g,1,none⟩ b).setCell ⟨g,2,none⟩ c) :=
 ((h.setCell (p:=⟨g,0,none⟩) hg a).setCell (p:=⟨g,1,none⟩) hg b).setCell (p:=⟨g,2,none⟩) hg c
def OfP (k:Int) (w:World) (e:Ending) (w':World):Prop:=e=.returned (.agg (cT (ofJ k)).toArray)/\Below w.heap.size w w'
theorem eOf (q:Int) (w:World) (hG:GOE w):Calls Tryz.prog 113 #[Zi Zq q] w (OfP q w):=by
 have HG:=aW hG;have HH0:=aW ((aT.nil w).push 154 #[Zt ⟨#[]⟩,Zi Zq 0,Zi Zq 0] (g:=w.heap.size) rfl);clear hG;go_enter Tryz.func113,Tryz.ntmps113;go_wp2_with fail;refine (lZ _).mono ?_;rintro e w1 ⟨rfl,hb1⟩;have HH1:=aW (HH0.out.keep hb1);clear hb1 HH0;go_wp2;go_loopw [4,6] (λ _ i wr => ∃ k:Nat,k<=11/\i=Zi Zq k/\Hid (aT [(w.heap.size,154,#[Zt ⟨#[]⟩,Zi Zq 0,Zi Zq 0])] w wr)/\Hid (∀ j,j<k->(gc.getD j fH).2.1≠q)) (λ _ i _=>11-(intOf i).toNat)
 case atStart=>exact ⟨0,by omega,rfl,HH1,aW (by intro j hj;omega)⟩
 case round =>
  obtain ⟨k,hk,rfl,HH,HN⟩:=hrel;by_cases h11:k<11
  ·have hix:=λ W=>wG k h11 W
   obtain ⟨⟨t,q1,q2⟩,hx⟩:∃ x,gc.getD k fH=x:=⟨_,rfl⟩
   rw [hx] at hix;unfold cT at hix;simp only at hix;have HX:=aW hx;clear hx;have HH2:=aW (HH.out.push 154 #[Zt ⟨t.toArray⟩,Zi Zq q1,Zi Zq q2] (g:=wr.heap.size) rfl);obtain ⟨c1,f1,l1⟩:=HH.out.b0.rules;by_cases hq:q1=q
   ·have HR:=aW (show ofJ q=(t,q1,q2) by unfold ofJ;rw [sW (l:=gc) (i:=k) h11 HN.out (by rw [HX.out];exact hq),HX.out]);have hqe:(q1 == q)=true:=by simp [hq]
    go_wp2;refine bodyPost_ret (v:=.agg #[Zt ⟨t.toArray⟩,Zi Zq q,Zi Zq q2]) (by simp only [results,Tryz.results113];go_simp) rfl ?_;exact ⟨by rw [HR.out,← hq];rfl,(kP HH.out.1 (Nat.le_refl _) _ _ _).alloc (by have:=HH.out.1.size;simpa using this) _⟩
   ·have hqe:(q1 == q)=false:=by simp [hq]
    go_wp2;go_roundw
    case rel=>exact ⟨k+1,by omega,by go_num,aW HH2.out.pop,aW (λ j hj=>by
     by_cases hjk:j=k
     ·rw [hjk,HX.out];exact hq
     ·exact HN.out j (by omega))⟩
    case measure=>simp [intOf];omega
  ·obtain rfl:k=11:=by omega
   have HR:=aW (show ofJ q=fH by unfold ofJ;exact oZ (λ j hj=>HN.out j hj));have hg:=HG.out.keep HH.out.1;have hg0:=hg.c0;have hg1:=hg.c1;have hg2:=hg.c2;clear hg;obtain ⟨c0,f0,l0⟩:=HH.out.b0.rules;go_wp2;refine bodyPost_ret (v:=.agg #[Zt ⟨#[]⟩,Zi Zq 0,Zi Zq 0]) (by simp only [results,Tryz.results113];go_simp) rfl ?_;exact ⟨by rw [HR.out];rfl,kP HH.out.1 (Nat.le_refl _) _ _ _⟩
theorem oW (t:ByteArray) (k l:Int) (w:World):Calls Tryz.prog 115 #[.agg #[Zt t,Zi Zq k,Zi Zq l]] w λ e w'=>e=.returned (.bool (decide (l=3∨l=7)))/\Below w.heap.size w w':=by
 have HH0:=aW ((aT.nil w).push 154 #[Zt t,Zi Zq k,Zi Zq l] (g:=w.heap.size) rfl);by_cases h3:l=3
 ·have h1:(l == 3)=true:=by simp [h3]
  have H3:=aW h3;clear h3;go_enter Tryz.func115,Tryz.ntmps115;go_wp2;go_ret;exact ⟨av (by simp [H3.out]),HH0.out.1⟩
 ·have h1:(l == 3)=false:=by simp [h3]
  go_enter Tryz.func115,Tryz.ntmps115;go_wp2;go_ret;exact ⟨av (by rw [Bool.eq_iff_iff];simp [h3]),HH0.out.1⟩
def th (l:Int):Nat:=if l=3∨l=7 then 1 else 2
theorem AQ (t:ByteArray) (k l:Int) (w:World):Calls Tryz.prog 121 #[.agg #[Zt t,Zi Zq k,Zi Zq l]] w λ e w'=>e=.returned (Zi Zq (th l))/\Below w.heap.size w w':=by
 have HH0:=aW ((aT.nil w).push 154 #[Zt t,Zi Zq k,Zi Zq l] (g:=w.heap.size) rfl);unfold th;obtain ⟨b,hb⟩:∃ b,decide (l=3∨l=7)=b:=⟨_,rfl⟩
 have HA:=aW (λ W=>oW t k l W);rw [hb] at HA;have hn:(if l=3∨l=7 then 1 else 2)=(if b=true then 1 else 2):=by rw [← hb];simp
 rw [hn];clear hn hb;go_enter Tryz.func121,Tryz.ntmps121;go_wp2_with fail;refine (HA.out _).mono ?_;rintro e w1 ⟨rfl,hb1⟩;have HH1:=aW (HH0.out.keep hb1);clear hb1;cases b
 ·go_wp2;go_ret;exact ⟨rfl,HH1.out.1⟩
 ·go_wp2;go_ret;exact ⟨rfl,HH1.out.1⟩
theorem vB (v:JV) (cs:List Value) (F:Nat->Prop) (w:World) (hv:VR w F cs v) (hc:dq v):Calls Tryz.prog 120 #[.agg cs.toArray] w λ e w'=>e=.returned (.bool (ig v))/\Below w.heap.size w w':=by
 obtain ⟨k,n,s,kids,keys⟩:=v;obtain ⟨A,B,ca,cb,css,rfl,_⟩:=hv.out;obtain ⟨_,_,_,hl1,hl2,_⟩:=hc.out;obtain ⟨nk,hnk⟩:∃ q,kids.length=q:=⟨_,rfl⟩
 obtain ⟨ny,hny⟩:∃ q,keys.length=q:=⟨_,rfl⟩
 have HZ:=aW (show ig (.mk k n s kids keys)=decide (k=0/\n=0/\s=[]/\nk+ny=0) by unfold ig;simp only [hnk,hny]);rw [hnk] at hl1 ⊢;rw [hny] at hl2 ⊢;have HH0:=aW ((aT.nil w).push 42 #[Zi Zq k,Zi Zq n,Zt ⟨s.toArray⟩,Zs A nk ca,Zs B ny cb] (g:=w.heap.size) rfl);clear hv hc hnk hny;rw [HZ.out];clear HZ;by_cases h1:k=0
 ·have e1:(k == 0)=true:=by simp [h1]
  have H1:=aW h1;clear h1;by_cases h2:n=0
  ·have e2:(n == 0)=true:=by simp [h2]
   have H2:=aW h2;clear h2;by_cases h3:s=[]
   ·subst h3;by_cases h4:nk+ny=0
    ·have e4:((nk:Int)+ny == 0)=true:=by rw [beq_iff_eq];omega
     have H4:=aW h4;clear h4;go_enter Tryz.func120,Tryz.ntmps120;go_wp2;go_ret;exact ⟨av (by simp [H1.out,H2.out,H4.out,e4]),HH0.out.1⟩
    ·have e4:((nk:Int)+ny == 0)=false:=by rw [beq_eq_false_iff_ne];omega
     have H4:=aW h4;clear h4;go_enter Tryz.func120,Tryz.ntmps120;go_wp2;go_ret;exact ⟨av (by have:=H4.out;simp [H1.out,H2.out,e4];omega),HH0.out.1⟩
   ·have e3:((ByteArray.mk s.toArray).toList == (ByteArray.mk #[]).toList)=false:=by
     rw [beq_eq_false_iff_ne,ByteArray.toList_eq,ByteArray.toList_eq];simpa using h3
    have H3:=aW h3;clear h3;go_enter Tryz.func120,Tryz.ntmps120;go_wp2;go_ret;exact ⟨av (by simp [H3.out]),HH0.out.1⟩
  ·have e2:(n == 0)=false:=by simp [h2]
   have H2:=aW h2;clear h2;go_enter Tryz.func120,Tryz.ntmps120;go_wp2;go_ret;exact ⟨av (by simp [H2.out]),HH0.out.1⟩
 ·have e1:(k == 0)=false:=by simp [h1]
  have H1:=aW h1;clear h1;go_enter Tryz.func120,Tryz.ntmps120;go_wp2;go_ret;exact ⟨av (by simp [H1.out]),HH0.out.1⟩
theorem vz (v:JV) (cs:List Value) (F:Nat->Prop) (w:World) (hG:GOE w) (hv:VR w F cs v) (hc:dq v):Calls Tryz.prog 119 #[.agg cs.toArray] w λ e w'=>e=.returned (.bool (fR v))/\Below w.heap.size w w':=by
 have HV:=aW (λ (W:World) (h:Below w.heap.size w W)=>hv.bel h);obtain ⟨k,n,s,kids,keys⟩:=v;obtain ⟨A,B,ca,cb,css,rfl,_⟩:=hv.out;obtain ⟨nk,hnk⟩:∃ q,kids.length=q:=⟨_,rfl⟩
 obtain ⟨ny,hny⟩:∃ q,keys.length=q:=⟨_,rfl⟩
 have HZ:=aW (show fR (.mk k n s kids keys)=(fY (.mk k n s kids keys) && (decide (k=3/\0<=n) || decide (k=1∨k=2∨k=4))) from rfl);rw [hnk,hny] at HV ⊢;have HH0:=aW ((aT.nil w).push 42 #[Zi Zq k,Zi Zq n,Zt ⟨s.toArray⟩,Zs A nk ca,Zs B ny cb] (g:=w.heap.size) rfl);have HG:=aW hG.gok;have HC:=aW hc;obtain ⟨b,hb⟩:∃ b,fY (.mk k n s kids keys)=b:=⟨_,rfl⟩
 have HK:=aW (show vo (.mk k n s kids keys)=(if b=true then 0 else 140) by unfold vo;rw [hb]);rw [hb] at HZ;rw [HZ.out];clear hv hc hnk hny hb hG HZ;go_enter Tryz.func119,Tryz.ntmps119;go_wp2_with fail;refine (yH HK.out (HG.out.keep HH0.out.1) (HV.out _ HH0.out.1) HC.out).mono ?_;rintro e w1 ⟨rfl,hb1⟩;have HH1:=aW (HH0.out.keep hb1);clear hb1 HH0;obtain ⟨c0,f0,l0⟩:=HH1.out.b0.rules;cases b
 ·go_wp2;go_ret;exact ⟨rfl,HH1.out.1⟩
 ·by_cases h3:k=3
  ·have e3:(k == 3)=true:=by simp [h3]
   have H3:=aW h3;clear h3;go_wp2;go_ret;exact ⟨av (by rw [Bool.eq_iff_iff];simp [H3.out]),HH1.out.1⟩
  ·have e3:(k == 3)=false:=by simp [h3]
   have H3:=aW h3;clear h3;by_cases h1:k=1
   ·have e1:(k == 1)=true:=by simp [h1]
    have H1:=aW h1;clear h1;go_wp2;go_ret;exact ⟨av (by simp [H1.out]),HH1.out.1⟩
   ·have e1:(k == 1)=false:=by simp [h1]
    have H1:=aW h1;clear h1;by_cases h2:k=2
    ·have e2:(k == 2)=true:=by simp [h2]
     have H2:=aW h2;clear h2;go_wp2;go_ret;exact ⟨av (by simp [H2.out]),HH1.out.1⟩
    ·have e2:(k == 2)=false:=by simp [h2]
     have H2:=aW h2;clear h2;by_cases h4:k=4
     ·have e4:(k == 4)=true:=by simp [h4]
      have H4:=aW h4;clear h4;go_wp2;go_ret;exact ⟨av (by simp [H4.out]),HH1.out.1⟩
     ·have e4:(k == 4)=false:=by simp [h4]
      have H4:=aW h4;clear h4;go_wp2;go_ret;exact ⟨av (by simp [H1.out,H2.out,H3.out,H4.out]),HH1.out.1⟩
end
end Go.Proofs.YtgmnmnnoahdjnaaGreatDoor
