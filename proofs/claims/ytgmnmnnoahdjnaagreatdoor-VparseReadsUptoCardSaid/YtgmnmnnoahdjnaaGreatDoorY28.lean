import Derived.Test.YtgmnmnnoahdjnaaGreatDoorY26
import Derived.Test.YtgmnmnnoahdjnaaGreatDoorY25
open Go.Value renaming int → Zi, slice → Zs, string → Zt, pointer → Zp
open Go.IntKind renaming i64 → Zq
set_option maxRecDepth 100000
set_option maxHeartbeats 16000000
set_option linter.unusedVariables false
set_option linter.unusedSimpArgs false
namespace Go.Proofs.YtgmnmnnoahdjnaaGreatDoor
section
open Go.RowKit
attribute [local go_sem] aa ac ae ab
theorem yG (k:Int) (w:World):Calls Tryz.prog 125 #[Zi Zq k] w λ e w'=>e=.returned (Zi Zq (bt k))/\w'=w:=by
 by_cases h15:k=15
 ·subst h15;go_enter Tryz.func125,Tryz.ntmps125;go_wp2;go_ret;exact ⟨rfl,rfl⟩
 by_cases h14:k=14
 ·subst h14;go_enter Tryz.func125,Tryz.ntmps125;go_wp2;go_ret;exact ⟨rfl,rfl⟩
 by_cases h5:k=5
 ·subst h5;go_enter Tryz.func125,Tryz.ntmps125;go_wp2;go_ret;exact ⟨rfl,rfl⟩
 by_cases h11:k=11
 ·subst h11;go_enter Tryz.func125,Tryz.ntmps125;go_wp2;go_ret;exact ⟨rfl,rfl⟩
 by_cases h12:k=12
 ·subst h12;go_enter Tryz.func125,Tryz.ntmps125;go_wp2;go_ret;exact ⟨rfl,rfl⟩
 by_cases h13:k=13
 ·subst h13;go_enter Tryz.func125,Tryz.ntmps125;go_wp2;go_ret;exact ⟨rfl,rfl⟩
 by_cases h9:k=9
 ·subst h9;go_enter Tryz.func125,Tryz.ntmps125;go_wp2;go_ret;exact ⟨rfl,rfl⟩
 by_cases h10:k=10
 ·subst h10;go_enter Tryz.func125,Tryz.ntmps125;go_wp2;go_ret;exact ⟨rfl,rfl⟩
 by_cases h8:k=8
 ·subst h8;go_enter Tryz.func125,Tryz.ntmps125;go_wp2;go_ret;exact ⟨rfl,rfl⟩
 by_cases h6:k=6
 ·subst h6;go_enter Tryz.func125,Tryz.ntmps125;go_wp2;go_ret;exact ⟨rfl,rfl⟩
 by_cases h7:k=7
 ·subst h7;go_enter Tryz.func125,Tryz.ntmps125;go_wp2;go_ret;exact ⟨rfl,rfl⟩
 by_cases h3:k=3
 ·subst h3;go_enter Tryz.func125,Tryz.ntmps125;go_wp2;go_ret;exact ⟨rfl,rfl⟩
 have HL:=aW (show (bt k:Int)=9 by unfold bt;(repeat' split)<;>omega);have e15:(k == 15)=false:=by simp [h15]
 have e14:(k == 14)=false:=by simp [h14]
 have e5:(k == 5)=false:=by simp [h5]
 have e11:(k == 11)=false:=by simp [h11]
 have e12:(k == 12)=false:=by simp [h12]
 have e13:(k == 13)=false:=by simp [h13]
 have e9:(k == 9)=false:=by simp [h9]
 have e10:(k == 10)=false:=by simp [h10]
 have e8:(k == 8)=false:=by simp [h8]
 have e6:(k == 6)=false:=by simp [h6]
 have e7:(k == 7)=false:=by simp [h7]
 have e3:(k == 3)=false:=by simp [h3]
 go_enter Tryz.func125,Tryz.ntmps125;go_wp2;go_ret;exact ⟨by rw [HL.out];rfl,rfl⟩
theorem xJ (k:Int) (w:World) (hk:5<=k/\k<=15):Calls Tryz.prog 127 #[Zi Zq k] w λ e w'=>e=.returned (Zt ⟨(bF (opK k)).toArray⟩)/\w'=w:=by
 rcases (by omega:k=15∨k=14∨k=5∨k=11∨k=12∨k=13∨k=9∨k=10∨k=8∨k=6∨k=7) with rfl | rfl | rfl | rfl | rfl | rfl | rfl | rfl | rfl | rfl | rfl
 all_goals
  go_enter Tryz.func127,Tryz.ntmps127;go_wp2;go_ret;exact ⟨rfl,rfl⟩
macro "bel_sets" h:term:tactic => `(tactic| (repeat' (first | exact $h | refine Below.setCell ?_ ?_ _ | refine Below.drew ?_ | (dsimp only;omega))))
structure bW (W:World) (A:Option Addr) (nT:Nat) (T:List ap):Prop where
 rd:RdF W TT A (aG T)
 len:T.length=nT
 few:nT<=1000
def tkV (A:Option Addr) (nT cap p:Nat) (b:Bool):Value:=.agg #[Zs A nT cap,Zi Zq p,.bool b]
section
variable {W W':World} {A:Option Addr} {nT cap:Nat} {T:List ap} {p q:Nat}
theorem bW.keep (h:bW W A nT T) (hb:Below W.heap.size W W'):bW W' A nT T:=⟨h.rd.keep (af.of_below hb),h.len,h.few⟩
theorem bW.tok (h:bW W A nT T) (hq:q<nT):∃ b o,A=some ⟨b,o,none⟩/\b<W.heap.size/\W.cell? ⟨b,o+q*4,none⟩=some (Zi Zq (tkK T q))/\W.cell? ⟨b,o+q*4+1,none⟩=some (Zi Zq (tkA T q:Nat)) /\
   W.cell? ⟨b,o+q*4+2,none⟩=some (Zt ⟨(tkT T q).toArray⟩)/\W.cell? ⟨b,o+q*4+3,none⟩=some (Zi Zq (tkN T q)):=by
 have hl:=h.len;have hx:T[q]? = some T[q]:=List.getElem?_eq_getElem (by omega);obtain ⟨b,o,e,hb,h0,h1,h2,h3⟩:=h.rd.rd.tok hx;refine ⟨b,o,e,hb,?_,?_,?_,?_⟩
 ·unfold tkK;rw [hx];exact h0
 ·unfold tkA;rw [hx];exact h1
 ·unfold tkT;rw [hx];exact h2
 ·unfold tkN;rw [hx];exact h3
end
theorem nV (s:List UInt8) (W:World) (A:Option Addr) (nT cap:Nat) (T:List ap) (p:Nat) (b:Bool) (hV:bW W A nT T) (hp:p<nT) :
  Calls Tryz.prog 90 #[tkV A nT cap p b,Zt ⟨s.toArray⟩] W (sS (!b && al T p s) W):=by
 obtain ⟨d,o,rfl,hb,x0,x1,x2,x3⟩:=hV.tok hp;have hS:al T p s=decide ((tkK T p=5∨tkK T p=2)/\tkT T p=s):=rfl;obtain ⟨k,hk⟩:∃ k,tkK T p=k:=⟨_,rfl⟩
 obtain ⟨t,ht⟩:∃ t,tkT T p=t:=⟨_,rfl⟩
 obtain ⟨at_,hat⟩:∃ a,tkA T p=a:=⟨_,rfl⟩
 obtain ⟨m,hm⟩:∃ a,tkN T p=a:=⟨_,rfl⟩
 rw [hk] at x0 hS;rw [ht] at x2 hS;rw [hat] at x1;rw [hm] at x3;rw [hS];obtain ⟨tb,htb⟩:∃ tb,decide (t=s)=tb:=⟨_,rfl⟩
 have hres:decide ((k=5∨k=2)/\t=s)=(decide (k=5∨k=2) && tb):=by rw [← htb,Bool.decide_and]
 rw [hres];have e1:(t == s)=tb:=by rw [← htb,Bool.eq_iff_iff];simp
 have e2:((⟨t.toArray⟩:ByteArray).toList == (⟨s.toArray⟩:ByteArray).toList)=tb:=by rw [dV];exact htb
 have hn:=hV.few;have hpi:(p:Int)<(nT:Int):=by omega
 unfold tkV;clear hV hS hk ht hat hm hres htb;have key:∀ r:Bool,r=(!b && (decide (k=5∨k=2) && tb))->Calls Tryz.prog 90 #[.agg #[Zs (some ⟨d,o,none⟩) nT cap,Zi Zq p,.bool b],Zt ⟨s.toArray⟩] W (sS r W):=by
  intro r hr;cases b
  ·by_cases h5:k=5
   ·have k5:(k == 5)=true:=by simp [h5]
    have k2:(k == 2)=false:=by simp [h5]
    have HR:=aW (show r=tb by rw [hr,h5];simp);clear hr h5;go_enter Tryz.func90,Tryz.ntmps90;go_wp2;go_ret;exact ⟨am HR.out.symm,by go_grown⟩
   ·have k5:(k == 5)=false:=by simp [h5]
    by_cases h2:k=2
    ·have k2:(k == 2)=true:=by simp [h2]
     have HR:=aW (show r=tb by rw [hr,h2];simp);clear hr h5 h2;go_enter Tryz.func90,Tryz.ntmps90;go_wp2;go_ret;exact ⟨am HR.out.symm,by go_grown⟩
    ·have k2:(k == 2)=false:=by simp [h2]
     have HR:=aW (show r=false by rw [hr];simp [h5,h2]);clear hr h5 h2 e1 e2;go_enter Tryz.func90,Tryz.ntmps90;go_wp2;go_ret;exact ⟨am HR.out.symm,by go_grown⟩
  ·have HR:=aW (show r=false by rw [hr];simp);by_cases h2:k=2
   ·have k2:(k == 2)=true:=by simp [h2]
    have k5:(k == 5)=false:=by simp [h2]
    clear hr h2 e1 e2;go_enter Tryz.func90,Tryz.ntmps90;go_wp2;go_ret;exact ⟨am HR.out.symm,by go_grown⟩
   ·have k2:(k == 2)=false:=by simp [h2]
    clear hr h2 e1 e2;go_enter Tryz.func90,Tryz.ntmps90;go_wp2;go_ret;exact ⟨am HR.out.symm,by go_grown⟩
 exact key _ rfl
theorem gE (s:List UInt8) (W:World) (A:Option Addr) (nT cap:Nat) (T:List ap) (p:Nat) (b c:Bool) (hV:bW W A nT T) (hp:p<nT) (hc:(!b && al T p s)=c) :
  Calls Tryz.prog 92 #[tkV A nT cap p b,Zt ⟨s.toArray⟩] W λ e W'=>e=.returned (tkV A nT cap (if c=true then p+1 else p) (!c))/\Below W.heap.size W W':=by
 have hn:=hV.few;have HS:=aW (λ W' (h:Below W.heap.size W W')=>nV s W' A nT cap T p b (hV.keep h) hp);rw [hc] at HS;cases c
 ·have HH0:=aW (((az.nil W).push 82 #[Zs A nT cap,Zi Zq p,.bool b] (g:=W.heap.size) rfl).push 82 #[Zs none 0 0,Zi Zq 0,.bool false] (g:=W.heap.size+1) (by simp));clear hc hV;unfold tkV at HS ⊢;go_enter Tryz.func92,Tryz.ntmps92;go_wp2_with (go_at_call 90;refine (HS.out _ HH0.out.1).mono ?_;rintro e w2 ⟨rfl,hb2⟩;obtain ⟨c0,f0,l0⟩:=(HH0.out.keep hb2).b0.rules;obtain ⟨c1,f1,l1⟩:=(HH0.out.keep hb2).b1.rules;have HB2:=aW (HH0.out.keep hb2).1);refine bodyPost_ret (v:=.agg #[Zs A nT cap,Zi Zq p,.bool true]) (by simp only [results,Tryz.results92];go_simp) rfl ?_;exact ⟨rfl,by bel_sets HB2.out⟩
 ·have hb:b=false:=by cases b<;>simp_all
  subst hb;have HH0:=aW (((az.nil W).push 82 #[Zs A nT cap,Zi Zq p,.bool false] (g:=W.heap.size) rfl).push 82 #[Zs none 0 0,Zi Zq 0,.bool false] (g:=W.heap.size+1) (by simp));clear hc hV;unfold tkV at HS ⊢;go_enter Tryz.func92,Tryz.ntmps92;go_wp2_with (go_at_call 90;refine (HS.out _ HH0.out.1).mono ?_;rintro e w2 ⟨rfl,hb2⟩;obtain ⟨c0,f0,l0⟩:=(HH0.out.keep hb2).b0.rules;obtain ⟨c1,f1,l1⟩:=(HH0.out.keep hb2).b1.rules;have HB2:=aW (HH0.out.keep hb2).1);refine bodyPost_ret (v:=.agg #[Zs A nT cap,Zi Zq (p+1:Nat),.bool false]) (by simp only [results,Tryz.results92];go_simp) rfl ?_;exact ⟨rfl,by bel_sets HB2.out⟩
theorem qn (W:World) (k m:Int) (s:ByteArray):Calls Tryz.prog 182 #[.agg #[Zi Zq k,Zi Zq m,Zt s,Zs none 0 0,Zs none 0 0]] W λ e W'=>e=.returned (.agg #[Zi Zq 1,Zi Zq k,Zi Zq m,Zt s,Zs none 0 0,Zs none 0 0,Zt ⟨#[]⟩,Zs none 0 0])/\Below W.heap.size W W':=by
 go_enter Tryz.func182,Tryz.ntmps182;go_wp2;refine bodyPost_ret (v:=.agg #[Zi Zq 1,Zi Zq k,Zi Zq m,Zt s,Zs none 0 0,Zs none 0 0,Zt ⟨#[]⟩,Zs none 0 0]) (by simp only [results,Tryz.results182];go_simp) rfl ?_;exact ⟨rfl,by go_grown⟩
def vZ (ks:List Nat) (w:World) (e:Ending) (w':World):Prop:=∃ A ca,e=.returned (Zs A ks.length ca)/\ks.length<=ca/\RdF w' (λ b=>w.heap.size<=b) A (ma ks)/\Below w.heap.size w w'
def kds (lvl n:Nat):List Nat:=((List.range n).map (· + 5)).filter (λ k=>decide (bt (k:Int)=lvl))
theorem oU (lvl n:Nat):(kds lvl n).length<=n:=by unfold kds;exact Nat.le_trans (List.length_filter_le _ _) (by simp)
theorem wB {lvl n:Nat} (h:bt ((n:Int)+5)=lvl):kds lvl (n+1)=kds lvl n++[n+5]:=by
 unfold kds;rw [List.range_succ,List.map_append,List.filter_append];congr 1;simp [List.filter_cons,h]
theorem yd {lvl n:Nat} (h:¬ bt ((n:Int)+5)=lvl):kds lvl (n+1)=kds lvl n:=by
 unfold kds;rw [List.range_succ,List.map_append,List.filter_append];simp [List.filter_cons,h]
theorem vo (lvl:Nat) (w:World) (hl:lvl<=9):Calls Tryz.prog 146 #[Zi Zq (lvl:Int)] w (vZ (kds lvl 11) w):=by
 obtain ⟨i0,hi,hz0,hz1,hz2⟩:=info_parts oS;have HI:=aW hi;clear hi;go_enter Tryz.func146,Tryz.ntmps146;go_wp2;go_loopg [3,4] 11 (λ gk s3 s4 wr => ∃ (n:Nat),n<=11/\gk=11-n/\s4=Zi Zq ((n:Int)+5) /\
  wr.ownsRow w.heap.size 3 1 s3 (kds lvl n).length (ma (kds lvl n))/\Below w.heap.size w wr)
 case atStart=>exact ⟨0,by omega,by omega,by go_num,World.ownsRow_nil _ _ _ _,Below.refl _ _⟩
 case round =>
  obtain ⟨n,hn,hgk,rfl,hown,hbw⟩:=hrel;have HG:=aW hgk;clear hgk;have HL:=aW (λ W'=>yG ((n:Int)+5) W');have hkl:=oU lvl n;by_cases hlt:n<11
  ·by_cases hk:bt ((n:Int)+5)=lvl
   ·have hkk:((bt ((n:Int)+5):Int) == (lvl:Int))=true:=by simp only [beq_iff_eq];omega
    have HY:=aW (wB hk);clear hk;go_wp2_with fail;refine (HL.out _).mono ?_;rintro e w1 ⟨rfl,rfl⟩;go_wp2_with (at_builtin;refine wpList_append_own _ rfl _ _ 176 rfl w.heap.size 3 i0 (Zi Zq 0) 1 8 Tryz.underlying176 HI.out hz0 hz1 hz2 rfl (by decide) _ _ _ rfl (hown.alloc _) ⟨w1.heap.size,0,none⟩ 1 1 [Zi Zq ((n:Int)+5)] rfl rfl (cell_one_new _ _ _) (by simp [Value.oneCell']) (by unfold maxLen;omega) (by omega) (by have:=hbw.size;simp;omega) ?_;intro v2 w2 hown2 hgr2 _);go_roundg (11-(n+1))
    case measure=>rw [HG.out];omega
    case rel =>
     have s1:=hbw.size;refine ⟨n+1,by omega,rfl,by go_num,?_,?_⟩
     ·rw [HY.out,List.length_append,List.length_singleton];have e:ma (kds lvl n++[n+5])=ma (kds lvl n)++[Zi Zq ((n:Int)+5)]:=by simp [ma]
      rw [e];exact hown2
     ·refine (hbw.alloc (by omega) _).grown hgr2 (by simp;omega) (λ k e=>?_);exact (hown.lt k e).1
   ·have hkk:((bt ((n:Int)+5):Int) == (lvl:Int))=false:=by simp only [beq_eq_false_iff_ne];omega
    have HY:=aW (yd hk);clear hk;go_wp2_with fail;refine (HL.out _).mono ?_;rintro e w1 ⟨rfl,rfl⟩;go_wp2;go_roundg (11-(n+1))
    case measure=>rw [HG.out];omega
    case rel=>exact ⟨n+1,by omega,rfl,by go_num,by rw [HY.out];exact hown,hbw⟩
  ·obtain rfl:n=11:=by omega
   obtain ⟨Ao,co,rfl,hco,_,hro⟩:=bP hown;have HF:=aW (show vZ (kds lvl 11) w (.returned (.slice Ao (kds lvl 11).length co)) wr from ⟨_,_,rfl,hco,hro,hbw⟩);clear hco hro hown;go_wp2;go_ret;exact HF.out
theorem xI (W:World) (A:Option Addr) (nT cap:Nat) (T:List ap) (p:Nat) (b c:Bool) (hV:bW W A nT T) (hp:p<nT) (hc:(!b && decide (tkK T p=1))=c) :
  Calls Tryz.prog 94 #[tkV A nT cap p b] W λ e W'=>e=.returned (.tuple #[Zt ⟨(if c=true then tkT T p else []).toArray⟩,tkV A nT cap (if c=true then p+1 else p) (!c)])/\Below W.heap.size W W':=by
 have HH0:=aW (((az.nil W).push 82 #[Zs A nT cap,Zi Zq p,.bool b] (g:=W.heap.size) rfl).push 82 #[Zs none 0 0,Zi Zq 0,.bool false] (g:=W.heap.size+1) (by simp));obtain ⟨W0,hW0⟩:∃ W0,(W.alloc (.cells #[Zs A nT cap,Zi Zq p,.bool b] 82)).alloc (.cells #[Zs none 0 0,Zi Zq 0,.bool false] 82)=W0:=⟨_,rfl⟩
 have HHW:=aW (show az [(W.heap.size+1,82,#[Zs none 0 0,Zi Zq 0,.bool false]),(W.heap.size,82,#[Zs A nT cap,Zi Zq p,.bool b])] W W0 by rw [← hW0];exact HH0.out);have hn:=hV.few;have HW0:=aW hW0;obtain ⟨d0,o0,e0,hd0,y0,_,y2,_⟩:=hV.tok hp;obtain ⟨d,o,rfl,hb,x0,x1,x2,x3⟩:=(hV.keep HHW.out.1).tok hp;obtain ⟨rfl,rfl⟩:d=d0/\o=o0:=by simpa using e0
 have HD:=aW hd0;have hpi:(p:Int)<(nT:Int):=by omega
 obtain ⟨k,hk⟩:∃ k,tkK T p=k:=⟨_,rfl⟩
 obtain ⟨t,ht⟩:∃ t,tkT T p=t:=⟨_,rfl⟩
 rw [hk] at x0 hc;rw [ht] at x2 y2 ⊢;have HX0:=aW y2;unfold tkV;clear hV hk ht x1 x3 hW0 HH0 y0 y2 e0;by_cases hk1:k=1
 ·subst hk1;cases b
  ·obtain rfl:c=true:=by rw [← hc];rfl
   clear hc;go_enter Tryz.func94,Tryz.ntmps94;go_upto_region 1 with fail;rw [HW0.out];obtain ⟨c0,f0,l0⟩:=HHW.out.b0.rules;obtain ⟨c1,f1,l1⟩:=HHW.out.b1.rules;go_upto_region 5 with fail;obtain ⟨W1,hW1⟩:∃ W',W0.setCell ⟨W.heap.size,1,none⟩ (Zi Zq (p+1:Nat))=W':=⟨_,rfl⟩
   rw [show ((p:Int)+1)=((p+1:Nat):Int) from rfl];rw [hW1];have HK0:=aW (show Blk W1 W.heap.size 82 #[Zs (some ⟨d,o,none⟩) nT cap,Zi Zq (p+1:Nat),.bool false] by rw [← hW1];exact HHW.out.b1.set_ 1 _);have HR1:=aW (show Blk W1 (W.heap.size+1) 82 #[Zs none 0 0,Zi Zq 0,.bool false] by rw [← hW1];exact HHW.out.b0.far (p:=⟨W.heap.size,1,none⟩) (by dsimp only;omega) _);have HB1:=aW (show Below W.heap.size W W1 by rw [← hW1];exact HHW.out.1.setCell (by dsimp only;omega) _);have HX2:=aW (show W1.cell? ⟨d,o+p*4+2,none⟩=some (Zt ⟨t.toArray⟩) from (Below.cell HB1.out (p:=⟨d,o+p*4+2,none⟩) HD.out).trans HX0.out);clear hW1 c0 f0 l0 c1 f1 l1 x0 x2;refine wp_region_held_drew (S:=λ w'=>Blk w' W.heap.size 82 #[Zs (some ⟨d,o,none⟩) nT cap,Zi Zq (p+1:Nat),.bool false]/\w'.cell? ⟨d,o+p*4+2,none⟩=some (Zt ⟨t.toArray⟩)) (by kernel_rfl) (by exact ⟨HK0.out,HX2.out⟩) (λ hHeld=>?_);refine aY 0 22 (Zp (some ⟨W.heap.size,0,none⟩)) rfl ?_ ?_
   ·intro W hSw;obtain ⟨⟨c,f,l⟩,z2⟩:=And.intro hSw.1.rules hSw.2;go_simp
   refine aY 1 23 (Zs (some ⟨d,o,none⟩) nT cap) rfl ?_ ?_
   ·intro W hSw;obtain ⟨⟨c,f,l⟩,z2⟩:=And.intro hSw.1.rules hSw.2;go_simp
   refine aY 2 24 (Zp (some ⟨W.heap.size,1,none⟩)) rfl ?_ ?_
   ·intro W hSw;obtain ⟨⟨c,f,l⟩,z2⟩:=And.intro hSw.1.rules hSw.2;go_simp
   refine aY 3 25 (Zi Zq (p+1:Nat)) rfl ?_ ?_
   ·intro W hSw;obtain ⟨⟨c,f,l⟩,z2⟩:=And.intro hSw.1.rules hSw.2;go_simp
   refine aY 4 26 (Zi Zq (p:Int)) rfl ?_ ?_
   ·intro W hSw;obtain ⟨⟨c,f,l⟩,z2⟩:=And.intro hSw.1.rules hSw.2;go_simp;rw [IntKind.wrap_i64];omega
   refine aY 5 27 (Zp (some ⟨d,o+p*4,none⟩)) rfl ?_ ?_
   ·intro W hSw;obtain ⟨⟨c,f,l⟩,z2⟩:=And.intro hSw.1.rules hSw.2;go_simp
   refine aY 6 28 (Zp (some ⟨d,o+p*4+2,none⟩)) rfl ?_ ?_
   ·intro W hSw;obtain ⟨⟨c,f,l⟩,z2⟩:=And.intro hSw.1.rules hSw.2;go_simp
   refine aY 7 29 (Zt ⟨t.toArray⟩) rfl ?_ ?_
   ·intro W hSw;obtain ⟨⟨c,f,l⟩,z2⟩:=And.intro hSw.1.rules hSw.2;go_simp
   refine aY 8 30 (.agg #[Zs (some ⟨d,o,none⟩) nT cap,Zi Zq (p+1:Nat),.bool false]) rfl ?_ ?_
   ·intro W hSw;obtain ⟨⟨c,f,l⟩,z2⟩:=And.intro hSw.1.rules hSw.2;go_simp
   refine aY 9 2 (Zt ⟨t.toArray⟩) rfl ?_ ?_
   ·intro W hSw;obtain ⟨⟨c,f,l⟩,z2⟩:=And.intro hSw.1.rules hSw.2;go_simp
   refine aU 10 rfl (λ K hK=>?_);obtain ⟨c9,f9,l9⟩:=HR1.out.rules;go_simp;refine hK.out _ _ (by exact ⟨((hHeld.1.far (p:=⟨W.heap.size+1,0,none⟩) (by dsimp only;omega) _).far (p:=⟨W.heap.size+1,1,none⟩) (by dsimp only;omega) _).far (p:=⟨W.heap.size+1,2,none⟩) (by dsimp only;omega) _,by have hd:=HD.out;exact (World.cell?_setCell_far _ _ _ _ (by dsimp only;omega)).trans ((World.cell?_setCell_far _ _ _ _ (by dsimp only;omega)).trans ((World.cell?_setCell_far _ _ _ _ (by dsimp only;omega)).trans hHeld.2))⟩) (λ hHeld=>?_);clear hK K
   try simp only [pU]
   refine ai (λ W5 hW5=>?_);have hR9:Blk W5 (W.heap.size+1) 82 #[Zs (some ⟨d,o,none⟩) nT cap,Zi Zq (p+1:Nat),.bool false]:=by rw [hW5];exact (((HR1.out.set_ 0 (Zs (some ⟨d,o,none⟩) nT cap)).set_ 1 (Zi Zq (p+1:Nat))).set_ 2 (.bool false))
   have HB5:=aW (show Below W.heap.size W W5 by rw [hW5];bel_sets HB1.out);clear hW5 hHeld;refine aX ?_;obtain ⟨c9,f9,l9⟩:=hR9.rules;go_wp2;refine bodyPost_ret (v:=.tuple #[Zt ⟨t.toArray⟩,.agg #[Zs (some ⟨d,o,none⟩) nT cap,Zi Zq (p+1:Nat),.bool false]]) (by simp only [results,Tryz.results94];go_simp) rfl ?_;exact ⟨rfl,HB5.out⟩
  ·obtain rfl:c=false:=by rw [← hc];rfl
   clear hc;go_enter Tryz.func94,Tryz.ntmps94;go_upto_region 1 with fail;rw [HW0.out];obtain ⟨c0,f0,l0⟩:=HHW.out.b0.rules;obtain ⟨c1,f1,l1⟩:=HHW.out.b1.rules;go_upto_region 3 with fail;obtain ⟨W1,hW1⟩:∃ W',W0.setCell ⟨W.heap.size,2,none⟩ (.bool true)=W':=⟨_,rfl⟩
   rw [hW1];have HK0:=aW (show Blk W1 W.heap.size 82 #[Zs (some ⟨d,o,none⟩) nT cap,Zi Zq p,.bool true] by rw [← hW1];exact HHW.out.b1.set_ 2 _);have HR1:=aW (show Blk W1 (W.heap.size+1) 82 #[Zs none 0 0,Zi Zq 0,.bool false] by rw [← hW1];exact HHW.out.b0.far (p:=⟨W.heap.size,2,none⟩) (by dsimp only;omega) _);have HB1:=aW (show Below W.heap.size W W1 by rw [← hW1];exact HHW.out.1.setCell (by dsimp only;omega) _);clear hW1 c0 f0 l0 c1 f1 l1 x0 x2;refine wp_region_held_drew (S:=λ w'=>Blk w' W.heap.size 82 #[Zs (some ⟨d,o,none⟩) nT cap,Zi Zq p,.bool true]) (by kernel_rfl) (by exact HK0.out) (λ hHeld=>?_);refine aY 1 2 (Zt ⟨#[]⟩) rfl ?_ ?_
   ·intro W hSw;obtain ⟨c,f,l⟩:=hSw.rules;go_simp
   refine aY 0 17 (.agg #[Zs (some ⟨d,o,none⟩) nT cap,Zi Zq p,.bool true]) rfl ?_ ?_
   ·intro W hSw;obtain ⟨c,f,l⟩:=hSw.rules;go_simp
   refine aU 2 rfl (λ K hK=>?_);obtain ⟨c9,f9,l9⟩:=HR1.out.rules;go_simp;refine hK.out _ _ (((hHeld.far (p:=⟨W.heap.size+1,0,none⟩) (by dsimp only;omega) _).far (p:=⟨W.heap.size+1,1,none⟩) (by dsimp only;omega) _).far (p:=⟨W.heap.size+1,2,none⟩) (by dsimp only;omega) _) (λ hHeld=>?_);clear hK K
   try simp only [pU]
   refine ai (λ W5 hW5=>?_);have hR9:Blk W5 (W.heap.size+1) 82 #[Zs (some ⟨d,o,none⟩) nT cap,Zi Zq p,.bool true]:=by rw [hW5];exact (((HR1.out.set_ 0 (Zs (some ⟨d,o,none⟩) nT cap)).set_ 1 (Zi Zq p)).set_ 2 (.bool true))
   have HB5:=aW (show Below W.heap.size W W5 by rw [hW5];bel_sets HB1.out);clear hW5 hHeld;refine aX ?_;obtain ⟨c9,f9,l9⟩:=hR9.rules;go_wp2;refine bodyPost_ret (v:=.tuple #[Zt ⟨#[]⟩,.agg #[Zs (some ⟨d,o,none⟩) nT cap,Zi Zq p,.bool true]]) (by simp only [results,Tryz.results94];go_simp) rfl ?_;exact ⟨rfl,HB5.out⟩
 ·obtain rfl:c=false:=by rw [← hc];simp [hk1]
  have k1:(k == 1)=false:=by simp [hk1]
  clear hc hk1;cases b
  ·skip
   go_enter Tryz.func94,Tryz.ntmps94;go_upto_region 1 with fail;rw [HW0.out];obtain ⟨c0,f0,l0⟩:=HHW.out.b0.rules;obtain ⟨c1,f1,l1⟩:=HHW.out.b1.rules;go_upto_region 3 with fail;obtain ⟨W1,hW1⟩:∃ W',W0.setCell ⟨W.heap.size,2,none⟩ (.bool true)=W':=⟨_,rfl⟩
   rw [hW1];have HK0:=aW (show Blk W1 W.heap.size 82 #[Zs (some ⟨d,o,none⟩) nT cap,Zi Zq p,.bool true] by rw [← hW1];exact HHW.out.b1.set_ 2 _);have HR1:=aW (show Blk W1 (W.heap.size+1) 82 #[Zs none 0 0,Zi Zq 0,.bool false] by rw [← hW1];exact HHW.out.b0.far (p:=⟨W.heap.size,2,none⟩) (by dsimp only;omega) _);have HB1:=aW (show Below W.heap.size W W1 by rw [← hW1];exact HHW.out.1.setCell (by dsimp only;omega) _);clear hW1 c0 f0 l0 c1 f1 l1 x0 x2;refine wp_region_held_drew (S:=λ w'=>Blk w' W.heap.size 82 #[Zs (some ⟨d,o,none⟩) nT cap,Zi Zq p,.bool true]) (by kernel_rfl) (by exact HK0.out) (λ hHeld=>?_);refine aY 1 2 (Zt ⟨#[]⟩) rfl ?_ ?_
   ·intro W hSw;obtain ⟨c,f,l⟩:=hSw.rules;go_simp
   refine aY 0 17 (.agg #[Zs (some ⟨d,o,none⟩) nT cap,Zi Zq p,.bool true]) rfl ?_ ?_
   ·intro W hSw;obtain ⟨c,f,l⟩:=hSw.rules;go_simp
   refine aU 2 rfl (λ K hK=>?_);obtain ⟨c9,f9,l9⟩:=HR1.out.rules;go_simp;refine hK.out _ _ (((hHeld.far (p:=⟨W.heap.size+1,0,none⟩) (by dsimp only;omega) _).far (p:=⟨W.heap.size+1,1,none⟩) (by dsimp only;omega) _).far (p:=⟨W.heap.size+1,2,none⟩) (by dsimp only;omega) _) (λ hHeld=>?_);clear hK K
   try simp only [pU]
   refine ai (λ W5 hW5=>?_);have hR9:Blk W5 (W.heap.size+1) 82 #[Zs (some ⟨d,o,none⟩) nT cap,Zi Zq p,.bool true]:=by rw [hW5];exact (((HR1.out.set_ 0 (Zs (some ⟨d,o,none⟩) nT cap)).set_ 1 (Zi Zq p)).set_ 2 (.bool true))
   have HB5:=aW (show Below W.heap.size W W5 by rw [hW5];bel_sets HB1.out);clear hW5 hHeld;refine aX ?_;obtain ⟨c9,f9,l9⟩:=hR9.rules;go_wp2;refine bodyPost_ret (v:=.tuple #[Zt ⟨#[]⟩,.agg #[Zs (some ⟨d,o,none⟩) nT cap,Zi Zq p,.bool true]]) (by simp only [results,Tryz.results94];go_simp) rfl ?_;exact ⟨rfl,HB5.out⟩
  ·skip
   go_enter Tryz.func94,Tryz.ntmps94;go_upto_region 1 with fail;rw [HW0.out];obtain ⟨c0,f0,l0⟩:=HHW.out.b0.rules;obtain ⟨c1,f1,l1⟩:=HHW.out.b1.rules;go_upto_region 3 with fail;obtain ⟨W1,hW1⟩:∃ W',W0.setCell ⟨W.heap.size,2,none⟩ (.bool true)=W':=⟨_,rfl⟩
   rw [hW1];have HK0:=aW (show Blk W1 W.heap.size 82 #[Zs (some ⟨d,o,none⟩) nT cap,Zi Zq p,.bool true] by rw [← hW1];exact HHW.out.b1.set_ 2 _);have HR1:=aW (show Blk W1 (W.heap.size+1) 82 #[Zs none 0 0,Zi Zq 0,.bool false] by rw [← hW1];exact HHW.out.b0.far (p:=⟨W.heap.size,2,none⟩) (by dsimp only;omega) _);have HB1:=aW (show Below W.heap.size W W1 by rw [← hW1];exact HHW.out.1.setCell (by dsimp only;omega) _);clear hW1 c0 f0 l0 c1 f1 l1 x0 x2;refine wp_region_held_drew (S:=λ w'=>Blk w' W.heap.size 82 #[Zs (some ⟨d,o,none⟩) nT cap,Zi Zq p,.bool true]) (by kernel_rfl) (by exact HK0.out) (λ hHeld=>?_);refine aY 1 2 (Zt ⟨#[]⟩) rfl ?_ ?_
   ·intro W hSw;obtain ⟨c,f,l⟩:=hSw.rules;go_simp
   refine aY 0 17 (.agg #[Zs (some ⟨d,o,none⟩) nT cap,Zi Zq p,.bool true]) rfl ?_ ?_
   ·intro W hSw;obtain ⟨c,f,l⟩:=hSw.rules;go_simp
   refine aU 2 rfl (λ K hK=>?_);obtain ⟨c9,f9,l9⟩:=HR1.out.rules;go_simp;refine hK.out _ _ (((hHeld.far (p:=⟨W.heap.size+1,0,none⟩) (by dsimp only;omega) _).far (p:=⟨W.heap.size+1,1,none⟩) (by dsimp only;omega) _).far (p:=⟨W.heap.size+1,2,none⟩) (by dsimp only;omega) _) (λ hHeld=>?_);clear hK K
   try simp only [pU]
   refine ai (λ W5 hW5=>?_);have hR9:Blk W5 (W.heap.size+1) 82 #[Zs (some ⟨d,o,none⟩) nT cap,Zi Zq p,.bool true]:=by rw [hW5];exact (((HR1.out.set_ 0 (Zs (some ⟨d,o,none⟩) nT cap)).set_ 1 (Zi Zq p)).set_ 2 (.bool true))
   have HB5:=aW (show Below W.heap.size W W5 by rw [hW5];bel_sets HB1.out);clear hW5 hHeld;refine aX ?_;obtain ⟨c9,f9,l9⟩:=hR9.rules;go_wp2;refine bodyPost_ret (v:=.tuple #[Zt ⟨#[]⟩,.agg #[Zs (some ⟨d,o,none⟩) nT cap,Zi Zq p,.bool true]]) (by simp only [results,Tryz.results94];go_simp) rfl ?_;exact ⟨rfl,HB5.out⟩
end
end Go.Proofs.YtgmnmnnoahdjnaaGreatDoor
