import Derived.Test.YtgmnmnnoahdjnaaGreatDoorY20
open Go.Value renaming int → Zi, slice → Zs, string → Zt, pointer → Zp
open Go.IntKind renaming i64 → Zq
set_option maxRecDepth 100000
set_option maxHeartbeats 16000000
set_option linter.unusedVariables false
set_option linter.unusedSimpArgs false
namespace Go.Proofs.YtgmnmnnoahdjnaaGreatDoor
section
open Go.RowKit
attribute [local go_sem] aa ac ae ab
mutual
/-- what came in: a statement all parts of which are of a size -/
def j3:SJ->Prop | .mk k s a b body els=>iw k/\s.length<=4194304/\cj a/\cj b/\body.length<=4194304/\els.length<=4194304/\bY body/\bY els
def bY:List SJ->Prop | []=>True | x::r=>j3 x/\bY r
end
theorem dQ:∀ {xs:List SJ},bY xs ↔ ∀ x ∈ xs,j3 x
 | []=>by simp [bY]
 | x::r=>by simp [bY,dQ (xs:=r)]
theorem iI {d:Nat} {l:List SJ} {x:SJ}:bK d (l++[x])=(bK d l && iY d x):=by rw [uP];simp [bK]
theorem eu {W:World} {F:Nat->Prop} {css:List (List Value)} {xs:List SJ} {A:Option Addr} (h:SRs W F css xs) (hr:RdF W F A css.flatten) {i:Nat} {k:Int} {s:List UInt8} {a b:EJ} {body els:List SJ} (hx:xs[i]? = some (.mk k s a b body els)) :
  ∃ (bl o:Nat) (ka kva nva:Int) (sva:ByteArray) (Ava:Option Addr) (nka cka:Nat) (Bva:Option Addr) (nya cya:Nat) (sa:ByteArray) (Ca:Option Addr) (nxa cxa:Nat)
   (kb kvb nvb:Int) (svb:ByteArray) (Avb:Option Addr) (nkb ckb:Nat) (Bvb:Option Addr) (nyb cyb:Nat) (sb:ByteArray) (Cb:Option Addr) (nxb cxb:Nat) (BA EA:Option Addr) (cb ce:Nat) (bss ess:List (List Value)),
   A=some ⟨bl,o,none⟩/\bl<W.heap.size/\F bl/\ER W F [Zi Zq ka,Zi Zq kva,Zi Zq nva,Zt sva,Zs Ava nka cka,Zs Bva nya cya,Zt sa,Zs Ca nxa cxa] a/\ER W F [Zi Zq kb,Zi Zq kvb,Zi Zq nvb,Zt svb,Zs Avb nkb ckb,Zs Bvb nyb cyb,Zt sb,Zs Cb nxb cxb] b /\
   (SRs W F bss body/\body.length<=cb/\RdF W F BA bss.flatten)/\(SRs W F ess els/\els.length<=ce/\RdF W F EA ess.flatten) /\
   SR W F [Zi Zq k,Zt ⟨s.toArray⟩,Zi Zq ka,Zi Zq kva,Zi Zq nva,Zt sva,Zs Ava nka cka,Zs Bva nya cya,Zt sa,Zs Ca nxa cxa,Zi Zq kb,Zi Zq kvb,Zi Zq nvb,Zt svb,Zs Avb nkb ckb,Zs Bvb nyb cyb,Zt sb,Zs Cb nxb cxb,Zs BA body.length cb,Zs EA els.length ce] (.mk k s a b body els) /\
   ∀ (j:Nat) u,([Zi Zq k,Zt ⟨s.toArray⟩,Zi Zq ka,Zi Zq kva,Zi Zq nva,Zt sva,Zs Ava nka cka,Zs Bva nya cya,Zt sa,Zs Ca nxa cxa,Zi Zq kb,Zi Zq kvb,Zi Zq nvb,Zt svb,Zs Avb nkb ckb,Zs Bvb nyb cyb,Zt sb,Zs Cb nxb cxb,Zs BA body.length cb,Zs EA els.length ce]:List Value)[j]? = some u->W.cell? ⟨bl,o+(i*20+j),none⟩=some u:=by
 obtain ⟨bl,o,c,rfl,hb,hf,hc,hv,hz⟩:=h.cell (λ c x h=>h.len) (by decide) hr hx;have hv':=hv;obtain ⟨acs,bcs,BA,EA,cb,ce,bss,ess,rfl,ha,hbb,⟨g1,g2,g3,g4⟩,g5,g6,g7,g8⟩:=hv.out;obtain ⟨ka,kva,nva,sva,Ava,nka,cka,Bva,nya,cya,sa,Ca,nxa,cxa,rfl⟩:=ha.form;obtain ⟨kb,kvb,nvb,svb,Avb,nkb,ckb,Bvb,nyb,cyb,sb,Cb,nxb,cxb,rfl⟩:=hbb.form;refine ⟨bl,o,ka,kva,nva,sva,Ava,nka,cka,Bva,nya,cya,sa,Ca,nxa,cxa,kb,kvb,nvb,svb,Avb,nkb,ckb,Bvb,nyb,cyb,sb,Cb,nxb,cxb,BA,EA,cb,ce,bss,ess,rfl,hb,hf,ha,hbb,⟨g1,g2,g4⟩,⟨g5,g6,g8⟩,hv',λ j u hu=>hz j u ?_ hu⟩;have:=(List.getElem?_eq_some_iff.1 hu).1;simpa using this
theorem eC {P:Program} {ops:Array Oper} {rest:List Oper} {op:Oper} {a:Act} {w:World} {Q:Exit->Act->World->Prop} (hgd:op.guard=none) (ty:TypeId) (x y:Operand) (ho:op.op=.store ty x y)
  (old cells:Array Value) (hx:a.eval x=Zp (some ⟨w.heap.size,0,none⟩)) (hy:a.eval y=.agg cells)
  (hi:(P.info? ty).map (·.size)=some cells.size) (hs:old.size=cells.size) (h1:cells.all (·.oneCell')=true)
  (h:wpList P ops Q rest (a.put op.dst undef) (w.alloc (.cells cells ty))):wpList P ops Q (op::rest) a (w.alloc (.cells old ty)) :=
 wpList_plain hgd λ _ hK=>j1 ty x y ho old cells hx hy hi hs h1 (hK _ _ h)
def xP (b:Bool) (w:World) (e:Ending) (w':World):Prop:=e=.returned (.bool b)/\Below w.heap.size w w'
def xO (r:Nat):Prop:=∀ (l:List SJ) (css:List (List Value)) (A:Option Addr) (n ca:Nat) (F:Nat->Prop) (w:World),GOE w->SRs w F css l->l.length=n->n<=ca->RdF w F A css.flatten->bY l->n<=4194304 ->
 Calls Tryz.prog 46 #[Zs A n ca,Zi Zq (r:Int)] w (xP (bK r l) w)
theorem xD (r:Nat) (hr:r<=12) (ih:r≠0->xO (r-1)):xO r:=by
 intro l css A n ca F w hG hS hln hnc hR hC hn;have HG:=aW hG;have HKD:=aW (And.intro hS hR);have HNK:=aW hln;have HCL:=aW (dQ.1 hC);obtain ⟨R,hRr⟩:∃ R:Int,(r:Int)=R:=⟨_,rfl⟩
 have HRR:=aW hRr;obtain ⟨D,hD⟩:∃ D,bK r l=D:=⟨_,rfl⟩
 have HDD:=aW hD;have hsub:IntKind.i64.wrap (R-1)=R-1:=IntWalk.i64_in _ (by omega);have HSUB:=aW hsub;rw [hRr,hD];clear hG hS hln hR hC hRr hD hsub;go_enter Tryz.func46,Tryz.ntmps46;go_wp2;go_loopw [10] (λ s10 wr => ∃ i:Nat,i<=n/\s10=Zi Zq (i:Int)/\Hid (Below w.heap.size w wr)/\Hid (bK r (l.take i)=true)) (λ s10 _=>n-(intOf s10).toNat)
 case atStart=>exact ⟨0,by omega,rfl,aW (Below.refl _ _),aW (by rw [List.take_zero,bK])⟩
 case round =>
  obtain ⟨i,hi,rfl,HB,HM⟩:=hrel;by_cases hin:i<n
  ·obtain ⟨x,hx⟩:∃ x,l[i]? = some x:=⟨_,List.getElem?_eq_getElem (by rw [HNK.out];exact hin)⟩
   have hxm:=List.mem_of_getElem? hx;have hcx:=HCL.out x hxm;have HTK:=aW (show bK r (l.take (i+1))=iY r x by rw [List.take_add_one,hx];show bK r (l.take i++[x])=_;rw [iI,HM.out,Bool.true_and]);have HXN:=aW (show iY r x=false->D=false from λ h0=>by
    rw [← HDD.out];cases hd:bK r l with
    | false=>rfl
    | true=>have:=jM.1 hd x hxm;rw [h0] at this;cases this)
   obtain ⟨k,s,a,b,body,els⟩:=x;obtain ⟨bl,o,ka,kva,nva,sva,Ava,nka,cka,Bva,nya,cya,sa,Ca,nxa,cxa,kb,kvb,nvb,svb,Avb,nkb,ckb,Bvb,nyb,cyb,sb,Cb,nxb,cxb,BA,EA,cb,ce,bss,ess,rfl,hbl,_,hEA,hEB,⟨hb1,hb2,hb3⟩,⟨he1,he2,he3⟩,hSR,hz⟩:=eu HKD.out.1 HKD.out.2 hx;unfold j3 at hcx;obtain ⟨hik,hsl,hca,hcb,hbl4,hel4,hcbo,hcel⟩:=hcx;obtain ⟨nb,hnb⟩:∃ q,body.length=q:=⟨_,rfl⟩
   obtain ⟨ne,hne⟩:∃ q,els.length=q:=⟨_,rfl⟩
   rw [hnb] at hb2 hbl4 hz;rw [hne] at he2 hel4 hz;obtain ⟨da,hda⟩:∃ d,bM 12 a=d:=⟨_,rfl⟩
   obtain ⟨db,hdb⟩:∃ d,bM 12 b=d:=⟨_,rfl⟩
   obtain ⟨bk,hbk⟩:∃ z,dN b=z:=⟨_,rfl⟩
   obtain ⟨nm,hnm⟩:∃ z,dB s=z:=⟨_,rfl⟩
   obtain ⟨mb,hmb⟩:∃ z,bK (r-1) body=z:=⟨_,rfl⟩
   obtain ⟨me,hme⟩:∃ z,bK (r-1) els=z:=⟨_,rfl⟩
   have HDA:=aW (λ (W:World) (h:Below w.heap.size w W)=>ur 12 (by omega) a _ F W (HG.out.keep h) (hEA.bel h) hca);have HDB:=aW (λ (W:World) (h:Below w.heap.size w W)=>ur 12 (by omega) b _ F W (HG.out.keep h) (hEB.bel h) hcb);have HBK:=aW (λ (W:World) (h:Below w.heap.size w W)=>xV b _ F W (hEB.bel h) hcb);have HNM:=aW (λ (W:World) (h:Below w.heap.size w W)=>ia ⟨s.toArray⟩ W);have HMB:=aW (λ (h0:r≠0) (W:World) (h:Below w.heap.size w W)=>ih h0 body bss BA nb cb F W (HG.out.keep h) (RR.imp hb1 λ c x hc=>hc.bel h) hnb hb2 (hb3.keep (af.of_below h)) hcbo hbl4);have HME:=aW (λ (h0:r≠0) (W:World) (h:Below w.heap.size w W)=>ih h0 els ess EA ne ce F W (HG.out.keep h) (RR.imp he1 λ c x hc=>hc.bel h) hne he2 (he3.keep (af.of_below h)) hcel hel4);rw [show bc ⟨s.toArray⟩=nm from hnm] at HNM;rw [hbk] at HBK;unfold xN at HDA HDB;rw [hda] at HDA;rw [hdb] at HDB;rw [hmb] at HMB;rw [hme] at HME;unfold xP at HMB HME;have HMS:=aW (show iY r (.mk k s a b body els)=(decide (r≠0) && (decide (da≠0) && (if k=1 then decide (db≠0) && decide (s=[]/\nb+ne=0) else if k=2 then bk && (decide (s=[]) && (mb && me)) else if k=3 then bk && (nm && (mb && decide (ne=0))) else false))) by
    unfold iY gW;simp only [hda,hdb,hbk,hnm,hmb,hme,hnb,hne])
   obtain ⟨M,hM⟩:∃ M,iY r (.mk k s a b body els)=M:=⟨_,rfl⟩
   rw [hM] at HMS HTK HXN;have hlb:bl<wr.heap.size:=Nat.lt_of_lt_of_le hbl HB.out.size;have hz':=λ (j:Nat) u (hu:([Zi Zq k,Zt ⟨s.toArray⟩,Zi Zq ka,Zi Zq kva,Zi Zq nva,Zt sva,Zs Ava nka cka,Zs Bva nya cya,Zt sa,Zs Ca nxa cxa,Zi Zq kb,Zi Zq kvb,Zi Zq nvb,Zt svb,Zs Avb nkb ckb,Zs Bvb nyb cyb,Zt sb,Zs Cb nxb cxb,Zs BA nb cb,Zs EA ne ce]:List Value)[j]? = some u)=>(HB.out.cell (p:=⟨bl,o+(i*20+j),none⟩) hbl).trans (hz j u hu)
   have HRG:=aW (show wr.rangeAt bl (o+i*20) [Zi Zq k,Zt ⟨s.toArray⟩,Zi Zq ka,Zi Zq kva,Zi Zq nva,Zt sva,Zs Ava nka cka,Zs Bva nya cya,Zt sa,Zs Ca nxa cxa,Zi Zq kb,Zi Zq kvb,Zi Zq nvb,Zt svb,Zs Avb nkb ckb,Zs Bvb nyb cyb,Zt sb,Zs Cb nxb cxb,Zs BA nb cb,Zs EA ne ce] from λ j v hv=>by rw [Nat.add_assoc];exact hz' j v hv);clear hz hz' hSR hEA hEB hb1 hb2 hb3 he1 he2 he3 hca hcb hcbo hcel hnb hne hda hdb hbk hnm hmb hme hM hx hxm hbl;have HH1:=aW ((az.nil wr).push 48 #[Zi Zq k,Zt ⟨s.toArray⟩,Zi Zq ka,Zi Zq kva,Zi Zq nva,Zt sva,Zs Ava nka cka,Zs Bva nya cya,Zt sa,Zs Ca nxa cxa,Zi Zq kb,Zi Zq kvb,Zi Zq nvb,Zt svb,Zs Avb nkb ckb,Zs Bvb nyb cyb,Zt sb,Zs Cb nxb cxb,Zs BA nb cb,Zs EA ne ce] (g:=wr.heap.size) rfl);go_upto_region 3 with fail;go_step;go_step;go_step;go_step;refine wpList_load_mid rfl 48 (.tmp 12) rfl bl (o+i*20) rfl [Zi Zq k,Zt ⟨s.toArray⟩,Zi Zq ka,Zi Zq kva,Zi Zq nva,Zt sva,Zs Ava nka cka,Zs Bva nya cya,Zt sa,Zs Ca nxa cxa,Zi Zq kb,Zi Zq kvb,Zi Zq nvb,Zt svb,Zs Avb nkb ckb,Zs Bvb nyb cyb,Zt sb,Zs Cb nxb cxb,Zs BA nb cb,Zs EA ne ce] _ HRG.out Tryz.underlying48 rfl (by kernel_rfl) ?_;go_step;go_step;go_step;refine eC rfl 48 (.tmp 6) (.tmp 13) rfl _ _ rfl rfl (by kernel_rfl) (by kernel_rfl) (by first | kernel_rfl | simp [Value.oneCell']) ?_;obtain ⟨c0,f0,l0⟩:=HH1.out.b0.rules;by_cases hr0:r=0
   ·have hR0:¬ (0:Int)<R:=by have:=HRR.out;omega
    have HR0:=aW hr0;clear hr0;go_upto_block 2 with fail;go_cut [7] (λ s7 wx=>s7=.bool M/\Hid (Below w.heap.size w wx))
    case first =>
     by_cases hk1:k=1
     ·have ek1:(k == 1)=true:=by simp [hk1]
      have HK1:=aW hk1;clear hk1;go_wp2;go_meet
      case rel=>exact ⟨by rw [HMS.out];simp [HR0.out],aW (HB.out.trans (HH1.out.1.mono HB.out.size))⟩
     ·have ek1:(k == 1)=false:=by simp [hk1]
      have HK1:=aW hk1;clear hk1;by_cases hk2:k=2
      ·have ek2:(k == 2)=true:=by simp [hk2]
       have HK2:=aW hk2;clear hk2;go_wp2;go_meet
       case rel=>exact ⟨by rw [HMS.out];simp [HR0.out],aW (HB.out.trans (HH1.out.1.mono HB.out.size))⟩
      ·have ek2:(k == 2)=false:=by simp [hk2]
       have HK2:=aW hk2;clear hk2;by_cases hk3:k=3
       ·have ek3:(k == 3)=true:=by simp [hk3]
        have HK3:=aW hk3;clear hk3;go_wp2;go_meet
        case rel=>exact ⟨by rw [HMS.out];simp [HR0.out],aW (HB.out.trans (HH1.out.1.mono HB.out.size))⟩
       ·have ek3:(k == 3)=false:=by simp [hk3]
        have HK3:=aW hk3;clear hk3;go_wp2;go_meet
        case rel=>exact ⟨by rw [HMS.out];simp [HR0.out],aW (HB.out.trans (HH1.out.1.mono HB.out.size))⟩
    case rest =>
     obtain ⟨rfl,HBX⟩:=hcut;cases M
     ·have HD0:=aW (HXN.out rfl);go_wp2;go_ret;exact ⟨by rw [HD0.out];rfl,HBX.out⟩
     ·go_wp2;go_roundw
      case rel=>exact ⟨i+1,by omega,by go_num,HBX,HTK⟩
      case measure=>simp [intOf];omega
   ·have hR0:(0:Int)<R:=by have:=HRR.out;omega
    have HR0:=aW hr0;have hs1:=HSUB.out;have hs2:((r-1:Nat):Int)=R-1:=by have:=HRR.out;omega
    rw [hs2] at HMB HME;clear hr0 hs2;go_wp2_with fail;refine (HDA.out _ (HB.out.trans (HH1.out.1.mono HB.out.size))).mono ?_;rintro e w10 ⟨rfl,hq10⟩;have HH10:=aW (HH1.out.keep hq10);clear hq10 c0 f0 l0;obtain ⟨c0,f0,l0⟩:=HH10.out.b0.rules;by_cases hda0:da=0
    ·have e0:¬ (0:Int)<(da:Int):=by omega
     have HDA0:=aW hda0;clear hda0;go_upto_block 2 with fail;go_cut [7] (λ s7 wx=>s7=.bool M/\Hid (Below w.heap.size w wx))
     case first =>
      by_cases hk1:k=1
      ·have ek1:(k == 1)=true:=by simp [hk1]
       have HK1:=aW hk1;clear hk1;go_wp2;go_meet
       case rel=>exact ⟨by rw [HMS.out];simp [HDA0.out],aW (HB.out.trans (HH10.out.1.mono HB.out.size))⟩
      ·have ek1:(k == 1)=false:=by simp [hk1]
       have HK1:=aW hk1;clear hk1;by_cases hk2:k=2
       ·have ek2:(k == 2)=true:=by simp [hk2]
        have HK2:=aW hk2;clear hk2;go_wp2;go_meet
        case rel=>exact ⟨by rw [HMS.out];simp [HDA0.out],aW (HB.out.trans (HH10.out.1.mono HB.out.size))⟩
       ·have ek2:(k == 2)=false:=by simp [hk2]
        have HK2:=aW hk2;clear hk2;by_cases hk3:k=3
        ·have ek3:(k == 3)=true:=by simp [hk3]
         have HK3:=aW hk3;clear hk3;go_wp2;go_meet
         case rel=>exact ⟨by rw [HMS.out];simp [HDA0.out],aW (HB.out.trans (HH10.out.1.mono HB.out.size))⟩
        ·have ek3:(k == 3)=false:=by simp [hk3]
         have HK3:=aW hk3;clear hk3;go_wp2;go_meet
         case rel=>exact ⟨by rw [HMS.out];simp [HDA0.out],aW (HB.out.trans (HH10.out.1.mono HB.out.size))⟩
     case rest =>
      obtain ⟨rfl,HBX⟩:=hcut;cases M
      ·have HD0:=aW (HXN.out rfl);go_wp2;go_ret;exact ⟨by rw [HD0.out];rfl,HBX.out⟩
      ·go_wp2;go_roundw
       case rel=>exact ⟨i+1,by omega,by go_num,HBX,HTK⟩
       case measure=>simp [intOf];omega
    ·have e0:(0:Int)<(da:Int):=by omega
     have HDA0:=aW hda0;clear hda0;go_upto_block 2 with fail;go_cut [7] (λ s7 wx=>s7=.bool M/\Hid (Below w.heap.size w wx))
     case first =>
      by_cases hk1:k=1
      ·have ek1:(k == 1)=true:=by simp [hk1]
       have HK1:=aW hk1;clear hk1;go_wp2_with fail;refine (HDB.out _ (HB.out.trans (HH10.out.1.mono HB.out.size))).mono ?_;rintro e w11 ⟨rfl,hq11⟩;have HH11:=aW (HH10.out.keep hq11);clear hq11 c0 f0 l0;obtain ⟨c0,f0,l0⟩:=HH11.out.b0.rules;by_cases hdb0:db=0
       ·have e0:¬ (0:Int)<(db:Int):=by omega
        have HDB0:=aW hdb0;clear hdb0;go_wp2;go_meet
        case rel=>exact ⟨by rw [HMS.out];simp [HDA0.out,HR0.out,HK1.out,HDB0.out],aW (HB.out.trans (HH11.out.1.mono HB.out.size))⟩
       ·have e0:(0:Int)<(db:Int):=by omega
        have HDB0:=aW hdb0;clear hdb0;by_cases hs:s=[];rotate_left
        ·go_wp2;go_meet
         case rel=>exact ⟨by rw [HMS.out];simp [HDA0.out,HR0.out,HK1.out,HDB0.out,hs],aW (HB.out.trans (HH11.out.1.mono HB.out.size))⟩
        ·subst hs;by_cases hnz:nb+ne=0
         ·have enz:((nb:Int)+ne == 0)=true:=by rw [beq_iff_eq];omega
          have HNz:=aW hnz;clear hnz;go_wp2;go_meet
          case rel=>exact ⟨by rw [HMS.out];have hz9:=HNz.out;simp [HDA0.out,HR0.out,HK1.out,HDB0.out];omega,aW (HB.out.trans (HH11.out.1.mono HB.out.size))⟩
         ·have enz:((nb:Int)+ne == 0)=false:=by rw [beq_eq_false_iff_ne];omega
          have HNz:=aW hnz;clear hnz;go_wp2;go_meet
          case rel=>exact ⟨by rw [HMS.out];have hz9:=HNz.out;simp [HDA0.out,HR0.out,HK1.out,HDB0.out];omega,aW (HB.out.trans (HH11.out.1.mono HB.out.size))⟩
      ·have ek1:(k == 1)=false:=by simp [hk1]
       have HK1:=aW hk1;clear hk1;by_cases hk2:k=2
       ·have ek2:(k == 2)=true:=by simp [hk2]
        have HK2:=aW hk2;clear hk2;go_wp2_with fail;refine (HBK.out _ (HB.out.trans (HH10.out.1.mono HB.out.size))).mono ?_;rintro e w12 ⟨rfl,hq12⟩;have HH12:=aW (HH10.out.keep hq12);clear hq12 c0 f0 l0;obtain ⟨c0,f0,l0⟩:=HH12.out.b0.rules;cases bk
        ·go_wp2;go_meet
         case rel=>exact ⟨by rw [HMS.out];simp [HDA0.out,HR0.out,HK1.out,HK2.out],aW (HB.out.trans (HH12.out.1.mono HB.out.size))⟩
        ·by_cases hs:s=[];rotate_left
         ·go_wp2;go_meet
          case rel=>exact ⟨by rw [HMS.out];simp [HDA0.out,HR0.out,HK1.out,HK2.out,hs],aW (HB.out.trans (HH12.out.1.mono HB.out.size))⟩
         ·subst hs;go_wp2_with fail;refine (HMB.out HR0.out _ (HB.out.trans (HH12.out.1.mono HB.out.size))).mono ?_;rintro e w13 ⟨rfl,hq13⟩;have HH13:=aW (HH12.out.keep hq13);clear hq13 c0 f0 l0;obtain ⟨c0,f0,l0⟩:=HH13.out.b0.rules;cases mb
          ·go_wp2;go_meet
           case rel=>exact ⟨by rw [HMS.out];simp [HDA0.out,HR0.out,HK1.out,HK2.out],aW (HB.out.trans (HH13.out.1.mono HB.out.size))⟩
          ·go_wp2_with fail;refine (HME.out HR0.out _ (HB.out.trans (HH13.out.1.mono HB.out.size))).mono ?_;rintro e w14 ⟨rfl,hq14⟩;have HH14:=aW (HH13.out.keep hq14);clear hq14 c0 f0 l0;obtain ⟨c0,f0,l0⟩:=HH14.out.b0.rules;cases me
           ·go_wp2;go_meet
            case rel=>exact ⟨by rw [HMS.out];simp [HDA0.out,HR0.out,HK1.out,HK2.out],aW (HB.out.trans (HH14.out.1.mono HB.out.size))⟩
           ·go_wp2;go_meet
            case rel=>exact ⟨by rw [HMS.out];simp [HDA0.out,HR0.out,HK1.out,HK2.out],aW (HB.out.trans (HH14.out.1.mono HB.out.size))⟩
       ·have ek2:(k == 2)=false:=by simp [hk2]
        have HK2:=aW hk2;clear hk2;by_cases hk3:k=3
        ·have ek3:(k == 3)=true:=by simp [hk3]
         have HK3:=aW hk3;clear hk3;go_wp2_with fail;refine (HBK.out _ (HB.out.trans (HH10.out.1.mono HB.out.size))).mono ?_;rintro e w15 ⟨rfl,hq15⟩;have HH15:=aW (HH10.out.keep hq15);clear hq15 c0 f0 l0;obtain ⟨c0,f0,l0⟩:=HH15.out.b0.rules;cases bk
         ·go_wp2;go_meet
          case rel=>exact ⟨by rw [HMS.out];simp [HDA0.out,HR0.out,HK1.out,HK2.out,HK3.out],aW (HB.out.trans (HH15.out.1.mono HB.out.size))⟩
         ·go_wp2_with fail;refine (HNM.out _ (HB.out.trans (HH15.out.1.mono HB.out.size))).mono ?_;rintro e w16 ⟨rfl,hq16⟩;have HH16:=aW (HH15.out.keep hq16);clear hq16 c0 f0 l0;obtain ⟨c0,f0,l0⟩:=HH16.out.b0.rules;cases nm
          ·go_wp2;go_meet
           case rel=>exact ⟨by rw [HMS.out];simp [HDA0.out,HR0.out,HK1.out,HK2.out,HK3.out],aW (HB.out.trans (HH16.out.1.mono HB.out.size))⟩
          ·go_wp2_with fail;refine (HMB.out HR0.out _ (HB.out.trans (HH16.out.1.mono HB.out.size))).mono ?_;rintro e w17 ⟨rfl,hq17⟩;have HH17:=aW (HH16.out.keep hq17);clear hq17 c0 f0 l0;obtain ⟨c0,f0,l0⟩:=HH17.out.b0.rules;cases mb
           ·go_wp2;go_meet
            case rel=>exact ⟨by rw [HMS.out];simp [HDA0.out,HR0.out,HK1.out,HK2.out,HK3.out],aW (HB.out.trans (HH17.out.1.mono HB.out.size))⟩
           ·by_cases hny:ne=0
            ·have eny:((ne:Int) == 0)=true:=by rw [beq_iff_eq];omega
             have HNy:=aW hny;clear hny;go_wp2;go_meet
             case rel=>exact ⟨by rw [HMS.out];simp [HDA0.out,HR0.out,HK1.out,HK2.out,HK3.out,HNy.out],aW (HB.out.trans (HH17.out.1.mono HB.out.size))⟩
            ·have eny:((ne:Int) == 0)=false:=by rw [beq_eq_false_iff_ne];omega
             have HNy:=aW hny;clear hny;go_wp2;go_meet
             case rel=>exact ⟨by rw [HMS.out];simp [HDA0.out,HR0.out,HK1.out,HK2.out,HK3.out,HNy.out],aW (HB.out.trans (HH17.out.1.mono HB.out.size))⟩
        ·have ek3:(k == 3)=false:=by simp [hk3]
         have HK3:=aW hk3;clear hk3;go_wp2;go_meet
         case rel=>exact ⟨by rw [HMS.out];simp [HDA0.out,HR0.out,HK1.out,HK2.out,HK3.out],aW (HB.out.trans (HH10.out.1.mono HB.out.size))⟩
     case rest =>
      obtain ⟨rfl,HBX⟩:=hcut;cases M
      ·have HD0:=aW (HXN.out rfl);go_wp2;go_ret;exact ⟨by rw [HD0.out];rfl,HBX.out⟩
      ·go_wp2;go_roundw
       case rel=>exact ⟨i+1,by omega,by go_num,HBX,HTK⟩
       case measure=>simp [intOf];omega
  ·obtain rfl:i=n:=by omega
   have HF:=aW (show D=true by
    have h:=HM.out;rw [List.take_of_length_le (Nat.le_of_eq HNK.out),HDD.out] at h;exact h)
   go_wp2;go_ret;exact ⟨by rw [HF.out];rfl,HB.out⟩
end
end Go.Proofs.YtgmnmnnoahdjnaaGreatDoor
