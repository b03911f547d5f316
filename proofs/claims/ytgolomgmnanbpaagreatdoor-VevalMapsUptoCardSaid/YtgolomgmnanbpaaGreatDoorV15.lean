import Derived.Test.YtgolomgmnanbpaaGreatDoorV13
import Derived.Test.YtgolomgmnanbpaaGreatDoorV12
open Go.Value renaming int → Zi, slice → Zs, string → Zt, pointer → Zp
open Go.IntKind renaming i64 → Zq
set_option maxRecDepth 100000
set_option maxHeartbeats 16000000
set_option linter.unusedVariables false
set_option linter.unusedSimpArgs false
namespace Go.Proofs.YtgolomgmnanbpaaGreatDoor
section
open Go.RowKit
attribute [local go_sem] aa ac ae ab
mutual
/-- what came in: a statement all parts of which are of a size -/
def gI:SJ->Prop | .mk k s a b body els=>iw k/\s.length<=4194304/\bh a/\bh b/\body.length<=4194304/\els.length<=4194304/\bK body/\bK els
def bK:List SJ->Prop | []=>True | x::r=>gI x/\bK r
end
theorem dg:∀ {xs:List SJ},bK xs ↔ ∀ x ∈ xs,gI x
 | []=>by simp [bK]
 | x::r=>by simp [bK,dg (xs:=r)]
theorem fE {d:Nat} {l:List SJ} {x:SJ}:aZ d (l++[x])=(aZ d l && eX d x):=by rw [rZ];simp [aZ]
theorem ei {W:World} {F:Nat->Prop} {css:List (List Value)} {xs:List SJ} {A:Option Addr} (h:SRs W F css xs) (hr:RdF W F A css.flatten) {i:Nat} {k:Int} {s:List UInt8} {a b:EJ} {body els:List SJ} (hx:xs[i]? = some (.mk k s a b body els)) :
  ∃ (bl o:Nat) (ka kva nva:Int) (sva:ByteArray) (Ava:Option Addr) (nka cka:Nat) (Bva:Option Addr) (nya cya:Nat) (sa:ByteArray) (Ca:Option Addr) (nxa cxa:Nat)
   (kb kvb nvb:Int) (svb:ByteArray) (Avb:Option Addr) (nkb ckb:Nat) (Bvb:Option Addr) (nyb cyb:Nat) (sb:ByteArray) (Cb:Option Addr) (nxb cxb:Nat) (BA EA:Option Addr) (cb ce:Nat) (bss ess:List (List Value)),
   A=some ⟨bl,o,none⟩/\bl<W.heap.size/\F bl/\ER W F [Zi Zq ka,Zi Zq kva,Zi Zq nva,Zt sva,Zs Ava nka cka,Zs Bva nya cya,Zt sa,Zs Ca nxa cxa] a/\ER W F [Zi Zq kb,Zi Zq kvb,Zi Zq nvb,Zt svb,Zs Avb nkb ckb,Zs Bvb nyb cyb,Zt sb,Zs Cb nxb cxb] b /\
   (SRs W F bss body/\body.length<=cb/\RdF W F BA bss.flatten)/\(SRs W F ess els/\els.length<=ce/\RdF W F EA ess.flatten) /\
   SR W F [Zi Zq k,Zt ⟨s.toArray⟩,Zi Zq ka,Zi Zq kva,Zi Zq nva,Zt sva,Zs Ava nka cka,Zs Bva nya cya,Zt sa,Zs Ca nxa cxa,Zi Zq kb,Zi Zq kvb,Zi Zq nvb,Zt svb,Zs Avb nkb ckb,Zs Bvb nyb cyb,Zt sb,Zs Cb nxb cxb,Zs BA body.length cb,Zs EA els.length ce] (.mk k s a b body els) /\
   ∀ (j:Nat) u,([Zi Zq k,Zt ⟨s.toArray⟩,Zi Zq ka,Zi Zq kva,Zi Zq nva,Zt sva,Zs Ava nka cka,Zs Bva nya cya,Zt sa,Zs Ca nxa cxa,Zi Zq kb,Zi Zq kvb,Zi Zq nvb,Zt svb,Zs Avb nkb ckb,Zs Bvb nyb cyb,Zt sb,Zs Cb nxb cxb,Zs BA body.length cb,Zs EA els.length ce]:List Value)[j]? = some u->W.cell? ⟨bl,o+(i*20+j),none⟩=some u:=by
 obtain ⟨bl,o,c,rfl,hb,hf,hc,hv,hz⟩:=h.cell (λ c x h=>h.len) (by decide) hr hx;have hv':=hv;obtain ⟨acs,bcs,BA,EA,cb,ce,bss,ess,rfl,ha,hbb,⟨g1,g2,g3,g4⟩,g5,g6,g7,g8⟩:=hv.out;obtain ⟨ka,kva,nva,sva,Ava,nka,cka,Bva,nya,cya,sa,Ca,nxa,cxa,rfl⟩:=ha.form;obtain ⟨kb,kvb,nvb,svb,Avb,nkb,ckb,Bvb,nyb,cyb,sb,Cb,nxb,cxb,rfl⟩:=hbb.form;refine ⟨bl,o,ka,kva,nva,sva,Ava,nka,cka,Bva,nya,cya,sa,Ca,nxa,cxa,kb,kvb,nvb,svb,Avb,nkb,ckb,Bvb,nyb,cyb,sb,Cb,nxb,cxb,BA,EA,cb,ce,bss,ess,rfl,hb,hf,ha,hbb,⟨g1,g2,g4⟩,⟨g5,g6,g8⟩,hv',λ j u hu=>hz j u ?_ hu⟩;have:=(List.getElem?_eq_some_iff.1 hu).1;simpa using this
theorem bP {P:Program} {ops:Array Oper} {rest:List Oper} {op:Oper} {a:Act} {w:World} {Q:Exit->Act->World->Prop} (hgd:op.guard=none) (ty:TypeId) (x y:Operand) (ho:op.op=.store ty x y)
  (old cells:Array Value) (hx:a.eval x=Zp (some ⟨w.heap.size,0,none⟩)) (hy:a.eval y=.agg cells)
  (hi:(P.info? ty).map (·.size)=some cells.size) (hs:old.size=cells.size) (h1:cells.all (·.oneCell')=true)
  (h:wpList P ops Q rest (a.put op.dst undef) (w.alloc (.cells cells ty))):wpList P ops Q (op::rest) a (w.alloc (.cells old ty)) :=
 wpList_plain hgd λ _ hK=>gG ty x y ho old cells hx hy hi hs h1 (hK _ _ h)
def ux (b:Bool) (w:World) (e:Ending) (w':World):Prop:=e=.returned (.bool b)/\Below w.heap.size w w'
def uO (r:Nat):Prop:=∀ (l:List SJ) (css:List (List Value)) (A:Option Addr) (n ca:Nat) (F:Nat->Prop) (w:World),GOE w->SRs w F css l->l.length=n->n<=ca->RdF w F A css.flatten->bK l->n<=4194304 ->
 Calls Tryz.prog 70 #[Zs A n ca,Zi Zq (r:Int)] w (ux (aZ r l) w)
theorem tT (r:Nat) (hr:r<=12) (ih:r≠0->uO (r-1)):uO r:=by
 intro l css A n ca F w hG hS hln hnc hR hC hn;have HG:=aW hG;have HKD:=aW (And.intro hS hR);have HNK:=aW hln;have HCL:=aW (dg.1 hC);obtain ⟨R,hRr⟩:∃ R:Int,(r:Int)=R:=⟨_,rfl⟩
 have HRR:=aW hRr;obtain ⟨D,hD⟩:∃ D,aZ r l=D:=⟨_,rfl⟩
 have HDD:=aW hD;have hsub:IntKind.i64.wrap (R-1)=R-1:=IntWalk.i64_in _ (by omega);have HSUB:=aW hsub;rw [hRr,hD];clear hG hS hln hR hC hRr hD hsub;go_enter Tryz.func70,Tryz.ntmps70;go_wp2;go_loopw [10] (λ s10 wr => ∃ i:Nat,i<=n/\s10=Zi Zq (i:Int)/\Hid (Below w.heap.size w wr)/\Hid (aZ r (l.take i)=true)) (λ s10 _=>n-(intOf s10).toNat)
 case atStart=>exact ⟨0,by omega,rfl,aW (Below.refl _ _),aW (by rw [List.take_zero,aZ])⟩
 case round =>
  obtain ⟨i,hi,rfl,HB,HM⟩:=hrel;by_cases hin:i<n
  ·obtain ⟨x,hx⟩:∃ x,l[i]? = some x:=⟨_,List.getElem?_eq_getElem (by rw [HNK.out];exact hin)⟩
   have hxm:=List.mem_of_getElem? hx;have hcx:=HCL.out x hxm;have HTK:=aW (show aZ r (l.take (i+1))=eX r x by rw [List.take_add_one,hx];show aZ r (l.take i++[x])=_;rw [fE,HM.out,Bool.true_and]);have HXN:=aW (show eX r x=false->D=false from λ h0=>by
    rw [← HDD.out];cases hd:aZ r l with
    | false=>rfl
    | true=>have:=ft.1 hd x hxm;rw [h0] at this;cases this)
   obtain ⟨k,s,a,b,body,els⟩:=x;obtain ⟨bl,o,ka,kva,nva,sva,Ava,nka,cka,Bva,nya,cya,sa,Ca,nxa,cxa,kb,kvb,nvb,svb,Avb,nkb,ckb,Bvb,nyb,cyb,sb,Cb,nxb,cxb,BA,EA,cb,ce,bss,ess,rfl,hbl,_,hEA,hEB,⟨hb1,hb2,hb3⟩,⟨he1,he2,he3⟩,hSR,hz⟩:=ei HKD.out.1 HKD.out.2 hx;unfold gI at hcx;obtain ⟨hik,hsl,hca,hcb,hbl4,hel4,hcbo,hcel⟩:=hcx;obtain ⟨nb,hnb⟩:∃ q,body.length=q:=⟨_,rfl⟩
   obtain ⟨ne,hne⟩:∃ q,els.length=q:=⟨_,rfl⟩
   rw [hnb] at hb2 hbl4 hz;rw [hne] at he2 hel4 hz;obtain ⟨da,hda⟩:∃ d,bx 12 a=d:=⟨_,rfl⟩
   obtain ⟨db,hdb⟩:∃ d,bx 12 b=d:=⟨_,rfl⟩
   obtain ⟨bk,hbk⟩:∃ z,cq b=z:=⟨_,rfl⟩
   obtain ⟨nm,hnm⟩:∃ z,dN s=z:=⟨_,rfl⟩
   obtain ⟨mb,hmb⟩:∃ z,aZ (r-1) body=z:=⟨_,rfl⟩
   obtain ⟨me,hme⟩:∃ z,aZ (r-1) els=z:=⟨_,rfl⟩
   have HDA:=aW (λ (W:World) (h:Below w.heap.size w W)=>rY 12 (by omega) a _ F W (HG.out.keep h) (hEA.bel h) hca);have HDB:=aW (λ (W:World) (h:Below w.heap.size w W)=>rY 12 (by omega) b _ F W (HG.out.keep h) (hEB.bel h) hcb);have HBK:=aW (λ (W:World) (h:Below w.heap.size w W)=>uA b _ F W (hEB.bel h) hcb);have HNM:=aW (λ (W:World) (h:Below w.heap.size w W)=>jB ⟨s.toArray⟩ W);have HMB:=aW (λ (h0:r≠0) (W:World) (h:Below w.heap.size w W)=>ih h0 body bss BA nb cb F W (HG.out.keep h) (RR.imp hb1 λ c x hc=>hc.bel h) hnb hb2 (hb3.keep (af.of_below h)) hcbo hbl4);have HME:=aW (λ (h0:r≠0) (W:World) (h:Below w.heap.size w W)=>ih h0 els ess EA ne ce F W (HG.out.keep h) (RR.imp he1 λ c x hc=>hc.bel h) hne he2 (he3.keep (af.of_below h)) hcel hel4);rw [show bF ⟨s.toArray⟩=nm from hnm] at HNM;rw [hbk] at HBK;unfold uf at HDA HDB;rw [hda] at HDA;rw [hdb] at HDB;rw [hmb] at HMB;rw [hme] at HME;unfold ux at HMB HME;have HMS:=aW (show eX r (.mk k s a b body els)=(decide (r≠0) && (decide (da≠0) && (if k=1 then decide (db≠0) && decide (s=[]/\nb+ne=0) else if k=2 then bk && (decide (s=[]) && (mb && me)) else if k=3 then bk && (nm && (mb && decide (ne=0))) else false))) by
    unfold eX dF;simp only [hda,hdb,hbk,hnm,hmb,hme,hnb,hne])
   obtain ⟨M,hM⟩:∃ M,eX r (.mk k s a b body els)=M:=⟨_,rfl⟩
   rw [hM] at HMS HTK HXN;have hlb:bl<wr.heap.size:=Nat.lt_of_lt_of_le hbl HB.out.size;have hz':=λ (j:Nat) u (hu:([Zi Zq k,Zt ⟨s.toArray⟩,Zi Zq ka,Zi Zq kva,Zi Zq nva,Zt sva,Zs Ava nka cka,Zs Bva nya cya,Zt sa,Zs Ca nxa cxa,Zi Zq kb,Zi Zq kvb,Zi Zq nvb,Zt svb,Zs Avb nkb ckb,Zs Bvb nyb cyb,Zt sb,Zs Cb nxb cxb,Zs BA nb cb,Zs EA ne ce]:List Value)[j]? = some u)=>(HB.out.cell (p:=⟨bl,o+(i*20+j),none⟩) hbl).trans (hz j u hu)
   have HRG:=aW (show wr.rangeAt bl (o+i*20) [Zi Zq k,Zt ⟨s.toArray⟩,Zi Zq ka,Zi Zq kva,Zi Zq nva,Zt sva,Zs Ava nka cka,Zs Bva nya cya,Zt sa,Zs Ca nxa cxa,Zi Zq kb,Zi Zq kvb,Zi Zq nvb,Zt svb,Zs Avb nkb ckb,Zs Bvb nyb cyb,Zt sb,Zs Cb nxb cxb,Zs BA nb cb,Zs EA ne ce] from λ j v hv=>by rw [Nat.add_assoc];exact hz' j v hv);clear hz hz' hSR hEA hEB hb1 hb2 hb3 he1 he2 he3 hca hcb hcbo hcel hnb hne hda hdb hbk hnm hmb hme hM hx hxm hbl;have HH1:=aW ((aj.nil wr).push 69 #[Zi Zq k,Zt ⟨s.toArray⟩,Zi Zq ka,Zi Zq kva,Zi Zq nva,Zt sva,Zs Ava nka cka,Zs Bva nya cya,Zt sa,Zs Ca nxa cxa,Zi Zq kb,Zi Zq kvb,Zi Zq nvb,Zt svb,Zs Avb nkb ckb,Zs Bvb nyb cyb,Zt sb,Zs Cb nxb cxb,Zs BA nb cb,Zs EA ne ce] (g:=wr.heap.size) rfl);go_upto_region 3 with fail;go_step;go_step;go_step;go_step;refine wpList_load_mid rfl 69 (.tmp 12) rfl bl (o+i*20) rfl [Zi Zq k,Zt ⟨s.toArray⟩,Zi Zq ka,Zi Zq kva,Zi Zq nva,Zt sva,Zs Ava nka cka,Zs Bva nya cya,Zt sa,Zs Ca nxa cxa,Zi Zq kb,Zi Zq kvb,Zi Zq nvb,Zt svb,Zs Avb nkb ckb,Zs Bvb nyb cyb,Zt sb,Zs Cb nxb cxb,Zs BA nb cb,Zs EA ne ce] _ HRG.out Tryz.underlying69 rfl (by kernel_rfl) ?_;go_step;go_step;go_step;refine bP rfl 69 (.tmp 6) (.tmp 13) rfl _ _ rfl rfl (by kernel_rfl) (by kernel_rfl) (by first | kernel_rfl | simp [Value.oneCell']) ?_;obtain ⟨c0,f0,l0⟩:=HH1.out.b0.rules;by_cases hr0:r=0
   ·have hR0:¬ (0:Int)<R:=by have:=HRR.out;omega
    have HR0:=aW hr0;clear hr0;go_upto_block 2 with fail;go_cut [7] (λ s7 wx=>s7=.bool M/\Hid (Below w.heap.size w wx))
    case first =>
     by_cases hk1:k=1
     ·have ek1:(k == 1)=true:=by simp [hk1]
      have HK1:=aW hk1;clear hk1;go_wp2;go_meet
      case rel=>exact ⟨by rw [HMS.out];simp [HR0.out],aW (HB.out.trans (HH1.out.1.mono HB.out.size))⟩
     ·have ek1:(k == 1)=false:=by simp [hk1]
      have HK1:=aW hk1;clear hk1;by_cases hk2:k=2
      ·have ek2:(k == 2)=true:=by simp [hk2]
       have HK2:=aW hk2;clear hk2;go_wp2;go_meet
       case rel=>exact ⟨by rw [HMS.out];simp [HR0.out],aW (HB.out.trans (HH1.out.1.mono HB.out.size))⟩
      ·have ek2:(k == 2)=false:=by simp [hk2]
       have HK2:=aW hk2;clear hk2;by_cases hk3:k=3
       ·have ek3:(k == 3)=true:=by simp [hk3]
        have HK3:=aW hk3;clear hk3;go_wp2;go_meet
        case rel=>exact ⟨by rw [HMS.out];simp [HR0.out],aW (HB.out.trans (HH1.out.1.mono HB.out.size))⟩
       ·have ek3:(k == 3)=false:=by simp [hk3]
        have HK3:=aW hk3;clear hk3;go_wp2;go_meet
        case rel=>exact ⟨by rw [HMS.out];simp [HR0.out],aW (HB.out.trans (HH1.out.1.mono HB.out.size))⟩
    case rest =>
     obtain ⟨rfl,HBX⟩:=hcut;cases M
     ·have HD0:=aW (HXN.out rfl);go_wp2;go_ret;exact ⟨by rw [HD0.out];rfl,HBX.out⟩
     ·go_wp2;go_roundw
      case rel=>exact ⟨i+1,by omega,by go_num,HBX,HTK⟩
      case measure=>simp [intOf];omega
   ·have hR0:(0:Int)<R:=by have:=HRR.out;omega
    have HR0:=aW hr0;have hs1:=HSUB.out;have hs2:((r-1:Nat):Int)=R-1:=by have:=HRR.out;omega
    rw [hs2] at HMB HME;clear hr0 hs2;go_wp2_with fail;refine (HDA.out _ (HB.out.trans (HH1.out.1.mono HB.out.size))).mono ?_;rintro e w10 ⟨rfl,hq10⟩;have HH10:=aW (HH1.out.keep hq10);clear hq10 c0 f0 l0;obtain ⟨c0,f0,l0⟩:=HH10.out.b0.rules;by_cases hda0:da=0
    ·have e0:¬ (0:Int)<(da:Int):=by omega
     have HDA0:=aW hda0;clear hda0;go_upto_block 2 with fail;go_cut [7] (λ s7 wx=>s7=.bool M/\Hid (Below w.heap.size w wx))
     case first =>
      by_cases hk1:k=1
      ·have ek1:(k == 1)=true:=by simp [hk1]
       have HK1:=aW hk1;clear hk1;go_wp2;go_meet
       case rel=>exact ⟨by rw [HMS.out];simp [HDA0.out],aW (HB.out.trans (HH10.out.1.mono HB.out.size))⟩
      ·have ek1:(k == 1)=false:=by simp [hk1]
       have HK1:=aW hk1;clear hk1;by_cases hk2:k=2
       ·have ek2:(k == 2)=true:=by simp [hk2]
        have HK2:=aW hk2;clear hk2;go_wp2;go_meet
        case rel=>exact ⟨by rw [HMS.out];simp [HDA0.out],aW (HB.out.trans (HH10.out.1.mono HB.out.size))⟩
       ·have ek2:(k == 2)=false:=by simp [hk2]
        have HK2:=aW hk2;clear hk2;by_cases hk3:k=3
        ·have ek3:(k == 3)=true:=by simp [hk3]
         have HK3:=aW hk3;clear hk3;go_wp2;go_meet
         case rel=>exact ⟨by rw [HMS.out];simp [HDA0.out],aW (HB.out.trans (HH10.out.1.mono HB.out.size))⟩
        ·have ek3:(k == 3)=false:=by simp [hk3]
         have HK3:=aW hk3;clear hk3;go_wp2;go_meet
         case rel=>exact ⟨by rw [HMS.out];simp [HDA0.out],aW (HB.out.trans (HH10.out.1.mono HB.out.size))⟩
     case rest =>
      obtain ⟨rfl,HBX⟩:=hcut;cases M
      ·have HD0:=aW (HXN.out rfl);go_wp2;go_ret;exact ⟨by rw [HD0.out];rfl,HBX.out⟩
      ·go_wp2;go_roundw
       case rel=>exact ⟨i+1,by omega,by go_num,HBX,HTK⟩
       case measure=>simp [intOf];omega
    ·have e0:(0:Int)<(da:Int):=by omega
     have HDA0:=aW hda0;clear hda0;go_upto_block 2 with fail;go_cut [7] (λ s7 wx=>s7=.bool M/\Hid (Below w.heap.size w wx))
     case first =>
      by_cases hk1:k=1
      ·have ek1:(k == 1)=true:=by simp [hk1]
       have HK1:=aW hk1;clear hk1;go_wp2_with fail;refine (HDB.out _ (HB.out.trans (HH10.out.1.mono HB.out.size))).mono ?_;rintro e w11 ⟨rfl,hq11⟩;have HH11:=aW (HH10.out.keep hq11);clear hq11 c0 f0 l0;obtain ⟨c0,f0,l0⟩:=HH11.out.b0.rules;by_cases hdb0:db=0
       ·have e0:¬ (0:Int)<(db:Int):=by omega
        have HDB0:=aW hdb0;clear hdb0;go_wp2;go_meet
        case rel=>exact ⟨by rw [HMS.out];simp [HDA0.out,HR0.out,HK1.out,HDB0.out],aW (HB.out.trans (HH11.out.1.mono HB.out.size))⟩
       ·have e0:(0:Int)<(db:Int):=by omega
        have HDB0:=aW hdb0;clear hdb0;by_cases hs:s=[];rotate_left
        ·go_wp2;go_meet
         case rel=>exact ⟨by rw [HMS.out];simp [HDA0.out,HR0.out,HK1.out,HDB0.out,hs],aW (HB.out.trans (HH11.out.1.mono HB.out.size))⟩
        ·subst hs;by_cases hnz:nb+ne=0
         ·have enz:((nb:Int)+ne == 0)=true:=by rw [beq_iff_eq];omega
          have HNz:=aW hnz;clear hnz;go_wp2;go_meet
          case rel=>exact ⟨by rw [HMS.out];have hz9:=HNz.out;simp [HDA0.out,HR0.out,HK1.out,HDB0.out];omega,aW (HB.out.trans (HH11.out.1.mono HB.out.size))⟩
         ·have enz:((nb:Int)+ne == 0)=false:=by rw [beq_eq_false_iff_ne];omega
          have HNz:=aW hnz;clear hnz;go_wp2;go_meet
          case rel=>exact ⟨by rw [HMS.out];have hz9:=HNz.out;simp [HDA0.out,HR0.out,HK1.out,HDB0.out];omega,aW (HB.out.trans (HH11.out.1.mono HB.out.size))⟩
      ·have ek1:(k == 1)=false:=by simp [hk1]
       have HK1:=aW hk1;clear hk1;by_cases hk2:k=2
       ·have ek2:(k == 2)=true:=by simp [hk2]
        have HK2:=aW hk2;clear hk2;go_wp2_with fail;refine (HBK.out _ (HB.out.trans (HH10.out.1.mono HB.out.size))).mono ?_;rintro e w12 ⟨rfl,hq12⟩;have HH12:=aW (HH10.out.keep hq12);clear hq12 c0 f0 l0;obtain ⟨c0,f0,l0⟩:=HH12.out.b0.rules;cases bk
        ·go_wp2;go_meet
         case rel=>exact ⟨by rw [HMS.out];simp [HDA0.out,HR0.out,HK1.out,HK2.out],aW (HB.out.trans (HH12.out.1.mono HB.out.size))⟩
        ·by_cases hs:s=[];rotate_left
         ·go_wp2;go_meet
          case rel=>exact ⟨by rw [HMS.out];simp [HDA0.out,HR0.out,HK1.out,HK2.out,hs],aW (HB.out.trans (HH12.out.1.mono HB.out.size))⟩
         ·subst hs;go_wp2_with fail;refine (HMB.out HR0.out _ (HB.out.trans (HH12.out.1.mono HB.out.size))).mono ?_;rintro e w13 ⟨rfl,hq13⟩;have HH13:=aW (HH12.out.keep hq13);clear hq13 c0 f0 l0;obtain ⟨c0,f0,l0⟩:=HH13.out.b0.rules;cases mb
          ·go_wp2;go_meet
           case rel=>exact ⟨by rw [HMS.out];simp [HDA0.out,HR0.out,HK1.out,HK2.out],aW (HB.out.trans (HH13.out.1.mono HB.out.size))⟩
          ·go_wp2_with fail;refine (HME.out HR0.out _ (HB.out.trans (HH13.out.1.mono HB.out.size))).mono ?_;rintro e w14 ⟨rfl,hq14⟩;have HH14:=aW (HH13.out.keep hq14);clear hq14 c0 f0 l0;obtain ⟨c0,f0,l0⟩:=HH14.out.b0.rules;cases me
           ·go_wp2;go_meet
            case rel=>exact ⟨by rw [HMS.out];simp [HDA0.out,HR0.out,HK1.out,HK2.out],aW (HB.out.trans (HH14.out.1.mono HB.out.size))⟩
           ·go_wp2;go_meet
            case rel=>exact ⟨by rw [HMS.out];simp [HDA0.out,HR0.out,HK1.out,HK2.out],aW (HB.out.trans (HH14.out.1.mono HB.out.size))⟩
       ·have ek2:(k == 2)=false:=by simp [hk2]
        have HK2:=aW hk2;clear hk2;by_cases hk3:k=3
        ·have ek3:(k == 3)=true:=by simp [hk3]
         have HK3:=aW hk3;clear hk3;go_wp2_with fail;refine (HBK.out _ (HB.out.trans (HH10.out.1.mono HB.out.size))).mono ?_;rintro e w15 ⟨rfl,hq15⟩;have HH15:=aW (HH10.out.keep hq15);clear hq15 c0 f0 l0;obtain ⟨c0,f0,l0⟩:=HH15.out.b0.rules;cases bk
         ·go_wp2;go_meet
          case rel=>exact ⟨by rw [HMS.out];simp [HDA0.out,HR0.out,HK1.out,HK2.out,HK3.out],aW (HB.out.trans (HH15.out.1.mono HB.out.size))⟩
         ·go_wp2_with fail;refine (HNM.out _ (HB.out.trans (HH15.out.1.mono HB.out.size))).mono ?_;rintro e w16 ⟨rfl,hq16⟩;have HH16:=aW (HH15.out.keep hq16);clear hq16 c0 f0 l0;obtain ⟨c0,f0,l0⟩:=HH16.out.b0.rules;cases nm
          ·go_wp2;go_meet
           case rel=>exact ⟨by rw [HMS.out];simp [HDA0.out,HR0.out,HK1.out,HK2.out,HK3.out],aW (HB.out.trans (HH16.out.1.mono HB.out.size))⟩
          ·go_wp2_with fail;refine (HMB.out HR0.out _ (HB.out.trans (HH16.out.1.mono HB.out.size))).mono ?_;rintro e w17 ⟨rfl,hq17⟩;have HH17:=aW (HH16.out.keep hq17);clear hq17 c0 f0 l0;obtain ⟨c0,f0,l0⟩:=HH17.out.b0.rules;cases mb
           ·go_wp2;go_meet
            case rel=>exact ⟨by rw [HMS.out];simp [HDA0.out,HR0.out,HK1.out,HK2.out,HK3.out],aW (HB.out.trans (HH17.out.1.mono HB.out.size))⟩
           ·by_cases hny:ne=0
            ·have eny:((ne:Int) == 0)=true:=by rw [beq_iff_eq];omega
             have HNy:=aW hny;clear hny;go_wp2;go_meet
             case rel=>exact ⟨by rw [HMS.out];simp [HDA0.out,HR0.out,HK1.out,HK2.out,HK3.out,HNy.out],aW (HB.out.trans (HH17.out.1.mono HB.out.size))⟩
            ·have eny:((ne:Int) == 0)=false:=by rw [beq_eq_false_iff_ne];omega
             have HNy:=aW hny;clear hny;go_wp2;go_meet
             case rel=>exact ⟨by rw [HMS.out];simp [HDA0.out,HR0.out,HK1.out,HK2.out,HK3.out,HNy.out],aW (HB.out.trans (HH17.out.1.mono HB.out.size))⟩
        ·have ek3:(k == 3)=false:=by simp [hk3]
         have HK3:=aW hk3;clear hk3;go_wp2;go_meet
         case rel=>exact ⟨by rw [HMS.out];simp [HDA0.out,HR0.out,HK1.out,HK2.out,HK3.out],aW (HB.out.trans (HH10.out.1.mono HB.out.size))⟩
     case rest =>
      obtain ⟨rfl,HBX⟩:=hcut;cases M
      ·have HD0:=aW (HXN.out rfl);go_wp2;go_ret;exact ⟨by rw [HD0.out];rfl,HBX.out⟩
      ·go_wp2;go_roundw
       case rel=>exact ⟨i+1,by omega,by go_num,HBX,HTK⟩
       case measure=>simp [intOf];omega
  ·obtain rfl:i=n:=by omega
   have HF:=aW (show D=true by
    have h:=HM.out;rw [List.take_of_length_le (Nat.le_of_eq HNK.out),HDD.out] at h;exact h)
   go_wp2;go_ret;exact ⟨by rw [HF.out];rfl,HB.out⟩
def fU (w:World) (t:TypeId) (cs cs':Array Value) (wr:World):Prop:=Blk wr w.heap.size t cs/\Blk wr (w.heap.size+1) t cs'/\Grw w wr
theorem fU.new (w:World) (t:TypeId) (cs cs':Array Value):fU w t cs cs' ((w.alloc (.cells cs t)).alloc (.cells cs' t)):=by
 refine ⟨(Blk.new w t cs).alloc _,?_,((Grw.refl w).alloc _).alloc _⟩;have:=Blk.new (w.alloc (.cells cs t)) t cs';rw [World.size_alloc] at this;exact this
theorem fU.keep {w wr wx:World} {t:TypeId} {cs cs':Array Value} (h:fU w t cs cs' wr) (hb:Grw wr wx):fU w t cs cs' wx:=⟨h.1.keep hb.1,h.2.1.keep hb.1,h.2.2.trans hb⟩
theorem fU.drew {w wr:World} {t:TypeId} {cs cs':Array Value} (h:fU w t cs cs' wr):fU w t cs cs' wr.drew:=⟨h.1.drew,h.2.1.drew,h.2.2.drew⟩
theorem vA {n nq p q:Int} (hn:iw n) (hq:iw nq) (h:nq<=n) (hp:IntKind.u64.wrap n=p) (hq2:IntKind.u64.wrap nq=q):IntKind.u64.wrap (p-q)=n-nq:=by
 unfold iw at hn hq;subst hp hq2;simp [IntKind.wrap,IntKind.bits,IntKind.signed];omega
theorem gM:∀ (N:Nat) (a b:JV),ar a<=N->∀ (d d':Nat) (cs cs':List Value) (F F':Nat->Prop) (w:World),VR w F cs a->VR w F' cs' b->aN d a=true->aN d' b=true->au a->au b ->
  Calls Tryz.prog 192 #[.agg cs.toArray,.agg cs'.toArray] w (dq (bp a b) w)
 | 0,v,_,h,_,_,_,_,_,_,_,_,_,_,_,_,_=>by have:=bj v;omega
 |N+1,.mk k n s kids keys,.mk kq nq sq kidsq keysq,hN,d,d',cs,cs',F,F',w,hv,hv',hR,hR',hC,hC'=>by
  have ih:=gM N;obtain ⟨hal,hdd,hrk⟩:=aK hR;obtain ⟨hal',hdd',hrk'⟩:=aK hR';unfold ar at hN;obtain ⟨_,hin,hsl,hkl,hyl,_,hck⟩:=hC.out;obtain ⟨_,hinq,hsl',hkl',hyl',_,hck'⟩:=hC'.out;have hk6:=aH hal;have hk6':=aH hal';have HRA:=aW (λ W (h:Grw w W)=>lh cs k n s kids keys F W (hv.keep (af.of_below h.1)) hk6);have HRB:=aW (λ W (h:Grw w W)=>lh cs' kq nq sq kidsq keysq F' W (hv'.keep (af.of_below h.1)) hk6');obtain ⟨A,B,ca,cb,css,rfl,h1,h2,h3,h4,h5,h6,h7⟩:=hv.out;obtain ⟨Aq,Bq,caq,cbq,cssq,rfl,h1q,h2q,h3q,h4q,h5q,h6q,h7q⟩:=hv'.out;obtain ⟨ra,hra⟩:∃ ra,aT (.mk k n s kids keys)=ra:=⟨_,rfl⟩
  obtain ⟨rb,hrb⟩:∃ rb,aT (.mk kq nq sq kidsq keysq)=rb:=⟨_,rfl⟩
  have hrab:0<=ra/\ra<=6:=by have:=gA (n:=n) (s:=s) (kids:=kids) (keys:=keys) hk6;omega
  have hrbb:0<=rb/\rb<=6:=by have:=gA (n:=nq) (s:=sq) (kids:=kidsq) (keys:=keysq) hk6';omega
  have hcj:bp (.mk k n s kids keys) (.mk kq nq sq kidsq keysq)=(if aT (.mk k n s kids keys)≠aT (.mk kq nq sq kidsq keysq) then di (aT (.mk k n s kids keys)-aT (.mk kq nq sq kidsq keysq)) else if k=3 then mh n nq else if k=4 then cK s sq else cd (decide (k=6)) kids keys kidsq keysq):=by rw [bp];rfl
  rw [hra,hrb] at hcj;rw [hra] at HRA;rw [hrb] at HRB;have HSG:=aW (λ n W=>ll n W);have HKEY:=aW (show kq=k->k=6->keys.length=kids.length/\keysq.length=kidsq.length from λ e h=>⟨(keyed hal).1 h,(keyed hal').1 (e.trans h)⟩);have HKK:=aW (λ (hkk:kq=k) W (h:Grw w W)=>qx (k:=k) (kq:=kq) (n:=n) (nq:=nq) (s:=s) (sq:=sq) (ca:=ca) (cb:=cb) (caq:=caq) (cbq:=cbq) W (h1.keep (af.of_below h.1)) (h6.keep (af.of_below h.1)) (h7.keep (af.of_below h.1)) (h1q.keep (af.of_below h.1)) (h6q.keep (af.of_below h.1)) (h7q.keep (af.of_below h.1)) h2 h3 h2q h3q hkl hyl hkl' hyl' (HKEY.out hkk)
   (λ x hx y hy W2 csx csy Fx Fy hvx hvy=>by
    obtain ⟨i,hi⟩:=List.mem_iff_getElem?.1 hx;obtain ⟨hn1,hn2⟩:=bO hi;exact ih x y (by omega) (d-1) (d'-1) csx csy Fx Fy W2 hvx hvy (bC.1 hrk x hx) (bC.1 hrk' y hy) (hck x hx) (hck' y hy)))
  have HCJ:=aW hcj;obtain ⟨R,hRR⟩:∃ R,bp (.mk k n s kids keys) (.mk kq nq sq kidsq keysq)=R:=⟨_,rfl⟩
  rw [hRR] at HCJ ⊢;obtain ⟨nk,hnk⟩:∃ nk,kids.length=nk:=⟨_,rfl⟩
  obtain ⟨ny,hny⟩:∃ ny,keys.length=ny:=⟨_,rfl⟩
  obtain ⟨nkq,hnkq⟩:∃ nkq,kidsq.length=nkq:=⟨_,rfl⟩
  obtain ⟨nyq,hnyq⟩:∃ nyq,keysq.length=nyq:=⟨_,rfl⟩
  rw [hnk,hny] at HRA;rw [hnkq,hnyq] at HRB;rw [hnk,hny,hnkq,hnyq] at HKK ⊢;have HTB:=aW (fU.new w 25 #[Zi Zq k,Zi Zq n,Zt ⟨s.toArray⟩,Zs A nk ca,Zs B ny cb] #[Zi Zq kq,Zi Zq nq,Zt ⟨sq.toArray⟩,Zs Aq nkq caq,Zs Bq nyq cbq]);have HSAME:=aW (λ e=>iy hal hal' (hra.trans (Eq.trans e hrb.symm)));clear hv hv' hcj hRR hal hal' hrk hrk' hR hR' hC hC' hck hck' h1 h1q h2 h2q h3 h3q h4 h4q h5 h5q h6 h6q h7 h7q hra hrb hnk hny hnkq hnyq ih HKEY hdd hdd';have y1:w.heap.size≠w.heap.size+1:=by omega
  have y2:w.heap.size+1≠w.heap.size:=by omega
  by_cases hrr:ra=rb
  case neg =>
   have HR:=aW (show R=di (ra-rb) by rw [HCJ.out,if_pos hrr]);have hd1:((ra-rb) == 0)=false:=by simp;omega
   have hd2:((ra-rb) != 0)=true:=by simp;omega
   obtain ⟨dd,hdd⟩:∃ dd,ra-rb=dd:=⟨_,rfl⟩
   rw [hdd] at HR hd1 hd2;have HDD:=aW hdd;have hdr:-6<=dd/\dd<=6:=by omega
   have hwd:IntKind.i64.wrap dd=dd:=by rw [IntKind.wrap_i64];omega
   go_enter Tryz.func192,Tryz.ntmps192;go_wp2;refine wp_region_held_drew (S:=λ w'=>fU w 25 #[Zi Zq k,Zi Zq n,Zt ⟨s.toArray⟩,Zs A nk ca,Zs B ny cb] #[Zi Zq kq,Zi Zq nq,Zt ⟨sq.toArray⟩,Zs Aq nkq caq,Zs Bq nyq cbq] w') (by kernel_rfl) (by exact HTB.out.drew) (λ hHeld=>?_);refine aY 0 6 (.agg #[Zi Zq k,Zi Zq n,Zt ⟨s.toArray⟩,Zs A nk ca,Zs B ny cb]) rfl ?_ ?_
   ·intro W hSw;obtain ⟨⟨c1,f1,l1⟩,⟨c2,f2,l2⟩⟩:=And.intro hSw.1.rules hSw.2.1.rules;go_simp
   refine aY 2 8 (.agg #[Zi Zq kq,Zi Zq nq,Zt ⟨sq.toArray⟩,Zs Aq nkq caq,Zs Bq nyq cbq]) rfl ?_ ?_
   ·intro W hSw;obtain ⟨⟨c1,f1,l1⟩,⟨c2,f2,l2⟩⟩:=And.intro hSw.1.rules hSw.2.1.rules;go_simp
   refine aV 1 7 rfl (λ K hK=>?_);go_simp;refine (HRA.out _ HTB.out.drew.2.2).mono ?_;rintro e w2 ⟨rfl,hb2⟩;have ht2:=HTB.out.drew.keep hb2;refine hK.out _ _ (ht2) (λ hHeld2=>?_);clear hK K hHeld
   try simp only [pU]
   refine aV 3 9 rfl (λ K hK=>?_);go_simp;refine (HRB.out _ ht2.2.2).mono ?_;rintro e w3 ⟨rfl,hb3⟩;have ht3:=ht2.keep hb3;refine hK.out _ _ (ht3) (λ hHeld2=>?_);clear hK K
   try simp only [pU]
   refine aY 4 10 (Zi Zq dd) rfl ?_ ?_
   ·intro W hSw;obtain ⟨⟨c1,f1,l1⟩,⟨c2,f2,l2⟩⟩:=And.intro hSw.1.rules hSw.2.1.rules;go_simp
   refine aY 5 5 (Zi Zq dd) rfl ?_ ?_
   ·intro W hSw;obtain ⟨⟨c1,f1,l1⟩,⟨c2,f2,l2⟩⟩:=And.intro hSw.1.rules hSw.2.1.rules;go_simp
   refine aX ?_;have HT3:=aW ht3;clear hb2 hb3 ht2 ht3;obtain ⟨c1,f1,l1⟩:=HT3.out.1.rules;obtain ⟨c2,f2,l2⟩:=HT3.out.2.1.rules;go_wp2_with fail;refine (HSG.out dd _).mono ?_;rintro e w4 ⟨rfl,rfl⟩;go_wp2;go_ret;exact ⟨by rw [HR.out];rfl,HT3.out.2.2⟩
  obtain ⟨ek,-,-⟩:=HSAME.out hrr;clear HSAME;subst hrr ek;have HCJ2:=aW (show R=if k=3 then mh n nq else if k=4 then cK s sq else cd (decide (k=6)) kids keys kidsq keysq by rw [HCJ.out,if_neg (show ¬ (ra≠ra) from λ h=>h rfl)]);clear HCJ;have hd0:ra-ra=0:=by omega
  have hwd0:IntKind.i64.wrap 0=0:=by decide
  by_cases k3:k=3
  ·subst k3;have HR:=aW (show R=mh n nq by rw [HCJ2.out,if_pos rfl]);by_cases hlt:n<nq
   ·have HRV:=aW (show R = -1 by rw [HR.out];unfold mh di;rw [if_pos (by omega)]);go_enter Tryz.func192,Tryz.ntmps192;go_wp2;refine wp_region_held_drew (S:=λ w'=>fU w 25 #[Zi Zq 3,Zi Zq n,Zt ⟨s.toArray⟩,Zs A nk ca,Zs B ny cb] #[Zi Zq 3,Zi Zq nq,Zt ⟨sq.toArray⟩,Zs Aq nkq caq,Zs Bq nyq cbq] w') (by kernel_rfl) (by exact HTB.out.drew) (λ hHeld=>?_);refine aY 0 6 (.agg #[Zi Zq 3,Zi Zq n,Zt ⟨s.toArray⟩,Zs A nk ca,Zs B ny cb]) rfl ?_ ?_
    ·intro W hSw;obtain ⟨⟨c1,f1,l1⟩,⟨c2,f2,l2⟩⟩:=And.intro hSw.1.rules hSw.2.1.rules;go_simp
    refine aY 2 8 (.agg #[Zi Zq 3,Zi Zq nq,Zt ⟨sq.toArray⟩,Zs Aq nkq caq,Zs Bq nyq cbq]) rfl ?_ ?_
    ·intro W hSw;obtain ⟨⟨c1,f1,l1⟩,⟨c2,f2,l2⟩⟩:=And.intro hSw.1.rules hSw.2.1.rules;go_simp
    refine aV 1 7 rfl (λ K hK=>?_);go_simp;refine (HRA.out _ HTB.out.drew.2.2).mono ?_;rintro e w2 ⟨rfl,hb2⟩;have ht2:=HTB.out.drew.keep hb2;refine hK.out _ _ (ht2) (λ hHeld2=>?_);clear hK K hHeld
    try simp only [pU]
    refine aV 3 9 rfl (λ K hK=>?_);go_simp;refine (HRB.out _ ht2.2.2).mono ?_;rintro e w3 ⟨rfl,hb3⟩;have ht3:=ht2.keep hb3;refine hK.out _ _ (ht3) (λ hHeld2=>?_);clear hK K
    try simp only [pU]
    refine aY 4 10 (Zi Zq 0) rfl ?_ ?_
    ·intro W hSw;obtain ⟨⟨c1,f1,l1⟩,⟨c2,f2,l2⟩⟩:=And.intro hSw.1.rules hSw.2.1.rules;go_simp
    refine aY 5 5 (Zi Zq 0) rfl ?_ ?_
    ·intro W hSw;obtain ⟨⟨c1,f1,l1⟩,⟨c2,f2,l2⟩⟩:=And.intro hSw.1.rules hSw.2.1.rules;go_simp
    refine aX ?_;have HT3:=aW ht3;clear hb2 hb3 ht2 ht3;obtain ⟨c1,f1,l1⟩:=HT3.out.1.rules;obtain ⟨c2,f2,l2⟩:=HT3.out.2.1.rules;go_wp2;go_ret;exact ⟨by rw [HRV.out];rfl,HT3.out.2.2⟩
   ·obtain ⟨p,hp⟩:∃ p,IntKind.u64.wrap n=p:=⟨_,rfl⟩
    obtain ⟨q,hq⟩:∃ q,IntKind.u64.wrap nq=q:=⟨_,rfl⟩
    have hpq:=vA hin hinq (by omega) hp hq;obtain ⟨z,hz⟩:∃ z,n-nq=z:=⟨_,rfl⟩
    rw [hz] at hpq;have HRV:=aW (show R=di z by rw [HR.out];unfold mh;rw [hz]);unfold iw at hin hinq;have hz0:z=0∨1<=z:=by omega
    clear hz;rcases hz0 with rfl | hz1
    ·go_enter Tryz.func192,Tryz.ntmps192;go_wp2;refine wp_region_held_drew (S:=λ w'=>fU w 25 #[Zi Zq 3,Zi Zq n,Zt ⟨s.toArray⟩,Zs A nk ca,Zs B ny cb] #[Zi Zq 3,Zi Zq nq,Zt ⟨sq.toArray⟩,Zs Aq nkq caq,Zs Bq nyq cbq] w') (by kernel_rfl) (by exact HTB.out.drew) (λ hHeld=>?_);refine aY 0 6 (.agg #[Zi Zq 3,Zi Zq n,Zt ⟨s.toArray⟩,Zs A nk ca,Zs B ny cb]) rfl ?_ ?_
     ·intro W hSw;obtain ⟨⟨c1,f1,l1⟩,⟨c2,f2,l2⟩⟩:=And.intro hSw.1.rules hSw.2.1.rules;go_simp
     refine aY 2 8 (.agg #[Zi Zq 3,Zi Zq nq,Zt ⟨sq.toArray⟩,Zs Aq nkq caq,Zs Bq nyq cbq]) rfl ?_ ?_
     ·intro W hSw;obtain ⟨⟨c1,f1,l1⟩,⟨c2,f2,l2⟩⟩:=And.intro hSw.1.rules hSw.2.1.rules;go_simp
     refine aV 1 7 rfl (λ K hK=>?_);go_simp;refine (HRA.out _ HTB.out.drew.2.2).mono ?_;rintro e w2 ⟨rfl,hb2⟩;have ht2:=HTB.out.drew.keep hb2;refine hK.out _ _ (ht2) (λ hHeld2=>?_);clear hK K hHeld
     try simp only [pU]
     refine aV 3 9 rfl (λ K hK=>?_);go_simp;refine (HRB.out _ ht2.2.2).mono ?_;rintro e w3 ⟨rfl,hb3⟩;have ht3:=ht2.keep hb3;refine hK.out _ _ (ht3) (λ hHeld2=>?_);clear hK K
     try simp only [pU]
     refine aY 4 10 (Zi Zq 0) rfl ?_ ?_
     ·intro W hSw;obtain ⟨⟨c1,f1,l1⟩,⟨c2,f2,l2⟩⟩:=And.intro hSw.1.rules hSw.2.1.rules;go_simp
     refine aY 5 5 (Zi Zq 0) rfl ?_ ?_
     ·intro W hSw;obtain ⟨⟨c1,f1,l1⟩,⟨c2,f2,l2⟩⟩:=And.intro hSw.1.rules hSw.2.1.rules;go_simp
     refine aX ?_;have HT3:=aW ht3;clear hb2 hb3 ht2 ht3;obtain ⟨c1,f1,l1⟩:=HT3.out.1.rules;obtain ⟨c2,f2,l2⟩:=HT3.out.2.1.rules;go_wp2_with fail;refine (HSG.out 0 _).mono ?_;rintro e w4 ⟨rfl,rfl⟩;go_wp2;go_ret;exact ⟨by rw [HRV.out];rfl,HT3.out.2.2⟩
    ·have HRW:=aW (show R=1 by rw [HRV.out];unfold di;rw [if_neg (by omega),if_pos (by omega)]);by_cases hz2:z=1
     ·subst hz2;go_enter Tryz.func192,Tryz.ntmps192;go_wp2;refine wp_region_held_drew (S:=λ w'=>fU w 25 #[Zi Zq 3,Zi Zq n,Zt ⟨s.toArray⟩,Zs A nk ca,Zs B ny cb] #[Zi Zq 3,Zi Zq nq,Zt ⟨sq.toArray⟩,Zs Aq nkq caq,Zs Bq nyq cbq] w') (by kernel_rfl) (by exact HTB.out.drew) (λ hHeld=>?_);refine aY 0 6 (.agg #[Zi Zq 3,Zi Zq n,Zt ⟨s.toArray⟩,Zs A nk ca,Zs B ny cb]) rfl ?_ ?_
      ·intro W hSw;obtain ⟨⟨c1,f1,l1⟩,⟨c2,f2,l2⟩⟩:=And.intro hSw.1.rules hSw.2.1.rules;go_simp
      refine aY 2 8 (.agg #[Zi Zq 3,Zi Zq nq,Zt ⟨sq.toArray⟩,Zs Aq nkq caq,Zs Bq nyq cbq]) rfl ?_ ?_
      ·intro W hSw;obtain ⟨⟨c1,f1,l1⟩,⟨c2,f2,l2⟩⟩:=And.intro hSw.1.rules hSw.2.1.rules;go_simp
      refine aV 1 7 rfl (λ K hK=>?_);go_simp;refine (HRA.out _ HTB.out.drew.2.2).mono ?_;rintro e w2 ⟨rfl,hb2⟩;have ht2:=HTB.out.drew.keep hb2;refine hK.out _ _ (ht2) (λ hHeld2=>?_);clear hK K hHeld
      try simp only [pU]
      refine aV 3 9 rfl (λ K hK=>?_);go_simp;refine (HRB.out _ ht2.2.2).mono ?_;rintro e w3 ⟨rfl,hb3⟩;have ht3:=ht2.keep hb3;refine hK.out _ _ (ht3) (λ hHeld2=>?_);clear hK K
      try simp only [pU]
      refine aY 4 10 (Zi Zq 0) rfl ?_ ?_
      ·intro W hSw;obtain ⟨⟨c1,f1,l1⟩,⟨c2,f2,l2⟩⟩:=And.intro hSw.1.rules hSw.2.1.rules;go_simp
      refine aY 5 5 (Zi Zq 0) rfl ?_ ?_
      ·intro W hSw;obtain ⟨⟨c1,f1,l1⟩,⟨c2,f2,l2⟩⟩:=And.intro hSw.1.rules hSw.2.1.rules;go_simp
      refine aX ?_;have HT3:=aW ht3;clear hb2 hb3 ht2 ht3;obtain ⟨c1,f1,l1⟩:=HT3.out.1.rules;obtain ⟨c2,f2,l2⟩:=HT3.out.2.1.rules;go_wp2_with fail;refine (HSG.out 1 _).mono ?_;rintro e w4 ⟨rfl,rfl⟩;go_wp2;go_ret;exact ⟨by rw [HRW.out];rfl,HT3.out.2.2⟩
     ·have hz3:¬ z<=1:=by omega
      have hz4:1<z:=by omega
      go_enter Tryz.func192,Tryz.ntmps192;go_wp2;refine wp_region_held_drew (S:=λ w'=>fU w 25 #[Zi Zq 3,Zi Zq n,Zt ⟨s.toArray⟩,Zs A nk ca,Zs B ny cb] #[Zi Zq 3,Zi Zq nq,Zt ⟨sq.toArray⟩,Zs Aq nkq caq,Zs Bq nyq cbq] w') (by kernel_rfl) (by exact HTB.out.drew) (λ hHeld=>?_);refine aY 0 6 (.agg #[Zi Zq 3,Zi Zq n,Zt ⟨s.toArray⟩,Zs A nk ca,Zs B ny cb]) rfl ?_ ?_
      ·intro W hSw;obtain ⟨⟨c1,f1,l1⟩,⟨c2,f2,l2⟩⟩:=And.intro hSw.1.rules hSw.2.1.rules;go_simp
      refine aY 2 8 (.agg #[Zi Zq 3,Zi Zq nq,Zt ⟨sq.toArray⟩,Zs Aq nkq caq,Zs Bq nyq cbq]) rfl ?_ ?_
      ·intro W hSw;obtain ⟨⟨c1,f1,l1⟩,⟨c2,f2,l2⟩⟩:=And.intro hSw.1.rules hSw.2.1.rules;go_simp
      refine aV 1 7 rfl (λ K hK=>?_);go_simp;refine (HRA.out _ HTB.out.drew.2.2).mono ?_;rintro e w2 ⟨rfl,hb2⟩;have ht2:=HTB.out.drew.keep hb2;refine hK.out _ _ (ht2) (λ hHeld2=>?_);clear hK K hHeld
      try simp only [pU]
      refine aV 3 9 rfl (λ K hK=>?_);go_simp;refine (HRB.out _ ht2.2.2).mono ?_;rintro e w3 ⟨rfl,hb3⟩;have ht3:=ht2.keep hb3;refine hK.out _ _ (ht3) (λ hHeld2=>?_);clear hK K
      try simp only [pU]
      refine aY 4 10 (Zi Zq 0) rfl ?_ ?_
      ·intro W hSw;obtain ⟨⟨c1,f1,l1⟩,⟨c2,f2,l2⟩⟩:=And.intro hSw.1.rules hSw.2.1.rules;go_simp
      refine aY 5 5 (Zi Zq 0) rfl ?_ ?_
      ·intro W hSw;obtain ⟨⟨c1,f1,l1⟩,⟨c2,f2,l2⟩⟩:=And.intro hSw.1.rules hSw.2.1.rules;go_simp
      refine aX ?_;have HT3:=aW ht3;clear hb2 hb3 ht2 ht3;obtain ⟨c1,f1,l1⟩:=HT3.out.1.rules;obtain ⟨c2,f2,l2⟩:=HT3.out.2.1.rules;go_wp2_with fail;refine (HSG.out 1 _).mono ?_;rintro e w4 ⟨rfl,rfl⟩;go_wp2;go_ret;exact ⟨by rw [HRW.out];rfl,HT3.out.2.2⟩
  have k3b:(k == 3)=false:=by simp [k3]
  by_cases k4:k=4
  ·subst k4;have HR:=aW (show R=cK s sq by rw [HCJ2.out,if_neg k3,if_pos rfl]);have HCS:=aW (λ W=>jJ s sq W);go_enter Tryz.func192,Tryz.ntmps192;go_wp2;refine wp_region_held_drew (S:=λ w'=>fU w 25 #[Zi Zq 4,Zi Zq n,Zt ⟨s.toArray⟩,Zs A nk ca,Zs B ny cb] #[Zi Zq 4,Zi Zq nq,Zt ⟨sq.toArray⟩,Zs Aq nkq caq,Zs Bq nyq cbq] w') (by kernel_rfl) (by exact HTB.out.drew) (λ hHeld=>?_);refine aY 0 6 (.agg #[Zi Zq 4,Zi Zq n,Zt ⟨s.toArray⟩,Zs A nk ca,Zs B ny cb]) rfl ?_ ?_
   ·intro W hSw;obtain ⟨⟨c1,f1,l1⟩,⟨c2,f2,l2⟩⟩:=And.intro hSw.1.rules hSw.2.1.rules;go_simp
   refine aY 2 8 (.agg #[Zi Zq 4,Zi Zq nq,Zt ⟨sq.toArray⟩,Zs Aq nkq caq,Zs Bq nyq cbq]) rfl ?_ ?_
   ·intro W hSw;obtain ⟨⟨c1,f1,l1⟩,⟨c2,f2,l2⟩⟩:=And.intro hSw.1.rules hSw.2.1.rules;go_simp
   refine aV 1 7 rfl (λ K hK=>?_);go_simp;refine (HRA.out _ HTB.out.drew.2.2).mono ?_;rintro e w2 ⟨rfl,hb2⟩;have ht2:=HTB.out.drew.keep hb2;refine hK.out _ _ (ht2) (λ hHeld2=>?_);clear hK K hHeld
   try simp only [pU]
   refine aV 3 9 rfl (λ K hK=>?_);go_simp;refine (HRB.out _ ht2.2.2).mono ?_;rintro e w3 ⟨rfl,hb3⟩;have ht3:=ht2.keep hb3;refine hK.out _ _ (ht3) (λ hHeld2=>?_);clear hK K
   try simp only [pU]
   refine aY 4 10 (Zi Zq 0) rfl ?_ ?_
   ·intro W hSw;obtain ⟨⟨c1,f1,l1⟩,⟨c2,f2,l2⟩⟩:=And.intro hSw.1.rules hSw.2.1.rules;go_simp
   refine aY 5 5 (Zi Zq 0) rfl ?_ ?_
   ·intro W hSw;obtain ⟨⟨c1,f1,l1⟩,⟨c2,f2,l2⟩⟩:=And.intro hSw.1.rules hSw.2.1.rules;go_simp
   refine aX ?_;have HT3:=aW ht3;clear hb2 hb3 ht2 ht3;obtain ⟨c1,f1,l1⟩:=HT3.out.1.rules;obtain ⟨c2,f2,l2⟩:=HT3.out.2.1.rules;go_wp2_with fail;refine (HCS.out _).mono ?_;rintro e w4 ⟨rfl,rfl⟩;go_wp2;go_ret;exact ⟨by rw [HR.out];rfl,HT3.out.2.2⟩
  ·have k4b:(k == 4)=false:=by simp [k4]
   have HR:=aW (show R=cd (decide (k=6)) kids keys kidsq keysq by rw [HCJ2.out,if_neg k3,if_neg k4]);have HKC:=aW (HKK.out rfl);clear HKK;rw [← HR.out] at HKC;go_enter Tryz.func192,Tryz.ntmps192;go_wp2;refine wp_region_held_drew (S:=λ w'=>fU w 25 #[Zi Zq k,Zi Zq n,Zt ⟨s.toArray⟩,Zs A nk ca,Zs B ny cb] #[Zi Zq k,Zi Zq nq,Zt ⟨sq.toArray⟩,Zs Aq nkq caq,Zs Bq nyq cbq] w') (by kernel_rfl) (by exact HTB.out.drew) (λ hHeld=>?_);refine aY 0 6 (.agg #[Zi Zq k,Zi Zq n,Zt ⟨s.toArray⟩,Zs A nk ca,Zs B ny cb]) rfl ?_ ?_
   ·intro W hSw;obtain ⟨⟨c1,f1,l1⟩,⟨c2,f2,l2⟩⟩:=And.intro hSw.1.rules hSw.2.1.rules;go_simp
   refine aY 2 8 (.agg #[Zi Zq k,Zi Zq nq,Zt ⟨sq.toArray⟩,Zs Aq nkq caq,Zs Bq nyq cbq]) rfl ?_ ?_
   ·intro W hSw;obtain ⟨⟨c1,f1,l1⟩,⟨c2,f2,l2⟩⟩:=And.intro hSw.1.rules hSw.2.1.rules;go_simp
   refine aV 1 7 rfl (λ K hK=>?_);go_simp;refine (HRA.out _ HTB.out.drew.2.2).mono ?_;rintro e w2 ⟨rfl,hb2⟩;have ht2:=HTB.out.drew.keep hb2;refine hK.out _ _ (ht2) (λ hHeld2=>?_);clear hK K hHeld
   try simp only [pU]
   refine aV 3 9 rfl (λ K hK=>?_);go_simp;refine (HRB.out _ ht2.2.2).mono ?_;rintro e w3 ⟨rfl,hb3⟩;have ht3:=ht2.keep hb3;refine hK.out _ _ (ht3) (λ hHeld2=>?_);clear hK K
   try simp only [pU]
   refine aY 4 10 (Zi Zq 0) rfl ?_ ?_
   ·intro W hSw;obtain ⟨⟨c1,f1,l1⟩,⟨c2,f2,l2⟩⟩:=And.intro hSw.1.rules hSw.2.1.rules;go_simp
   refine aY 5 5 (Zi Zq 0) rfl ?_ ?_
   ·intro W hSw;obtain ⟨⟨c1,f1,l1⟩,⟨c2,f2,l2⟩⟩:=And.intro hSw.1.rules hSw.2.1.rules;go_simp
   refine aX ?_;have HT3:=aW ht3;clear hb2 hb3 ht2 ht3;obtain ⟨c1,f1,l1⟩:=HT3.out.1.rules;obtain ⟨c2,f2,l2⟩:=HT3.out.2.1.rules;go_wp2_with fail;refine (HKC.out _ HT3.out.2.2).mono ?_;rintro e w4 ⟨rfl,hb4⟩;have HG4:=aW (HT3.out.2.2.trans hb4);clear hb4;go_wp2;go_ret;exact ⟨rfl,HG4.out⟩
theorem lT (a b:JV) (cs cs':List Value) (F F':Nat->Prop) (w:World) (h:VR w F cs a) (h':VR w F' cs' b) (g:gd a) (g':gd b) (c:au a) (c':au b):Calls Tryz.prog 192 #[.agg cs.toArray,.agg cs'.toArray] w (dq (bp a b) w) :=
 gM _ a b (Nat.le_refl _) 8 8 cs cs' F F' w h h' g.j g'.j c c'
end
end Go.Proofs.YtgolomgmnanbpaaGreatDoor
