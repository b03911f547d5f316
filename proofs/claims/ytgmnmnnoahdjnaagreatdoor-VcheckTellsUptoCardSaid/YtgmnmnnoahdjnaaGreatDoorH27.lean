import Derived.Test.YtgmnmnnoahdjnaaGreatDoorH26
import Derived.Test.YtgmnmnnoahdjnaaGreatDoorH25
open Go.Value renaming int → Zi, slice → Zs, string → Zt, pointer → Zp
open Go.IntKind renaming i64 → Zq
set_option maxRecDepth 100000
set_option maxHeartbeats 16000000
set_option linter.unusedVariables false
set_option linter.unusedSimpArgs false
namespace Go.Proofs.YtgmnmnnoahdjnaaGreatDoor
section
open Go.RowKit
attribute [local go_sem] ab ae af ac
mutual
/-- what came in: a statement all parts of which are of a size -/
def fI:SJ->Prop | .mk k s a b body els=>iw k/\s.length<=4194304/\cG a/\cG b/\body.length<=4194304/\els.length<=4194304/\aZ body/\aZ els
def aZ:List SJ->Prop | []=>True | x::r=>fI x/\aZ r
end
theorem eW:∀ {xs:List SJ},aZ xs ↔ ∀ x ∈ xs,fI x
 | []=>by simp [aZ]
 | x::r=>by simp [aZ,eW (xs:=r)]
theorem gC {d:Nat} {l:List SJ} {x:SJ}:bR d (l++[x])=(bR d l && iE d x):=by rw [ta];simp [bR]
theorem dH {W:World} {F:Nat->Prop} {css:List (List Value)} {xs:List SJ} {A:Option Addr} (h:SRs W F css xs) (hr:RdF W F A css.flatten) {i:Nat} {k:Int} {s:List UInt8} {a b:EJ} {body els:List SJ} (hx:xs[i]? = some (.mk k s a b body els)) :
  ∃ (bl o:Nat) (ka kva nva:Int) (sva:ByteArray) (Ava:Option Addr) (nka cka:Nat) (Bva:Option Addr) (nya cya:Nat) (sa:ByteArray) (Ca:Option Addr) (nxa cxa:Nat)
   (kb kvb nvb:Int) (svb:ByteArray) (Avb:Option Addr) (nkb ckb:Nat) (Bvb:Option Addr) (nyb cyb:Nat) (sb:ByteArray) (Cb:Option Addr) (nxb cxb:Nat) (BA EA:Option Addr) (cb ce:Nat) (bss ess:List (List Value)),
   A=some ⟨bl,o,none⟩/\bl<W.heap.size/\F bl/\ER W F [Zi Zq ka,Zi Zq kva,Zi Zq nva,Zt sva,Zs Ava nka cka,Zs Bva nya cya,Zt sa,Zs Ca nxa cxa] a/\ER W F [Zi Zq kb,Zi Zq kvb,Zi Zq nvb,Zt svb,Zs Avb nkb ckb,Zs Bvb nyb cyb,Zt sb,Zs Cb nxb cxb] b /\
   (SRs W F bss body/\body.length<=cb/\RdF W F BA bss.flatten)/\(SRs W F ess els/\els.length<=ce/\RdF W F EA ess.flatten) /\
   SR W F [Zi Zq k,Zt ⟨s.toArray⟩,Zi Zq ka,Zi Zq kva,Zi Zq nva,Zt sva,Zs Ava nka cka,Zs Bva nya cya,Zt sa,Zs Ca nxa cxa,Zi Zq kb,Zi Zq kvb,Zi Zq nvb,Zt svb,Zs Avb nkb ckb,Zs Bvb nyb cyb,Zt sb,Zs Cb nxb cxb,Zs BA body.length cb,Zs EA els.length ce] (.mk k s a b body els) /\
   ∀ (j:Nat) u,([Zi Zq k,Zt ⟨s.toArray⟩,Zi Zq ka,Zi Zq kva,Zi Zq nva,Zt sva,Zs Ava nka cka,Zs Bva nya cya,Zt sa,Zs Ca nxa cxa,Zi Zq kb,Zi Zq kvb,Zi Zq nvb,Zt svb,Zs Avb nkb ckb,Zs Bvb nyb cyb,Zt sb,Zs Cb nxb cxb,Zs BA body.length cb,Zs EA els.length ce]:List Value)[j]? = some u->W.cell? ⟨bl,o+(i*20+j),none⟩=some u:=by
 obtain ⟨bl,o,c,rfl,hb,hf,hc,hv,hz⟩:=h.cell (λ c x h=>h.len) (by decide) hr hx;have hv':=hv;obtain ⟨acs,bcs,BA,EA,cb,ce,bss,ess,rfl,ha,hbb,⟨g1,g2,g3,g4⟩,g5,g6,g7,g8⟩:=hv.out;obtain ⟨ka,kva,nva,sva,Ava,nka,cka,Bva,nya,cya,sa,Ca,nxa,cxa,rfl⟩:=ha.form;obtain ⟨kb,kvb,nvb,svb,Avb,nkb,ckb,Bvb,nyb,cyb,sb,Cb,nxb,cxb,rfl⟩:=hbb.form;refine ⟨bl,o,ka,kva,nva,sva,Ava,nka,cka,Bva,nya,cya,sa,Ca,nxa,cxa,kb,kvb,nvb,svb,Avb,nkb,ckb,Bvb,nyb,cyb,sb,Cb,nxb,cxb,BA,EA,cb,ce,bss,ess,rfl,hb,hf,ha,hbb,⟨g1,g2,g4⟩,⟨g5,g6,g8⟩,hv',λ j u hu=>hz j u ?_ hu⟩;have:=(List.getElem?_eq_some_iff.1 hu).1;simpa using this
theorem bK {P:Program} {ops:Array Oper} {rest:List Oper} {op:Oper} {a:Act} {w:World} {Q:Exit->Act->World->Prop} (hgd:op.guard=none) (ty:TypeId) (x y:Operand) (ho:op.op=.store ty x y)
  (old cells:Array Value) (hx:a.eval x=Zp (some ⟨w.heap.size,0,none⟩)) (hy:a.eval y=.agg cells)
  (hi:(P.info? ty).map (·.size)=some cells.size) (hs:old.size=cells.size) (h1:cells.all (·.oneCell')=true)
  (h:wpList P ops Q rest (a.put op.dst undef) (w.alloc (.cells cells ty))):wpList P ops Q (op::rest) a (w.alloc (.cells old ty)) :=
 wpList_plain hgd λ _ hK=>iV ty x y ho old cells hx hy hi hs h1 (hK _ _ h)
def vN (b:Bool) (w:World) (e:Ending) (w':World):Prop:=e=.returned (.bool b)/\Below w.heap.size w w'
def vM (r:Nat):Prop:=∀ (l:List SJ) (css:List (List Value)) (A:Option Addr) (n ca:Nat) (F:Nat->Prop) (w:World),GOE w->SRs w F css l->l.length=n->n<=ca->RdF w F A css.flatten->aZ l->n<=4194304 ->
 Calls Tryz.prog 46 #[Zs A n ca,Zi Zq (r:Int)] w (vN (bR r l) w)
theorem vE (r:Nat) (hr:r<=12) (ih:r≠0->vM (r-1)):vM r:=by
 intro l css A n ca F w hG hS hln hnc hR hC hn;have HG:=aW hG;have HKD:=aW (And.intro hS hR);have HNK:=aW hln;have HCL:=aW (eW.1 hC);obtain ⟨R,hRr⟩:∃ R:Int,(r:Int)=R:=⟨_,rfl⟩
 have HRR:=aW hRr;obtain ⟨D,hD⟩:∃ D,bR r l=D:=⟨_,rfl⟩
 have HDD:=aW hD;have hsub:IntKind.i64.wrap (R-1)=R-1:=IntWalk.i64_in _ (by omega);have HSUB:=aW hsub;rw [hRr,hD];clear hG hS hln hR hC hRr hD hsub;go_enter Tryz.func46,Tryz.ntmps46;go_wp2;go_loopw [10] (λ s10 wr => ∃ i:Nat,i<=n/\s10=Zi Zq (i:Int)/\Hid (Below w.heap.size w wr)/\Hid (bR r (l.take i)=true)) (λ s10 _=>n-(intOf s10).toNat)
 case atStart=>exact ⟨0,by omega,rfl,aW (Below.refl _ _),aW (by rw [List.take_zero,bR])⟩
 case round =>
  obtain ⟨i,hi,rfl,HB,HM⟩:=hrel;by_cases hin:i<n
  ·obtain ⟨x,hx⟩:∃ x,l[i]? = some x:=⟨_,List.getElem?_eq_getElem (by rw [HNK.out];exact hin)⟩
   have hxm:=List.mem_of_getElem? hx;have hcx:=HCL.out x hxm;have HTK:=aW (show bR r (l.take (i+1))=iE r x by rw [List.take_add_one,hx];show bR r (l.take i++[x])=_;rw [gC,HM.out,Bool.true_and]);have HXN:=aW (show iE r x=false->D=false from λ h0=>by
    rw [← HDD.out];cases hd:bR r l with
    | false=>rfl
    | true=>have:=kz.1 hd x hxm;rw [h0] at this;cases this)
   obtain ⟨k,s,a,b,body,els⟩:=x;obtain ⟨bl,o,ka,kva,nva,sva,Ava,nka,cka,Bva,nya,cya,sa,Ca,nxa,cxa,kb,kvb,nvb,svb,Avb,nkb,ckb,Bvb,nyb,cyb,sb,Cb,nxb,cxb,BA,EA,cb,ce,bss,ess,rfl,hbl,_,hEA,hEB,⟨hb1,hb2,hb3⟩,⟨he1,he2,he3⟩,hSR,hz⟩:=dH HKD.out.1 HKD.out.2 hx;unfold fI at hcx;obtain ⟨hik,hsl,hca,hcb,hbl4,hel4,hcbo,hcel⟩:=hcx;obtain ⟨nb,hnb⟩:∃ q,body.length=q:=⟨_,rfl⟩
   obtain ⟨ne,hne⟩:∃ q,els.length=q:=⟨_,rfl⟩
   rw [hnb] at hb2 hbl4 hz;rw [hne] at he2 hel4 hz;obtain ⟨da,hda⟩:∃ d,bY 12 a=d:=⟨_,rfl⟩
   obtain ⟨db,hdb⟩:∃ d,bY 12 b=d:=⟨_,rfl⟩
   obtain ⟨bk,hbk⟩:∃ z,dD b=z:=⟨_,rfl⟩
   obtain ⟨nm,hnm⟩:∃ z,eH s=z:=⟨_,rfl⟩
   obtain ⟨mb,hmb⟩:∃ z,bR (r-1) body=z:=⟨_,rfl⟩
   obtain ⟨me,hme⟩:∃ z,bR (r-1) els=z:=⟨_,rfl⟩
   have HDA:=aW (λ (W:World) (h:Below w.heap.size w W)=>su 12 (by omega) a _ F W (HG.out.keep h) (hEA.bel h) hca);have HDB:=aW (λ (W:World) (h:Below w.heap.size w W)=>su 12 (by omega) b _ F W (HG.out.keep h) (hEB.bel h) hcb);have HBK:=aW (λ (W:World) (h:Below w.heap.size w W)=>vY b _ F W (hEB.bel h) hcb);have HNM:=aW (λ (W:World) (h:Below w.heap.size w W)=>fG ⟨s.toArray⟩ W);have HMB:=aW (λ (h0:r≠0) (W:World) (h:Below w.heap.size w W)=>ih h0 body bss BA nb cb F W (HG.out.keep h) (RR.imp hb1 λ c x hc=>hc.bel h) hnb hb2 (hb3.keep (aj.of_below h)) hcbo hbl4);have HME:=aW (λ (h0:r≠0) (W:World) (h:Below w.heap.size w W)=>ih h0 els ess EA ne ce F W (HG.out.keep h) (RR.imp he1 λ c x hc=>hc.bel h) hne he2 (he3.keep (aj.of_below h)) hcel hel4);rw [show bm ⟨s.toArray⟩=nm from hnm] at HNM;rw [hbk] at HBK;unfold vL at HDA HDB;rw [hda] at HDA;rw [hdb] at HDB;rw [hmb] at HMB;rw [hme] at HME;unfold vN at HMB HME;have HMS:=aW (show iE r (.mk k s a b body els)=(decide (r≠0) && (decide (da≠0) && (if k=1 then decide (db≠0) && decide (s=[]/\nb+ne=0) else if k=2 then bk && (decide (s=[]) && (mb && me)) else if k=3 then bk && (nm && (mb && decide (ne=0))) else false))) by
    unfold iE iq;simp only [hda,hdb,hbk,hnm,hmb,hme,hnb,hne])
   obtain ⟨M,hM⟩:∃ M,iE r (.mk k s a b body els)=M:=⟨_,rfl⟩
   rw [hM] at HMS HTK HXN;have hlb:bl<wr.heap.size:=Nat.lt_of_lt_of_le hbl HB.out.size;have hz':=λ (j:Nat) u (hu:([Zi Zq k,Zt ⟨s.toArray⟩,Zi Zq ka,Zi Zq kva,Zi Zq nva,Zt sva,Zs Ava nka cka,Zs Bva nya cya,Zt sa,Zs Ca nxa cxa,Zi Zq kb,Zi Zq kvb,Zi Zq nvb,Zt svb,Zs Avb nkb ckb,Zs Bvb nyb cyb,Zt sb,Zs Cb nxb cxb,Zs BA nb cb,Zs EA ne ce]:List Value)[j]? = some u)=>(HB.out.cell (p:=⟨bl,o+(i*20+j),none⟩) hbl).trans (hz j u hu)
   have HRG:=aW (show wr.rangeAt bl (o+i*20) [Zi Zq k,Zt ⟨s.toArray⟩,Zi Zq ka,Zi Zq kva,Zi Zq nva,Zt sva,Zs Ava nka cka,Zs Bva nya cya,Zt sa,Zs Ca nxa cxa,Zi Zq kb,Zi Zq kvb,Zi Zq nvb,Zt svb,Zs Avb nkb ckb,Zs Bvb nyb cyb,Zt sb,Zs Cb nxb cxb,Zs BA nb cb,Zs EA ne ce] from λ j v hv=>by rw [Nat.add_assoc];exact hz' j v hv);clear hz hz' hSR hEA hEB hb1 hb2 hb3 he1 he2 he3 hca hcb hcbo hcel hnb hne hda hdb hbk hnm hmb hme hM hx hxm hbl;have HH1:=aW ((aH.nil wr).push 48 #[Zi Zq k,Zt ⟨s.toArray⟩,Zi Zq ka,Zi Zq kva,Zi Zq nva,Zt sva,Zs Ava nka cka,Zs Bva nya cya,Zt sa,Zs Ca nxa cxa,Zi Zq kb,Zi Zq kvb,Zi Zq nvb,Zt svb,Zs Avb nkb ckb,Zs Bvb nyb cyb,Zt sb,Zs Cb nxb cxb,Zs BA nb cb,Zs EA ne ce] (g:=wr.heap.size) rfl);go_upto_region 3 with fail;go_step;go_step;go_step;go_step;refine wpList_load_mid rfl 48 (.tmp 12) rfl bl (o+i*20) rfl [Zi Zq k,Zt ⟨s.toArray⟩,Zi Zq ka,Zi Zq kva,Zi Zq nva,Zt sva,Zs Ava nka cka,Zs Bva nya cya,Zt sa,Zs Ca nxa cxa,Zi Zq kb,Zi Zq kvb,Zi Zq nvb,Zt svb,Zs Avb nkb ckb,Zs Bvb nyb cyb,Zt sb,Zs Cb nxb cxb,Zs BA nb cb,Zs EA ne ce] _ HRG.out Tryz.underlying48 rfl (by kernel_rfl) ?_;go_step;go_step;go_step;refine bK rfl 48 (.tmp 6) (.tmp 13) rfl _ _ rfl rfl (by kernel_rfl) (by kernel_rfl) (by first | kernel_rfl | simp [Value.oneCell']) ?_;obtain ⟨c0,f0,l0⟩:=HH1.out.b0.rules;by_cases hr0:r=0
   ·have hR0:¬ (0:Int)<R:=by have:=HRR.out;omega
    have HR0:=aW hr0;clear hr0;go_upto_block 2 with fail;go_cut [7] (λ s7 wx=>s7=.bool M/\Hid (Below w.heap.size w wx))
    case first =>
     by_cases hk1:k=1
     ·have ek1:(k == 1)=true:=by simp [hk1]
      have HK1:=aW hk1;clear hk1;go_wp2;go_meet
      case rel=>exact ⟨by rw [HMS.out];simp [HR0.out],aW (HB.out.trans (HH1.out.1.mono HB.out.size))⟩
     ·have ek1:(k == 1)=false:=by simp [hk1]
      have HK1:=aW hk1;clear hk1;by_cases hk2:k=2
      ·have ek2:(k == 2)=true:=by simp [hk2]
       have HK2:=aW hk2;clear hk2;go_wp2;go_meet
       case rel=>exact ⟨by rw [HMS.out];simp [HR0.out],aW (HB.out.trans (HH1.out.1.mono HB.out.size))⟩
      ·have ek2:(k == 2)=false:=by simp [hk2]
       have HK2:=aW hk2;clear hk2;by_cases hk3:k=3
       ·have ek3:(k == 3)=true:=by simp [hk3]
        have HK3:=aW hk3;clear hk3;go_wp2;go_meet
        case rel=>exact ⟨by rw [HMS.out];simp [HR0.out],aW (HB.out.trans (HH1.out.1.mono HB.out.size))⟩
       ·have ek3:(k == 3)=false:=by simp [hk3]
        have HK3:=aW hk3;clear hk3;go_wp2;go_meet
        case rel=>exact ⟨by rw [HMS.out];simp [HR0.out],aW (HB.out.trans (HH1.out.1.mono HB.out.size))⟩
    case rest =>
     obtain ⟨rfl,HBX⟩:=hcut;cases M
     ·have HD0:=aW (HXN.out rfl);go_wp2;go_ret;exact ⟨by rw [HD0.out];rfl,HBX.out⟩
     ·go_wp2;go_roundw
      case rel=>exact ⟨i+1,by omega,by go_num,HBX,HTK⟩
      case measure=>simp [intOf];omega
   ·have hR0:(0:Int)<R:=by have:=HRR.out;omega
    have HR0:=aW hr0;have hs1:=HSUB.out;have hs2:((r-1:Nat):Int)=R-1:=by have:=HRR.out;omega
    rw [hs2] at HMB HME;clear hr0 hs2;go_wp2_with fail;refine (HDA.out _ (HB.out.trans (HH1.out.1.mono HB.out.size))).mono ?_;rintro e w10 ⟨rfl,hq10⟩;have HH10:=aW (HH1.out.keep hq10);clear hq10 c0 f0 l0;obtain ⟨c0,f0,l0⟩:=HH10.out.b0.rules;by_cases hda0:da=0
    ·have e0:¬ (0:Int)<(da:Int):=by omega
     have HDA0:=aW hda0;clear hda0;go_upto_block 2 with fail;go_cut [7] (λ s7 wx=>s7=.bool M/\Hid (Below w.heap.size w wx))
     case first =>
      by_cases hk1:k=1
      ·have ek1:(k == 1)=true:=by simp [hk1]
       have HK1:=aW hk1;clear hk1;go_wp2;go_meet
       case rel=>exact ⟨by rw [HMS.out];simp [HDA0.out],aW (HB.out.trans (HH10.out.1.mono HB.out.size))⟩
      ·have ek1:(k == 1)=false:=by simp [hk1]
       have HK1:=aW hk1;clear hk1;by_cases hk2:k=2
       ·have ek2:(k == 2)=true:=by simp [hk2]
        have HK2:=aW hk2;clear hk2;go_wp2;go_meet
        case rel=>exact ⟨by rw [HMS.out];simp [HDA0.out],aW (HB.out.trans (HH10.out.1.mono HB.out.size))⟩
       ·have ek2:(k == 2)=false:=by simp [hk2]
        have HK2:=aW hk2;clear hk2;by_cases hk3:k=3
        ·have ek3:(k == 3)=true:=by simp [hk3]
         have HK3:=aW hk3;clear hk3;go_wp2;go_meet
         case rel=>exact ⟨by rw [HMS.out];simp [HDA0.out],aW (HB.out.trans (HH10.out.1.mono HB.out.size))⟩
        ·have ek3:(k == 3)=false:=by simp [hk3]
         have HK3:=aW hk3;clear hk3;go_wp2;go_meet
         case rel=>exact ⟨by rw [HMS.out];simp [HDA0.out],aW (HB.out.trans (HH10.out.1.mono HB.out.size))⟩
     case rest =>
      obtain ⟨rfl,HBX⟩:=hcut;cases M
      ·have HD0:=aW (HXN.out rfl);go_wp2;go_ret;exact ⟨by rw [HD0.out];rfl,HBX.out⟩
      ·go_wp2;go_roundw
       case rel=>exact ⟨i+1,by omega,by go_num,HBX,HTK⟩
       case measure=>simp [intOf];omega
    ·have e0:(0:Int)<(da:Int):=by omega
     have HDA0:=aW hda0;clear hda0;go_upto_block 2 with fail;go_cut [7] (λ s7 wx=>s7=.bool M/\Hid (Below w.heap.size w wx))
     case first =>
      by_cases hk1:k=1
      ·have ek1:(k == 1)=true:=by simp [hk1]
       have HK1:=aW hk1;clear hk1;go_wp2_with fail;refine (HDB.out _ (HB.out.trans (HH10.out.1.mono HB.out.size))).mono ?_;rintro e w11 ⟨rfl,hq11⟩;have HH11:=aW (HH10.out.keep hq11);clear hq11 c0 f0 l0;obtain ⟨c0,f0,l0⟩:=HH11.out.b0.rules;by_cases hdb0:db=0
       ·have e0:¬ (0:Int)<(db:Int):=by omega
        have HDB0:=aW hdb0;clear hdb0;go_wp2;go_meet
        case rel=>exact ⟨by rw [HMS.out];simp [HDA0.out,HR0.out,HK1.out,HDB0.out],aW (HB.out.trans (HH11.out.1.mono HB.out.size))⟩
       ·have e0:(0:Int)<(db:Int):=by omega
        have HDB0:=aW hdb0;clear hdb0;by_cases hs:s=[];rotate_left
        ·go_wp2;go_meet
         case rel=>exact ⟨by rw [HMS.out];simp [HDA0.out,HR0.out,HK1.out,HDB0.out,hs],aW (HB.out.trans (HH11.out.1.mono HB.out.size))⟩
        ·subst hs;by_cases hnz:nb+ne=0
         ·have enz:((nb:Int)+ne == 0)=true:=by rw [beq_iff_eq];omega
          have HNz:=aW hnz;clear hnz;go_wp2;go_meet
          case rel=>exact ⟨by rw [HMS.out];have hz9:=HNz.out;simp [HDA0.out,HR0.out,HK1.out,HDB0.out];omega,aW (HB.out.trans (HH11.out.1.mono HB.out.size))⟩
         ·have enz:((nb:Int)+ne == 0)=false:=by rw [beq_eq_false_iff_ne];omega
          have HNz:=aW hnz;clear hnz;go_wp2;go_meet
          case rel=>exact ⟨by rw [HMS.out];have hz9:=HNz.out;simp [HDA0.out,HR0.out,HK1.out,HDB0.out];omega,aW (HB.out.trans (HH11.out.1.mono HB.out.size))⟩
      ·have ek1:(k == 1)=false:=by simp [hk1]
       have HK1:=aW hk1;clear hk1;by_cases hk2:k=2
       ·have ek2:(k == 2)=true:=by simp [hk2]
        have HK2:=aW hk2;clear hk2;go_wp2_with fail;refine (HBK.out _ (HB.out.trans (HH10.out.1.mono HB.out.size))).mono ?_;rintro e w12 ⟨rfl,hq12⟩;have HH12:=aW (HH10.out.keep hq12);clear hq12 c0 f0 l0;obtain ⟨c0,f0,l0⟩:=HH12.out.b0.rules;cases bk
        ·go_wp2;go_meet
         case rel=>exact ⟨by rw [HMS.out];simp [HDA0.out,HR0.out,HK1.out,HK2.out],aW (HB.out.trans (HH12.out.1.mono HB.out.size))⟩
        ·by_cases hs:s=[];rotate_left
         ·go_wp2;go_meet
          case rel=>exact ⟨by rw [HMS.out];simp [HDA0.out,HR0.out,HK1.out,HK2.out,hs],aW (HB.out.trans (HH12.out.1.mono HB.out.size))⟩
         ·subst hs;go_wp2_with fail;refine (HMB.out HR0.out _ (HB.out.trans (HH12.out.1.mono HB.out.size))).mono ?_;rintro e w13 ⟨rfl,hq13⟩;have HH13:=aW (HH12.out.keep hq13);clear hq13 c0 f0 l0;obtain ⟨c0,f0,l0⟩:=HH13.out.b0.rules;cases mb
          ·go_wp2;go_meet
           case rel=>exact ⟨by rw [HMS.out];simp [HDA0.out,HR0.out,HK1.out,HK2.out],aW (HB.out.trans (HH13.out.1.mono HB.out.size))⟩
          ·go_wp2_with fail;refine (HME.out HR0.out _ (HB.out.trans (HH13.out.1.mono HB.out.size))).mono ?_;rintro e w14 ⟨rfl,hq14⟩;have HH14:=aW (HH13.out.keep hq14);clear hq14 c0 f0 l0;obtain ⟨c0,f0,l0⟩:=HH14.out.b0.rules;cases me
           ·go_wp2;go_meet
            case rel=>exact ⟨by rw [HMS.out];simp [HDA0.out,HR0.out,HK1.out,HK2.out],aW (HB.out.trans (HH14.out.1.mono HB.out.size))⟩
           ·go_wp2;go_meet
            case rel=>exact ⟨by rw [HMS.out];simp [HDA0.out,HR0.out,HK1.out,HK2.out],aW (HB.out.trans (HH14.out.1.mono HB.out.size))⟩
       ·have ek2:(k == 2)=false:=by simp [hk2]
        have HK2:=aW hk2;clear hk2;by_cases hk3:k=3
        ·have ek3:(k == 3)=true:=by simp [hk3]
         have HK3:=aW hk3;clear hk3;go_wp2_with fail;refine (HBK.out _ (HB.out.trans (HH10.out.1.mono HB.out.size))).mono ?_;rintro e w15 ⟨rfl,hq15⟩;have HH15:=aW (HH10.out.keep hq15);clear hq15 c0 f0 l0;obtain ⟨c0,f0,l0⟩:=HH15.out.b0.rules;cases bk
         ·go_wp2;go_meet
          case rel=>exact ⟨by rw [HMS.out];simp [HDA0.out,HR0.out,HK1.out,HK2.out,HK3.out],aW (HB.out.trans (HH15.out.1.mono HB.out.size))⟩
         ·go_wp2_with fail;refine (HNM.out _ (HB.out.trans (HH15.out.1.mono HB.out.size))).mono ?_;rintro e w16 ⟨rfl,hq16⟩;have HH16:=aW (HH15.out.keep hq16);clear hq16 c0 f0 l0;obtain ⟨c0,f0,l0⟩:=HH16.out.b0.rules;cases nm
          ·go_wp2;go_meet
           case rel=>exact ⟨by rw [HMS.out];simp [HDA0.out,HR0.out,HK1.out,HK2.out,HK3.out],aW (HB.out.trans (HH16.out.1.mono HB.out.size))⟩
          ·go_wp2_with fail;refine (HMB.out HR0.out _ (HB.out.trans (HH16.out.1.mono HB.out.size))).mono ?_;rintro e w17 ⟨rfl,hq17⟩;have HH17:=aW (HH16.out.keep hq17);clear hq17 c0 f0 l0;obtain ⟨c0,f0,l0⟩:=HH17.out.b0.rules;cases mb
           ·go_wp2;go_meet
            case rel=>exact ⟨by rw [HMS.out];simp [HDA0.out,HR0.out,HK1.out,HK2.out,HK3.out],aW (HB.out.trans (HH17.out.1.mono HB.out.size))⟩
           ·by_cases hny:ne=0
            ·have eny:((ne:Int) == 0)=true:=by rw [beq_iff_eq];omega
             have HNy:=aW hny;clear hny;go_wp2;go_meet
             case rel=>exact ⟨by rw [HMS.out];simp [HDA0.out,HR0.out,HK1.out,HK2.out,HK3.out,HNy.out],aW (HB.out.trans (HH17.out.1.mono HB.out.size))⟩
            ·have eny:((ne:Int) == 0)=false:=by rw [beq_eq_false_iff_ne];omega
             have HNy:=aW hny;clear hny;go_wp2;go_meet
             case rel=>exact ⟨by rw [HMS.out];simp [HDA0.out,HR0.out,HK1.out,HK2.out,HK3.out,HNy.out],aW (HB.out.trans (HH17.out.1.mono HB.out.size))⟩
        ·have ek3:(k == 3)=false:=by simp [hk3]
         have HK3:=aW hk3;clear hk3;go_wp2;go_meet
         case rel=>exact ⟨by rw [HMS.out];simp [HDA0.out,HR0.out,HK1.out,HK2.out,HK3.out],aW (HB.out.trans (HH10.out.1.mono HB.out.size))⟩
     case rest =>
      obtain ⟨rfl,HBX⟩:=hcut;cases M
      ·have HD0:=aW (HXN.out rfl);go_wp2;go_ret;exact ⟨by rw [HD0.out];rfl,HBX.out⟩
      ·go_wp2;go_roundw
       case rel=>exact ⟨i+1,by omega,by go_num,HBX,HTK⟩
       case measure=>simp [intOf];omega
  ·obtain rfl:i=n:=by omega
   have HF:=aW (show D=true by
    have h:=HM.out;rw [List.take_of_length_le (Nat.le_of_eq HNK.out),HDD.out] at h;exact h)
   go_wp2;go_ret;exact ⟨by rw [HF.out];rfl,HB.out⟩
end
section
def TG (T:List al):Prop:=T.length<=1000/\∀ p,(tkT T p).length<=4000/\iw (tkN T p)
instance decIw (n:Int):Decidable (iw n):=by unfold iw;exact inferInstance
theorem ui {n:Int} (h:iw n):cN (nS n):=cN.of (by unfold nS inJ inL;exact ⟨by decide,h,trivial⟩) (by unfold nS bW cI cq;simp)
theorem uk {s:List UInt8} (h:s.length<=4000):cN (jz s):=cN.of (by unfold jz inJ inL;exact ⟨by decide,by decide,trivial⟩) (by unfold jz bW cI cq;omega)
theorem uj:cN (.mk 1 0 [] [] []):=cN.of (by unfold inJ inL;exact ⟨by decide,by decide,trivial⟩) (by unfold bW cI cq;simp)
theorem np (b:Bool):cN (fe b):=cN.of (by unfold fe inJ inL;cases b<;>exact ⟨by decide,by decide,trivial⟩) (by unfold fe bW cI cq;simp)
theorem fJ:cN cJ:=cN.of (by unfold cJ inJ inL;exact ⟨by decide,by decide,trivial⟩) (by unfold cJ bW cI cq;simp)
theorem io {v:JV} (h:cN v):cG (eb v):=by unfold eb cG fH;exact ⟨by decide,h,by simp,by simp,trivial⟩
theorem cZ:cG a8:=by unfold a8 cG fH;exact ⟨by decide,fJ,by simp,by simp,trivial⟩
theorem mq {k:Int} {l:List EJ} (hk:iw k) (hl:l.length<=1000) (h:∀ x ∈ l,cG x):cG (eOp k l):=by
 unfold eOp cG;exact ⟨hk,fJ,by simp,by omega,eV.2 h⟩
theorem lP {T:List al} {p:Nat}:∀ {l:List (List UInt8 × Int)} {k:Int},eI T p l=some k->∃ x ∈ l,x.2=k/\ao T p x.1=true
 | [],k,h=>by cases h
 |x::r,k,h=>by
  unfold eI at h;split at h
  ·rename_i hs;injection h with h;exact ⟨x,List.mem_cons_self,h,hs⟩
  ·obtain ⟨y,hy,h1⟩:=lP h;exact ⟨y,List.mem_cons_of_mem _ hy,h1⟩
theorem fg {T:List al} {lvl p:Nat} {k:Int} (h:dU T lvl p=some k):5<=k/\k<=15:=by
 obtain ⟨x,hx,rfl,_⟩:=lP h;have:∀ lvl,∀ x ∈ es lvl,5<=x.2/\x.2<=15:=by
  intro lvl
  match lvl with
  | 0=>simp [es]
  | 1=>decide
  | 2=>decide
  | 3=>decide
  | 4=>decide
  | 5=>decide
  | 6=>decide
  | 7=>decide
  | n+8=>simp [es]
 exact this lvl x hx
theorem qm {k:Int} (h:5<=k/\k<=15):iw k:=by unfold iw;omega
section
variable {T:List al} (hT:WT T) (hG:TG T)
include hT hG
theorem vG:∀ (n:Nat),(∀ lvl p x q,p<T.length->aB T n lvl p=.ok x q->cG x)/\(∀ lvl x p y q,p<T.length->cG x->fC T n lvl x p=.ok y q->cG y)/\(∀ x p y q,p<T.length->cG x->dB T n x p=.ok y q->cG y) /\
  (∀ p x q,p<T.length->bU T n p=.ok x q->cG x)/\(∀ acc p x q,p<T.length->acc.length<=p->(∀ y ∈ acc,cG y)->dA T n acc p=.ok x q->cG x)
 | 0=>⟨λ lvl p x q _ h=>(by unfold aB at h;cases h),λ lvl x p y q _ _ h=>(by unfold fC at h;cases h),λ x p y q _ _ h=>(by unfold dB at h;cases h),λ p x q _ h=>(by unfold bU at h;cases h),λ acc p x q _ _ _ h=>by unfold dA at h;cases h⟩
 |n+1=>by
  obtain ⟨hE,hB,hP,hA,hL⟩:=vG n;have hI:=λ lvl p (hp:p<T.length)=>(lq hT n).1 lvl p hp
  have hIA:=λ p (hp:p<T.length)=>(lq hT n).2.2.2.1 p hp
  refine ⟨λ lvl p x q hp h=>?_,λ lvl x p y q hp hx h=>?_,λ x p y q hp hx h=>?_,λ p x q hp h=>?_,λ acc p x q hp hl hx h=>?_⟩
  ·unfold aB at h;split at h
   ·cases ho:dU T lvl p with
    | none=>rw [ho] at h;exact hE _ _ _ _ hp h
    |some k =>
     rw [ho] at h;simp only at h;have h0:=hT.next hp (eq ho);cases hx:aB T n lvl (p+1) with
     | bad q=>rw [hx] at h;cases h
     |ok y r =>
      rw [hx] at h;injection h with h1 h2
      subst h1;exact mq (qm (fg ho)) (by simp) (by simpa using hE _ _ _ _ h0 hx)
   ·split at h
    ·cases hx:bU T n p with
     | bad q=>rw [hx] at h;cases h
     |ok y r =>
      rw [hx] at h;have h1:=hIA p hp;rw [hx] at h1;exact hP _ _ _ _ h1.2 (hA _ _ _ hp hx) h
    ·cases hx:aB T n (lvl+1) p with
     | bad q=>rw [hx] at h;cases h
     |ok y r =>
      rw [hx] at h;have h1:=hI (lvl+1) p hp;rw [hx] at h1;exact hB _ _ _ _ _ h1.2 (hE _ _ _ _ hp hx) h
  ·unfold fC at h;cases ho:dU T lvl p with
   | none=>rw [ho] at h;injection h with h1;subst h1;exact hx
   |some k =>
    rw [ho] at h;simp only at h;have h0:=hT.next hp (eq ho);cases hy:aB T n (lvl+1) (p+1) with
    | bad q=>rw [hy] at h;cases h
    |ok z r =>
     rw [hy] at h;have h1:=hI (lvl+1) (p+1) h0;rw [hy] at h1;have hc:cG (eOp k [x,z]):=mq (qm (fg ho)) (by simp) (by intro u hu;rcases List.mem_cons.1 hu with rfl | hu;exact hx;obtain rfl:=List.mem_singleton.1 hu;exact hE _ _ _ _ h0 hy);simp only at h;split at h
     ·injection h with h1;subst h1;exact hc
     ·exact hB _ _ _ _ _ h1.2 hc h
  ·unfold dB at h;split at h
   ·rename_i hs
    split at h
    ·rename_i hk
     have h1:=hT.next hp (am hs);have h2:=hT.next h1 (by omega);refine hP _ _ _ _ h2 ?_ h;unfold cG;have:=(hG.2 (p+1)).1;exact ⟨by decide,fJ,by omega,by simp,eV.2 (by simpa using hx)⟩
    ·cases h
   ·injection h with h1;subst h1;exact hx
  ·unfold bU at h;have hg:=hG.2 p;split at h
   ·injection h with h1;subst h1
    unfold cG fH;exact ⟨by decide,fJ,by omega,by simp,trivial⟩
   split at h
   ·injection h with h1;subst h1;exact io (ui hg.2)
   split at h
   ·injection h with h1;subst h1;exact io (uk hg.1)
   split at h
   ·injection h with h1;subst h1;exact io uj
   split at h
   ·injection h with h1;subst h1;exact io (np true)
   split at h
   ·injection h with h1;subst h1;exact io (np false)
   split at h
   ·rename_i hs
    have h0:=hT.next hp (am hs);cases hx:aB T n 1 (p+1) with
    | bad q=>rw [hx] at h;cases h
    |ok y r =>
     rw [hx] at h;simp only at h;split at h
     ·injection h with h1;subst h1;exact hE _ _ _ _ h0 hx
     ·cases h
   split at h
   ·rename_i hs
    have h0:=hT.next hp (am hs);split at h
    ·injection h with h1;subst h1;exact mq (by decide) (by simp) (by simp)
    ·exact hL _ _ _ _ h0 (by simp) (by simp) h
   ·cases h
  ·unfold dA at h;cases hy:aB T n 1 p with
   | bad q=>rw [hy] at h;cases h
   |ok z r =>
    rw [hy] at h;simp only at h;have h1:=hI 1 p hp;rw [hy] at h1;have hc:∀ u ∈ acc++[z],cG u:=by
     intro u hu;rcases List.mem_append.1 hu with hu | hu
     ·exact hx u hu
     ·obtain rfl:=List.mem_singleton.1 hu;exact hE _ _ _ _ hp hy
    have hlen:(acc++[z]).length<=r:=by have:=h1.1;simp;omega
    split at h
    ·rename_i hs
     exact hL _ _ _ _ (hT.next h1.2 (am hs)) (by omega) hc h
    ·split at h
     ·injection h with h3;subst h3
      exact mq (by decide) (by have:=h1.2;have:=hG.1;omega) hc
     ·cases h
theorem fi {n lvl p:Nat} {x:EJ} {q:Nat} (hp:p<T.length) (h:aB T n lvl p=.ok x q):cG x:=(vG hT hG n).1 _ _ _ _ hp h
theorem vJ:∀ (n:Nat),(∀ acc p x q,p<T.length->acc.length<=p->aZ acc->bE T n acc p=.ok x q->aZ x/\x.length<=q)/\(∀ p x q,p<T.length->bc T n p=.ok x q->aZ x/\x.length<=q)
 | 0=>⟨λ acc p x q _ _ _ h=>(by unfold bE at h;cases h),λ p x q _ h=>by unfold bc at h;cases h⟩
 |n+1=>by
  obtain ⟨hS,hK⟩:=vJ n;have hIK:=(pG hT n).2;have hIS:=(pG hT n).1;have hsnoc:∀ (acc:List SJ) (x:SJ),aZ acc->fI x->aZ (acc++[x]):=λ acc x h1 h2=>eW.2 λ y hy=>by
   rcases List.mem_append.1 hy with hy | hy
   ·exact eW.1 h1 y hy
   ·obtain rfl:=List.mem_singleton.1 hy;exact h2
  have hTl:=hG.1;refine ⟨λ acc p x q hp hl hx h=>?_,λ p x q hp h=>?_⟩
  ·unfold bE at h;split at h
   ·rename_i hs
    have h0:=hT.next hp (am hs);have g1:=dr hT n 1 (p+1) h0;cases hy:aB T n 1 (p+1) with
    | bad q=>rw [hy] at h;cases h
    |ok a r =>
     rw [hy] at h g1;simp only at h;split at h
     ·rename_i hs2
      have h9:=hT.next g1.2 (am hs2);have g2:=dr hT n 1 (r+1) h9;cases hz:aB T n 1 (r+1) with
      | bad q=>rw [hz] at h;cases h
      |ok b u =>
       rw [hz] at h g2;simp only at h;split at h
       ·rename_i hs3
        have g11:=g1.1;have g21:=g2.1;refine hS _ _ _ _ (hT.next g2.2 (am hs3)) (by simp;omega) (hsnoc _ _ hx ?_) h;unfold fI aZ;exact ⟨by decide,by simp,fi hT hG h0 hy,fi hT hG h9 hz,by simp,by simp,trivial,trivial⟩
       ·cases h
     ·cases h
   split at h
   ·rename_i hs
    have h0:=hT.next hp (am hs);have g1:=dr hT n 1 (p+1) h0;cases hy:aB T n 1 (p+1) with
    | bad q=>rw [hy] at h;cases h
    |ok a r =>
     rw [hy] at h g1;simp only at h;have g11:=g1.1;have g2:=hIK r g1.2;cases hz:bc T n r with
     | bad q=>rw [hz] at h;cases h
     |ok body u =>
      rw [hz] at h g2;simp only at h;have g21:=g2.1;have k1:=hK _ _ _ g1.2 hz;split at h
      ·rename_i hs3
       have h9:=hT.next g2.2 (am hs3);have g3:=hIK (u+1) h9;cases hv:bc T n (u+1) with
       | bad q=>rw [hv] at h;cases h
       |ok els t =>
        rw [hv] at h g3;simp only at h;have g31:=g3.1;have k2:=hK _ _ _ h9 hv;refine hS _ _ _ _ g3.2 (by simp;omega) (hsnoc _ _ hx ?_) h;unfold fI;exact ⟨by decide,by simp,fi hT hG h0 hy,cZ,by have:=g2.2;have:=k1.2;omega,by have:=g3.2;have:=k2.2;omega,k1.1,k2.1⟩
      ·refine hS _ _ _ _ g2.2 (by simp;omega) (hsnoc _ _ hx ?_) h;unfold fI;exact ⟨by decide,by simp,fi hT hG h0 hy,cZ,by have:=g2.2;have:=k1.2;omega,by simp,k1.1,trivial⟩
   split at h
   ·rename_i hs
    have h0:=hT.next hp (am hs);split at h
    ·rename_i hk
     have h8:=hT.next h0 (by omega);split at h
     ·rename_i hs2
      have h9:=hT.next h8 (am hs2);have g1:=dr hT n 1 (p+3) h9;cases hy:aB T n 1 (p+3) with
      | bad q=>rw [hy] at h;cases h
      |ok a r =>
       rw [hy] at h g1;simp only at h;have g11:=g1.1;have g2:=hIK r g1.2;cases hz:bc T n r with
       | bad q=>rw [hz] at h;cases h
       |ok body u =>
        rw [hz] at h g2;simp only at h;have g21:=g2.1;have k1:=hK _ _ _ g1.2 hz;refine hS _ _ _ _ g2.2 (by simp;omega) (hsnoc _ _ hx ?_) h;unfold fI;have:=(hG.2 (p+1)).1;exact ⟨by decide,by omega,fi hT hG h9 hy,cZ,by have:=g2.2;have:=k1.2;omega,by simp,k1.1,trivial⟩
     ·cases h
    ·cases h
   ·injection h with h1 h2;subst h1 h2;exact ⟨hx,hl⟩
  ·unfold bc at h;split at h
   ·rename_i hs
    have h0:=hT.next hp (am hs);cases hy:bE T n [] (p+1) with
    | bad q=>rw [hy] at h;cases h
    |ok l r =>
     rw [hy] at h;simp only at h;split at h
     ·injection h with h1 h2;subst h1 h2
      have:=hS [] (p+1) _ _ h0 (by simp) trivial hy;exact ⟨this.1,by omega⟩
     ·cases h
   ·cases h
end
end
end Go.Proofs.YtgmnmnnoahdjnaaGreatDoor
