import Derived.Test.YtgmnmnnoahdjnaaGreatDoorB43
import Derived.Test.YtgmnmnnoahdjnaaGreatDoorK04
set_option maxRecDepth 100000
set_option maxHeartbeats 16000000
set_option linter.unusedVariables false
set_option linter.unusedSimpArgs false
namespace Go.Proofs.YtgmnmnnoahdjnaaGreatDoor
section
open Go.RowKit
attribute [local go_sem] aa ac ae ab
theorem zU (q:Int) {e:Nat} (he:1≤e) (h2:e≤2048):∃ n:Nat,n<e∧wrap64 ((IntKind.u64.wrap q).tmod (e:Int))=(n:Int):=by
 have h0:0≤IntKind.u64.wrap q:=by rw [IntKind.wrap_u64];omega
 generalize IntKind.u64.wrap q=u at h0;rw [Int.tmod_eq_emod_of_nonneg h0];have h3:=Int.emod_nonneg u (show (e:Int)≠0 by omega);have h4:=Int.emod_lt_of_pos u (show (0:Int)<e by omega);generalize u % (e:Int)=r at h3 h4;refine ⟨r.toNat,by omega,?_⟩;unfold wrap64;omega
theorem zu (a b:ByteArray):sl (a++b)=sl a++sl b:=by simp [sl,ByteArray.data_append]
theorem zF (x:EJ):fA [zo x]=dv++(bD dv ((ar 1 x).map ay)++[44,110,117,108,108,59]):=by
 have e:aq [zo x]=aS dv::(ar 1 x++[ap [44],aS mz,ap [59]]):=by
  rw [aq,aq,List.append_nil];unfold zo;rw [dn,if_pos rfl];rfl
 unfold fA;rw [e,List.map_cons,List.map_append];show dv++bD dv _=_
 rw [zr];congr 2;show (if kF _ [44]=true then _ else _)++((if kF [44] mz=true then _ else _)++((if kF mz [59]=true then _ else _)++[]))=_
 have h1:∀ u:List UInt8,kF u [44]=false:=fun u=>by
  show ((cK _ && cK 44) || (aR _ && ([44] == [46])))=false
  rw [show cK 44=false from rfl,show (([44]:List UInt8) == [46])=false from rfl];simp
 rw [h1,if_neg (by decide),show kF [44] mz=false from rfl,if_neg (by decide),show kF mz [59]=false from rfl,if_neg (by decide)];rfl
theorem zJ {x:EJ} (h:jz [zo x]=true):nV x:=by
 unfold jz at h;have h1:=lI.1 h _ List.mem_cons_self;unfold zo kH at h1;rw [Bool.and_eq_true,Bool.and_eq_true,decide_eq_true_eq,decide_eq_true_eq] at h1;exact h1.2.1
theorem zq (a b:UInt8):∀ m,((List.replicate m ([a,b]:List UInt8)).flatten).length=2*m
 | 0=>rfl
 | m+1=>by rw [List.replicate_succ,List.flatten_cons,List.length_append,zq a b m];show 2+2*m=_;omega
theorem zB (a b:UInt8) (m:Nat):(List.replicate (m+1) ([a,b]:List UInt8)).flatten=(List.replicate m ([a,b]:List UInt8)).flatten++[a,b]:=by
 rw [List.replicate_succ',List.flatten_append];rfl
theorem zp (cs0:Array Value) (x0:EJ) (z:Int) (w:World) (hG:GOE w) (h0:ER w TT cs0.toList x0) (hL:j2 4194304 x0) (hm:ff x0≤1048576) (hz:(Lit.int .i64 z).wf=true) :
  Calls Tryz.prog 8 #[.agg cs0,.int .i64 z] w (fun e w'=>e=.returned (.bool true)∧Below w.heap.size w w'):=by
 obtain ⟨l0,rfl⟩:∃ l:List Value,cs0=l.toArray:=⟨cs0.toList,by simp⟩
 replace h0:ER w TT l0 x0:=by simpa using h0
 have hc0:=kZ x0 hL;obtain ⟨y,hy⟩:∃ y,dF 13 x0=y:=⟨_,rfl⟩
 have hcy:bB y:=by rw [← hy];exact kX 13 x0 hc0
 have hsy:ff y≤1048576:=by rw [← hy];exact Nat.le_trans (mf 13 x0) hm
 have HXP:=aW (fun (W:World) (hb:Below w.heap.size w W)=>ug (fun b=>b<w.heap.size) 13 x0 l0 13 W rfl (fun b h=>Nat.lt_of_lt_of_le h hb.size) ((h0.mono (F':=fun b=>b<w.heap.size) fun b hb' _=>hb').bel hb) hc0 (by omega));rw [hy] at HXP;unfold yi at HXP;have HC:=aW (show bg [zo y]∧cJ [zo y]≤4194304 by
  constructor
  ·refine bZ.2 fun v hv=>?_
   obtain rfl:=List.mem_singleton.1 hv;unfold zo fG;exact ⟨by decide,by simp,hcy,jq vy,by simp,by simp,trivial,trivial⟩
  ·unfold cJ cJ zo gJ;have:ff zx=2:=rfl;show 1+0+ff y+ff zx+cJ []+cJ []+0≤_
   unfold cJ;omega)
 have HG:=aW (fun (W:World) (hb:Below w.heap.size w W)=>hG.keep hb);have HWK:=aW (fun (W:World) (hb:Below w.heap.size w W)=>vQ W (hG.keep hb));have HCY:=aW hcy;obtain ⟨k0,k10,n10,s10,A10,na10,ca10,B10,nb10,cb10,s0,A20,n20,ca20,rfl⟩:=h0.form;obtain ⟨m,hm9,hmod⟩:=zU z (e:=9) (by omega) (by omega);have HMD:=aW hmod;have HH0:=aW ((aL.nil w).push 45 #[.int .i64 k0,.int .i64 k10,.int .i64 n10,.string s10,.slice A10 na10 ca10,.slice B10 nb10 cb10,.string s0,.slice A20 n20 ca20] (g:=w.heap.size) rfl);clear hG h0 hL hm hc0 hy hcy hsy hmod;go_enter Tryz.func8,Tryz.ntmps8;go_upto_region 3 with (go_at_call 14;refine (HWK.out _ HH0.out.1).mono ?_;rintro e w1 ⟨rfl,hb1⟩);have HH1:=aW (HH0.out.keep hb1);obtain ⟨c1,f1,l1⟩:=HH1.out.b0.rules;clear HH0 hb1;go_upto_region 4 with (go_at_call 25;refine (HXP.out _ HH1.out.1).mono ?_;rintro e w2 ⟨cs,rfl,hx,hb2⟩;obtain ⟨k,k1,n1,s1,A1,na1,ca1,B1,nb1,cb1,s,A2,n2,ca2,rfl⟩:=hx.form);have HB2:=aW (HH1.out.1.trans (hb2.mono HH1.out.1.size));obtain ⟨W3,hW3⟩:∃ W',w2.alloc (.cells #[.int .i64 k,.int .i64 k1,.int .i64 n1,.string s1,.slice A1 na1 ca1,.slice B1 nb1 cb1,.string s,.slice A2 n2 ca2] 45)=W':=⟨_,rfl⟩
 have hb3:Below w2.heap.size w2 W3:=by rw [← hW3];exact (Below.refl _ _).alloc (Nat.le_refl _) _
 have HB3:=aW (HB2.out.trans (hb3.mono HB2.out.size));have HX3:=aW (show ER W3 TT [.int .i64 k,.int .i64 k1,.int .i64 n1,.string s1,.slice A1 na1 ca1,.slice B1 nb1 cb1,.string s,.slice A2 n2 ca2] y from (hx.mono fun _ _ _=>trivial).bel hb3);have hk3:Blk W3 w2.heap.size 45 #[.int .i64 k,.int .i64 k1,.int .i64 n1,.string s1,.slice A1 na1 ca1,.slice B1 nb1 cb1,.string s,.slice A2 n2 ca2]:=by rw [← hW3];exact Blk.new _ _ _
 simp only [List.toArray] at hW3
 first | rw [hW3] | skip
 clear hW3 hb3 hx hb2 c1 f1 l1 HB2 HH1;obtain ⟨c3,f3,l3⟩:=hk3.rules;go_upto_region 5 with fail;obtain ⟨W4,hW4⟩:∃ W',(W3.alloc (.cells #[.int .i64 1,.string ⟨#[]⟩,.int .i64 k,.int .i64 k1,.int .i64 n1,.string s1,.slice A1 na1 ca1,.slice B1 nb1 cb1,.string s,.slice A2 n2 ca2,.int .i64 1,.int .i64 1,.int .i64 0,.string ⟨#[]⟩,.slice none 0 0,.slice none 0 0,.string ⟨#[]⟩,.slice none 0 0,.slice none 0 0,.slice none 0 0] 48)).alloc (.cells #[.slice (some ⟨W3.heap.size,0,none⟩) 1 1] 24)=W':=⟨_,rfl⟩
 have hb4:Below W3.heap.size W3 W4:=by rw [← hW4];exact ((Below.refl _ _).alloc (Nat.le_refl _) _).alloc (by simp) _
 have HB4:=aW (HB3.out.trans (hb4.mono HB3.out.size));have HP4:=aW (show jM W4 (some ⟨W3.heap.size,0,none⟩) 1 1 [zo y] by
  refine ⟨[[.int .i64 1,.string ⟨#[]⟩,.int .i64 k,.int .i64 k1,.int .i64 n1,.string s1,.slice A1 na1 ca1,.slice B1 nb1 cb1,.string s,.slice A2 n2 ca2,.int .i64 1,.int .i64 1,.int .i64 0,.string ⟨#[]⟩,.slice none 0 0,.slice none 0 0,.string ⟨#[]⟩,.slice none 0 0,.slice none 0 0,.slice none 0 0]],RR.nil.snoc ?_,?_,rfl,Nat.le_refl _⟩
  ·exact SR.into (k:=1) (s:=[]) (acs:=[.int .i64 k,.int .i64 k1,.int .i64 n1,.string s1,.slice A1 na1 ca1,.slice B1 nb1 cb1,.string s,.slice A2 n2 ca2]) (bcs:=[.int .i64 1,.int .i64 1,.int .i64 0,.string ⟨#[]⟩,.slice none 0 0,.slice none 0 0,.string ⟨#[]⟩,.slice none 0 0]) (css:=[]) (dss:=[]) (HX3.out.bel hb4) (ER.leaf 1 [] (VR.atom 1 0 [])) RR.nil rfl (Nat.le_refl _) (fun _=>rfl) RdF.nil RR.nil rfl (Nat.le_refl _) (fun _=>rfl) RdF.nil
  ·have h1:Blk W4 W3.heap.size 48 #[.int .i64 1,.string ⟨#[]⟩,.int .i64 k,.int .i64 k1,.int .i64 n1,.string s1,.slice A1 na1 ca1,.slice B1 nb1 cb1,.string s,.slice A2 n2 ca2,.int .i64 1,.int .i64 1,.int .i64 0,.string ⟨#[]⟩,.slice none 0 0,.slice none 0 0,.string ⟨#[]⟩,.slice none 0 0,.slice none 0 0,.slice none 0 0]:=by rw [← hW4];exact (Blk.new W3 48 _).alloc _
   exact RdF.of_blkP (xs:=[.int .i64 1,.string ⟨#[]⟩,.int .i64 k,.int .i64 k1,.int .i64 n1,.string s1,.slice A1 na1 ca1,.slice B1 nb1 cb1,.string s,.slice A2 n2 ca2,.int .i64 1,.int .i64 1,.int .i64 0,.string ⟨#[]⟩,.slice none 0 0,.slice none 0 0,.string ⟨#[]⟩,.slice none 0 0,.slice none 0 0,.slice none 0 0]) h1 trivial)
 have HX4:=aW (show Blk W4 (W3.heap.size+1) 24 #[.slice (some ⟨W3.heap.size,0,none⟩) 1 1] by
  have h1:=Blk.new (W3.alloc (.cells #[.int .i64 1,.string ⟨#[]⟩,.int .i64 k,.int .i64 k1,.int .i64 n1,.string s1,.slice A1 na1 ca1,.slice B1 nb1 cb1,.string s,.slice A2 n2 ca2,.int .i64 1,.int .i64 1,.int .i64 0,.string ⟨#[]⟩,.slice none 0 0,.slice none 0 0,.string ⟨#[]⟩,.slice none 0 0,.slice none 0 0,.slice none 0 0] 48)) 24 #[.slice (some ⟨W3.heap.size,0,none⟩) 1 1];rw [World.size_alloc,hW4] at h1;exact h1)
 rw [hW4];clear hW4 hb4 hk3 c3 f3 l3 HX3 HB3;obtain ⟨c4,f4,l4⟩:=HX4.out.rules;obtain ⟨p,hp⟩:∃ p,[zo y]=p:=⟨_,rfl⟩
 obtain ⟨⟨t,q⟩,hpr⟩:∃ r,dG p=r:=⟨_,rfl⟩
 rw [hp] at HP4 HC;have HPE:=aW hp;have HPT:=aW (xp HP4.out (HG.out _ HB4.out) HC.out.1 HC.out.2);unfold vr at HPT;rw [hpr] at HPT;simp only at HPT;have HJ:=aW (ou p);rw [hpr] at HJ;clear hpr hp;go_upto_region 6 with (go_at_call 16;refine HPT.out.mono ?_;rintro e w5 ⟨rfl,hb5⟩);have HB5:=aW (HB4.out.trans (hb5.mono HB4.out.size));have HP5:=aW (HP4.out.bel hb5);have HX5:=aW (HX4.out.keep hb5);clear hb5 c4 f4 l4 HX4 HP4 HB4 HPT;rcases HJ.out with ⟨hmy,he⟩ | ⟨hmy,_,he⟩ | ⟨hmy,hl5,he⟩
 ·injection he with he1 he2
  subst he1 he2;go_wp2;go_ret;exact ⟨rfl,HB5.out⟩
 ·injection he with he1 he2
  subst he1 he2;go_wp2;go_ret;exact ⟨rfl,HB5.out⟩
 ·injection he with he1 he2
  subst he2;have HMY:=aW (And.intro hmy hl5);obtain ⟨T,hT⟩:∃ T,bD dv ((ar 1 y).map ay)=T:=⟨_,rfl⟩
  have htt:t=[101,109,105,116]++(T++[44,110,117,108,108,59]):=by rw [he1,← HPE.out,zF,hT];rfl
  have hlt:t.length=10+T.length:=by rw [htt];simp;omega
  have HTL:=aW (show T.length≤502 by rw [← he1] at hl5;omega);have HTT:=aW hT;obtain ⟨S,hS⟩:∃ S:ByteArray,⟨t.toArray⟩=S:=⟨_,rfl⟩
  have hsz:S.size=10+T.length:=by rw [← hS];show t.toArray.size=_;simp [hlt]
  have HIN:=aW (show ∀ a b:Nat,a=4→b=4+T.length→sl (S.extract a b)=T from fun a b ha hb=>by
   subst ha hb;rw [← hS];show (ByteArray.extract ⟨t.toArray⟩ 4 (4+T.length)).data.toList=T
   rw [ByteArray.data_extract,Array.toList_extract];rw [htt];simp [List.extract])
  rw [hS];obtain ⟨nt,hnt⟩:∃ n,T.length=n:=⟨_,rfl⟩
  rw [hnt] at HTL HIN hsz;have hnt5:nt≤502:=HTL.out;have hw1:wrap64 ((10+nt:Nat)-6:Int)=((4+nt:Nat):Int):=by unfold wrap64;omega
  have hw2:wrap64 (10+(nt:Int)-6)=((4+nt:Nat):Int):=by unfold wrap64;omega
  have hm1:=HMD.out;clear hmy hl5 he1 hT htt hlt hS HJ hnt;have hmod9:wrap64 ((IntKind.u64.wrap z).tmod 9)=(m:Int):=hm1;clear hm1;go_upto_region 9 with fail;obtain ⟨I,hI⟩:∃ I,S.extract 4 (10+nt-6)=I:=⟨_,rfl⟩
  have HIT:=aW (show sl I=T by rw [← hI];exact HIN.out _ _ rfl (by omega));have HIS:=aW (show I.size=nt∧T.length=nt by
   have h1:T.length=nt:=by
    have h2:=HIT.out;have h3:(S.extract 4 (10+nt-6)).size=nt:=by rw [ByteArray.size_extract];omega
    rw [hI,← eD,h2] at h3;exact h3
   exact ⟨by rw [← eD,HIT.out];exact h1,h1⟩)
  rw [hI];clear hI hsz hw1 hw2 HIN;have hm1i:(1:Int)+(m:Int)=((m+1:Nat):Int):=by omega
  have hm1w:wrap64 (1+(m:Int))=((m+1:Nat):Int):=by unfold wrap64;omega
  go_wp2;clear hm1i hm1w;go_loopg [10,11,49] (m+1) (fun gk s10 s11 s49 wr => ∃ (i:Nat) (O C:ByteArray),i≤m+1∧gk=m+1-i∧s10=.string O∧s11=.string C∧s49=.int .i64 (i:Int)∧Hid (sl O=(List.replicate i ([40,32]:List UInt8)).flatten)∧Hid (sl C=(List.replicate i ([32,41]:List UInt8)).flatten)∧Hid (Below w5.heap.size w5 wr))
  case atStart=>exact ⟨0,_,_,Nat.zero_le _,rfl,rfl,rfl,by go_num,aW rfl,aW rfl,aW (Below.refl _ _)⟩
  case round =>
   obtain ⟨i,O,C,hi,hgk,rfl,rfl,rfl,HO,HCC,HBR⟩:=hrel;have HGK:=aW hgk;clear hgk;have hOs:O.size=2*i:=by rw [← eD,HO.out];exact zq 40 32 i
   have hCs:C.size=2*i:=by rw [← eD,HCC.out];exact zq 32 41 i
   have hi9:i≤9:=by omega
   by_cases hlt:i<m+1
   ·have hlti:(i:Int)<(m:Int)+1:=by omega
    have HO2:=aW (show sl (O++⟨#[40,32]⟩)=(List.replicate (i+1) ([40,32]:List UInt8)).flatten by rw [zu,HO.out,zB]);have HC2:=aW (show sl (C++⟨#[32,41]⟩)=(List.replicate (i+1) ([32,41]:List UInt8)).flatten by rw [zu,HCC.out,zB]);go_wp2;go_roundg (m+1-(i+1))
    case measure=>have:=HGK.out;omega
    case rel=>exact ⟨i+1,_,_,hlt,rfl,rfl,rfl,by go_num,HO2,HC2,HBR⟩
   ·obtain rfl:i=m+1:=by omega
    have hIsz:I.size=nt:=HIS.out.1;obtain ⟨X,hX⟩:∃ X:ByteArray,(((⟨#[101,109,105,116]⟩++O)++I)++C)++⟨#[32,44,32,110,117,108,108,32,59]⟩=X:=⟨_,rfl⟩
    have HXL:=aW (show sl X=dv++(List.replicate (m+1) ([40,32]:List UInt8)).flatten++bD dv ((ar 1 y).map ay)++(List.replicate (m+1) ([32,41]:List UInt8)).flatten++[32,44,32,110,117,108,108,32,59] by
     rw [← hX,zu,zu,zu,zu,HO.out,HCC.out,HIT.out,HTT.out];rfl)
    have hXs:X.size=13+nt+4*(m+1):=by
     rw [← eD,HXL.out,HTT.out];simp only [List.length_append];rw [zq,zq,HIS.out.2];show 4+_+_+_+9=_
     omega
    have HXS:=aW hXs;have HPS:=aW (show cY (sl X)=if 512<X.size then ([],0,3) else (p,0,0) by
     have h1:=HMY.out.1;rw [← HPE.out] at h1 ⊢;rw [← eD];exact zH (zJ h1) HCY.out m h1 HXL.out)
    have HWB:=aW (HB5.out.trans (HBR.out.mono HB5.out.size));have HXK:=aW (HX5.out.keep HBR.out);have HPK:=aW (HP5.out.bel HBR.out);clear HBR HXL HO HCC HX5 HP5 HB5;go_upto_region 15 with fail
    try rw [hX]
    clear hX hOs hCs hIsz;by_cases h5:512<X.size
    ·have HPA:=aW (fun (W:World) (h:Below w.heap.size w W)=>xo (W:=W) X (HG.out _ h) (by have:=HXS.out;omega) (o:=([],0,3)) (by rw [HPS.out,if_pos h5]));have h6:(512:Int)<(X.size:Int):=by omega
     clear HPS hXs;go_upto_region 16 with (go_at_call 22;refine (HPA.out _ HWB.out).mono ?_;rintro e w8 ⟨A5,n5,ca5,rfl,hh5,hb5⟩);have HW8:=aW ((HWB.out.trans (hb5.mono HWB.out.size)).alloc (HWB.out.trans (hb5.mono HWB.out.size)).size (.cells #[.slice A5 n5 ca5] 24));clear hh5 hb5;go_wp2;go_ret;exact ⟨rfl,HW8.out⟩
    ·have HPA:=aW (fun (W:World) (h:Below w.heap.size w W)=>xo (W:=W) X (HG.out _ h) (by have:=HXS.out;omega) (o:=(p,0,0)) (by rw [HPS.out,if_neg h5]));have h6:¬ (512:Int)<(X.size:Int):=by omega
     clear HPS hXs;go_upto_region 16 with (go_at_call 22;refine (HPA.out _ HWB.out).mono ?_;rintro e w8 ⟨A5,n5,ca5,rfl,hh5,hb5⟩);obtain ⟨W5,hW5⟩:∃ W',w8.alloc (.cells #[.slice A5 n5 ca5] 24)=W':=⟨_,rfl⟩
     have hb6:Below w8.heap.size w8 W5:=by rw [← hW5];exact (Below.refl _ _).alloc (Nat.le_refl _) _
     have hb46:Below _ _ W5:=hb5.trans (hb6.mono hb5.size);have HB11:=aW (HWB.out.trans (hb46.mono HWB.out.size));have HX5:=aW (show Blk W5 w8.heap.size 24 #[.slice A5 n5 ca5] by rw [← hW5];exact Blk.new _ _ _);have HX6:=aW (HXK.out.keep hb46);have HSM:=aW (tV (HPK.out.bel hb46) (hh5.bel hb6) HC.out.1 (by have:=od p;have:=HC.out.2;omega));rw [hW5];clear hW5 hh5 hb5 hb6 hb46;obtain ⟨c5,f5,l5⟩:=HX5.out.rules;obtain ⟨c6,f6,l6⟩:=HX6.out.rules;go_wp2_with (go_at_call 24;refine HSM.out.mono ?_;rintro e w12 ⟨rfl,hb7⟩);go_ret;exact ⟨rfl,HB11.out.trans (hb7.mono HB11.out.size)⟩
end
end Go.Proofs.YtgmnmnnoahdjnaaGreatDoor
