import Derived.Test.YtgmnmnnoahdjnaaGreatDoorH13
import Derived.Test.YtgmnmnnoahdjnaaGreatDoorH12
open Go.Value renaming int → Zi, slice → Zs, string → Zt, pointer → Zp
open Go.IntKind renaming i64 → Zq
set_option maxRecDepth 100000
set_option maxHeartbeats 16000000
set_option linter.unusedVariables false
set_option linter.unusedSimpArgs false
namespace Go.Proofs.YtgmnmnnoahdjnaaGreatDoor
section
open Go.RowKit
attribute [local go_sem] ab ae af ac
theorem oL (n p:Int) (w:World) (h0:0<=n) (h1:n<=4194304):Calls Tryz.prog 201 #[Zi Zq n,Zi Zq p] w λ e w'=>e=.returned (Zi Zq (n+1))/\w=w':=by
 go_enter Tryz.func201,Tryz.ntmps201;go_wp2;go_ret;exact ⟨rfl,rfl⟩
def ew (s:List UInt8):Int:=if cF s=true then 0 else 110
theorem mX (s:List UInt8) (w:World) (hG:GOK w) (hl:s.length<=4194304) :
  Calls Tryz.prog 200 #[Zt ⟨s.toArray⟩,Zi Zq 0,.func (.func 201) #[] #[]] w λ e w'=>(∃ n p:Int,e=.returned (.tuple #[Zi Zq n,Zi Zq p,Zi Zq (ew s)]))/\Below w.heap.size w w':=by
 obtain ⟨ba,hba⟩:∃ ba:ByteArray,(⟨s.toArray⟩:ByteArray)=ba:=⟨_,rfl⟩
 have hsl:sl ba=s:=by rw [← hba,jG]
 rw [hba];obtain ⟨cap,W1,hcv,hcap,hb1,hs1,hr1⟩:=gS (P:=Tryz.prog) w 9 67 5 ba Tryz.underlying9 Tryz.underlying67 Tryz.underlying5;rw [hsl] at hr1;have hsz:ba.size=s.length:=by rw [← hsl,cd]
 rw [hsz] at hcv hcap;have HR:=aW hr1;have HB1:=aW hb1;have hlt1:w.heap.size<W1.heap.size:=by omega
 clear hr1 hb1 hsl hba hsz hs1;have HGK:=aW hG;clear hG;have HCN:=aW (λ n p w h0 h1=>oL n p w h0 h1);obtain ⟨er,her⟩:∃ er,ew s=er:=⟨_,rfl⟩
 rw [her];have HER:=aW her;clear her;go_enter Tryz.func200,Tryz.ntmps200;go_wp2;go_loopg [1,10] s.length (λ gk s1 s10 wr => ∃ (p n:Nat),p<=s.length/\n<=p/\gk=s.length-p/\s1=Zi Zq n/\s10=Zi Zq p/\Hid (ew s=ew (s.drop p))/\Hid (Below W1.heap.size W1 wr))
 case atStart=>exact ⟨0,0,Nat.zero_le _,Nat.le_refl _,rfl,by go_num,by go_num,aW (by rw [List.drop_zero]),aW (Below.refl _ _)⟩
 case round =>
  obtain ⟨p,n,hp,hnp,hgk,rfl,rfl,HQ,HW⟩:=hrel;have HG:=aW hgk;clear hgk;by_cases hlt:p<s.length
  ·obtain ⟨c,m,hcm⟩:∃ c m,au (s.drop p)=(c,m):=⟨_,_,rfl⟩
   have hne:s.drop p≠[]:=by intro e;have h:=congrArg List.length e;rw [List.length_drop] at h;simp at h;omega
   have hle:=jt (s.drop p);have hst:=kX hne;rw [hcm] at hle hst;rw [List.length_drop] at hle;have hpn:p+m<=s.length:=by have:=hle.1;simp only at this;omega
   have hm4:m<=4:=hle.2;rw [List.drop_drop] at hst;have HST:=aW hst;have hW:=HB1.out.trans (HW.out.mono HB1.out.size);have hcell:∀ i x,(s.drop p)[i]? = some x->wr.cell? ⟨w.heap.size,p+i,none⟩=some (Zi .u8 x.toNat):=λ i x hx=>by
    rw [List.getElem?_drop] at hx;have h:=BS.at_ (n:=0) (cap:=0) (HR.out.below HW.out) hx;rwa [Nat.zero_add] at h
   have hNX:=od w.heap.size p (cap-p) (s.drop p) wr hne (HGK.out.keep hW) (by have:=HW.out.size;omega) hcell (by rw [List.length_drop];omega) (by rw [List.length_drop];omega);rw [hcm,List.length_drop] at hNX;have HNX:=aW hNX;have hcapp:¬ cap=p:=by omega
   clear hNX hcell hW hcm hne hle hst;by_cases hm0:m=0
   ·subst hm0;have hu:er=110:=by
     rw [← HER.out,HQ.out];unfold ew;rw [HST.out,if_pos rfl];rfl
    subst hu;go_wp2_with fail;refine HNX.out.mono ?_;rintro e w1 ⟨rfl,hb2⟩;have HW2:=aW (HW.out.trans (hb2.mono HW.out.size));clear hb2;go_wp2;go_ret3;exact ⟨⟨_,_,rfl⟩,HB1.out.trans (HW2.out.mono HB1.out.size)⟩
   ·have hm1:((m:Int) == 0)=false:=by simp;omega
    have HQ2:=aW (show ew s=ew (s.drop (p+m)) by rw [HQ.out];unfold ew;rw [HST.out,if_neg hm0]);go_wp2_with fail;refine HNX.out.mono ?_;rintro e w1 ⟨rfl,hb2⟩;have HW2:=aW (HW.out.trans (hb2.mono HW.out.size));clear hb2;go_wp2_with fail;refine (HCN.out n c _ (by omega) (by omega)).mono ?_;rintro e w2 ⟨rfl,rfl⟩;go_wp2;go_roundg (s.length-(p+m))
    case measure=>rw [HG.out];omega
    case rel=>exact ⟨p+m,n+1,hpn,by omega,rfl,by go_num,by go_num,HQ2,HW2⟩
  ·obtain rfl:p=s.length:=by omega
   have hu:er=0:=by
    rw [← HER.out,HQ.out,List.drop_length];rfl
   subst hu;go_wp2;go_ret3;exact ⟨⟨_,_,rfl⟩,HB1.out.trans (HW.out.mono HB1.out.size)⟩
theorem kY (s:List UInt8) (w:World) (hG:GOK w) (hl:s.length<=4194304):Calls Tryz.prog 185 #[Zt ⟨s.toArray⟩] w λ e w'=>(∃ p:Int,e=.returned (.tuple #[Zi Zq p,Zi Zq (ew s)]))/\Below w.heap.size w w':=by
 have HT:=aW (mX s w hG hl);clear hl hG;obtain ⟨er,her⟩:∃ er,ew s=er:=⟨_,rfl⟩
 rw [her] at HT ⊢;clear her;go_enter Tryz.func185,Tryz.ntmps185;go_wp2_with fail;refine HT.out.mono ?_;rintro e w1 ⟨⟨n,p,rfl⟩,hb⟩;have HB:=aW hb;clear hb;go_wp2;go_ret2;exact ⟨⟨_,rfl⟩,HB.out⟩
theorem oA (v:Value) (l:List UInt8) (w:World) (hv:BS w v l) (hl:l.length<=4194304) :
  Calls Tryz.prog 165 #[v] w λ e w'=>(∃ u p,e=.returned (.tuple #[u,p,.bool (cF l)]))/\Below w.heap.size w w':=by
 obtain ⟨i0,hi,hz0,hz1,hz2⟩:=info_parts uF;obtain ⟨A,cap,rfl,hcap,hr⟩:=hv;obtain ⟨er,her⟩:∃ er,cF l=er:=⟨_,rfl⟩
 rw [her];have HER:=aW her;have HR:=aW hr;have HI:=aW hi;clear hr hi her;go_enter Tryz.func165,Tryz.ntmps165;go_wp2;go_loopg [5,6] l.length (λ gk s5 s6 wr => ∃ (p:Nat) (pre:List Nat),p<=l.length/\pre.length<=p/\gk=l.length-p/\s6=Zi Zq p/\Hid (cF l=cF (l.drop p)) /\
  wr.ownsRow w.heap.size 3 1 s5 pre.length (uH (pre.map λ n:Nat=>(n:Int)))/\Below w.heap.size w wr)
 case atStart=>exact ⟨0,[],Nat.zero_le _,Nat.le_refl _,rfl,by go_num,aW (by rw [List.drop_zero]),World.ownsRow_nil _ _ _ _,Below.refl _ _⟩
 case round =>
  obtain ⟨p,pre,hp,hpp,hgk,rfl,HQ,hown,hbw⟩:=hrel;have HG:=aW hgk;clear hgk;by_cases hlt:p<l.length
  ·obtain ⟨b,o,rfl,hb⟩:=HR.out.some_ (show 0<l.length by omega);obtain ⟨c,n,hcm⟩:∃ c m,au (l.drop p)=(c,m):=⟨_,_,rfl⟩
   have hne:l.drop p≠[]:=by intro e;have h:=congrArg List.length e;rw [List.length_drop] at h;simp at h;omega
   have hle:=jt (l.drop p);have hst:=kX hne;rw [hcm] at hle hst;rw [List.length_drop] at hle;have hpn:p+n<=l.length:=by have:=hle.1;simp only at this;omega
   rw [List.drop_drop] at hst;have HST:=aW hst;have hB:=pB (Zs (some ⟨b,o+p,none⟩) (l.length-p) (cap-p)) (l.drop p) wr (BS.dropN (n:=0) (HR.out.below hbw) hcap p hp) (by rw [List.length_drop];omega);rw [hcm] at hB;have HB:=aW hB;have hcapp:¬ cap=p:=by omega
   clear hB hcm hne hle hst;by_cases hn0:n=0
   ·subst hn0;have hu:er=false:=by rw [← HER.out,HQ.out,HST.out,if_pos rfl]
    subst hu;go_wp2_with fail;refine HB.out.mono ?_;rintro e w1 ⟨rfl,hb1⟩;go_wp2;go_ret3;exact ⟨⟨_,_,rfl⟩,hbw.trans (hb1.mono hbw.size)⟩
   ·have hn1:((n:Int) == 0)=false:=by simp;omega
    have HQ2:=aW (show cF l=cF (l.drop (p+n)) by rw [HQ.out,HST.out,if_neg hn0]);go_wp2_with fail;refine HB.out.mono ?_;rintro e w1 ⟨rfl,hb1⟩;have hown1:=ri hown hb1;go_wp2_with (at_builtin;refine wpList_append_own _ rfl _ _ 176 rfl w.heap.size 3 i0 (Zi Zq 0) 1 8 Tryz.underlying176 HI.out hz0 hz1 hz2 rfl (by decide) _ _ _ rfl (hown1.alloc _) ⟨w1.heap.size,0,none⟩ 1 1 [Zi Zq c] rfl rfl (cell_one_new _ _ _) (by simp [Value.oneCell']) (by unfold maxLen;omega) (by omega) (by have:=hbw.size;have:=hb1.size;simp;omega) ?_;intro v' w2 hown2 hgr2 _);go_roundg (l.length-(p+n))
    case measure=>rw [HG.out];omega
    case rel =>
     have s1:=hbw.size;have s2:=hb1.size;refine ⟨p+n,pre++[c],hpn,by rw [List.length_append,List.length_singleton];omega,rfl,by go_num,HQ2,?_,?_⟩
     ·rw [List.length_append,List.length_singleton];have e:uH ((pre++[c]).map λ n:Nat=>(n:Int))=uH (pre.map λ n:Nat=>(n:Int))++[Zi Zq c]:=by simp [uH]
      rw [e];exact hown2
     ·refine ((hbw.trans (hb1.mono s1)).alloc (by omega) _).grown hgr2 (by simp;omega) (λ k e=>?_);exact (hown1.lt k e).1
  ·obtain rfl:p=l.length:=by omega
   have hu:er=true:=by rw [← HER.out,HQ.out,List.drop_length];rfl
   subst hu;go_wp2;go_ret3;exact ⟨⟨_,_,rfl⟩,hbw⟩
theorem kK (s:List UInt8) (w:World) (hl:s.length<=4194304):Calls Tryz.prog 226 #[Zt ⟨s.toArray⟩] w λ e w'=>e=.returned (.bool (cF s))/\Below w.heap.size w w':=by
 obtain ⟨ba,hba⟩:∃ ba:ByteArray,(⟨s.toArray⟩:ByteArray)=ba:=⟨_,rfl⟩
 have hsl:sl ba=s:=by rw [← hba,jG]
 rw [hba];obtain ⟨cap,W1,hcv,hcap,hb1,hs1,hr1⟩:=gS (P:=Tryz.prog) w 9 67 5 ba Tryz.underlying9 Tryz.underlying67 Tryz.underlying5;have hP:=oA (Zs (some ⟨w.heap.size,0,none⟩) ba.size cap) s W1 (by rw [← hsl];exact ⟨_,_,by rw [cd],by rw [cd];exact hcap,hr1⟩) hl;have HP:=aW hP;have HB1:=aW hb1;clear hP hr1 hsl hba hcap hb1 hl;obtain ⟨er,her⟩:∃ er,cF s=er:=⟨_,rfl⟩
 rw [her] at HP ⊢;clear her;go_enter Tryz.func226,Tryz.ntmps226;go_wp2_with fail;refine HP.out.mono ?_;rintro e w2 ⟨⟨u,p,rfl⟩,hb2⟩;have HB2:=aW (HB1.out.trans (hb2.mono HB1.out.size));clear hb2;go_wp2;go_ret;exact ⟨rfl,HB2.out⟩
end
end Go.Proofs.YtgmnmnnoahdjnaaGreatDoor
