import Derived.Test.YtgmnmnnoahdjnaaGreatDoorB12
import Derived.Test.YtgmnmnnoahdjnaaGreatDoorB11
set_option maxRecDepth 100000
set_option maxHeartbeats 16000000
set_option linter.unusedVariables false
set_option linter.unusedSimpArgs false
namespace Go.Proofs.YtgmnmnnoahdjnaaGreatDoor
section
open Go.RowKit
attribute [local go_sem] aa ac ae ab
theorem p8 (n p:Int) (w:World) (h0:0≤n) (h1:n≤4194304):Calls Tryz.prog 201 #[.int .i64 n,.int .i64 p] w fun e w'=>e=.returned (.int .i64 (n+1))∧w=w':=by
 go_enter Tryz.func201,Tryz.ntmps201;go_wp2;go_ret;exact ⟨rfl,rfl⟩
def eN (s:List UInt8):Int:=if cR s=true then 0 else 110
theorem oD (s:List UInt8) (w:World) (hG:GOK w) (hl:s.length≤4194304) :
  Calls Tryz.prog 200 #[.string ⟨s.toArray⟩,.int .i64 0,.func (.func 201) #[] #[]] w fun e w'=>(∃ n p:Int,e=.returned (.tuple #[.int .i64 n,.int .i64 p,.int .i64 (eN s)]))∧Below w.heap.size w w':=by
 obtain ⟨ba,hba⟩:∃ ba:ByteArray,(⟨s.toArray⟩:ByteArray)=ba:=⟨_,rfl⟩
 have hsl:sl ba=s:=by rw [← hba,ii]
 rw [hba];obtain ⟨cap,W1,hcv,hcap,hb1,hs1,hr1⟩:=iW (P:=Tryz.prog) w 9 67 5 ba Tryz.underlying9 Tryz.underlying67 Tryz.underlying5;rw [hsl] at hr1;have hsz:ba.size=s.length:=by rw [← hsl,eD]
 rw [hsz] at hcv hcap;have HR:=aW hr1;have HB1:=aW hb1;have hlt1:w.heap.size<W1.heap.size:=by omega
 clear hr1 hb1 hsl hba hsz hs1;have HGK:=aW hG;clear hG;have HCN:=aW (fun n p w h0 h1=>p8 n p w h0 h1);obtain ⟨er,her⟩:∃ er,eN s=er:=⟨_,rfl⟩
 rw [her];have HER:=aW her;clear her;go_enter Tryz.func200,Tryz.ntmps200;go_wp2;go_loopg [1,10] s.length (fun gk s1 s10 wr => ∃ (p n:Nat),p≤s.length∧n≤p∧gk=s.length-p∧s1=.int .i64 n∧s10=.int .i64 p∧Hid (eN s=eN (s.drop p))∧Hid (Below W1.heap.size W1 wr))
 case atStart=>exact ⟨0,0,Nat.zero_le _,Nat.le_refl _,rfl,by go_num,by go_num,aW (by rw [List.drop_zero]),aW (Below.refl _ _)⟩
 case round =>
  obtain ⟨p,n,hp,hnp,hgk,rfl,rfl,HQ,HW⟩:=hrel;have HG:=aW hgk;clear hgk;by_cases hlt:p<s.length
  ·obtain ⟨c,m,hcm⟩:∃ c m,au (s.drop p)=(c,m):=⟨_,_,rfl⟩
   have hne:s.drop p≠[]:=by intro e;have h:=congrArg List.length e;rw [List.length_drop] at h;simp at h;omega
   have hle:=oR (s.drop p);have hst:=jj hne;rw [hcm] at hle hst;rw [List.length_drop] at hle;have hpn:p+m≤s.length:=by have:=hle.1;simp only at this;omega
   have hm4:m≤4:=hle.2;rw [List.drop_drop] at hst;have HST:=aW hst;have hW:=HB1.out.trans (HW.out.mono HB1.out.size);have hcell:∀ i x,(s.drop p)[i]? = some x→wr.cell? ⟨w.heap.size,p+i,none⟩=some (.int .u8 x.toNat):=fun i x hx=>by
    rw [List.getElem?_drop] at hx;have h:=BS.at_ (n:=0) (cap:=0) (HR.out.below HW.out) hx;rwa [Nat.zero_add] at h
   have hNX:=pw w.heap.size p (cap-p) (s.drop p) wr hne (HGK.out.keep hW) (by have:=HW.out.size;omega) hcell (by rw [List.length_drop];omega) (by rw [List.length_drop];omega);rw [hcm,List.length_drop] at hNX;have HNX:=aW hNX;have hcapp:¬ cap=p:=by omega
   clear hNX hcell hW hcm hne hle hst;by_cases hm0:m=0
   ·subst hm0;have hu:er=110:=by
     rw [← HER.out,HQ.out];unfold eN;rw [HST.out,if_pos rfl];rfl
    subst hu;go_wp2_with fail;refine HNX.out.mono ?_;rintro e w1 ⟨rfl,hb2⟩;have HW2:=aW (HW.out.trans (hb2.mono HW.out.size));clear hb2;go_wp2;go_ret3;exact ⟨⟨_,_,rfl⟩,HB1.out.trans (HW2.out.mono HB1.out.size)⟩
   ·have hm1:((m:Int) == 0)=false:=by simp;omega
    have HQ2:=aW (show eN s=eN (s.drop (p+m)) by rw [HQ.out];unfold eN;rw [HST.out,if_neg hm0]);go_wp2_with fail;refine HNX.out.mono ?_;rintro e w1 ⟨rfl,hb2⟩;have HW2:=aW (HW.out.trans (hb2.mono HW.out.size));clear hb2;go_wp2_with fail;refine (HCN.out n c _ (by omega) (by omega)).mono ?_;rintro e w2 ⟨rfl,rfl⟩;go_wp2;go_roundg (s.length-(p+m))
    case measure=>rw [HG.out];omega
    case rel=>exact ⟨p+m,n+1,hpn,by omega,rfl,by go_num,by go_num,HQ2,HW2⟩
  ·obtain rfl:p=s.length:=by omega
   have hu:er=0:=by
    rw [← HER.out,HQ.out,List.drop_length];rfl
   subst hu;go_wp2;go_ret3;exact ⟨⟨_,_,rfl⟩,HB1.out.trans (HW.out.mono HB1.out.size)⟩
theorem jk (s:List UInt8) (w:World) (hG:GOK w) (hl:s.length≤4194304):Calls Tryz.prog 185 #[.string ⟨s.toArray⟩] w fun e w'=>(∃ p:Int,e=.returned (.tuple #[.int .i64 p,.int .i64 (eN s)]))∧Below w.heap.size w w':=by
 have HT:=aW (oD s w hG hl);clear hl hG;obtain ⟨er,her⟩:∃ er,eN s=er:=⟨_,rfl⟩
 rw [her] at HT ⊢;clear her;go_enter Tryz.func185,Tryz.ntmps185;go_wp2_with fail;refine HT.out.mono ?_;rintro e w1 ⟨⟨n,p,rfl⟩,hb⟩;have HB:=aW hb;clear hb;go_wp2;go_ret2;exact ⟨⟨_,rfl⟩,HB.out⟩
end
end Go.Proofs.YtgmnmnnoahdjnaaGreatDoor
