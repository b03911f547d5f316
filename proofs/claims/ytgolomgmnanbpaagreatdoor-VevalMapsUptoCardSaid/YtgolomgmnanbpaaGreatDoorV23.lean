import Derived.Test.YtgolomgmnanbpaaGreatDoorV20
open Go.Value renaming int → Zi, slice → Zs, string → Zt, pointer → Zp
open Go.IntKind renaming i64 → Zq
set_option maxRecDepth 100000
set_option maxHeartbeats 16000000
set_option linter.unusedVariables false
set_option linter.unusedSimpArgs false
namespace Go.Proofs.YtgolomgmnanbpaaGreatDoor
section
open Go.RowKit
attribute [local go_sem] aa ac ae ab
theorem lj:∀ (f g:Nat) (l:List UInt8),l.length<=f->l.length<=g->j8 f l=j8 g l
 | 0,0,l,_,_=>rfl
 |0,g+1,l,h,_=>by
  obtain rfl:l=[]:=List.eq_nil_of_length_eq_zero (by omega);rfl
 |f+1,0,l,_,h=>by
  obtain rfl:l=[]:=List.eq_nil_of_length_eq_zero (by omega);rfl
 |f+1,g+1,l,h1,h2=>by
  cases l with
  | nil=>rfl
  |cons c r =>
   rw [j8,j8,lj f g]
   ·rw [List.length_drop];simp at h1 ⊢;omega
   ·rw [List.length_drop];simp at h2 ⊢;omega
theorem lA {l:List UInt8} (hne:l≠[]) (hm:(am l).2≠0):gq l=gq (l.drop (am l).2)+1:=by
 cases l with
 | nil=>exact absurd rfl hne
 |cons c r =>
  unfold gq;have e:max 1 (am (c::r)).2=(am (c::r)).2:=Nat.max_eq_right (by omega);rw [List.length_cons,j8,e];congr 1;refine lj _ _ _ ?_ (Nat.le_refl _);rw [List.length_drop,List.length_cons];omega
theorem qd (l:List UInt8):gq l<=l.length:=by
 have:∀ (f:Nat) (l:List UInt8),j8 f l<=l.length:=by
  intro f
  induction f with
  | zero=>intro l;cases l<;>simp [j8]
  |succ f ih =>
   intro l;cases l with
   | nil=>simp [j8]
   |cons c r =>
    have h:=ih ((c::r).drop (max 1 (am (c::r)).2));rw [List.length_drop] at h;rw [j8];simp only [List.length_cons] at h ⊢;omega
 exact this _ l
theorem se:(Tryz.prog.info? 3).map (λ i=>(i.zero,i.size,i.bytes))=some (some (Zi Zq 0),1,8):=by kernel_rfl
def xf (base n:Nat) (xs:List Value) (p:Int) (row:Value) (w:World) (e:Ending) (w':World):Prop:=∃ row':Value,e=.returned row'/\w'.ownsRow base 3 1 row' (n+1) (xs++[Zi Zq p])/\∀ B,(∀ k,row.ownBlock=some k->B<=k)->B<=w.heap.size->Below B w w'
theorem yg (row:Value) (base n:Nat) (xs:List Value) (p:Int) (w:World) (hown:w.ownsRow base 3 1 row n xs) (hb:base<=w.heap.size) (hn:n<=4194304) :
  Calls Tryz.prog 170 #[row,Zi Zq p] w (xf base n xs p row w):=by
 obtain ⟨i0,hi,hz0,hz1,hz2⟩:=info_parts se;have HI:=aW hi;have HO:=aW (hown.alloc (.cells #[Zi Zq p] 3));have HR:=aW (Rd.of_blk (Blk.new w 3 #[Zi Zq p]));have HRW:=aW (And.intro (show row=row from rfl) hb);have HFIN:=aW (λ (v':Value) (w6:World) (h1:w6.ownsRow base 3 1 v' (n+1) (xs++[Zi Zq p])) (h2:(w.alloc (.cells #[Zi Zq p] 3)).grownBy w6 row.ownBlock)=>show xf base n xs p row w (.returned v') w6 from
  ⟨v',rfl,h1,λ B hB hBw=>((Below.refl B w).alloc hBw _).grown h2 (by simp;omega) hB⟩)
 clear hi hown;go_enter Tryz.func170,Tryz.ntmps170;go_wp2_with (at_builtin;refine ag _ rfl _ _ 96 rfl base 3 i0 _ 1 8 Tryz.underlying96 HI.out hz0 hz1 hz2 rfl (by decide) row n xs rfl HO.out (some ⟨w.heap.size,0,none⟩) 1 1 (λ h=>by cases h) [Zi Zq p] rfl rfl HR.out (by intro u hu;obtain rfl:=List.mem_singleton.1 hu;rfl) (by unfold maxLen;omega) (by omega) (by simp;omega) ?_;intro row2 w6 hown6 hgr6 hob6);have HX:=aW (HFIN.out _ _ hown6 hgr6);clear hown6 hgr6 hob6;go_ret;exact HX.out
def sI (s:List UInt8) (w:World) (e:Ending) (w':World):Prop:=(∃ (A:Option Addr) (cap:Nat),e=.returned (.tuple #[Zs A (gq s) cap,Zi Zq 0,Zi Zq 0]))/\Below w.heap.size w w'
theorem qB (s:List UInt8) (w:World) (hG:GOK w) (hl:s.length<=4194304) (hok:aL s=true) :
  Calls Tryz.prog 169 #[Zt ⟨s.toArray⟩,Zs none 0 0,.func (.func 170) #[] #[]] w (sI s w):=by
 obtain ⟨ba,hba⟩:∃ ba:ByteArray,(⟨s.toArray⟩:ByteArray)=ba:=⟨_,rfl⟩
 have hsl:sl ba=s:=by rw [← hba,fW]
 rw [hba];obtain ⟨cap,W1,hcv,hcap,hb1,hs1,hr1⟩:=dI (P:=Tryz.prog) w 9 76 5 ba Tryz.underlying9 Tryz.underlying76 Tryz.underlying5;rw [hsl] at hr1;have hsz:ba.size=s.length:=by rw [← hsl,bR]
 rw [hsz] at hcv hcap;have HR:=aW hr1;have HB1:=aW hb1;have hlt1:w.heap.size<W1.heap.size:=by omega
 clear hr1 hb1 hsl hba hsz hs1;have HGK:=aW hG;clear hG;obtain ⟨tt,htt⟩:∃ tt,gq s=tt:=⟨_,rfl⟩
 have HTT:=aW htt;have HFIN:=aW (λ (A:Option Addr) (c:Nat) (w':World) (h:Below w.heap.size w w')=>show sI s w (.returned (.tuple #[Zs A tt c,Zi Zq 0,Zi Zq 0])) w' from ⟨⟨A,c,by rw [htt]⟩,h⟩);have HOK:=aW hok;clear htt hok;go_enter Tryz.func169,Tryz.ntmps169;go_wp2;go_loopg [1,10] s.length (λ gk s1 s10 wr => ∃ (p n:Nat) (row:Value) (xs:List Value),row=s1/\p<=s.length/\n<=p/\gk=s.length-p/\s10=Zi Zq p/\Hid (aL (s.drop p)=true/\n+gq (s.drop p)=tt)/\Hid (wr.ownsRow W1.heap.size 3 1 row n xs)/\Hid (Below W1.heap.size W1 wr))
 case atStart=>exact ⟨0,0,_,[],rfl,Nat.zero_le _,Nat.le_refl _,by go_num,by go_num,aW ⟨by rw [List.drop_zero];exact HOK.out,by rw [List.drop_zero,HTT.out];omega⟩,aW (World.ownsRow_nil _ _ _ _),aW (Below.refl _ _)⟩
 case round =>
  obtain ⟨p,n,row,xs,rfl,hp,hnp,hgk,rfl,HQ,HO,HW⟩:=hrel;have HG:=aW hgk;clear hgk;by_cases hlt:p<s.length
  ·obtain ⟨c,m,hcm⟩:∃ c m,am (s.drop p)=(c,m):=⟨_,_,rfl⟩
   have hne:s.drop p≠[]:=by intro e;have h:=congrArg List.length e;rw [List.length_drop] at h;simp at h;omega
   have hle:=fm (s.drop p);have hst:=cV hne;have hps:=λ h=>lA hne h
   rw [hcm] at hle hst hps;rw [List.length_drop] at hle;have hpn:p+m<=s.length:=by have:=hle.1;simp only at this;omega
   have hm4:m<=4:=hle.2;rw [List.drop_drop] at hst hps;have hm0:m≠0:=λ e=>by
    have h:=HQ.out.1;rw [hst,if_pos e] at h;cases h
   have hW:=HB1.out.trans (HW.out.mono HB1.out.size);have hcell:∀ i x,(s.drop p)[i]? = some x->wr.cell? ⟨w.heap.size,p+i,none⟩=some (Zi .u8 x.toNat):=λ i x hx=>by
    rw [List.getElem?_drop] at hx;have h:=BS.at_ (n:=0) (cap:=0) (HR.out.below HW.out) hx;rwa [Nat.zero_add] at h
   have hNX:=nQ w.heap.size p (cap-p) (s.drop p) wr hne (HGK.out.keep hW) (by have:=HW.out.size;omega) hcell (by rw [List.length_drop];omega) (by rw [List.length_drop];omega);rw [hcm,List.length_drop] at hNX;have HNX:=aW hNX;have hcapp:¬ cap=p:=by omega
   have HQ2:=aW (show aL (s.drop (p+m))=true/\n+1+gq (s.drop (p+m))=tt by
    obtain ⟨q1,q2⟩:=HQ.out;refine ⟨by rw [hst,if_neg hm0] at q1;exact q1,?_⟩;rw [hps hm0] at q2;simp only at q2;omega)
   have hm1:((m:Int) == 0)=false:=by simp;omega
   clear hNX hcell hW hcm hne hle hst hps;go_wp2_with fail;refine HNX.out.mono ?_;rintro e w1 ⟨rfl,hb2⟩;have HO2:=aW (dG HO.out hb2);have HW2:=aW (HW.out.trans (hb2.mono HW.out.size));have HLT:=aW (λ (k:Nat) (h:row.ownBlock=some k)=>(HO.out.lt k h).1);clear hb2;go_wp2_with fail;refine (yg row W1.heap.size n xs c w1 HO2.out HW2.out.size (by omega)).mono ?_;rintro e w2 ⟨row2,rfl,hown,hbel⟩;have HO3:=aW hown;have HW3:=aW (HW2.out.trans (hbel W1.heap.size HLT.out HW2.out.size));clear hown hbel;go_wp2;go_roundg (s.length-(p+m))
   case measure=>rw [HG.out];omega
   case rel=>exact ⟨p+m,n+1,row2,_,rfl,hpn,by omega,rfl,by go_num,HQ2,HO3,HW3⟩
  ·obtain rfl:p=s.length:=by omega
   have hn:n=tt:=by
    have h:=HQ.out.2;rw [List.drop_length] at h;have:gq []=0:=rfl;omega
   subst hn;obtain ⟨RA,rc,rfl,_⟩:=aP HO.out;go_wp2;go_ret3;exact HFIN.out _ _ _ (HB1.out.trans (HW.out.mono HB1.out.size))
theorem sW (s:List UInt8) (w:World) (hG:GOK w) (hl:s.length<=4194304) (hok:aL s=true):Calls Tryz.prog 125 #[Zt ⟨s.toArray⟩] w (sI s w):=by
 have HT:=aW (qB s w hG hl hok);clear hl hG hok;obtain ⟨er,her⟩:∃ er,gq s=er:=⟨_,rfl⟩
 unfold sI at HT ⊢;rw [her] at HT ⊢;clear her;go_enter Tryz.func125,Tryz.ntmps125;go_wp2_with fail;refine HT.out.mono ?_;rintro e w1 ⟨⟨A,c,rfl⟩,hb⟩;have HB:=aW hb;clear hb;go_wp2;go_ret3;exact ⟨⟨_,_,rfl⟩,HB.out⟩
def wL (cs:Array Value) (w:World) (e:Ending) (w':World):Prop:=e=.returned (.agg cs)/\Below w.heap.size w w'
theorem d9 (k n:Int) (s:ByteArray) (A:Option Addr) (na ca:Nat) (B:Option Addr) (nb cb:Nat) (w:World) :
  Calls Tryz.prog 46 #[.agg #[Zi Zq k,Zi Zq n,Zt s,Zs A na ca,Zs B nb cb]] w (wL #[Zi Zq k,Zi Zq n,Zt s,Zs A na ca,Zs B nb cb,.bool true] w):=by
 go_enter Tryz.func46,Tryz.ntmps46;go_wp2;refine bodyPost_ret (v:=.agg #[Zi Zq k,Zi Zq n,Zt s,Zs A na ca,Zs B nb cb,.bool true]) (by simp only [results,Tryz.results46];go_simp) rfl ?_;exact ⟨rfl,by go_grown⟩
theorem bZ (b:Bool) (w:World) :
  Calls Tryz.prog 49 #[.bool b] w (wL #[Zi Zq 2,Zi Zq (if b=true then 1 else 0),Zt ⟨#[]⟩,Zs none 0 0,Zs none 0 0,.bool true] w):=by
 have HH0:=aW ((aj.nil w).push 40 #[Zi Zq 0,Zi Zq 0,Zt ⟨#[]⟩,Zs none 0 0,Zs none 0 0,.bool false] (g:=w.heap.size) rfl);have HS:=aW (λ (W:World) (n:Int)=>d9 2 n ⟨#[]⟩ none 0 0 none 0 0 W);cases b with
 |true =>
  go_enter Tryz.func49,Tryz.ntmps49;go_wp2_with fail;refine (HS.out _ 1).mono ?_;rintro e w1 ⟨rfl,hb1⟩;have HH1:=aW (HH0.out.keep hb1);clear hb1;obtain ⟨c0,f0,l0⟩:=HH1.out.b0.rules;have hle:w.heap.size<=w.heap.size:=Nat.le_refl _;have HB:=aW (show ∀ (u0 u1 u2 u3 u4 u5:Value),Below w.heap.size w ((((((w1.setCell ⟨w.heap.size,0,none⟩ u0).setCell ⟨w.heap.size,1,none⟩ u1).setCell ⟨w.heap.size,2,none⟩ u2).setCell ⟨w.heap.size,3,none⟩ u3).setCell ⟨w.heap.size,4,none⟩ u4).setCell ⟨w.heap.size,5,none⟩ u5) from λ _ _ _ _ _ _=>(((((HH1.out.1.setCell hle _).setCell hle _).setCell hle _).setCell hle _).setCell hle _).setCell hle _);go_wp2;refine bodyPost_ret (v:=.agg #[Zi Zq 2,Zi Zq 1,Zt ⟨#[]⟩,Zs none 0 0,Zs none 0 0,.bool true]) (by simp only [results,Tryz.results49];go_simp) rfl ?_;exact ⟨rfl,HB.out _ _ _ _ _ _⟩
 |false =>
  go_enter Tryz.func49,Tryz.ntmps49;go_wp2_with fail;refine (HS.out _ 0).mono ?_;rintro e w1 ⟨rfl,hb1⟩;have HH1:=aW (HH0.out.keep hb1);clear hb1;obtain ⟨c0,f0,l0⟩:=HH1.out.b0.rules;have hle:w.heap.size<=w.heap.size:=Nat.le_refl _;have HB:=aW (show ∀ (u0 u1 u2 u3 u4 u5:Value),Below w.heap.size w ((((((w1.setCell ⟨w.heap.size,0,none⟩ u0).setCell ⟨w.heap.size,1,none⟩ u1).setCell ⟨w.heap.size,2,none⟩ u2).setCell ⟨w.heap.size,3,none⟩ u3).setCell ⟨w.heap.size,4,none⟩ u4).setCell ⟨w.heap.size,5,none⟩ u5) from λ _ _ _ _ _ _=>(((((HH1.out.1.setCell hle _).setCell hle _).setCell hle _).setCell hle _).setCell hle _).setCell hle _);go_wp2;refine bodyPost_ret (v:=.agg #[Zi Zq 2,Zi Zq 0,Zt ⟨#[]⟩,Zs none 0 0,Zs none 0 0,.bool true]) (by simp only [results,Tryz.results49];go_simp) rfl ?_;exact ⟨rfl,HB.out _ _ _ _ _ _⟩
theorem cU (k n:Int) (s:ByteArray) (A:Option Addr) (na ca:Nat) (B:Option Addr) (nb cb:Nat) (sm:Bool) (w:World) :
  Calls Tryz.prog 47 #[.agg #[Zi Zq k,Zi Zq n,Zt s,Zs A na ca,Zs B nb cb,.bool sm]] w λ e w'=>e=.returned (.tuple #[.bool (n == 1),.bool (sm && (k == 2))])/\Below w.heap.size w w':=by
 have HH0:=aW ((aj.nil w).push 40 #[Zi Zq k,Zi Zq n,Zt s,Zs A na ca,Zs B nb cb,.bool sm] (g:=w.heap.size) rfl);obtain ⟨c0,f0,l0⟩:=HH0.out.b0.rules;cases sm with
 |true =>
  go_enter Tryz.func47,Tryz.ntmps47;go_upto_region 1 with fail;go_quiet (fail);go_wp2;go_ret2;exact ⟨rfl,(HH0.out.drewN _).1⟩
 |false =>
  go_enter Tryz.func47,Tryz.ntmps47;go_upto_region 1 with fail;go_quiet (fail);go_wp2;go_ret2;exact ⟨rfl,(HH0.out.drewN _).1⟩
def tX:List Value:=[Zt ⟨#[]⟩,Zt ⟨#[110,117,108,108]⟩,Zt ⟨#[98,111,111,108]⟩,Zt ⟨#[105,110,116]⟩,Zt ⟨#[116,101,120,116]⟩,Zt ⟨#[108,105,115,116]⟩,Zt ⟨#[111,98,106,101,99,116]⟩]
theorem vE (w:World):Calls Tryz.prog 51 #[] w λ e w' => ∃ g,e=.returned (Zs (some ⟨g,0,none⟩) 7 7)/\Blk w' g 9 tX.toArray/\Below w.heap.size w w':=by
 go_enter Tryz.func51,Tryz.ntmps51;go_wp2;go_ret;exact ⟨_,rfl,Blk.new _ _ _,by go_grown⟩
def fc (o:Int) (w:World) (e:Ending) (w':World):Prop:=∃ (n:Int) (f:Bool),e=.returned (.tuple #[Zi Zq n,.bool f])/\(f=true->iw o/\n=o)/\(f=false->¬ iw o/\n=0)/\w'=w
theorem fc.yes {o:Int} {w:World} (h:iw o):fc o w (.returned (.tuple #[Zi Zq o,.bool true])) w:=⟨o,true,rfl,λ _=>⟨h,rfl⟩,(λ h=>by cases h),rfl⟩
theorem fc.no {o:Int} {w:World} (h:¬ iw o):fc o w (.returned (.tuple #[Zi Zq 0,.bool false])) w:=⟨0,false,rfl,(λ h=>by cases h),λ _=>⟨h,rfl⟩,rfl⟩
theorem tS (a b:Int) (w:World) (ha:iw a) (hb:iw b):Calls Tryz.prog 53 #[Zi Zq a,Zi Zq b] w (fc (a+b) w):=by
 unfold iw at ha hb;obtain ⟨o,ho⟩:∃ o,a+b=o:=⟨_,rfl⟩
 rw [ho];have HY:=aW (λ (h:iw o)=>fc.yes (w:=w) h);have HN:=aW (λ (h:¬ iw o)=>fc.no (w:=w) h);have HO:=aW ho;by_cases hp:0<b
 ·have e1:decide (0<b)=true:=decide_eq_true hp;have hw:IntKind.i64.wrap (9223372036854775807-b)=9223372036854775807-b:=by rw [IntKind.wrap_i64];omega
  by_cases hbig:9223372036854775807-b<a
  ·have HX:=aW (HN.out (by unfold iw;omega));clear HY HN ho;go_enter Tryz.func53,Tryz.ntmps53;go_wp2;go_ret2;exact HX.out
  ·have HX:=aW (HY.out (by unfold iw;omega));have e3:¬ b<0:=by omega
   have hws:IntKind.i64.wrap (a+b)=o:=by rw [IntKind.wrap_i64];omega
   clear HY HN ho;go_enter Tryz.func53,Tryz.ntmps53;go_wp2;go_ret2;exact HX.out
 ·have e1:decide (0<b)=false:=decide_eq_false hp;by_cases hn:b<0
  ·have hw:IntKind.i64.wrap (-9223372036854775808-b) = -9223372036854775808-b:=by rw [IntKind.wrap_i64];omega
   by_cases hbig:a < -9223372036854775808-b
   ·have HX:=aW (HN.out (by unfold iw;omega));clear HY HN ho;go_enter Tryz.func53,Tryz.ntmps53;go_wp2;go_ret2;exact HX.out
   ·have HX:=aW (HY.out (by unfold iw;omega));have hws:IntKind.i64.wrap (a+b)=o:=by rw [IntKind.wrap_i64];omega
    clear HY HN ho;go_enter Tryz.func53,Tryz.ntmps53;go_wp2;go_ret2;exact HX.out
  ·have HX:=aW (HY.out (by unfold iw;omega));have hws:IntKind.i64.wrap (a+b)=o:=by rw [IntKind.wrap_i64];omega
   clear HY HN ho;go_enter Tryz.func53,Tryz.ntmps53;go_wp2;go_ret2;exact HX.out
theorem uz (a b:Int) (w:World) (ha:iw a) (hb:iw b):Calls Tryz.prog 54 #[Zi Zq a,Zi Zq b] w (fc (a-b) w):=by
 unfold iw at ha hb;obtain ⟨o,ho⟩:∃ o,a-b=o:=⟨_,rfl⟩
 rw [ho];have HY:=aW (λ (h:iw o)=>fc.yes (w:=w) h);have HN:=aW (λ (h:¬ iw o)=>fc.no (w:=w) h);have HO:=aW ho;by_cases hp:b<0
 ·have e1:decide (b<0)=true:=decide_eq_true hp;have hw:IntKind.i64.wrap (9223372036854775807+b)=9223372036854775807+b:=by rw [IntKind.wrap_i64];omega
  by_cases hbig:9223372036854775807+b<a
  ·have HX:=aW (HN.out (by unfold iw;omega));clear HY HN ho;go_enter Tryz.func54,Tryz.ntmps54;go_wp2;go_ret2;exact HX.out
  ·have HX:=aW (HY.out (by unfold iw;omega));have e3:¬ 0<b:=by omega
   have hws:IntKind.i64.wrap (a-b)=o:=by rw [IntKind.wrap_i64];omega
   clear HY HN ho;go_enter Tryz.func54,Tryz.ntmps54;go_wp2;go_ret2;exact HX.out
 ·have e1:decide (b<0)=false:=decide_eq_false hp;by_cases hn:0<b
  ·have hw:IntKind.i64.wrap (-9223372036854775808+b) = -9223372036854775808+b:=by rw [IntKind.wrap_i64];omega
   by_cases hbig:a < -9223372036854775808+b
   ·have HX:=aW (HN.out (by unfold iw;omega));clear HY HN ho;go_enter Tryz.func54,Tryz.ntmps54;go_wp2;go_ret2;exact HX.out
   ·have HX:=aW (HY.out (by unfold iw;omega));have hws:IntKind.i64.wrap (a-b)=o:=by rw [IntKind.wrap_i64];omega
    clear HY HN ho;go_enter Tryz.func54,Tryz.ntmps54;go_wp2;go_ret2;exact HX.out
  ·have HX:=aW (HY.out (by unfold iw;omega));have hws:IntKind.i64.wrap (a-b)=o:=by rw [IntKind.wrap_i64];omega
   clear HY HN ho;go_enter Tryz.func54,Tryz.ntmps54;go_wp2;go_ret2;exact HX.out
theorem oP (a b:Int):∃ p m,a*b.tdiv 2=p/\a*b=p+p+m/\(b.tmod 2=0/\m=0∨b.tmod 2=1/\m=a∨b.tmod 2 = -1/\m = -a)/\((0<=p/\0<=m)∨(p<=0/\m<=0)):=by
 have h1:=Int.mul_tdiv_add_tmod b 2;have hr:b.tmod 2=0∨b.tmod 2=1∨b.tmod 2 = -1:=by
  have h2:(b.tmod 2).natAbs<2:=by rw [Int.natAbs_tmod];exact Nat.mod_lt _ (by decide)
  omega
 have hs:(0<=b->0<=b.tdiv 2/\0<=b.tmod 2)/\(b<=0->b.tdiv 2<=0/\b.tmod 2<=0):=by
  constructor
  ·intro h;exact ⟨Int.tdiv_nonneg h (by decide),Int.tmod_nonneg 2 h⟩
  ·intro h;have h3:0<=(-b).tdiv 2:=Int.tdiv_nonneg (by omega) (by decide);have h4:0<=(-b).tmod 2:=Int.tmod_nonneg 2 (by omega);rw [Int.neg_tdiv] at h3;rw [Int.neg_tmod] at h4;omega
 generalize b.tdiv 2=d at *;generalize b.tmod 2=r at *;refine ⟨a*d,a*r,rfl,by rw [← h1,Int.mul_add,Int.mul_left_comm];omega,?_,?_⟩
 ·rcases hr with rfl | rfl | rfl
  ·exact .inl ⟨rfl,by simp⟩
  ·exact .inr (.inl ⟨rfl,by simp⟩)
  ·exact .inr (.inr ⟨rfl,by simp⟩)
 ·rcases Int.le_total 0 a with ha | ha
  ·rcases Int.le_total 0 b with hb | hb
   ·exact .inl ⟨Int.mul_nonneg ha (hs.1 hb).1,Int.mul_nonneg ha (hs.1 hb).2⟩
   ·exact .inr ⟨Int.mul_nonpos_of_nonneg_of_nonpos ha (hs.2 hb).1,Int.mul_nonpos_of_nonneg_of_nonpos ha (hs.2 hb).2⟩
  ·rcases Int.le_total 0 b with hb | hb
   ·exact .inr ⟨Int.mul_nonpos_of_nonpos_of_nonneg ha (hs.1 hb).1,Int.mul_nonpos_of_nonpos_of_nonneg ha (hs.1 hb).2⟩
   ·exact .inl ⟨Int.mul_nonneg_of_nonpos_of_nonpos ha (hs.2 hb).1,Int.mul_nonneg_of_nonpos_of_nonpos ha (hs.2 hb).2⟩
theorem fc.cases {o:Int} {w w':World} {e:Ending} (h:fc o w e w'):w'=w/\(iw o/\e=.returned (.tuple #[Zi Zq o,.bool true])∨¬ iw o/\e=.returned (.tuple #[Zi Zq 0,.bool false])):=by
 obtain ⟨n,f,rfl,h1,h2,rfl⟩:=h;refine ⟨rfl,?_⟩;cases f with
 | true=>obtain ⟨g1,rfl⟩:=h1 rfl;exact .inl ⟨g1,rfl⟩
 | false=>obtain ⟨g1,rfl⟩:=h2 rfl;exact .inr ⟨g1,rfl⟩
theorem rR {p m o:Int} (h:o=p+p+m) (hs:(0<=p/\0<=m)∨(p<=0/\m<=0)) (hp:¬ iw p):¬ iw o:=by unfold iw at *;omega
theorem rk {p m o:Int} (h:o=p+p+m) (hs:(0<=p/\0<=m)∨(p<=0/\m<=0)) (hp:¬ iw (p+p)):¬ iw o:=by unfold iw at *;omega
theorem si {q o:Int} (h:o=q+9223372036854775807+1) (hq:iw q) (hp:¬ iw (q+9223372036854775807)):¬ iw o:=by unfold iw at *;omega
theorem sK {q m o a:Int} (h:o=q+m) (hm:m = -a) (ha:a = -9223372036854775808):o=q+9223372036854775807+1:=by omega
theorem nC {a na:Int} (h:-a=na) (ha:iw a) (hm:¬ a = -9223372036854775808):iw na/\IntKind.i64.wrap (-a)=na:=by rw [IntKind.wrap_i64];unfold iw at *;omega
theorem uS:iw 9223372036854775807:=by unfold iw;omega
theorem vz:iw 1:=by unfold iw;omega
theorem uL (a:Int) (ha:iw a):∀ (N:Nat) (b:Int) (w:World),b.natAbs<=N->iw b->Calls Tryz.prog 55 #[Zi Zq a,Zi Zq b] w (fc (a*b) w):=by
 intro N
 induction N with
 |zero =>
  intro b w hN hb;obtain rfl:b=0:=by omega
  rw [Int.mul_zero];go_enter Tryz.func55,Tryz.ntmps55;go_wp2;go_ret2;exact fc.yes (by unfold iw;omega)
 |succ N ih =>
  intro b w hN hb;by_cases h0:b=0
  ·subst h0;rw [Int.mul_zero];go_enter Tryz.func55,Tryz.ntmps55;go_wp2;go_ret2;exact fc.yes (by unfold iw;omega)
  obtain ⟨p,m,hp,hab,hrm,hsg⟩:=oP a b;obtain ⟨d,hd⟩:∃ d,b.tdiv 2=d:=⟨_,rfl⟩
  obtain ⟨r,hr⟩:∃ r,b.tmod 2=r:=⟨_,rfl⟩
  have h1:=Int.mul_tdiv_add_tmod b 2;rw [hd] at hp h1;rw [hr] at hrm h1;unfold iw at ha hb;have hdN:d.natAbs<=N:=by
   have:d.natAbs=b.natAbs / 2:=by rw [← hd,Int.natAbs_tdiv];rfl
   omega
  have hdi:iw d:=by
   have:d.natAbs=b.natAbs / 2:=by rw [← hd,Int.natAbs_tdiv];rfl
   unfold iw;omega
  have HIH:=aW (show ∀ w,Calls Tryz.prog 55 #[Zi Zq a,Zi Zq d] w (fc p w) from λ w=>by rw [← hp];exact ih d w hdN hdi);obtain ⟨o,ho⟩:∃ o,a*b=o:=⟨_,rfl⟩
  rw [ho] at hab ⊢;have hdw:IntKind.i64.wrap (b.tdiv 2)=d:=by rw [hd,IntKind.wrap_i64];unfold iw at hdi;omega
  have HRM:=aW hr;have hb0:(b == 0)=false:=by simp [h0]
  have HS:=aW (λ (x y:Int) (w:World) (hx:iw x) (hy:iw y)=>tS x y w hx hy);have HY:=aW (λ (h:iw o)=>fc.yes (w:=w) h);have HN:=aW (λ (h:¬ iw o)=>fc.no (w:=w) h);have HF:=aW (And.intro hab (And.intro hrm (And.intro hsg ha)));have HA:=aW (show iw a from ha);clear ih hp ho hN hb hdN hdi h1 hab hrm hsg ha hd hr h0;go_enter Tryz.func55,Tryz.ntmps55;go_wp2_with fail;refine (HIH.out _).mono ?_;intro e w1 h;obtain ⟨rfl,⟨hpi,rfl⟩ | ⟨hpi,rfl⟩⟩:=h.cases;rotate_left
  ·have HX:=aW (HN.out (rR HF.out.1 HF.out.2.2.1 hpi));clear HY HN HF hpi h;go_wp2;go_ret2;exact HX.out
  have HPI:=aW hpi;clear hpi h HIH;go_wp2_with fail;refine (HS.out _ _ _ HPI.out HPI.out).mono ?_;intro e w2 h;obtain ⟨rfl,⟨hpi,rfl⟩ | ⟨hpi,rfl⟩⟩:=h.cases;rotate_left
  ·have HX:=aW (HN.out (rk HF.out.1 HF.out.2.2.1 hpi));clear HY HN HF hpi h;go_wp2;go_ret2;exact HX.out
  have HPP:=aW hpi;obtain ⟨pp,hpp⟩:∃ pp,p+p=pp:=⟨_,rfl⟩
  rw [hpp] at HPP HF;simp only [];rw [hpp];clear hpi h hpp;rcases HF.out.2.1 with ⟨hr0,hm⟩ | ⟨hr1,hm⟩ | ⟨hr2,hm⟩
  ·have HX:=aW (show fc o w2 (.returned (.tuple #[Zi Zq pp,.bool true])) w2 by
    have h9:o=pp:=by rw [HF.out.1,hm,Int.add_zero]
    rw [← h9];exact HY.out (by rw [h9];exact HPP.out))
   have e1:(b.tmod 2 == 1)=false:=by rw [HRM.out,hr0];rfl
   have e2:(b.tmod 2 == -1)=false:=by rw [HRM.out,hr0];rfl
   clear HY HN HF hm hr0;go_wp2;go_ret2;exact HX.out
  ·have HO:=aW (show o=pp+a by rw [HF.out.1,hm]);have e1:(b.tmod 2 == 1)=true:=by rw [HRM.out,hr1];rfl
   have HX:=aW (HS.out pp a w2 HPP.out HA.out);clear HY HN HF hm hr1;go_wp2_with fail;refine HX.out.mono ?_;intro e w3 h;rw [← HO.out] at h;obtain ⟨n,f,rfl,h1,h2,rfl⟩:=h;have H9:=aW (And.intro h1 h2);clear h1 h2;go_wp2;go_ret2;exact ⟨n,f,rfl,H9.out.1,H9.out.2,rfl⟩
  ·have e1:(b.tmod 2 == 1)=false:=by rw [HRM.out,hr2];rfl
   have e2:(b.tmod 2 == -1)=true:=by rw [HRM.out,hr2];rfl
   by_cases hmin:a = -9223372036854775808
   ·have em:(a == -9223372036854775808)=true:=by simp [hmin]
    have HX:=aW (HS.out pp 9223372036854775807 w2 HPP.out uS);have HO:=aW (sK HF.out.1 hm hmin);have HNO:=aW (si HO.out HPP.out);have HM:=aW hmin;clear HF hm hr2 hmin;go_wp2_with fail;refine HX.out.mono ?_;intro e w3 h;obtain ⟨rfl,⟨hpi,rfl⟩ | ⟨hpi,rfl⟩⟩:=h.cases;rotate_left
    ·have HZ:=aW (HN.out (HNO.out hpi));clear HY HN h hpi;go_wp2;go_ret2;exact HZ.out
    obtain ⟨pq,hpq⟩:∃ pq,pp+9223372036854775807=pq:=⟨_,rfl⟩
    have HZ:=aW (HS.out (pp+9223372036854775807) 1 w3 hpi vz);rw [hpq] at HZ HO;simp only [];rw [hpq];clear h hpi hpq HY HN HNO;go_wp2_with fail;refine HZ.out.mono ?_;intro e w4 h;rw [← HO.out] at h;obtain ⟨n,f,rfl,h1,h2,rfl⟩:=h;have H9:=aW (And.intro h1 h2);clear h1 h2;go_wp2;go_ret2;exact ⟨n,f,rfl,H9.out.1,H9.out.2,rfl⟩
   ·have em:(a == -9223372036854775808)=false:=by simp [hmin]
    obtain ⟨na,hna⟩:∃ na,-a=na:=⟨_,rfl⟩
    have hnw:=(nC hna HA.out hmin).2;have HX:=aW (HS.out pp na w2 HPP.out (nC hna HA.out hmin).1);have HO:=aW (show o=pp+na by rw [HF.out.1,hm,hna]);clear HY HN HF hm hr2 hna;go_wp2_with fail;refine HX.out.mono ?_;intro e w3 h;rw [← HO.out] at h;obtain ⟨n,f,rfl,h1,h2,rfl⟩:=h;have H9:=aW (And.intro h1 h2);clear h1 h2;go_wp2;go_ret2;exact ⟨n,f,rfl,H9.out.1,H9.out.2,rfl⟩
theorem rN:∀ {l:List (List UInt8)} {i:Nat} {t:List UInt8},l[i]? = some t->(∀ (j:Nat) x,j<i->l[j]? = some x->x≠t)->l.idxOf? t=some i
 |y::r,0,t,h,_=>by
  obtain rfl:y=t:=by simpa using h
  simp [List.idxOf?_cons]
 |y::r,i+1,t,h,hn=>by
  have h0:y≠t:=hn 0 y (by omega) rfl;have ih:=rN (l:=r) (i:=i) (t:=t) (by simpa using h) (λ j x hj hx=>hn (j+1) x (by omega) (by simpa using hx));rw [List.idxOf?_cons,ih];simp [h0]
theorem rz:∀ {l:List (List UInt8)} {t:List UInt8},(∀ x ∈ l,x≠t)->l.idxOf? t=none
 | [],t,_=>rfl
 |y::r,t,h=>by
  rw [List.idxOf?_cons,rz λ x hx=>h x (List.mem_cons_of_mem _ hx)];simp [h y List.mem_cons_self]
theorem pD {a b:List UInt8}:((⟨a.toArray⟩:ByteArray).toList == (⟨b.toArray⟩:ByteArray).toList)=decide (a=b):=by
 rw [Bool.eq_iff_iff,beq_iff_eq,decide_eq_true_eq,ByteArray.toList_eq,ByteArray.toList_eq]
theorem vW {v:JV} {cs:List Value} {F:Nat->Prop} (t:List UInt8) (w:World) (hv:VR w F cs v) (hc:au v) (hg:good v=true) :
  Calls Tryz.prog 48 #[.agg cs.toArray,Zt ⟨t.toArray⟩] w (jK (gv v t) F w):=by
 obtain ⟨k,n,s,kids,keys⟩:=v;obtain ⟨A,B,ca,cb,css,rfl,hvs,h1,h2,h3,h4,h5,h6⟩:=hv.out;have HGD:=aW (λ (u:JV) (hu:u ∈ kids)=>And.intro (eN (v:=.mk k n s kids keys) hg hu) (hc.out.2.2.2.2.2.2 u hu));have HKC:=aW (λ (j:Nat) (x:JV) (hx:kids[j]? = some x)=>aS (hvs.mono (F':=λ b=>F b/\b<w.heap.size) λ b hb hF=>⟨hF,hb⟩) (h5.mono (F':=λ b=>F b/\b<w.heap.size) λ b hb hF=>⟨hF,hb⟩) hx);have HKY:=aW h6;have HNL:=aW (show k=6->kids.length=keys.length from λ e=>by subst e;exact (dx (aK (dH hg).1).1).2.2.1);have hgj:gv (.mk k n s kids keys) t=(if k=6 then (match keys.idxOf? t with | some i=>kids[i]? | none=>none) else none):=rfl;obtain ⟨op,hop⟩:∃ q,gv (.mk k n s kids keys) t=q:=⟨_,rfl⟩
 have HOP:=aW (hop.symm.trans hgj);obtain ⟨nk,hnk⟩:∃ q,kids.length=q:=⟨_,rfl⟩
 obtain ⟨ny,hny⟩:∃ q,keys.length=q:=⟨_,rfl⟩
 have hcy:ny<=4194304:=by rw [← hny];exact hc.out.2.2.2.2.1
 have HL:=aW (And.intro hnk hny);have HH0:=aW (((aj.nil w).push 25 #[Zi Zq k,Zi Zq n,Zt ⟨s.toArray⟩,Zs A nk ca,Zs B ny cb] (g:=w.heap.size) rfl).push 25 #[Zi Zq 0,Zi Zq 0,Zt ⟨#[]⟩,Zs none 0 0,Zs none 0 0] (g:=w.heap.size+1) (by simp));rw [hop,hnk,hny];clear hv hc hg hvs h1 h2 h3 h4 h5 h6 hnk hny hop hgj;obtain ⟨W0,hW0⟩:∃ W0,(w.alloc (.cells #[Zi Zq k,Zi Zq n,Zt ⟨s.toArray⟩,Zs A nk ca,Zs B ny cb] 25)).alloc (.cells #[Zi Zq 0,Zi Zq 0,Zt ⟨#[]⟩,Zs none 0 0,Zs none 0 0] 25)=W0:=⟨_,rfl⟩
 have HHW:=aW (show aj [(w.heap.size+1,25,#[Zi Zq 0,Zi Zq 0,Zt ⟨#[]⟩,Zs none 0 0,Zs none 0 0]),(w.heap.size,25,#[Zi Zq k,Zi Zq n,Zt ⟨s.toArray⟩,Zs A nk ca,Zs B ny cb])] w W0 by rw [← hW0];exact HH0.out);have HW0:=aW hW0;clear hW0 HH0;obtain ⟨tb,htb⟩:∃ b:ByteArray,(⟨t.toArray⟩:ByteArray)=b:=⟨_,rfl⟩
 have HTB:=aW htb;rw [htb];clear htb;have hne:w.heap.size≠w.heap.size+1:=by omega
 by_cases h6:k=6;rotate_left
 ·have e6:(k == 6)=false:=by simp [h6]
  have HX:=aW (show op=none by rw [HOP.out,if_neg h6]);clear h6 HOP HNL;go_enter Tryz.func48,Tryz.ntmps48;go_upto_region 1 with fail;rw [HW0.out];obtain ⟨c0,f0,l0⟩:=HHW.out.b1.rules;obtain ⟨c1,f1,l1⟩:=HHW.out.b0.rules;have hle:w.heap.size<=w.heap.size+1:=Nat.le_succ _;have HB:=aW (show ∀ (u0 u1 u2 u3 u4:Value),Below w.heap.size w (((((W0.setCell ⟨w.heap.size+1,0,none⟩ u0).setCell ⟨w.heap.size+1,1,none⟩ u1).setCell ⟨w.heap.size+1,2,none⟩ u2).setCell ⟨w.heap.size+1,3,none⟩ u3).setCell ⟨w.heap.size+1,4,none⟩ u4) from λ _ _ _ _ _=>((((HHW.out.1.setCell hle _).setCell hle _).setCell hle _).setCell hle _).setCell hle _);go_upto_region 2 with fail;go_loopg [6] 0 (λ gk s6 wr=>gk=0/\s6=Zi Zq 0/\wr=W0)
  case atStart=>exact ⟨rfl,rfl,rfl⟩
  case round =>
   obtain ⟨rfl,rfl,rfl⟩:=hrel;go_wp2;refine bodyPost_ret (v:=.tuple #[.agg #[Zi Zq 0,Zi Zq 0,Zt ⟨#[]⟩,Zs none 0 0,Zs none 0 0],.bool false]) (by simp only [results,Tryz.results48];go_simp) rfl ?_;exact jK.none_ HX.out (by first | exact HB.out _ _ _ _ _ | exact HHW.out.1)
 subst h6;have HNK:=aW (show nk=ny by rw [← HL.out.1,← HL.out.2];exact HNL.out rfl);have HOQ:=aW (show op=(match keys.idxOf? t with | some i=>kids[i]? | none=>none) by rw [HOP.out,if_pos rfl]);clear HOP HNL;go_enter Tryz.func48,Tryz.ntmps48;go_upto_region 1 with fail;rw [HW0.out];go_upto_region 2 with fail;go_loopg [6] ny (λ gk s6 wr => ∃ (i:Nat),i<=ny/\gk=ny-i/\s6=Zi Zq (i:Int)/\wr=W0/\Hid (∀ (j:Nat) x,j<i->keys[j]? = some x->x≠t))
 case atStart=>exact ⟨0,Nat.zero_le _,by go_num,rfl,rfl,aW (by intro j x h;omega)⟩
 case round =>
  obtain ⟨i,hin,hgk,rfl,rfl,HNO⟩:=hrel;have HGK:=aW hgk;clear hgk;obtain ⟨c0,f0,l0⟩:=HHW.out.b1.rules;obtain ⟨c1,f1,l1⟩:=HHW.out.b0.rules;by_cases hlt:i<ny
  ·obtain ⟨y,hy⟩:∃ y,keys[i]? = some y:=⟨_,List.getElem?_eq_getElem (by rw [HL.out.2];omega)⟩
   obtain ⟨b,o,hB,hb,_,_⟩:=HKY.out (by intro e;have h:=cP keys;rw [e,HL.out.2] at h;simp at h;omega);subst hB;have hyc:=bB (n:=0) ((HKY.out.mono λ _ _ _=>trivial).keep (af.of_below HHW.out.1)) hy;have hlb:b<wr.heap.size:=Nat.lt_of_lt_of_le hb HHW.out.1.size;obtain ⟨yb,hyb⟩:∃ b:ByteArray,(⟨y.toArray⟩:ByteArray)=b:=⟨_,rfl⟩
   have hye:(yb.toList == tb.toList)=decide (y=t):=by rw [← hyb,← HTB.out];exact pD
   rw [hyb] at hyc;by_cases hyt:y=t
   ·rw [decide_eq_true hyt] at hye;obtain ⟨u,hu⟩:∃ u,kids[i]? = some u:=⟨_,List.getElem?_eq_getElem (by rw [HL.out.1,HNK.out];omega)⟩
    have HOU:=aW (show op=some u by rw [HOQ.out,rN (by rw [← hyt];exact hy) HNO.out];exact hu);obtain ⟨kb,ko,ku,nu,su,Au,nau,cau,Bu,nbu,cbu,hA,hkb,hVR,hz⟩:=HKC.out i u hu;obtain ⟨z0,z1,z2,z3,z4⟩:=hz wr HHW.out.1;have hlk:kb<wr.heap.size:=Nat.lt_of_lt_of_le hkb HHW.out.1.size;have hkn:kb≠w.heap.size+1:=by omega
    have hiy:i<nk:=by rw [HNK.out];exact hlt
    have HUG:=aW (HGD.out u (List.mem_of_getElem? hu));subst hA;have hle:w.heap.size<=w.heap.size+1:=Nat.le_succ _;have HX:=aW (show jK op F w (.returned (.tuple #[.agg #[Zi Zq ku,Zi Zq nu,Zt su,Zs Au nau cau,Zs Bu nbu cbu],.bool true])) (((((wr.setCell ⟨w.heap.size+1,0,none⟩ (Zi Zq ku)).setCell ⟨w.heap.size+1,1,none⟩ (Zi Zq nu)).setCell ⟨w.heap.size+1,2,none⟩ (Zt su)).setCell ⟨w.heap.size+1,3,none⟩ (Zs Au nau cau)).setCell ⟨w.heap.size+1,4,none⟩ (Zs Bu nbu cbu)) from by
     have hb9:=((((HHW.out.1.setCell (p:=⟨w.heap.size+1,0,none⟩) hle (Zi Zq ku)).setCell (p:=⟨w.heap.size+1,1,none⟩) hle (Zi Zq nu)).setCell (p:=⟨w.heap.size+1,2,none⟩) hle (Zt su)).setCell (p:=⟨w.heap.size+1,3,none⟩) hle (Zs Au nau cau)).setCell (p:=⟨w.heap.size+1,4,none⟩) hle (Zs Bu nbu cbu);exact ⟨[Zi Zq ku,Zi Zq nu,Zt su,Zs Au nau cau,Zs Bu nbu cbu],u,true,rfl,(hVR.bel hb9).mono λ _ _ h=>h.1,HUG.out.2,by rw [HOU.out];rfl,λ _=>HUG.out.1,hb9⟩)
    clear hVR hz hu hy hyb hyt hkb hb HKC HGD;go_wp2;refine bodyPost_ret (v:=.tuple #[.agg #[Zi Zq ku,Zi Zq nu,Zt su,Zs Au nau cau,Zs Bu nbu cbu],.bool true]) (by simp only [results,Tryz.results48];go_simp) rfl ?_;exact HX.out
   ·rw [decide_eq_false hyt] at hye;have HN2:=aW (show ∀ (j:Nat) x,j<i+1->keys[j]? = some x->x≠t from λ j x hj hx=>by
     rcases Nat.lt_or_ge j i with h | h
     ·exact HNO.out j x h hx
     ·obtain rfl:j=i:=by omega
      rw [hy] at hx;obtain rfl:=Option.some.inj hx;exact hyt)
    clear hy hyb hyt hb;go_wp2;go_roundg (ny-(i+1))
    case measure=>have:=HGK.out;omega
    case rel=>exact ⟨i+1,by omega,rfl,by go_num,rfl,HN2⟩
  ·obtain rfl:i=ny:=by omega
   have HX:=aW (show op=none by
    rw [HOQ.out,rz];intro x hx;obtain ⟨j,hj,rfl⟩:=List.getElem_of_mem hx;exact HNO.out j _ (by rw [← HL.out.2];exact hj) (List.getElem?_eq_getElem hj))
   have hle:w.heap.size<=w.heap.size+1:=Nat.le_succ _;have HB:=aW (show ∀ (u0 u1 u2 u3 u4:Value),Below w.heap.size w (((((wr.setCell ⟨w.heap.size+1,0,none⟩ u0).setCell ⟨w.heap.size+1,1,none⟩ u1).setCell ⟨w.heap.size+1,2,none⟩ u2).setCell ⟨w.heap.size+1,3,none⟩ u3).setCell ⟨w.heap.size+1,4,none⟩ u4) from λ _ _ _ _ _=>((((HHW.out.1.setCell hle _).setCell hle _).setCell hle _).setCell hle _).setCell hle _);go_wp2;refine bodyPost_ret (v:=.tuple #[.agg #[Zi Zq 0,Zi Zq 0,Zt ⟨#[]⟩,Zs none 0 0,Zs none 0 0],.bool false]) (by simp only [results,Tryz.results48];go_simp) rfl ?_;exact jK.none_ HX.out (by first | exact HB.out _ _ _ _ _ | exact HHW.out.1)
end
end Go.Proofs.YtgolomgmnanbpaaGreatDoor
