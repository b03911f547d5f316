import Derived.Test.YtgolomgmnanbpaaGreatDoorW10
import Derived.Test.YtgolomgmnanbpaaGreatDoorW02
import Derived.Test.YtgolomgmnanbpaaGreatDoorW04
import Derived.Test.YtgolomgmnanbpaaGreatDoorW05
import Derived.Test.YtgolomgmnanbpaaGreatDoorW08
import Derived.Test.YtgolomgmnanbpaaGreatDoorW07
import Derived.Deep.RegionHeld3
import Derived.Test.YtgolomgmnanbpaaGreatDoorW09
import Derived.Test.YtgolomgmnanbpaaGreatDoorW01
set_option maxRecDepth 100000
set_option maxHeartbeats 16000000
namespace Go.Proofs.YtgolomgmnanbpaaGreatDoor
set_option linter.unusedVariables false
set_option linter.unusedSimpArgs false
open Go.RowKit
def TT:Nat→Prop:=fun _=>True
def iw (n:Int):Prop:=-9223372036854775808≤n∧n≤9223372036854775807
mutual
def inJ:JV→Prop | .mk k n s kids keys=>iw k∧iw n∧inL kids
def inL:List JV→Prop | []=>True | x::r=>inJ x∧inL r
end
theorem inL_iff:∀ {xs:List JV},inL xs ↔ ∀ x ∈ xs,inJ x
 | []=>by simp [inL]
 | x::r=>by simp [inL,inL_iff (xs:=r)]
def bulkK:List (List UInt8)→Nat | []=>0 | k::r=>k.length+1+bulkK r
mutual
/-- how much a value is -/
def bulkJ:JV→Nat | .mk k n s kids keys=>1+s.length+bulkK keys+bulkL kids
def bulkL:List JV→Nat | []=>0 | x::r=>bulkJ x+bulkL r
end
theorem bulkJ_pos (v:JV):1≤bulkJ v:=by cases v;unfold bulkJ;omega
theorem bulkK_len:∀ ks:List (List UInt8),ks.length≤bulkK ks
 | []=>Nat.zero_le _
 | k::r=>by have:=bulkK_len r;unfold bulkK;rw [List.length_cons];omega
theorem bulkK_at:∀ {ks:List (List UInt8)} {t:List UInt8},t ∈ ks→t.length+1≤bulkK ks
 | k::r,t,h=>by
  unfold bulkK;rcases List.mem_cons.1 h with rfl | h
  ·omega
  ·have:=bulkK_at h;omega
theorem bulkL_len:∀ xs:List JV,xs.length≤bulkL xs
 | []=>Nat.zero_le _
 | x::r=>by have:=bulkL_len r;have:=bulkJ_pos x;unfold bulkL;rw [List.length_cons];omega
mutual
theorem nodes_bulk:∀ v:JV,nodesJ v≤bulkJ v
 | .mk k n s kids keys=>by have:=nodesL_bulk kids;unfold nodesJ bulkJ;omega
theorem nodesL_bulk:∀ xs:List JV,nodesL xs≤bulkL xs
 | []=>Nat.le_refl _
 | x::r=>by have:=nodes_bulk x;have:=nodesL_bulk r;unfold nodesL bulkL;omega
end
mutual
/-- the lengths of a value's parts -/
def lenJ:JV→Prop | .mk k n s kids keys=>s.length≤4194304∧kids.length≤4194304∧keys.length≤4194304∧(∀ t ∈ keys,t.length≤4194304)∧lenL kids
def lenL:List JV→Prop | []=>True | x::r=>lenJ x∧lenL r
end
theorem lenL_iff:∀ {xs:List JV},lenL xs ↔ ∀ x ∈ xs,lenJ x
 | []=>by simp [lenL]
 | x::r=>by simp [lenL,lenL_iff (xs:=r)]
mutual
theorem lenJ_bulk:∀ v:JV,bulkJ v≤4194304→lenJ v
 | .mk k n s kids keys,h=>by
  unfold bulkJ at h;have:=bulkK_len keys;have:=bulkL_len kids;unfold lenJ;exact ⟨by omega,by omega,by omega,fun t ht=>by have:=bulkK_at ht;omega,lenL_bulk kids (by omega)⟩
theorem lenL_bulk:∀ xs:List JV,bulkL xs≤4194304→lenL xs
 | [],_=>trivial
 | x::r,h=>by unfold bulkL at h;unfold lenL;exact ⟨lenJ_bulk x (by omega),lenL_bulk r (by omega)⟩
end
theorem nodesL_in:∀ {xs:List JV} {x:JV},x ∈ xs→nodesJ x≤nodesL xs
 | y::r,x,h=>by
  unfold nodesL;rcases List.mem_cons.1 h with rfl | h
  ·omega
  ·have:=nodesL_in h;omega
structure Came (v:JV):Prop where
 ints:inJ v
 nodes:nodesJ v≤4194304
 lens:lenJ v
theorem Came.of {v:JV} (h1:inJ v) (h2:bulkJ v≤4194304):Came v:=⟨h1,Nat.le_trans (nodes_bulk v) h2,lenJ_bulk v h2⟩
theorem Came.out {k n:Int} {s:List UInt8} {kids:List JV} {keys:List (List UInt8)} (h:Came (.mk k n s kids keys)) :
  iw k∧iw n∧s.length≤4194304∧kids.length≤4194304∧keys.length≤4194304∧(∀ t ∈ keys,t.length≤4194304)∧∀ x ∈ kids,Came x:=by
 obtain ⟨h1,h2,h3⟩:=h;unfold inJ at h1;unfold nodesJ at h2;unfold lenJ at h3;refine ⟨h1.1,h1.2.1,h3.1,h3.2.1,h3.2.2.1,h3.2.2.2.1,fun x hx=>⟨inL_iff.1 h1.2.2 x hx,?_,lenL_iff.1 h3.2.2.2.2 x hx⟩⟩;have:=nodesL_in hx;omega
instance:Inhabited JV:=⟨jZero⟩
set_option linter.unusedVariables false
set_option linter.unusedSimpArgs false
open Go.RowKit
attribute [local go_sem] run_index_arr run_part_agg run_part_one run_field_agg
theorem uCountG_any (n p:Int) (w:World) (h0:0≤n) (h1:n≤4194304):Calls Tryz.prog 196 #[.int .i64 n,.int .i64 p] w fun e w'=>e=.returned (.int .i64 (n+1))∧w=w':=by
 go_enter Tryz.func196,Tryz.ntmps196;go_wp2;go_ret;exact ⟨rfl,rfl⟩
def uErr (s:List UInt8):Int:=if txtOk s=true then 0 else 110
theorem uThrough_any (s:List UInt8) (w:World) (hG:GOK w) (hl:s.length≤4194304) :
  Calls Tryz.prog 195 #[.string ⟨s.toArray⟩,.int .i64 0,.func (.func 196) #[] #[]] w fun e w'=>(∃ n p:Int,e=.returned (.tuple #[.int .i64 n,.int .i64 p,.int .i64 (uErr s)]))∧Below w.heap.size w w':=by
 obtain ⟨ba,hba⟩:∃ ba:ByteArray,(⟨s.toArray⟩:ByteArray)=ba:=⟨_,rfl⟩
 have hsl:sl ba=s:=by rw [← hba,sl_mk]
 rw [hba];obtain ⟨cap,W1,hcv,hcap,hb1,hs1,hr1⟩:=conv_bytes (P:=Tryz.prog) w 9 76 5 ba Tryz.underlying9 Tryz.underlying76 Tryz.underlying5;rw [hsl] at hr1;have hsz:ba.size=s.length:=by rw [← hsl,sl_len]
 rw [hsz] at hcv hcap;have HR:=aW hr1;have HB1:=aW hb1;have hlt1:w.heap.size<W1.heap.size:=by omega
 clear hr1 hb1 hsl hba hsz hs1;have HGK:=aW hG;clear hG;have HCN:=aW (fun n p w h0 h1=>uCountG_any n p w h0 h1);obtain ⟨er,her⟩:∃ er,uErr s=er:=⟨_,rfl⟩
 rw [her];have HER:=aW her;clear her;go_enter Tryz.func195,Tryz.ntmps195;go_wp2;go_loopg [1,10] s.length (fun gk s1 s10 wr => ∃ (p n:Nat),p≤s.length∧n≤p∧gk=s.length-p∧s1=.int .i64 n∧s10=.int .i64 p∧Hid (uErr s=uErr (s.drop p))∧Hid (Below W1.heap.size W1 wr))
 case atStart=>exact ⟨0,0,Nat.zero_le _,Nat.le_refl _,rfl,by go_num,by go_num,aW (by rw [List.drop_zero]),aW (Below.refl _ _)⟩
 case round =>
  obtain ⟨p,n,hp,hnp,hgk,rfl,rfl,HQ,HW⟩:=hrel;have HG:=aW hgk;clear hgk;by_cases hlt:p<s.length
  ·obtain ⟨c,m,hcm⟩:∃ c m,cpBegin (s.drop p)=(c,m):=⟨_,_,rfl⟩
   have hne:s.drop p≠[]:=by intro e;have h:=congrArg List.length e;rw [List.length_drop] at h;simp at h;omega
   have hle:=cpBegin_le4 (s.drop p);have hst:=txtOk_step hne;rw [hcm] at hle hst;rw [List.length_drop] at hle;have hpn:p+m≤s.length:=by have:=hle.1;simp only at this;omega
   have hm4:m≤4:=hle.2;rw [List.drop_drop] at hst;have HST:=aW hst;have hW:=HB1.out.trans (HW.out.mono HB1.out.size);have hcell:∀ i x,(s.drop p)[i]? = some x→wr.cell? ⟨w.heap.size,p+i,none⟩=some (.int .u8 x.toNat):=fun i x hx=>by
    rw [List.getElem?_drop] at hx;have h:=BS.at_ (n:=0) (cap:=0) (HR.out.below HW.out) hx;rwa [Nat.zero_add] at h
   have hNX:=next_any w.heap.size p (cap-p) (s.drop p) wr hne (HGK.out.keep hW) (by have:=HW.out.size;omega) hcell (by rw [List.length_drop];omega) (by rw [List.length_drop];omega);rw [hcm,List.length_drop] at hNX;have HNX:=aW hNX;have hcapp:¬ cap=p:=by omega
   clear hNX hcell hW hcm hne hle hst;by_cases hm0:m=0
   ·subst hm0;have hu:er=110:=by
     rw [← HER.out,HQ.out];unfold uErr;rw [HST.out,if_pos rfl];rfl
    subst hu;go_wp2_with fail;refine HNX.out.mono ?_;rintro e w1 ⟨rfl,hb2⟩;have HW2:=aW (HW.out.trans (hb2.mono HW.out.size));clear hb2;go_wp2;go_ret3;exact ⟨⟨_,_,rfl⟩,HB1.out.trans (HW2.out.mono HB1.out.size)⟩
   ·have hm1:((m:Int) == 0)=false:=by simp;omega
    have HQ2:=aW (show uErr s=uErr (s.drop (p+m)) by rw [HQ.out];unfold uErr;rw [HST.out,if_neg hm0]);go_wp2_with fail;refine HNX.out.mono ?_;rintro e w1 ⟨rfl,hb2⟩;have HW2:=aW (HW.out.trans (hb2.mono HW.out.size));clear hb2;go_wp2_with fail;refine (HCN.out n c _ (by omega) (by omega)).mono ?_;rintro e w2 ⟨rfl,rfl⟩;go_wp2;go_roundg (s.length-(p+m))
    case measure=>rw [HG.out];omega
    case rel=>exact ⟨p+m,n+1,hpn,by omega,rfl,by go_num,by go_num,HQ2,HW2⟩
  ·obtain rfl:p=s.length:=by omega
   have hu:er=0:=by
    rw [← HER.out,HQ.out,List.drop_length];rfl
   subst hu;go_wp2;go_ret3;exact ⟨⟨_,_,rfl⟩,HB1.out.trans (HW.out.mono HB1.out.size)⟩
theorem uCheck_any (s:List UInt8) (w:World) (hG:GOK w) (hl:s.length≤4194304):Calls Tryz.prog 182 #[.string ⟨s.toArray⟩] w fun e w'=>(∃ p:Int,e=.returned (.tuple #[.int .i64 p,.int .i64 (uErr s)]))∧Below w.heap.size w w':=by
 have HT:=aW (uThrough_any s w hG hl);clear hl hG;obtain ⟨er,her⟩:∃ er,uErr s=er:=⟨_,rfl⟩
 rw [her] at HT ⊢;clear her;go_enter Tryz.func182,Tryz.ntmps182;go_wp2_with fail;refine HT.out.mono ?_;rintro e w1 ⟨⟨n,p,rfl⟩,hb⟩;have HB:=aW hb;clear hb;go_wp2;go_ret2;exact ⟨⟨_,rfl⟩,HB.out⟩
theorem rPoints_any (v:Value) (l:List UInt8) (w:World) (hv:BS w v l) (hl:l.length≤4194304) :
  Calls Tryz.prog 50 #[v] w fun e w'=>(∃ u p,e=.returned (.tuple #[u,p,.bool (txtOk l)]))∧Below w.heap.size w w':=by
 obtain ⟨i0,hi,hz0,hz1,hz2⟩:=info_parts infoInt;obtain ⟨A,cap,rfl,hcap,hr⟩:=hv;obtain ⟨er,her⟩:∃ er,txtOk l=er:=⟨_,rfl⟩
 rw [her];have HER:=aW her;have HR:=aW hr;have HI:=aW hi;clear hr hi her;go_enter Tryz.func50,Tryz.ntmps50;go_wp2;go_loopg [5,6] l.length (fun gk s5 s6 wr => ∃ (p:Nat) (pre:List Nat),p≤l.length∧pre.length≤p∧gk=l.length-p∧s6=.int .i64 p∧Hid (txtOk l=txtOk (l.drop p)) ∧
  wr.ownsRow w.heap.size 3 1 s5 pre.length (intV (pre.map fun n:Nat=>(n:Int)))∧Below w.heap.size w wr)
 case atStart=>exact ⟨0,[],Nat.zero_le _,Nat.le_refl _,rfl,by go_num,aW (by rw [List.drop_zero]),World.ownsRow_nil _ _ _ _,Below.refl _ _⟩
 case round =>
  obtain ⟨p,pre,hp,hpp,hgk,rfl,HQ,hown,hbw⟩:=hrel;have HG:=aW hgk;clear hgk;by_cases hlt:p<l.length
  ·obtain ⟨b,o,rfl,hb⟩:=HR.out.some_ (show 0<l.length by omega);obtain ⟨c,n,hcm⟩:∃ c m,cpBegin (l.drop p)=(c,m):=⟨_,_,rfl⟩
   have hne:l.drop p≠[]:=by intro e;have h:=congrArg List.length e;rw [List.length_drop] at h;simp at h;omega
   have hle:=cpBegin_le4 (l.drop p);have hst:=txtOk_step hne;rw [hcm] at hle hst;rw [List.length_drop] at hle;have hpn:p+n≤l.length:=by have:=hle.1;simp only at this;omega
   rw [List.drop_drop] at hst;have HST:=aW hst;have hB:=rBegin_any (.slice (some ⟨b,o+p,none⟩) (l.length-p) (cap-p)) (l.drop p) wr (BS.dropN (n:=0) (HR.out.below hbw) hcap p hp) (by rw [List.length_drop];omega);rw [hcm] at hB;have HB:=aW hB;have hcapp:¬ cap=p:=by omega
   clear hB hcm hne hle hst;by_cases hn0:n=0
   ·subst hn0;have hu:er=false:=by rw [← HER.out,HQ.out,HST.out,if_pos rfl]
    subst hu;go_wp2_with fail;refine HB.out.mono ?_;rintro e w1 ⟨rfl,hb1⟩;go_wp2;go_ret3;exact ⟨⟨_,_,rfl⟩,hbw.trans (hb1.mono hbw.size)⟩
   ·have hn1:((n:Int) == 0)=false:=by simp;omega
    have HQ2:=aW (show txtOk l=txtOk (l.drop (p+n)) by rw [HQ.out,HST.out,if_neg hn0]);go_wp2_with fail;refine HB.out.mono ?_;rintro e w1 ⟨rfl,hb1⟩;have hown1:=own_below hown hb1;go_wp2_with (at_builtin;refine wpList_append_own _ rfl _ _ 96 rfl w.heap.size 3 i0 (.int .i64 0) 1 8 Tryz.underlying96 HI.out hz0 hz1 hz2 rfl (by decide) _ _ _ rfl (hown1.alloc _) ⟨w1.heap.size,0,none⟩ 1 1 [.int .i64 c] rfl rfl (cell_one_new _ _ _) (by simp [Value.oneCell']) (by unfold maxLen;omega) (by omega) (by have:=hbw.size;have:=hb1.size;simp;omega) ?_;intro v' w2 hown2 hgr2 _);go_roundg (l.length-(p+n))
    case measure=>rw [HG.out];omega
    case rel =>
     have s1:=hbw.size;have s2:=hb1.size;refine ⟨p+n,pre++[c],hpn,by rw [List.length_append,List.length_singleton];omega,rfl,by go_num,HQ2,?_,?_⟩
     ·rw [List.length_append,List.length_singleton];have e:intV ((pre++[c]).map fun n:Nat=>(n:Int))=intV (pre.map fun n:Nat=>(n:Int))++[.int .i64 c]:=by simp [intV]
      rw [e];exact hown2
     ·refine ((hbw.trans (hb1.mono s1)).alloc (by omega) _).grown hgr2 (by simp;omega) (fun k e=>?_);exact (hown1.lt k e).1
  ·obtain rfl:p=l.length:=by omega
   have hu:er=true:=by rw [← HER.out,HQ.out,List.drop_length];rfl
   subst hu;go_wp2;go_ret3;exact ⟨⟨_,_,rfl⟩,hbw⟩
theorem rValid_any (s:List UInt8) (w:World) (hl:s.length≤4194304):Calls Tryz.prog 136 #[.string ⟨s.toArray⟩] w fun e w'=>e=.returned (.bool (txtOk s))∧Below w.heap.size w w':=by
 obtain ⟨ba,hba⟩:∃ ba:ByteArray,(⟨s.toArray⟩:ByteArray)=ba:=⟨_,rfl⟩
 have hsl:sl ba=s:=by rw [← hba,sl_mk]
 rw [hba];obtain ⟨cap,W1,hcv,hcap,hb1,hs1,hr1⟩:=conv_bytes (P:=Tryz.prog) w 9 76 5 ba Tryz.underlying9 Tryz.underlying76 Tryz.underlying5;have hP:=rPoints_any (.slice (some ⟨w.heap.size,0,none⟩) ba.size cap) s W1 (by rw [← hsl];exact ⟨_,_,by rw [sl_len],by rw [sl_len];exact hcap,hr1⟩) hl;have HP:=aW hP;have HB1:=aW hb1;clear hP hr1 hsl hba hcap hb1 hl;obtain ⟨er,her⟩:∃ er,txtOk s=er:=⟨_,rfl⟩
 rw [her] at HP ⊢;clear her;go_enter Tryz.func136,Tryz.ntmps136;go_wp2_with fail;refine HP.out.mono ?_;rintro e w2 ⟨⟨u,p,rfl⟩,hb2⟩;have HB2:=aW (HB1.out.trans (hb2.mono HB1.out.size));clear hb2;go_wp2;go_ret;exact ⟨rfl,HB2.out⟩
end Go.Proofs.YtgolomgmnanbpaaGreatDoor
namespace Go.Proofs.YtgolomgmnanbpaaGreatDoor
set_option linter.unusedVariables false
set_option linter.unusedSimpArgs false
open Go.RowKit
attribute [local go_sem] run_index_arr run_part_agg run_part_one run_field_agg
end Go.Proofs.YtgolomgmnanbpaaGreatDoor
namespace Go.Proofs.YtgolomgmnanbpaaGreatDoor
set_option linter.unusedVariables false
set_option linter.unusedSimpArgs false
open Go.RowKit
attribute [local go_sem] run_index_arr run_part_agg run_part_one run_field_agg
end Go.Proofs.YtgolomgmnanbpaaGreatDoor
namespace Go.Proofs.YtgolomgmnanbpaaGreatDoor
set_option linter.unusedVariables false
set_option linter.unusedSimpArgs false
open Go.RowKit
attribute [local go_sem] run_index_arr run_part_agg run_part_one run_field_agg
end Go.Proofs.YtgolomgmnanbpaaGreatDoor
