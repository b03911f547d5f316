import Derived.Test.YtgolomgmnanbpaaGreatDoorW16
import Derived.Test.YtgolomgmnanbpaaGreatDoorW18
import Derived.Test.YtgolomgmnanbpaaGreatDoorW01
set_option maxRecDepth 100000
set_option maxHeartbeats 16000000
namespace Go.Proofs.YtgolomgmnanbpaaGreatDoor
set_option linter.unusedVariables false
set_option linter.unusedSimpArgs false
open Go.RowKit
attribute [local go_sem] run_index_arr run_part_agg run_part_one run_field_agg
theorem keys_head {keys:List (List UInt8)} {i:Nat} {k:List UInt8} (h:keys[i]? = some k):(keys.drop i).headD []=k:=by
 obtain ⟨hlt,he⟩:=List.getElem?_eq_some_iff.1 h;rw [List.drop_eq_getElem_cons hlt,he];rfl
theorem goodJ_kid {d:Nat} {xs:List JV} {i:Nat} {x:JV} (h:goodL d xs=true) (hx:xs[i]? = some x):goodJ d x=true:=goodL_iff.1 h x (List.mem_of_getElem? hx)
end Go.Proofs.YtgolomgmnanbpaaGreatDoor
namespace Go.Proofs.YtgolomgmnanbpaaGreatDoor
set_option linter.unusedVariables false
set_option linter.unusedSimpArgs false
open Go.RowKit
attribute [local go_sem] run_index_arr run_part_agg run_part_one run_field_agg
end Go.Proofs.YtgolomgmnanbpaaGreatDoor
namespace Go.Proofs.YtgolomgmnanbpaaGreatDoor
set_option linter.unusedVariables false
set_option linter.unusedSimpArgs false
open Go.RowKit
attribute [local go_sem] run_index_arr run_part_agg run_part_one run_field_agg
def szL (o:Bool):List JV→List (List UInt8)→Nat
 | [],_=>0
 | x::r,ks=>((if o then (quoT (ks.headD [])).length+1 else 0)+(canJ x).length)+szL o r ks.tail
theorem canL_false (o:Bool):∀ (kids:List JV) (keys:List (List UInt8)),(canL o false kids keys).length=kids.length+szL o kids keys
 | [],_=>by simp [canL,szL]
 | x::r,keys=>by
  rw [canL,szL];simp only [List.length_append,List.length_cons,canL_false o r keys.tail];cases o<;>simp<;>omega
theorem canL_len (o:Bool) (kids:List JV) (keys:List (List UInt8)):(canL o true kids keys).length=(kids.length-1)+szL o kids keys:=by
 cases kids with
 | nil=>simp [canL,szL]
 | cons x r =>
  rw [canL,szL];simp only [List.length_append,List.length_cons,canL_false o r keys.tail];cases o<;>simp<;>omega
theorem szL_split (o:Bool):∀ (kids:List JV) (keys:List (List UInt8)) (i:Nat),szL o kids keys=szL o (kids.take i) keys+szL o (kids.drop i) (keys.drop i)
 | [],keys,i=>by simp [szL]
 | x::r,keys,0=>by simp [szL]
 | x::r,keys,i+1=>by
  have:keys.drop (i+1)=keys.tail.drop i:=by cases keys<;>simp
  rw [List.take_succ_cons,List.drop_succ_cons,szL,szL,szL_split o r keys.tail i,this];omega
theorem szL_take {o:Bool} {kids:List JV} {keys:List (List UInt8)} {i:Nat} {x:JV} (hx:kids[i]? = some x) :
  szL o (kids.take (i+1)) keys=szL o (kids.take i) keys+((if o then (quoT ((keys.drop i).headD [])).length+1 else 0)+(canJ x).length):=by
 obtain ⟨hlt,he⟩:=List.getElem?_eq_some_iff.1 hx;have h:=szL_split o (kids.take (i+1)) keys i;rw [List.take_take,Nat.min_eq_left (Nat.le_succ i)] at h;have hd:(kids.take (i+1)).drop i=[x]:=by
  rw [List.drop_take,List.drop_eq_getElem_cons hlt,he];simp
 rw [h,hd];simp [szL]
theorem szL_le (o:Bool) (kids:List JV) (keys:List (List UInt8)) (i:Nat):szL o (kids.take i) keys≤szL o kids keys:=by
 have:=szL_split o kids keys i;omega
theorem cps_count:∀ (f:Nat) (l:List UInt8),l.length≤f→(cpsOf l).length≤l.length
 | _,[],_=>Nat.le_refl _
 | 0,_::_,h=>by simp at h
 | f+1,c::r,h=>by
  rw [cpsOf_step (by simp)];split
  ·simp
  ·rename_i h0
   have h1:=cpBegin_len (c::r);have h2:=cps_count f ((c::r).drop (cpBegin (c::r)).2) (by rw [List.length_drop];rw [List.length_cons] at *;omega);rw [List.length_cons];rw [List.length_drop] at h2;omega
theorem quoT_len (s:List UInt8):(quoT s).length≤6*s.length+2:=by
 have h1:=cps_count _ s (Nat.le_refl _);have h2:=qf_len (cpsOf s);unfold quoT;simp only [List.length_cons,List.length_append,List.cons_append,List.length_nil];omega
theorem numT_le {n:Int} (h:iw n):(numT n).length≤20:=by
 have h1:=natD_len (N:=n.natAbs) (k:=19) (by unfold iw at h;omega) (by decide);unfold numT;split
 ·rw [List.length_cons];omega
 ·omega
mutual
theorem can_bulk:∀ (v:JV),inJ v→(canJ v).length+6≤32*bulkJ v
 | .mk k n s kids keys,h=>by
  unfold inJ at h;have h1:=quoT_len s;have h2:=numT_le h.2.1;have h4:=canL_bulk true true kids keys h.2.2;have h5:=canL_bulk false true kids [] h.2.2;unfold bulkJ;unfold canJ;split
  ·have:nullT.length=4:=rfl;omega
  split
  ·have:trueT.length=4:=rfl;have:falseT.length=5:=rfl;split<;>omega
  split
  ·omega
  split
  ·omega
  split
  ·simp only [List.length_cons,List.length_append,List.cons_append,List.length_nil];omega
  ·simp only [List.length_cons,List.length_append,List.cons_append,List.length_nil];simp only [bulkK] at h5;omega
theorem canL_bulk:∀ (o f:Bool) (kids:List JV) (keys:List (List UInt8)),inL kids→(canL o f kids keys).length≤32*bulkL kids+32*bulkK keys
 | o,f,[],keys,_=>by simp [canL]
 | o,f,x::r,keys,h=>by
  unfold inL at h;have h1:=can_bulk x h.1;have h2:=canL_bulk o false r keys.tail h.2;rw [canL];simp only [List.length_append,List.length_cons];unfold bulkL;cases keys with
  | nil =>
   have h3:(quoT []).length=2:=by decide
   cases o<;>cases f<;>simp [bulkK] at * <;> omega
  | cons key ks =>
   have h3:=quoT_len key;simp only [List.tail_cons,bulkK] at *;cases o<;>cases f<;>simp at * <;> omega
end
end Go.Proofs.YtgolomgmnanbpaaGreatDoor
namespace Go.Proofs.YtgolomgmnanbpaaGreatDoor
set_option linter.unusedVariables false
set_option linter.unusedSimpArgs false
open Go.RowKit
attribute [local go_sem] run_index_arr run_part_agg run_part_one run_field_agg
def AddPost (g:Nat) (M:Nat) (w:World) (e:Ending) (w':World):Prop:=e=.returned (.tuple #[])∧Blk w' g 3 #[.int .i64 (M:Int)]∧w.grownBy w' (some g)
theorem sAdd (g k n:Nat) (ns:List Nat) (M:Nat) (w:World) (hg:Blk w g 3 #[.int .i64 (M:Int)]) (hk:Blk w k 3 (ns.map fun a:Nat=>Value.int .i64 (a:Int)).toArray) (hne:k≠g) (hn:ns.length=n) (hn8:n≤4194304) (hb:M+ns.sum≤2251799813685248) :
  Calls Tryz.prog 150 #[.slice (some ⟨k,0,none⟩) n n,.pointer (some ⟨g,0,none⟩)] w (AddPost g (M+ns.sum) w):=by
 have HG0:=aW hg;have HK:=aW hk;have HN:=aW hn;have HB:=aW hb;have HNE:=aW hne;clear hg hk hn hb hne;go_enter Tryz.func150,Tryz.ntmps150;go_wp2;go_loopg [7] n (fun gk s7 wr => ∃ (i:Nat) (Q:Nat),gk=n-i∧i≤n∧s7=.int .i64 i∧Q≤2251799813685248∧Hid (Q=M+(ns.take i).sum)∧Hid (Blk wr g 3 #[.int .i64 (Q:Int)])∧Hid (w.grownBy wr (some g)))
 case atStart=>exact ⟨0,M,rfl,Nat.zero_le _,rfl,by have:=HB.out;omega,aW (by simp),HG0,aW (gb_refl _ _)⟩
 case round =>
  obtain ⟨i,Q,hgk,hi,rfl,hQ8,HQ,HBG,HGR⟩:=hrel;have HG:=aW hgk;clear hgk;by_cases hlt:i<n
  ·obtain ⟨a,ha⟩:∃ a,ns[i]? = some a:=⟨_,List.getElem?_eq_getElem (by rw [HN.out];exact hlt)⟩
   have hbk:=HK.out.grown HGR.out (fun e=>HNE.out (Option.some.inj e));have hc:wr.cell? ⟨k,i,none⟩=some (.int .i64 (a:Int)):=by rw [hbk.cell];simp [ha]
   obtain ⟨c1,f1,l1⟩:=HBG.out.rules;have htk:(ns.take (i+1)).sum=(ns.take i).sum+a:=by rw [List.take_add_one,ha];simp
   have hle:(ns.take (i+1)).sum≤ns.sum:=by
    have h:=congrArg List.sum (List.take_append_drop (i+1) ns);rw [List.sum_append] at h;omega
   have hQa:Q+a≤2251799813685248:=by have h1:=HQ.out;have h2:=HB.out;omega
   have HQ2:=aW (show Q+a=M+(ns.take (i+1)).sum by rw [htk,HQ.out];omega);have hw:IntKind.i64.wrap ((Q:Int)+(a:Int))=((Q+a:Nat):Int):=by rw [IntKind.wrap_i64];omega
   have HS:=aW (HBG.out.set_ 0 (.int .i64 ((Q+a:Nat):Int)));have HGS:=aW (gb_setCell HGR.out 0 (.int .i64 ((Q+a:Nat):Int)));obtain ⟨qa,hqa⟩:∃ qa:Nat,qa=Q+a:=⟨_,rfl⟩
   rw [← hqa] at HQ2 HS HGS hw hQa;have hsm:(Q:Int)+(a:Int)=(qa:Int):=by omega
   clear hbk htk hle hqa ha;go_wp2;go_roundg (n-(i+1))
   case measure=>rw [HG.out];omega
   case rel=>exact ⟨i+1,qa,rfl,hlt,by go_num,hQa,HQ2,HS,HGS⟩
  ·obtain rfl:i=n:=by omega
   have HF:=aW (show AddPost g (M+ns.sum) w (.returned (.tuple #[])) wr from ⟨rfl,by have h:=HBG.out;rw [HQ.out,List.take_of_length_le (by rw [HN.out];exact Nat.le_refl _)] at h;exact h,HGR.out⟩);go_wp2;go_end0;exact HF.out
def SzSt (w:World) (cs:Array Value) (M:Nat) (W:World):Prop:=Blk W w.heap.size 25 cs∧Blk W (w.heap.size+1) 3 #[.int .i64 (M:Int)]∧Below w.heap.size w W
section
variable {w W W':World} {cs:Array Value} {M M':Nat}
theorem SzSt.bel (h:SzSt w cs M W) (hb:Below W.heap.size W W'):SzSt w cs M W':=⟨h.1.keep hb,h.2.1.keep hb,h.2.2.trans (hb.mono h.2.2.size)⟩
theorem SzSt.alloc (h:SzSt w cs M W) (o:Obj):SzSt w cs M (W.alloc o):=h.bel ((Below.refl _ W).alloc (Nat.le_refl _) o)
theorem SzSt.add {e:Ending} (h:SzSt w cs M W) (ha:AddPost (w.heap.size+1) M' W e W'):SzSt w cs M' W':=by
 obtain ⟨h1,h2,h3⟩:=h;obtain ⟨_,k1,k2⟩:=ha;refine ⟨h1.grown k2 (fun e=>by injection e with e;omega),k1,h3.grown k2 h3.size (fun k e=>by injection e with e;omega)⟩
theorem sAdd1 (h:SzSt w cs M W) (a k:Nat) (z:Int) (hz:z=(a:Int)) (hk:k=W.heap.size) (hb:M+a≤2251799813685248) :
  Calls Tryz.prog 150 #[.slice (some ⟨k,0,none⟩) 1 1,.pointer (some ⟨w.heap.size+1,0,none⟩)] (W.alloc (.cells #[.int .i64 z] 3)) fun e w'=>e=.returned (.tuple #[])∧SzSt w cs (M+a) w':=by
 subst hk hz;have h':=sAdd (w.heap.size+1) W.heap.size 1 [a] M (W.alloc (.cells #[.int .i64 (a:Int)] 3)) (h.alloc _).2.1 (Blk.new _ _ _) (by have:=h.2.1.lt;omega) rfl (by decide) (by simpa using hb);refine h'.mono fun e w' hp=>⟨hp.1,by have:=(h.alloc _).add hp;simpa using this⟩
theorem sAdd2 (h:SzSt w cs M W) (a b k:Nat) (z y:Int) (hz:z=(a:Int)) (hy:y=(b:Int)) (hk:k=W.heap.size) (hb:M+(a+b)≤2251799813685248) :
  Calls Tryz.prog 150 #[.slice (some ⟨k,0,none⟩) 2 2,.pointer (some ⟨w.heap.size+1,0,none⟩)] (W.alloc (.cells #[.int .i64 z,.int .i64 y] 3)) fun e w'=>e=.returned (.tuple #[])∧SzSt w cs (M+(a+b)) w':=by
 subst hk hz hy;have h':=sAdd (w.heap.size+1) W.heap.size 2 [a,b] M (W.alloc (.cells #[.int .i64 (a:Int),.int .i64 (b:Int)] 3)) (h.alloc _).2.1 (Blk.new _ _ _) (by have:=h.2.1.lt;omega) rfl (by decide) (by simpa using hb);refine h'.mono fun e w' hp=>⟨hp.1,by have:=(h.alloc _).add hp;simpa using this⟩
end
def SizS (v:JV) (w:World) (e:Ending) (w':World):Prop:=e=.returned (.int .i64 ((canJ v).length:Nat))∧Below w.heap.size w w'
def ForS (N:Nat):Prop:=∀ (v:JV) (d:Nat),nodesJ v≤N→goodJ d v=true→Came v→∀ (cs:List Value) (F:Nat→Prop) (w:World),VR w F cs v→GOK w→Calls Tryz.prog 103 #[.agg cs.toArray] w (SizS v w)
theorem sStart (w:World) (k n:Int) (s:ByteArray) (A:Option Addr) (nk ca:Nat) (A':Option Addr) (ny cb:Nat) (M:Nat):SzSt w #[.int .i64 k,.int .i64 n,.string s,.slice A nk ca,.slice A' ny cb] M ((w.alloc (.cells #[.int .i64 k,.int .i64 n,.string s,.slice A nk ca,.slice A' ny cb] 25)).alloc (.cells #[.int .i64 (M:Int)] 3)):=by
 have h1:=Blk.new w 25 #[.int .i64 k,.int .i64 n,.string s,.slice A nk ca,.slice A' ny cb];have h2:=Blk.new (w.alloc (.cells #[.int .i64 k,.int .i64 n,.string s,.slice A nk ca,.slice A' ny cb] 25)) 3 #[.int .i64 (M:Int)];rw [World.size_alloc] at h2;exact ⟨h1.alloc _,h2,((Below.refl _ w).alloc (Nat.le_refl _) _).alloc (by simp) _⟩
theorem sLeaf (v:JV) (k n:Int) (s:List UInt8) (A:Option Addr) (ca:Nat) (A':Option Addr) (ny cb:Nat) (w:World) (hG:GOK w) (hv:v=.mk k n s [] []) (hg:goodA k n s 0 []=true) (hk:k<5) (hin:iw n) (hsl:s.length≤4194304) :
  Calls Tryz.prog 103 #[.agg #[.int .i64 k,.int .i64 n,.string ⟨s.toArray⟩,.slice A 0 ca,.slice A' ny cb]] w (SizS v w):=by
 subst hv;have hkk:=goodA_kind hg;have hST:=sStart w k n ⟨s.toArray⟩ A 0 ca A' ny cb 0;have HG:=aW hG;obtain ⟨W0,hW0⟩:∃ W0,(w.alloc (.cells #[.int .i64 k,.int .i64 n,.string ⟨s.toArray⟩,.slice A 0 ca,.slice A' ny cb] 25)).alloc (.cells #[.int .i64 0] 3)=W0:=⟨_,rfl⟩
 have HW0:=aW hW0;have HS0:=aW (show SzSt w #[.int .i64 k,.int .i64 n,.string ⟨s.toArray⟩,.slice A 0 ca,.slice A' ny cb] 0 W0 by rw [← hW0];exact hST);clear hST hG hW0;have hm0:max (0:Int) (IntKind.i64.wrap (0-1))=0:=by decide
 have hm1:max (0:Int) (0-1)=0:=by decide
 have hm2:max (0:Int) (-1)=0:=by decide
 obtain rfl | rfl | rfl | rfl:k=1∨k=2∨k=3∨k=4:=by omega
 ·have hlen:(canJ (.mk 1 n s [] [])).length=4:=by unfold canJ;rfl
  unfold SizS;rw [hlen];obtain ⟨c1,f1,l1⟩:=HS0.out.1.rules;clear hlen hg hkk hin hsl hk;go_enter Tryz.func103,Tryz.ntmps103;go_upto_region 2 with (fail);rw [HW0.out];clear HW0;go_wp2_with fail;with_reducible refine (sAdd1 HS0.out 4 _ _ ?hz ?hk ?hl).mono ?_
  case hz=>rfl
  case hk=>rfl
  case hl=>omega
  rintro e w2 ⟨rfl,h2⟩;rw [Nat.zero_add] at h2;have HS2:=aW h2;clear h2;obtain ⟨c2,f2,l2⟩:=HS2.out.1.rules;obtain ⟨c3,f3,l3⟩:=HS2.out.2.1.rules;go_wp2;go_loopg [49] 0 (fun gk s49 wr=>gk=0∧s49=.int .i64 0∧wr=w2)
  case atStart=>exact ⟨rfl,rfl,rfl⟩
  case round =>
   obtain ⟨rfl,rfl,rfl⟩:=hrel;go_wp2;go_ret;exact ⟨rfl,HS2.out.2.2⟩
 ·have h01:n=0∨n=1:=by unfold goodA at hg;simp at hg;exact hg.1
  obtain ⟨q,hq⟩:∃ q,(canJ (.mk 2 n s [] [])).length=q:=⟨_,rfl⟩
  have hlen:(canJ (.mk 2 n s [] [])).length=q:=hq;have hq2:IntKind.i64.wrap (5-n)=(q:Int):=by
   rw [← hq];unfold canJ;rcases h01 with rfl | rfl
   ·rfl
   ·rfl
  have hq3:5-n=(q:Int):=by
   rw [← hq];unfold canJ;rcases h01 with rfl | rfl
   ·rfl
   ·rfl
  have hq5:q≤5:=by omega
  clear hq;unfold SizS;rw [hlen];obtain ⟨c1,f1,l1⟩:=HS0.out.1.rules;clear hlen hg hkk hin hsl hk;go_enter Tryz.func103,Tryz.ntmps103;go_upto_region 2 with (fail);rw [HW0.out];clear HW0;go_wp2_with fail;with_reducible refine (sAdd1 HS0.out q _ _ ?hz ?hk ?hl).mono ?_
  case hz=>rfl
  case hk=>rfl
  case hl=>omega
  rintro e w2 ⟨rfl,h2⟩;rw [Nat.zero_add] at h2;have HS2:=aW h2;clear h2;obtain ⟨c2,f2,l2⟩:=HS2.out.1.rules;obtain ⟨c3,f3,l3⟩:=HS2.out.2.1.rules;go_wp2;go_loopg [49] 0 (fun gk s49 wr=>gk=0∧s49=.int .i64 0∧wr=w2)
  case atStart=>exact ⟨rfl,rfl,rfl⟩
  case round =>
   obtain ⟨rfl,rfl,rfl⟩:=hrel;go_wp2;go_ret;exact ⟨rfl,HS2.out.2.2⟩
 ·obtain ⟨q,hq⟩:∃ q,(numT n).length=q:=⟨_,rfl⟩
  have hlen:(canJ (.mk 3 n s [] [])).length=q:=by unfold canJ;exact hq
  have HN:=aW (fun W=>numSize_any n W hin);rw [hq] at HN;have hq5:q≤20:=by have:=numT_le hin;omega
  clear hq;unfold SizS;rw [hlen];obtain ⟨c1,f1,l1⟩:=HS0.out.1.rules;clear hlen hg hkk hin hsl hk;go_enter Tryz.func103,Tryz.ntmps103;go_upto_region 2 with (fail);rw [HW0.out];clear HW0;go_wp2_with fail;refine (HN.out _).mono ?_;rintro e w1 ⟨rfl,hb1⟩;have HS1:=aW (HS0.out.bel hb1);clear hb1 c1 f1 l1;go_wp2_with fail;with_reducible refine (sAdd1 HS1.out q _ _ ?hz ?hk ?hl).mono ?_
  case hz=>rfl
  case hk=>rfl
  case hl=>omega
  rintro e w2 ⟨rfl,h2⟩;rw [Nat.zero_add] at h2;have HS2:=aW h2;clear h2;obtain ⟨c2,f2,l2⟩:=HS2.out.1.rules;obtain ⟨c3,f3,l3⟩:=HS2.out.2.1.rules;go_wp2;go_loopg [49] 0 (fun gk s49 wr=>gk=0∧s49=.int .i64 0∧wr=w2)
  case atStart=>exact ⟨rfl,rfl,rfl⟩
  case round =>
   obtain ⟨rfl,rfl,rfl⟩:=hrel;go_wp2;go_ret;exact ⟨rfl,HS2.out.2.2⟩
 ·have ht:txtOk s=true:=by unfold goodA at hg;simp at hg;exact hg.2
  obtain ⟨q,hq⟩:∃ q,(quoT s).length=q:=⟨_,rfl⟩
  have hlen:(canJ (.mk 4 n s [] [])).length=q:=by unfold canJ;exact hq
  have HN:=aW (fun W (hG:GOK W)=>qSize_any s W hG ht hsl);rw [hq] at HN;have hq5:q≤30000000:=by have:=quoT_len s;omega
  clear hq ht;unfold SizS;rw [hlen];obtain ⟨c1,f1,l1⟩:=HS0.out.1.rules;clear hlen hg hkk hin hsl hk;go_enter Tryz.func103,Tryz.ntmps103;go_upto_region 2 with (fail);rw [HW0.out];clear HW0;go_wp2_with fail;refine (HN.out _ (HG.out.keep HS0.out.2.2)).mono ?_;rintro e w1 ⟨rfl,hb1⟩;have HS1:=aW (HS0.out.bel hb1);clear hb1 c1 f1 l1;go_wp2_with fail;with_reducible refine (sAdd1 HS1.out q _ _ ?hz ?hk ?hl).mono ?_
  case hz=>rfl
  case hk=>rfl
  case hl=>omega
  rintro e w2 ⟨rfl,h2⟩;rw [Nat.zero_add] at h2;have HS2:=aW h2;clear h2;obtain ⟨c2,f2,l2⟩:=HS2.out.1.rules;obtain ⟨c3,f3,l3⟩:=HS2.out.2.1.rules;go_wp2;go_loopg [49] 0 (fun gk s49 wr=>gk=0∧s49=.int .i64 0∧wr=w2)
  case atStart=>exact ⟨rfl,rfl,rfl⟩
  case round =>
   obtain ⟨rfl,rfl,rfl⟩:=hrel;go_wp2;go_ret;exact ⟨rfl,HS2.out.2.2⟩
theorem sList (N:Nat) (ih:ForS N) (kids:List JV) (d:Nat) (hN:nodesL kids≤N) (hg:goodL d kids=true) (hC:∀ x ∈ kids,Came x) (n:Int) (s:ByteArray) (A:Option Addr) (nk ca:Nat) (A':Option Addr) (ny cb:Nat) (css:List (List Value)) (F:Nat→Prop) (w:World)
  (h1:VRs w F css kids) (h6:RdF w F A css.flatten) (hnk:kids.length=nk) (hnk8:nk≤4194304) (hG:GOK w) (hb:(canL false true kids []).length+2≤2251799813685248) (v:JV) (hv:(canJ v).length=(canL false true kids []).length+2) :
  Calls Tryz.prog 103 #[.agg #[.int .i64 5,.int .i64 n,.string s,.slice A nk ca,.slice A' ny cb]] w (SizS v w):=by
 unfold SizS;rw [hv];obtain ⟨T,hT⟩:∃ T,(canL false true kids []).length=T:=⟨_,rfl⟩
 have hcl:=canL_len false kids [];have HLE:=aW (fun i=>szL_le false kids [] i);rw [hT,hnk] at hcl;rw [hT] at hb ⊢;obtain ⟨M0,hM0⟩:∃ M0,nk-1=M0:=⟨_,rfl⟩
 rw [hM0] at hcl;have hST:=sStart w 5 n s A nk ca A' ny cb M0;have HG:=aW hG;obtain ⟨W0,hW0⟩:∃ W0,(w.alloc (.cells #[.int .i64 5,.int .i64 n,.string s,.slice A nk ca,.slice A' ny cb] 25)).alloc (.cells #[.int .i64 (M0:Int)] 3)=W0:=⟨_,rfl⟩
 have HW0:=aW hW0;have HS0:=aW (show SzSt w #[.int .i64 5,.int .i64 n,.string s,.slice A nk ca,.slice A' ny cb] M0 W0 by rw [← hW0];exact hST);have HV:=aW h1;have HR:=aW h6;have HNK:=aW hnk;have HCL:=aW hcl;have HBD:=aW hb;have HGD:=aW hg;have HCM:=aW hC;have HIH:=aW (show ∀ x d,nodesJ x≤N→goodJ d x=true→Came x→∀ (cs:List Value) (F:Nat→Prop) (w:World),VR w F cs x→GOK w→Calls Tryz.prog 103 #[.agg cs.toArray] w (SizS x w) from ih);have HMX:=aW (show (if (1:Int)<(nk:Int) then (nk:Int)-1 else 0)=(M0:Int) by split<;>omega);have HMY:=aW (show max (0:Int) ((nk:Int)-1)=(M0:Int) by omega);have hwx:IntKind.i64.wrap ((nk:Int)-1)=(nk:Int)-1:=by rw [IntKind.wrap_i64];omega
 clear hST hG hW0 h1 h6 hnk hcl hb hg hC ih hT hM0 hv;obtain ⟨c1,f1,l1⟩:=HS0.out.1.rules;go_enter Tryz.func103,Tryz.ntmps103;go_upto_region 2 with (fail)
 first | rw [HMX.out,HW0.out] | rw [HMY.out,HW0.out]
 clear HW0 HMX hwx;go_wp2_with fail;with_reducible refine (sAdd1 HS0.out 2 _ _ ?hz ?hk ?hl).mono ?_
 case hz=>rfl
 case hk=>rfl
 case hl=>have:=HCL.out;have:=HBD.out;omega
 rintro e w2 ⟨rfl,h2⟩;have HS2:=aW h2;clear h2 c1 f1 l1;obtain ⟨c2,f2,l2⟩:=HS2.out.1.rules;go_wp2;clear c2 f2 l2;go_loopg [5,49] nk (fun gk s5 s49 wr => ∃ i:Nat,gk=nk-i∧i≤nk∧s49=.int .i64 i∧Hid (SzSt w #[.int .i64 5,.int .i64 n,.string s,.slice A nk ca,.slice A' ny cb] (M0+2+szL false (kids.take i) []) wr))
 case atStart=>exact ⟨0,rfl,Nat.zero_le _,rfl,aW (by simpa [szL] using HS2.out)⟩
 case round =>
  obtain ⟨i,hgk,hi,rfl,HX⟩:=hrel;have HGK:=aW hgk;clear hgk HS2;obtain ⟨c1,f1,l1⟩:=HX.out.1.rules;by_cases hlt:i<nk
  ·obtain ⟨x,hx⟩:∃ x,kids[i]? = some x:=⟨_,List.getElem?_eq_getElem (by rw [HNK.out];exact hlt)⟩
   have hst:=szL_take (o:=false) (keys:=[]) hx;have hle:=HLE.out (i+1);have hnx:=(nodesL_at hx).2;have hih:=HIH.out x d (by omega) (goodJ_kid HGD.out hx) (HCM.out x (List.mem_of_getElem? hx));obtain ⟨Cx,hCx⟩:∃ Cx,(canJ x).length=Cx:=⟨_,rfl⟩
   obtain ⟨Pre,hPre⟩:∃ Pre,szL false (kids.take i) []=Pre:=⟨_,rfl⟩
   unfold SizS at hih;rw [hCx] at hih;have IHX:=aW hih;rw [hPre,hCx] at hst;simp only [Bool.false_eq_true,if_false,Nat.zero_add] at hst;have HV2:=aW (fun (W:World) (h:KeepF F w W)=>kid_cellsG (HV.out.keep h) (HR.out.keep h) hx);rw [hPre] at HX;rw [hst] at hle;have HST:=aW hst;have HLL:=aW hle;clear hst hle hnx hx hPre hCx hih;obtain ⟨b,oo,k1,n1,s1,A1,na1,ca1,B1,nb1,cb1,hAe,hb1,hvx,hz⟩:=HV2.out wr (KeepF.of_below HX.out.2.2);obtain ⟨z0,z1,z2,z3,z4⟩:=hz wr (Below.refl _ _);subst hAe;have HVX:=aW hvx;clear hz hvx;go_wp2_with fail;refine (IHX.out _ F wr HVX.out (HG.out.keep HX.out.2.2)).mono ?_;rintro e w5 ⟨rfl,hb5⟩;have HX5:=aW (HX.out.bel hb5);clear hb5 c1 f1 l1 z0 z1 z2 z3 z4 hb1;go_wp2_with fail;with_reducible refine (sAdd1 HX5.out Cx _ _ ?hz ?hk ?hl).mono ?_
   case hz=>rfl
   case hk=>rfl
   case hl=>have:=HCL.out;have:=HBD.out;have:=HLL.out;omega
   rintro e w6 ⟨rfl,h6⟩;have HX6:=aW h6;clear h6;go_wp2;go_roundg (nk-(i+1))
   case measure=>rw [HGK.out];omega
   case rel=>exact ⟨i+1,rfl,hlt,by go_num,aW (by rw [HST.out];have h:=HX6.out;simpa [Nat.add_assoc] using h)⟩
  ·obtain rfl:i=nk:=by omega
   have htk:kids.take i=kids:=List.take_of_length_le (by rw [HNK.out];exact Nat.le_refl _);have hfin:M0+2+szL false (kids.take i) []=T+2:=by rw [htk];have:=HCL.out;omega
   rw [hfin] at HX;obtain ⟨c3,f3,l3⟩:=HX.out.2.1.rules;clear htk hfin;go_wp2;go_ret;exact ⟨rfl,HX.out.2.2⟩
theorem sObj (N:Nat) (ih:ForS N) (kids:List JV) (d:Nat) (hN:nodesL kids≤N) (hg:goodL d kids=true) (hC:∀ x ∈ kids,Came x) (n:Int) (s:ByteArray) (A:Option Addr) (nk ca:Nat) (A':Option Addr) (ny cb:Nat) (css:List (List Value)) (F:Nat→Prop) (w:World)
  (h1:VRs w F css kids) (h6:RdF w F A css.flatten) (hnk:kids.length=nk) (hnk8:nk≤4194304) (hG:GOK w) (keys:List (List UInt8)) (hlen:keys.length=kids.length) (hkk:∀ t ∈ keys,txtOk t=true∧t.length≤4194304) (h7:RdF w F A' (strV keys)) (hny:keys.length=ny) (hb:(canL true true kids keys).length+2≤2251799813685248) (v:JV) (hv:(canJ v).length=(canL true true kids keys).length+2) :
  Calls Tryz.prog 103 #[.agg #[.int .i64 6,.int .i64 n,.string s,.slice A nk ca,.slice A' ny cb]] w (SizS v w):=by
 unfold SizS;rw [hv];obtain ⟨T,hT⟩:∃ T,(canL true true kids keys).length=T:=⟨_,rfl⟩
 have hcl:=canL_len true kids keys;have HLE:=aW (fun i=>szL_le true kids keys i);rw [hT,hnk] at hcl;rw [hT] at hb ⊢;obtain ⟨M0,hM0⟩:∃ M0,nk-1=M0:=⟨_,rfl⟩
 rw [hM0] at hcl;have hST:=sStart w 6 n s A nk ca A' ny cb M0;have HG:=aW hG;obtain ⟨W0,hW0⟩:∃ W0,(w.alloc (.cells #[.int .i64 6,.int .i64 n,.string s,.slice A nk ca,.slice A' ny cb] 25)).alloc (.cells #[.int .i64 (M0:Int)] 3)=W0:=⟨_,rfl⟩
 have HW0:=aW hW0;have HS0:=aW (show SzSt w #[.int .i64 6,.int .i64 n,.string s,.slice A nk ca,.slice A' ny cb] M0 W0 by rw [← hW0];exact hST);have HV:=aW h1;have HR:=aW h6;have HNK:=aW hnk;have HCL:=aW hcl;have HBD:=aW hb;have HGD:=aW hg;have HCM:=aW hC;have HIH:=aW (show ∀ x d,nodesJ x≤N→goodJ d x=true→Came x→∀ (cs:List Value) (F:Nat→Prop) (w:World),VR w F cs x→GOK w→Calls Tryz.prog 103 #[.agg cs.toArray] w (SizS x w) from ih);have HLEN:=aW hlen;have HKK:=aW hkk;have HRK:=aW h7;have HNY:=aW hny;clear hlen hkk h7 hny;have HMX:=aW (show (if (1:Int)<(nk:Int) then (nk:Int)-1 else 0)=(M0:Int) by split<;>omega);have HMY:=aW (show max (0:Int) ((nk:Int)-1)=(M0:Int) by omega);have hwx:IntKind.i64.wrap ((nk:Int)-1)=(nk:Int)-1:=by rw [IntKind.wrap_i64];omega
 clear hST hG hW0 h1 h6 hnk hcl hb hg hC ih hT hM0 hv;obtain ⟨c1,f1,l1⟩:=HS0.out.1.rules;go_enter Tryz.func103,Tryz.ntmps103;go_upto_region 2 with (fail)
 first | rw [HMX.out,HW0.out] | rw [HMY.out,HW0.out]
 clear HW0 HMX hwx;go_wp2_with fail;with_reducible refine (sAdd1 HS0.out 2 _ _ ?hz ?hk ?hl).mono ?_
 case hz=>rfl
 case hk=>rfl
 case hl=>have:=HCL.out;have:=HBD.out;omega
 rintro e w2 ⟨rfl,h2⟩;have HS2:=aW h2;clear h2 c1 f1 l1;obtain ⟨c2,f2,l2⟩:=HS2.out.1.rules;go_wp2;clear c2 f2 l2;go_loopg [5,49] nk (fun gk s5 s49 wr => ∃ i:Nat,gk=nk-i∧i≤nk∧s49=.int .i64 i∧Hid (SzSt w #[.int .i64 6,.int .i64 n,.string s,.slice A nk ca,.slice A' ny cb] (M0+2+szL true (kids.take i) keys) wr))
 case atStart=>exact ⟨0,rfl,Nat.zero_le _,rfl,aW (by simpa [szL] using HS2.out)⟩
 case round =>
  obtain ⟨i,hgk,hi,rfl,HX⟩:=hrel;have HGK:=aW hgk;clear hgk HS2;obtain ⟨c1,f1,l1⟩:=HX.out.1.rules;by_cases hlt:i<nk
  ·obtain ⟨x,hx⟩:∃ x,kids[i]? = some x:=⟨_,List.getElem?_eq_getElem (by rw [HNK.out];exact hlt)⟩
   have hst:=szL_take (o:=true) (keys:=keys) hx;have hle:=HLE.out (i+1);have hnx:=(nodesL_at hx).2;have hih:=HIH.out x d (by omega) (goodJ_kid HGD.out hx) (HCM.out x (List.mem_of_getElem? hx));obtain ⟨Cx,hCx⟩:∃ Cx,(canJ x).length=Cx:=⟨_,rfl⟩
   obtain ⟨Pre,hPre⟩:∃ Pre,szL true (kids.take i) keys=Pre:=⟨_,rfl⟩
   unfold SizS at hih;rw [hCx] at hih;have IHX:=aW hih;obtain ⟨key,hkey⟩:∃ key,keys[i]? = some key:=⟨_,List.getElem?_eq_getElem (by rw [HLEN.out,HNK.out];exact hlt)⟩
   have hkp:=HKK.out key (List.mem_of_getElem? hkey);obtain ⟨bk,ok,rfl,hbk0⟩:=strV_some HRK.out (by rw [HLEN.out,HNK.out];omega);have hiy:i<ny:=by have:=HLEN.out;have:=HNK.out;have:=HNY.out;omega
   obtain ⟨Qk,hQk⟩:∃ Qk,(quoT key).length=Qk:=⟨_,rfl⟩
   have hqs:=fun W (hG:GOK W)=>qSize_any key W hG hkp.1 hkp.2
   rw [hQk] at hqs;have HQS:=aW hqs;have HKC:=aW (fun (W:World) (h:KeepF F w W)=>strV_cell (n:=0) ((HRK.out.keep h).mono fun _ _ _=>trivial) hkey);rw [keys_head hkey,hQk] at hst;clear hkp hkey hQk hqs;rw [hPre,hCx] at hst;simp only [if_true] at hst;have HV2:=aW (fun (W:World) (h:KeepF F w W)=>kid_cellsG (HV.out.keep h) (HR.out.keep h) hx);rw [hPre] at HX;rw [hst] at hle;have HST:=aW hst;have HLL:=aW hle;clear hst hle hnx hx hPre hCx hih;have hck:=HKC.out wr (KeepF.of_below HX.out.2.2);have hbk1:bk<wr.heap.size:=Nat.lt_of_lt_of_le hbk0 HX.out.2.2.size;go_wp2_with fail;refine (HQS.out _ (HG.out.keep HX.out.2.2)).mono ?_;rintro e w3 ⟨rfl,hb3⟩;have HX3:=aW (HX.out.bel hb3);clear hb3 hck hbk1 c1 f1 l1;go_wp2_with fail;with_reducible refine (sAdd2 HX3.out Qk 1 _ _ _ ?hz ?hy ?hk ?hl).mono ?_
   case hz=>rfl
   case hy=>rfl
   case hk=>rfl
   case hl=>have:=HCL.out;have:=HBD.out;have:=HLL.out;omega
   rintro e w4 ⟨rfl,h4⟩;have HX4:=aW h4;clear h4;obtain ⟨c1,f1,l1⟩:=HX4.out.1.rules;obtain ⟨b,oo,k1,n1,s1,A1,na1,ca1,B1,nb1,cb1,hAe,hb1,hvx,hz⟩:=HV2.out w4 (KeepF.of_below HX4.out.2.2);obtain ⟨z0,z1,z2,z3,z4⟩:=hz w4 (Below.refl _ _);subst hAe;have HVX:=aW hvx;clear hz hvx;go_wp2_with fail;refine (IHX.out _ F w4 HVX.out (HG.out.keep HX4.out.2.2)).mono ?_;rintro e w5 ⟨rfl,hb5⟩;have HX5:=aW (HX4.out.bel hb5);clear hb5 c1 f1 l1 z0 z1 z2 z3 z4 hb1;go_wp2_with fail;with_reducible refine (sAdd1 HX5.out Cx _ _ ?hz ?hk ?hl).mono ?_
   case hz=>rfl
   case hk=>rfl
   case hl=>have:=HCL.out;have:=HBD.out;have:=HLL.out;omega
   rintro e w6 ⟨rfl,h6⟩;have HX6:=aW h6;clear h6;go_wp2;go_roundg (nk-(i+1))
   case measure=>rw [HGK.out];omega
   case rel=>exact ⟨i+1,rfl,hlt,by go_num,aW (by rw [HST.out];have h:=HX6.out;simpa [Nat.add_assoc] using h)⟩
  ·obtain rfl:i=nk:=by omega
   have htk:kids.take i=kids:=List.take_of_length_le (by rw [HNK.out];exact Nat.le_refl _);have hfin:M0+2+szL true (kids.take i) keys=T+2:=by rw [htk];have:=HCL.out;omega
   rw [hfin] at HX;obtain ⟨c3,f3,l3⟩:=HX.out.2.1.rules;clear htk hfin;go_wp2;go_ret;exact ⟨rfl,HX.out.2.2⟩
theorem sSizeStep (N:Nat) (ih:ForS N):ForS (N+1):=by
 intro v d hN hg hC cs F w hv hG;have hbk:=can_bulk v hC.ints;have hb7:=bulk_nodes v d hg hC.lens;have hb6:=hC.nodes;have hb8:bulkJ v≤35184397844480:=by omega
 clear hb7 hb6;obtain ⟨k,n,s,kids,keys⟩:=v;obtain ⟨A,A',ca,cb,css,rfl,h1,h2,h3,h4,h5,h6,h7⟩:=hv.out;obtain ⟨hik,hin,hsl,hkl,hyl,hyt,hck⟩:=hC.out;unfold nodesJ at hN;unfold goodJ at hg;simp only [Bool.and_eq_true,decide_eq_true_eq] at hg;obtain ⟨hA,hd,hL⟩:=hg;have hk:=goodA_kind hA;by_cases hk5:k<5
 ·obtain ⟨e1,e2⟩:=goodA_leaf hA hk5;have e1:kids=[]:=List.eq_nil_of_length_eq_zero e1;subst e1 e2;exact sLeaf _ k n s A ca A' 0 cb w hG rfl hA hk5 hin hsl
 ·obtain rfl | rfl:k=5∨k=6:=by omega
  ·obtain ⟨rfl,rfl,rfl⟩:=goodA_list hA;have hc:(canJ (.mk 5 0 [] kids [])).length=(canL false true kids []).length+2:=by unfold canJ;simp
   rw [hc] at hbk;exact sList N ih kids (d-1) (by omega) hL hck 0 _ A _ ca A' _ cb css F w h1 h6 rfl hkl hG (by omega) _ hc
  ·obtain ⟨rfl,rfl,hlen,hko⟩:=goodA_obj hA;have hc:(canJ (.mk 6 0 [] kids keys)).length=(canL true true kids keys).length+2:=by unfold canJ;simp
   rw [hc] at hbk;exact sObj N ih kids (d-1) (by omega) hL hck 0 _ A _ ca A' _ cb css F w h1 h6 rfl hkl hG keys hlen.symm (fun t ht=>⟨(keysOk_iff.1 hko).1 t ht,hyt t ht⟩) h7 rfl (by omega) _ hc
theorem sSize:∀ N,ForS N
 | 0=>fun v d h=>by have:=nodesJ_pos v;omega
 | N+1=>sSizeStep N (sSize N)
end Go.Proofs.YtgolomgmnanbpaaGreatDoor
