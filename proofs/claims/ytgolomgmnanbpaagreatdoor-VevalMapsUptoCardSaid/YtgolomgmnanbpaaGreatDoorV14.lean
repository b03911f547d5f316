import Derived.Test.YtgolomgmnanbpaaGreatDoorV11
import Derived.Test.YtgolomgmnanbpaaGreatDoorV10
open Go.Value renaming int → Zi, slice → Zs, string → Zt, pointer → Zp
open Go.IntKind renaming i64 → Zq
set_option maxRecDepth 100000
set_option maxHeartbeats 16000000
set_option linter.unusedVariables false
set_option linter.unusedSimpArgs false
namespace Go.Proofs.YtgolomgmnanbpaaGreatDoor
open Go.RowKit
attribute [local go_sem] aa ac ae ab
theorem gt (o:Bool):∀ (kids:List JV) (keys:List (List UInt8)) (i:Nat) (f:Bool),bD o f kids keys=bD o f (kids.take i) keys++bD o (f && decide (i=0)) (kids.drop i) (keys.drop i)
 | [],keys,i,f=>by simp [bD]
 | x::r,keys,0,f=>by simp [bD]
 |x::r,keys,i+1,f=>by
  rw [List.take_succ_cons,List.drop_succ_cons,bD,bD,gt o r keys.tail i false];have:keys.drop (i+1)=keys.tail.drop i:=by cases keys<;>simp
  rw [this];simp [List.append_assoc]
theorem vB (o f:Bool) (x:JV) (keys:List (List UInt8)):bD o f [x] keys=(if f then [] else [44])++((if o then eI (keys.headD [])++[58] else [])++bf x):=by
 unfold bD;simp [bD]
theorem lo {o:Bool} {kids:List JV} {keys:List (List UInt8)} {i:Nat} {x:JV} (hx:kids[i]? = some x) :
  bD o true (kids.take (i+1)) keys=bD o true (kids.take i) keys++((if i=0 then [] else [44])++((if o then eI ((keys.drop i).headD [])++[58] else [])++bf x)):=by
 obtain ⟨hlt,he⟩:=List.getElem?_eq_some_iff.1 hx;have h:=gt o (kids.take (i+1)) keys i true;rw [List.take_take,Nat.min_eq_left (Nat.le_succ i)] at h;have hd:(kids.take (i+1)).drop i=[x]:=by
  rw [List.drop_take,List.drop_eq_getElem_cons hlt,he];simp
 rw [h,hd,vB];cases i<;>simp
theorem pM (o:Bool) (kids:List JV) (keys:List (List UInt8)) (i:Nat):(bD o true (kids.take i) keys).length<=(bD o true kids keys).length:=by
 have h:=congrArg List.length (gt o kids keys i true);rw [List.length_append] at h;omega
theorem lE {keys:List (List UInt8)} {i:Nat} {k:List UInt8} (h:keys[i]? = some k):(keys.drop i).headD []=k:=by
 obtain ⟨hlt,he⟩:=List.getElem?_eq_some_iff.1 h;rw [List.drop_eq_getElem_cons hlt,he];rfl
def FB (B:Nat):Nat->Prop:=λ b=>b<B
theorem af.fb {B:Nat} {w w':World} (h:Below B w w'):af (FB B) w w':=⟨h.size,λ b hb _=>h.block b hb⟩
theorem fO {d:Nat} {xs:List JV} {i:Nat} {x:JV} (h:bz d xs=true) (hx:xs[i]? = some x):aN d x=true:=bC.1 h x (List.mem_of_getElem? hx)
end Go.Proofs.YtgolomgmnanbpaaGreatDoor
namespace Go.Proofs.YtgolomgmnanbpaaGreatDoor
open Go.RowKit
attribute [local go_sem] aa ac ae ab
end Go.Proofs.YtgolomgmnanbpaaGreatDoor
namespace Go.Proofs.YtgolomgmnanbpaaGreatDoor
open Go.RowKit
attribute [local go_sem] aa ac ae ab
def szL (o:Bool):List JV->List (List UInt8)->Nat
 | [],_=>0
 | x::r,ks=>((if o then (eI (ks.headD [])).length+1 else 0)+(bf x).length)+szL o r ks.tail
theorem jE (o:Bool):∀ (kids:List JV) (keys:List (List UInt8)),(bD o false kids keys).length=kids.length+szL o kids keys
 | [],_=>by simp [bD,szL]
 |x::r,keys=>by
  rw [bD,szL];simp only [List.length_append,List.length_cons,jE o r keys.tail];cases o<;>simp<;>omega
theorem nN (o:Bool) (kids:List JV) (keys:List (List UInt8)):(bD o true kids keys).length=(kids.length-1)+szL o kids keys:=by
 cases kids with
 | nil=>simp [bD,szL]
 |cons x r =>
  rw [bD,szL];simp only [List.length_append,List.length_cons,jE o r keys.tail];cases o<;>simp<;>omega
theorem iG (o:Bool):∀ (kids:List JV) (keys:List (List UInt8)) (i:Nat),szL o kids keys=szL o (kids.take i) keys+szL o (kids.drop i) (keys.drop i)
 | [],keys,i=>by simp [szL]
 | x::r,keys,0=>by simp [szL]
 |x::r,keys,i+1=>by
  have:keys.drop (i+1)=keys.tail.drop i:=by cases keys<;>simp
  rw [List.take_succ_cons,List.drop_succ_cons,szL,szL,iG o r keys.tail i,this];omega
theorem nB {o:Bool} {kids:List JV} {keys:List (List UInt8)} {i:Nat} {x:JV} (hx:kids[i]? = some x) :
  szL o (kids.take (i+1)) keys=szL o (kids.take i) keys+((if o then (eI ((keys.drop i).headD [])).length+1 else 0)+(bf x).length):=by
 obtain ⟨hlt,he⟩:=List.getElem?_eq_some_iff.1 hx;have h:=iG o (kids.take (i+1)) keys i;rw [List.take_take,Nat.min_eq_left (Nat.le_succ i)] at h;have hd:(kids.take (i+1)).drop i=[x]:=by
  rw [List.drop_take,List.drop_eq_getElem_cons hlt,he];simp
 rw [h,hd];simp [szL]
theorem r8 (o:Bool) (kids:List JV) (keys:List (List UInt8)) (i:Nat):szL o (kids.take i) keys<=szL o kids keys:=by
 have:=iG o kids keys i;omega
theorem hZ:∀ (f:Nat) (l:List UInt8),l.length<=f->(dc l).length<=l.length
 | _,[],_=>Nat.le_refl _
 | 0,_::_,h=>by simp at h
 |f+1,c::r,h=>by
  rw [gm (by simp)];split
  ·simp
  ·rename_i h0
   have h1:=iV (c::r);have h2:=hZ f ((c::r).drop (am (c::r)).2) (by rw [List.length_drop];rw [List.length_cons] at *;omega);rw [List.length_cons];rw [List.length_drop] at h2;omega
theorem kC (s:List UInt8):(eI s).length<=6*s.length+2:=by
 have h1:=hZ _ s (Nat.le_refl _);have h2:=gY (dc s);unfold eI;simp only [List.length_cons,List.length_append,List.cons_append,List.length_nil];omega
theorem eW {n:Int} (h:iw n):(cj n).length<=20:=by
 have h1:=j9 (N:=n.natAbs) (k:=19) (by unfold iw at h;omega) (by decide);unfold cj;split
 ·rw [List.length_cons];omega
 ·omega
mutual
theorem kh:∀ (v:JV),inJ v->(bf v).length+6<=32*cr v
 | .mk k n s kids keys,h=>by
  unfold inJ at h;have h1:=kC s;have h2:=eW h.2.1;have h4:=iE true true kids keys h.2.2;have h5:=iE false true kids [] h.2.2;unfold cr;unfold bf;split
  ·have:pF.length=4:=rfl;omega
  split
  ·have:pY.length=4:=rfl;have:lN.length=5:=rfl;split<;>omega
  split
  ·omega
  split
  ·omega
  split
  ·simp only [List.length_cons,List.length_append,List.cons_append,List.length_nil];omega
  ·simp only [List.length_cons,List.length_append,List.cons_append,List.length_nil];simp only [bN] at h5;omega
theorem iE:∀ (o f:Bool) (kids:List JV) (keys:List (List UInt8)),inL kids->(bD o f kids keys).length<=32*cJ kids+32*bN keys
 | o,f,[],keys,_=>by simp [bD]
 |o,f,x::r,keys,h=>by
  unfold inL at h;have h1:=kh x h.1;have h2:=iE o false r keys.tail h.2;rw [bD];simp only [List.length_append,List.length_cons];unfold cJ;cases keys with
  |nil =>
   have h3:(eI []).length=2:=by decide
   cases o<;>cases f<;>simp [bN] at * <;> omega
  |cons key ks =>
   have h3:=kC key;simp only [List.tail_cons,bN] at *;cases o<;>cases f<;>simp at * <;> omega
end
end Go.Proofs.YtgolomgmnanbpaaGreatDoor
namespace Go.Proofs.YtgolomgmnanbpaaGreatDoor
open Go.RowKit
attribute [local go_sem] aa ac ae ab
def mz (g:Nat) (M:Nat) (w:World) (e:Ending) (w':World):Prop:=e=.returned (.tuple #[])/\Blk w' g 3 #[Zi Zq (M:Int)]/\w.grownBy w' (some g)
theorem wS (g k n:Nat) (ns:List Nat) (M:Nat) (w:World) (hg:Blk w g 3 #[Zi Zq (M:Int)]) (hk:Blk w k 3 (ns.map λ a:Nat=>Value.int .i64 (a:Int)).toArray) (hne:k≠g) (hn:ns.length=n) (hn8:n<=4194304) (hb:M+ns.sum<=2251799813685248) :
  Calls Tryz.prog 150 #[Zs (some ⟨k,0,none⟩) n n,Zp (some ⟨g,0,none⟩)] w (mz g (M+ns.sum) w):=by
 have HG0:=aW hg;have HK:=aW hk;have HN:=aW hn;have HB:=aW hb;have HNE:=aW hne;clear hg hk hn hb hne;go_enter Tryz.func150,Tryz.ntmps150;go_wp2;go_loopg [7] n (λ gk s7 wr => ∃ (i:Nat) (Q:Nat),gk=n-i/\i<=n/\s7=Zi Zq i/\Q<=2251799813685248/\Hid (Q=M+(ns.take i).sum)/\Hid (Blk wr g 3 #[Zi Zq (Q:Int)])/\Hid (w.grownBy wr (some g)))
 case atStart=>exact ⟨0,M,rfl,Nat.zero_le _,rfl,by have:=HB.out;omega,aW (by simp),HG0,aW (jc _ _)⟩
 case round =>
  obtain ⟨i,Q,hgk,hi,rfl,hQ8,HQ,HBG,HGR⟩:=hrel;have HG:=aW hgk;clear hgk;by_cases hlt:i<n
  ·obtain ⟨a,ha⟩:∃ a,ns[i]? = some a:=⟨_,List.getElem?_eq_getElem (by rw [HN.out];exact hlt)⟩
   have hbk:=HK.out.grown HGR.out (λ e=>HNE.out (Option.some.inj e));have hc:wr.cell? ⟨k,i,none⟩=some (Zi Zq (a:Int)):=by rw [hbk.cell];simp [ha]
   obtain ⟨c1,f1,l1⟩:=HBG.out.rules;have htk:(ns.take (i+1)).sum=(ns.take i).sum+a:=by rw [List.take_add_one,ha];simp
   have hle:(ns.take (i+1)).sum<=ns.sum:=by
    have h:=congrArg List.sum (List.take_append_drop (i+1) ns);rw [List.sum_append] at h;omega
   have hQa:Q+a<=2251799813685248:=by have h1:=HQ.out;have h2:=HB.out;omega
   have HQ2:=aW (show Q+a=M+(ns.take (i+1)).sum by rw [htk,HQ.out];omega);have hw:IntKind.i64.wrap ((Q:Int)+(a:Int))=((Q+a:Nat):Int):=by rw [IntKind.wrap_i64];omega
   have HS:=aW (HBG.out.set_ 0 (Zi Zq ((Q+a:Nat):Int)));have HGS:=aW (eU HGR.out 0 (Zi Zq ((Q+a:Nat):Int)));obtain ⟨qa,hqa⟩:∃ qa:Nat,qa=Q+a:=⟨_,rfl⟩
   rw [← hqa] at HQ2 HS HGS hw hQa;have hsm:(Q:Int)+(a:Int)=(qa:Int):=by omega
   clear hbk htk hle hqa ha;go_wp2;go_roundg (n-(i+1))
   case measure=>rw [HG.out];omega
   case rel=>exact ⟨i+1,qa,rfl,hlt,by go_num,hQa,HQ2,HS,HGS⟩
  ·obtain rfl:i=n:=by omega
   have HF:=aW (show mz g (M+ns.sum) w (.returned (.tuple #[])) wr from ⟨rfl,by have h:=HBG.out;rw [HQ.out,List.take_of_length_le (by rw [HN.out];exact Nat.le_refl _)] at h;exact h,HGR.out⟩);go_wp2;go_end0;exact HF.out
def eY (w:World) (cs:Array Value) (M:Nat) (W:World):Prop:=Blk W w.heap.size 25 cs/\Blk W (w.heap.size+1) 3 #[Zi Zq (M:Int)]/\Below w.heap.size w W
section
variable {w W W':World} {cs:Array Value} {M M':Nat}
theorem eY.bel (h:eY w cs M W) (hb:Below W.heap.size W W'):eY w cs M W':=⟨h.1.keep hb,h.2.1.keep hb,h.2.2.trans (hb.mono h.2.2.size)⟩
theorem eY.alloc (h:eY w cs M W) (o:Obj):eY w cs M (W.alloc o):=h.bel ((Below.refl _ W).alloc (Nat.le_refl _) o)
theorem eY.add {e:Ending} (h:eY w cs M W) (ha:mz (w.heap.size+1) M' W e W'):eY w cs M' W':=by
 obtain ⟨h1,h2,h3⟩:=h;obtain ⟨_,k1,k2⟩:=ha;refine ⟨h1.grown k2 (λ e=>by injection e with e;omega),k1,h3.grown k2 h3.size (λ k e=>by injection e with e;omega)⟩
theorem iL (h:eY w cs M W) (a k:Nat) (z:Int) (hz:z=(a:Int)) (hk:k=W.heap.size) (hb:M+a<=2251799813685248) :
  Calls Tryz.prog 150 #[Zs (some ⟨k,0,none⟩) 1 1,Zp (some ⟨w.heap.size+1,0,none⟩)] (W.alloc (.cells #[Zi Zq z] 3)) λ e w'=>e=.returned (.tuple #[])/\eY w cs (M+a) w':=by
 subst hk hz;have h':=wS (w.heap.size+1) W.heap.size 1 [a] M (W.alloc (.cells #[Zi Zq (a:Int)] 3)) (h.alloc _).2.1 (Blk.new _ _ _) (by have:=h.2.1.lt;omega) rfl (by decide) (by simpa using hb);refine h'.mono λ e w' hp=>⟨hp.1,by have:=(h.alloc _).add hp;simpa using this⟩
theorem wX (h:eY w cs M W) (a b k:Nat) (z y:Int) (hz:z=(a:Int)) (hy:y=(b:Int)) (hk:k=W.heap.size) (hb:M+(a+b)<=2251799813685248) :
  Calls Tryz.prog 150 #[Zs (some ⟨k,0,none⟩) 2 2,Zp (some ⟨w.heap.size+1,0,none⟩)] (W.alloc (.cells #[Zi Zq z,Zi Zq y] 3)) λ e w'=>e=.returned (.tuple #[])/\eY w cs (M+(a+b)) w':=by
 subst hk hz hy;have h':=wS (w.heap.size+1) W.heap.size 2 [a,b] M (W.alloc (.cells #[Zi Zq (a:Int),Zi Zq (b:Int)] 3)) (h.alloc _).2.1 (Blk.new _ _ _) (by have:=h.2.1.lt;omega) rfl (by decide) (by simpa using hb);refine h'.mono λ e w' hp=>⟨hp.1,by have:=(h.alloc _).add hp;simpa using this⟩
end
def gj (v:JV) (w:World) (e:Ending) (w':World):Prop:=e=.returned (Zi Zq ((bf v).length:Nat))/\Below w.heap.size w w'
def rS (N:Nat):Prop:=∀ (v:JV) (d:Nat),ar v<=N->aN d v=true->au v->∀ (cs:List Value) (F:Nat->Prop) (w:World),VR w F cs v->GOK w->Calls Tryz.prog 103 #[.agg cs.toArray] w (gj v w)
theorem oC (w:World) (k n:Int) (s:ByteArray) (A:Option Addr) (nk ca:Nat) (A':Option Addr) (ny cb:Nat) (M:Nat):eY w #[Zi Zq k,Zi Zq n,Zt s,Zs A nk ca,Zs A' ny cb] M ((w.alloc (.cells #[Zi Zq k,Zi Zq n,Zt s,Zs A nk ca,Zs A' ny cb] 25)).alloc (.cells #[Zi Zq (M:Int)] 3)):=by
 have h1:=Blk.new w 25 #[Zi Zq k,Zi Zq n,Zt s,Zs A nk ca,Zs A' ny cb];have h2:=Blk.new (w.alloc (.cells #[Zi Zq k,Zi Zq n,Zt s,Zs A nk ca,Zs A' ny cb] 25)) 3 #[Zi Zq (M:Int)];rw [World.size_alloc] at h2;exact ⟨h1.alloc _,h2,((Below.refl _ w).alloc (Nat.le_refl _) _).alloc (by simp) _⟩
theorem wi (v:JV) (k n:Int) (s:List UInt8) (A:Option Addr) (ca:Nat) (A':Option Addr) (ny cb:Nat) (w:World) (hG:GOK w) (hv:v=.mk k n s [] []) (hg:aI k n s 0 []=true) (hk:k<5) (hin:iw n) (hsl:s.length<=4194304) :
  Calls Tryz.prog 103 #[.agg #[Zi Zq k,Zi Zq n,Zt ⟨s.toArray⟩,Zs A 0 ca,Zs A' ny cb]] w (gj v w):=by
 subst hv;have hkk:=aH hg;have hST:=oC w k n ⟨s.toArray⟩ A 0 ca A' ny cb 0;have HG:=aW hG;obtain ⟨W0,hW0⟩:∃ W0,(w.alloc (.cells #[Zi Zq k,Zi Zq n,Zt ⟨s.toArray⟩,Zs A 0 ca,Zs A' ny cb] 25)).alloc (.cells #[Zi Zq 0] 3)=W0:=⟨_,rfl⟩
 have HW0:=aW hW0;have HS0:=aW (show eY w #[Zi Zq k,Zi Zq n,Zt ⟨s.toArray⟩,Zs A 0 ca,Zs A' ny cb] 0 W0 by rw [← hW0];exact hST);clear hST hG hW0;have hm0:max (0:Int) (IntKind.i64.wrap (0-1))=0:=by decide
 have hm1:max (0:Int) (0-1)=0:=by decide
 have hm2:max (0:Int) (-1)=0:=by decide
 obtain rfl | rfl | rfl | rfl:k=1∨k=2∨k=3∨k=4:=by omega
 ·have hlen:(bf (.mk 1 n s [] [])).length=4:=by unfold bf;rfl
  unfold gj;rw [hlen];obtain ⟨c1,f1,l1⟩:=HS0.out.1.rules;clear hlen hg hkk hin hsl hk;go_enter Tryz.func103,Tryz.ntmps103;go_upto_region 2 with (fail);rw [HW0.out];clear HW0;go_wp2_with fail;with_reducible refine (iL HS0.out 4 _ _ ?hz ?hk ?hl).mono ?_
  case hz=>rfl
  case hk=>rfl
  case hl=>omega
  rintro e w2 ⟨rfl,h2⟩;rw [Nat.zero_add] at h2;have HS2:=aW h2;clear h2;obtain ⟨c2,f2,l2⟩:=HS2.out.1.rules;obtain ⟨c3,f3,l3⟩:=HS2.out.2.1.rules;go_wp2;go_loopg [49] 0 (λ gk s49 wr=>gk=0/\s49=Zi Zq 0/\wr=w2)
  case atStart=>exact ⟨rfl,rfl,rfl⟩
  case round =>
   obtain ⟨rfl,rfl,rfl⟩:=hrel;go_wp2;go_ret;exact ⟨rfl,HS2.out.2.2⟩
 ·have h01:n=0∨n=1:=by unfold aI at hg;simp at hg;exact hg.1
  obtain ⟨q,hq⟩:∃ q,(bf (.mk 2 n s [] [])).length=q:=⟨_,rfl⟩
  have hlen:(bf (.mk 2 n s [] [])).length=q:=hq;have hq2:IntKind.i64.wrap (5-n)=(q:Int):=by
   rw [← hq];unfold bf;rcases h01 with rfl | rfl
   ·rfl
   ·rfl
  have hq3:5-n=(q:Int):=by
   rw [← hq];unfold bf;rcases h01 with rfl | rfl
   ·rfl
   ·rfl
  have hq5:q<=5:=by omega
  clear hq;unfold gj;rw [hlen];obtain ⟨c1,f1,l1⟩:=HS0.out.1.rules;clear hlen hg hkk hin hsl hk;go_enter Tryz.func103,Tryz.ntmps103;go_upto_region 2 with (fail);rw [HW0.out];clear HW0;go_wp2_with fail;with_reducible refine (iL HS0.out q _ _ ?hz ?hk ?hl).mono ?_
  case hz=>rfl
  case hk=>rfl
  case hl=>omega
  rintro e w2 ⟨rfl,h2⟩;rw [Nat.zero_add] at h2;have HS2:=aW h2;clear h2;obtain ⟨c2,f2,l2⟩:=HS2.out.1.rules;obtain ⟨c3,f3,l3⟩:=HS2.out.2.1.rules;go_wp2;go_loopg [49] 0 (λ gk s49 wr=>gk=0/\s49=Zi Zq 0/\wr=w2)
  case atStart=>exact ⟨rfl,rfl,rfl⟩
  case round =>
   obtain ⟨rfl,rfl,rfl⟩:=hrel;go_wp2;go_ret;exact ⟨rfl,HS2.out.2.2⟩
 ·obtain ⟨q,hq⟩:∃ q,(cj n).length=q:=⟨_,rfl⟩
  have hlen:(bf (.mk 3 n s [] [])).length=q:=by unfold bf;exact hq
  have HN:=aW (λ W=>nY n W hin);rw [hq] at HN;have hq5:q<=20:=by have:=eW hin;omega
  clear hq;unfold gj;rw [hlen];obtain ⟨c1,f1,l1⟩:=HS0.out.1.rules;clear hlen hg hkk hin hsl hk;go_enter Tryz.func103,Tryz.ntmps103;go_upto_region 2 with (fail);rw [HW0.out];clear HW0;go_wp2_with fail;refine (HN.out _).mono ?_;rintro e w1 ⟨rfl,hb1⟩;have HS1:=aW (HS0.out.bel hb1);clear hb1 c1 f1 l1;go_wp2_with fail;with_reducible refine (iL HS1.out q _ _ ?hz ?hk ?hl).mono ?_
  case hz=>rfl
  case hk=>rfl
  case hl=>omega
  rintro e w2 ⟨rfl,h2⟩;rw [Nat.zero_add] at h2;have HS2:=aW h2;clear h2;obtain ⟨c2,f2,l2⟩:=HS2.out.1.rules;obtain ⟨c3,f3,l3⟩:=HS2.out.2.1.rules;go_wp2;go_loopg [49] 0 (λ gk s49 wr=>gk=0/\s49=Zi Zq 0/\wr=w2)
  case atStart=>exact ⟨rfl,rfl,rfl⟩
  case round =>
   obtain ⟨rfl,rfl,rfl⟩:=hrel;go_wp2;go_ret;exact ⟨rfl,HS2.out.2.2⟩
 ·have ht:aL s=true:=by unfold aI at hg;simp at hg;exact hg.2
  obtain ⟨q,hq⟩:∃ q,(eI s).length=q:=⟨_,rfl⟩
  have hlen:(bf (.mk 4 n s [] [])).length=q:=by unfold bf;exact hq
  have HN:=aW (λ W (hG:GOK W)=>lg s W hG ht hsl);rw [hq] at HN;have hq5:q<=30000000:=by have:=kC s;omega
  clear hq ht;unfold gj;rw [hlen];obtain ⟨c1,f1,l1⟩:=HS0.out.1.rules;clear hlen hg hkk hin hsl hk;go_enter Tryz.func103,Tryz.ntmps103;go_upto_region 2 with (fail);rw [HW0.out];clear HW0;go_wp2_with fail;refine (HN.out _ (HG.out.keep HS0.out.2.2)).mono ?_;rintro e w1 ⟨rfl,hb1⟩;have HS1:=aW (HS0.out.bel hb1);clear hb1 c1 f1 l1;go_wp2_with fail;with_reducible refine (iL HS1.out q _ _ ?hz ?hk ?hl).mono ?_
  case hz=>rfl
  case hk=>rfl
  case hl=>omega
  rintro e w2 ⟨rfl,h2⟩;rw [Nat.zero_add] at h2;have HS2:=aW h2;clear h2;obtain ⟨c2,f2,l2⟩:=HS2.out.1.rules;obtain ⟨c3,f3,l3⟩:=HS2.out.2.1.rules;go_wp2;go_loopg [49] 0 (λ gk s49 wr=>gk=0/\s49=Zi Zq 0/\wr=w2)
  case atStart=>exact ⟨rfl,rfl,rfl⟩
  case round =>
   obtain ⟨rfl,rfl,rfl⟩:=hrel;go_wp2;go_ret;exact ⟨rfl,HS2.out.2.2⟩
theorem wK (N:Nat) (ih:rS N) (kids:List JV) (d:Nat) (hN:ay kids<=N) (hg:bz d kids=true) (hC:∀ x ∈ kids,au x) (n:Int) (s:ByteArray) (A:Option Addr) (nk ca:Nat) (A':Option Addr) (ny cb:Nat) (css:List (List Value)) (F:Nat->Prop) (w:World)
  (h1:VRs w F css kids) (h6:RdF w F A css.flatten) (hnk:kids.length=nk) (hnk8:nk<=4194304) (hG:GOK w) (hb:(bD false true kids []).length+2<=2251799813685248) (v:JV) (hv:(bf v).length=(bD false true kids []).length+2) :
  Calls Tryz.prog 103 #[.agg #[Zi Zq 5,Zi Zq n,Zt s,Zs A nk ca,Zs A' ny cb]] w (gj v w):=by
 unfold gj;rw [hv];obtain ⟨T,hT⟩:∃ T,(bD false true kids []).length=T:=⟨_,rfl⟩
 have hcl:=nN false kids [];have HLE:=aW (λ i=>r8 false kids [] i);rw [hT,hnk] at hcl;rw [hT] at hb ⊢;obtain ⟨M0,hM0⟩:∃ M0,nk-1=M0:=⟨_,rfl⟩
 rw [hM0] at hcl;have hST:=oC w 5 n s A nk ca A' ny cb M0;have HG:=aW hG;obtain ⟨W0,hW0⟩:∃ W0,(w.alloc (.cells #[Zi Zq 5,Zi Zq n,Zt s,Zs A nk ca,Zs A' ny cb] 25)).alloc (.cells #[Zi Zq (M0:Int)] 3)=W0:=⟨_,rfl⟩
 have HW0:=aW hW0;have HS0:=aW (show eY w #[Zi Zq 5,Zi Zq n,Zt s,Zs A nk ca,Zs A' ny cb] M0 W0 by rw [← hW0];exact hST);have HV:=aW h1;have HR:=aW h6;have HNK:=aW hnk;have HCL:=aW hcl;have HBD:=aW hb;have HGD:=aW hg;have HCM:=aW hC;have HIH:=aW (show ∀ x d,ar x<=N->aN d x=true->au x->∀ (cs:List Value) (F:Nat->Prop) (w:World),VR w F cs x->GOK w->Calls Tryz.prog 103 #[.agg cs.toArray] w (gj x w) from ih);have HMX:=aW (show (if (1:Int)<(nk:Int) then (nk:Int)-1 else 0)=(M0:Int) by split<;>omega);have HMY:=aW (show max (0:Int) ((nk:Int)-1)=(M0:Int) by omega);have hwx:IntKind.i64.wrap ((nk:Int)-1)=(nk:Int)-1:=by rw [IntKind.wrap_i64];omega
 clear hST hG hW0 h1 h6 hnk hcl hb hg hC ih hT hM0 hv;obtain ⟨c1,f1,l1⟩:=HS0.out.1.rules;go_enter Tryz.func103,Tryz.ntmps103;go_upto_region 2 with (fail)
 first | rw [HMX.out,HW0.out] | rw [HMY.out,HW0.out]
 clear HW0 HMX hwx;go_wp2_with fail;with_reducible refine (iL HS0.out 2 _ _ ?hz ?hk ?hl).mono ?_
 case hz=>rfl
 case hk=>rfl
 case hl=>have:=HCL.out;have:=HBD.out;omega
 rintro e w2 ⟨rfl,h2⟩;have HS2:=aW h2;clear h2 c1 f1 l1;obtain ⟨c2,f2,l2⟩:=HS2.out.1.rules;go_wp2;clear c2 f2 l2;go_loopg [5,49] nk (λ gk s5 s49 wr => ∃ i:Nat,gk=nk-i/\i<=nk/\s49=Zi Zq i/\Hid (eY w #[Zi Zq 5,Zi Zq n,Zt s,Zs A nk ca,Zs A' ny cb] (M0+2+szL false (kids.take i) []) wr))
 case atStart=>exact ⟨0,rfl,Nat.zero_le _,rfl,aW (by simpa [szL] using HS2.out)⟩
 case round =>
  obtain ⟨i,hgk,hi,rfl,HX⟩:=hrel;have HGK:=aW hgk;clear hgk HS2;obtain ⟨c1,f1,l1⟩:=HX.out.1.rules;by_cases hlt:i<nk
  ·obtain ⟨x,hx⟩:∃ x,kids[i]? = some x:=⟨_,List.getElem?_eq_getElem (by rw [HNK.out];exact hlt)⟩
   have hst:=nB (o:=false) (keys:=[]) hx;have hle:=HLE.out (i+1);have hnx:=(bO hx).2;have hih:=HIH.out x d (by omega) (fO HGD.out hx) (HCM.out x (List.mem_of_getElem? hx));obtain ⟨Cx,hCx⟩:∃ Cx,(bf x).length=Cx:=⟨_,rfl⟩
   obtain ⟨Pre,hPre⟩:∃ Pre,szL false (kids.take i) []=Pre:=⟨_,rfl⟩
   unfold gj at hih;rw [hCx] at hih;have IHX:=aW hih;rw [hPre,hCx] at hst;simp only [Bool.false_eq_true,if_false,Nat.zero_add] at hst;have HV2:=aW (λ (W:World) (h:af F w W)=>aS (HV.out.keep h) (HR.out.keep h) hx);rw [hPre] at HX;rw [hst] at hle;have HST:=aW hst;have HLL:=aW hle;clear hst hle hnx hx hPre hCx hih;obtain ⟨b,oo,k1,n1,s1,A1,na1,ca1,B1,nb1,cb1,hAe,hb1,hvx,hz⟩:=HV2.out wr (af.of_below HX.out.2.2);obtain ⟨z0,z1,z2,z3,z4⟩:=hz wr (Below.refl _ _);subst hAe;have HVX:=aW hvx;clear hz hvx;go_wp2_with fail;refine (IHX.out _ F wr HVX.out (HG.out.keep HX.out.2.2)).mono ?_;rintro e w5 ⟨rfl,hb5⟩;have HX5:=aW (HX.out.bel hb5);clear hb5 c1 f1 l1 z0 z1 z2 z3 z4 hb1;go_wp2_with fail;with_reducible refine (iL HX5.out Cx _ _ ?hz ?hk ?hl).mono ?_
   case hz=>rfl
   case hk=>rfl
   case hl=>have:=HCL.out;have:=HBD.out;have:=HLL.out;omega
   rintro e w6 ⟨rfl,h6⟩;have HX6:=aW h6;clear h6;go_wp2;go_roundg (nk-(i+1))
   case measure=>rw [HGK.out];omega
   case rel=>exact ⟨i+1,rfl,hlt,by go_num,aW (by rw [HST.out];have h:=HX6.out;simpa [Nat.add_assoc] using h)⟩
  ·obtain rfl:i=nk:=by omega
   have htk:kids.take i=kids:=List.take_of_length_le (by rw [HNK.out];exact Nat.le_refl _);have hfin:M0+2+szL false (kids.take i) []=T+2:=by rw [htk];have:=HCL.out;omega
   rw [hfin] at HX;obtain ⟨c3,f3,l3⟩:=HX.out.2.1.rules;clear htk hfin;go_wp2;go_ret;exact ⟨rfl,HX.out.2.2⟩
theorem yk (N:Nat) (ih:rS N) (kids:List JV) (d:Nat) (hN:ay kids<=N) (hg:bz d kids=true) (hC:∀ x ∈ kids,au x) (n:Int) (s:ByteArray) (A:Option Addr) (nk ca:Nat) (A':Option Addr) (ny cb:Nat) (css:List (List Value)) (F:Nat->Prop) (w:World)
  (h1:VRs w F css kids) (h6:RdF w F A css.flatten) (hnk:kids.length=nk) (hnk8:nk<=4194304) (hG:GOK w) (keys:List (List UInt8)) (hlen:keys.length=kids.length) (hkk:∀ t ∈ keys,aL t=true/\t.length<=4194304) (h7:RdF w F A' (cQ keys)) (hny:keys.length=ny) (hb:(bD true true kids keys).length+2<=2251799813685248) (v:JV) (hv:(bf v).length=(bD true true kids keys).length+2) :
  Calls Tryz.prog 103 #[.agg #[Zi Zq 6,Zi Zq n,Zt s,Zs A nk ca,Zs A' ny cb]] w (gj v w):=by
 unfold gj;rw [hv];obtain ⟨T,hT⟩:∃ T,(bD true true kids keys).length=T:=⟨_,rfl⟩
 have hcl:=nN true kids keys;have HLE:=aW (λ i=>r8 true kids keys i);rw [hT,hnk] at hcl;rw [hT] at hb ⊢;obtain ⟨M0,hM0⟩:∃ M0,nk-1=M0:=⟨_,rfl⟩
 rw [hM0] at hcl;have hST:=oC w 6 n s A nk ca A' ny cb M0;have HG:=aW hG;obtain ⟨W0,hW0⟩:∃ W0,(w.alloc (.cells #[Zi Zq 6,Zi Zq n,Zt s,Zs A nk ca,Zs A' ny cb] 25)).alloc (.cells #[Zi Zq (M0:Int)] 3)=W0:=⟨_,rfl⟩
 have HW0:=aW hW0;have HS0:=aW (show eY w #[Zi Zq 6,Zi Zq n,Zt s,Zs A nk ca,Zs A' ny cb] M0 W0 by rw [← hW0];exact hST);have HV:=aW h1;have HR:=aW h6;have HNK:=aW hnk;have HCL:=aW hcl;have HBD:=aW hb;have HGD:=aW hg;have HCM:=aW hC;have HIH:=aW (show ∀ x d,ar x<=N->aN d x=true->au x->∀ (cs:List Value) (F:Nat->Prop) (w:World),VR w F cs x->GOK w->Calls Tryz.prog 103 #[.agg cs.toArray] w (gj x w) from ih);have HLEN:=aW hlen;have HKK:=aW hkk;have HRK:=aW h7;have HNY:=aW hny;clear hlen hkk h7 hny;have HMX:=aW (show (if (1:Int)<(nk:Int) then (nk:Int)-1 else 0)=(M0:Int) by split<;>omega);have HMY:=aW (show max (0:Int) ((nk:Int)-1)=(M0:Int) by omega);have hwx:IntKind.i64.wrap ((nk:Int)-1)=(nk:Int)-1:=by rw [IntKind.wrap_i64];omega
 clear hST hG hW0 h1 h6 hnk hcl hb hg hC ih hT hM0 hv;obtain ⟨c1,f1,l1⟩:=HS0.out.1.rules;go_enter Tryz.func103,Tryz.ntmps103;go_upto_region 2 with (fail)
 first | rw [HMX.out,HW0.out] | rw [HMY.out,HW0.out]
 clear HW0 HMX hwx;go_wp2_with fail;with_reducible refine (iL HS0.out 2 _ _ ?hz ?hk ?hl).mono ?_
 case hz=>rfl
 case hk=>rfl
 case hl=>have:=HCL.out;have:=HBD.out;omega
 rintro e w2 ⟨rfl,h2⟩;have HS2:=aW h2;clear h2 c1 f1 l1;obtain ⟨c2,f2,l2⟩:=HS2.out.1.rules;go_wp2;clear c2 f2 l2;go_loopg [5,49] nk (λ gk s5 s49 wr => ∃ i:Nat,gk=nk-i/\i<=nk/\s49=Zi Zq i/\Hid (eY w #[Zi Zq 6,Zi Zq n,Zt s,Zs A nk ca,Zs A' ny cb] (M0+2+szL true (kids.take i) keys) wr))
 case atStart=>exact ⟨0,rfl,Nat.zero_le _,rfl,aW (by simpa [szL] using HS2.out)⟩
 case round =>
  obtain ⟨i,hgk,hi,rfl,HX⟩:=hrel;have HGK:=aW hgk;clear hgk HS2;obtain ⟨c1,f1,l1⟩:=HX.out.1.rules;by_cases hlt:i<nk
  ·obtain ⟨x,hx⟩:∃ x,kids[i]? = some x:=⟨_,List.getElem?_eq_getElem (by rw [HNK.out];exact hlt)⟩
   have hst:=nB (o:=true) (keys:=keys) hx;have hle:=HLE.out (i+1);have hnx:=(bO hx).2;have hih:=HIH.out x d (by omega) (fO HGD.out hx) (HCM.out x (List.mem_of_getElem? hx));obtain ⟨Cx,hCx⟩:∃ Cx,(bf x).length=Cx:=⟨_,rfl⟩
   obtain ⟨Pre,hPre⟩:∃ Pre,szL true (kids.take i) keys=Pre:=⟨_,rfl⟩
   unfold gj at hih;rw [hCx] at hih;have IHX:=aW hih;obtain ⟨key,hkey⟩:∃ key,keys[i]? = some key:=⟨_,List.getElem?_eq_getElem (by rw [HLEN.out,HNK.out];exact hlt)⟩
   have hkp:=HKK.out key (List.mem_of_getElem? hkey);obtain ⟨bk,ok,rfl,hbk0⟩:=bY HRK.out (by rw [HLEN.out,HNK.out];omega);have hiy:i<ny:=by have:=HLEN.out;have:=HNK.out;have:=HNY.out;omega
   obtain ⟨Qk,hQk⟩:∃ Qk,(eI key).length=Qk:=⟨_,rfl⟩
   have hqs:=λ W (hG:GOK W)=>lg key W hG hkp.1 hkp.2
   rw [hQk] at hqs;have HQS:=aW hqs;have HKC:=aW (λ (W:World) (h:af F w W)=>bB (n:=0) ((HRK.out.keep h).mono λ _ _ _=>trivial) hkey);rw [lE hkey,hQk] at hst;clear hkp hkey hQk hqs;rw [hPre,hCx] at hst;simp only [if_true] at hst;have HV2:=aW (λ (W:World) (h:af F w W)=>aS (HV.out.keep h) (HR.out.keep h) hx);rw [hPre] at HX;rw [hst] at hle;have HST:=aW hst;have HLL:=aW hle;clear hst hle hnx hx hPre hCx hih;have hck:=HKC.out wr (af.of_below HX.out.2.2);have hbk1:bk<wr.heap.size:=Nat.lt_of_lt_of_le hbk0 HX.out.2.2.size;go_wp2_with fail;refine (HQS.out _ (HG.out.keep HX.out.2.2)).mono ?_;rintro e w3 ⟨rfl,hb3⟩;have HX3:=aW (HX.out.bel hb3);clear hb3 hck hbk1 c1 f1 l1;go_wp2_with fail;with_reducible refine (wX HX3.out Qk 1 _ _ _ ?hz ?hy ?hk ?hl).mono ?_
   case hz=>rfl
   case hy=>rfl
   case hk=>rfl
   case hl=>have:=HCL.out;have:=HBD.out;have:=HLL.out;omega
   rintro e w4 ⟨rfl,h4⟩;have HX4:=aW h4;clear h4;obtain ⟨c1,f1,l1⟩:=HX4.out.1.rules;obtain ⟨b,oo,k1,n1,s1,A1,na1,ca1,B1,nb1,cb1,hAe,hb1,hvx,hz⟩:=HV2.out w4 (af.of_below HX4.out.2.2);obtain ⟨z0,z1,z2,z3,z4⟩:=hz w4 (Below.refl _ _);subst hAe;have HVX:=aW hvx;clear hz hvx;go_wp2_with fail;refine (IHX.out _ F w4 HVX.out (HG.out.keep HX4.out.2.2)).mono ?_;rintro e w5 ⟨rfl,hb5⟩;have HX5:=aW (HX4.out.bel hb5);clear hb5 c1 f1 l1 z0 z1 z2 z3 z4 hb1;go_wp2_with fail;with_reducible refine (iL HX5.out Cx _ _ ?hz ?hk ?hl).mono ?_
   case hz=>rfl
   case hk=>rfl
   case hl=>have:=HCL.out;have:=HBD.out;have:=HLL.out;omega
   rintro e w6 ⟨rfl,h6⟩;have HX6:=aW h6;clear h6;go_wp2;go_roundg (nk-(i+1))
   case measure=>rw [HGK.out];omega
   case rel=>exact ⟨i+1,rfl,hlt,by go_num,aW (by rw [HST.out];have h:=HX6.out;simpa [Nat.add_assoc] using h)⟩
  ·obtain rfl:i=nk:=by omega
   have htk:kids.take i=kids:=List.take_of_length_le (by rw [HNK.out];exact Nat.le_refl _);have hfin:M0+2+szL true (kids.take i) keys=T+2:=by rw [htk];have:=HCL.out;omega
   rw [hfin] at HX;obtain ⟨c3,f3,l3⟩:=HX.out.2.1.rules;clear htk hfin;go_wp2;go_ret;exact ⟨rfl,HX.out.2.2⟩
theorem qg (N:Nat) (ih:rS N):rS (N+1):=by
 intro v d hN hg hC cs F w hv hG;have hbk:=kh v hC.ints;have hb7:=ej v d hg hC.lens;have hb6:=hC.nodes;have hb8:cr v<=35184397844480:=by omega
 clear hb7 hb6;obtain ⟨k,n,s,kids,keys⟩:=v;obtain ⟨A,A',ca,cb,css,rfl,h1,h2,h3,h4,h5,h6,h7⟩:=hv.out;obtain ⟨hik,hin,hsl,hkl,hyl,hyt,hck⟩:=hC.out;unfold ar at hN;unfold aN at hg;simp only [Bool.and_eq_true,decide_eq_true_eq] at hg;obtain ⟨hA,hd,hL⟩:=hg;have hk:=aH hA;by_cases hk5:k<5
 ·obtain ⟨e1,e2⟩:=dz hA hk5;have e1:kids=[]:=List.eq_nil_of_length_eq_zero e1;subst e1 e2;exact wi _ k n s A ca A' 0 cb w hG rfl hA hk5 hin hsl
 ·obtain rfl | rfl:k=5∨k=6:=by omega
  ·obtain ⟨rfl,rfl,rfl⟩:=eT hA;have hc:(bf (.mk 5 0 [] kids [])).length=(bD false true kids []).length+2:=by unfold bf;simp
   rw [hc] at hbk;exact wK N ih kids (d-1) (by omega) hL hck 0 _ A _ ca A' _ cb css F w h1 h6 rfl hkl hG (by omega) _ hc
  ·obtain ⟨rfl,rfl,hlen,hko⟩:=dx hA;have hc:(bf (.mk 6 0 [] kids keys)).length=(bD true true kids keys).length+2:=by unfold bf;simp
   rw [hc] at hbk;exact yk N ih kids (d-1) (by omega) hL hck 0 _ A _ ca A' _ cb css F w h1 h6 rfl hkl hG keys hlen.symm (λ t ht=>⟨(eh.1 hko).1 t ht,hyt t ht⟩) h7 rfl (by omega) _ hc
theorem ua:∀ N,rS N
 | 0=>λ v d h=>by have:=bj v;omega
 | N+1=>qg N (ua N)
end Go.Proofs.YtgolomgmnanbpaaGreatDoor
namespace Go.Proofs.YtgolomgmnanbpaaGreatDoor
section
open Go.RowKit
attribute [local go_sem] aa ac ae ab
def cM (w:World) (t:TypeId) (cs cs':Array Value) (wr:World):Prop:=Blk wr w.heap.size t cs/\Blk wr (w.heap.size+1) t cs'/\Below w.heap.size w wr
theorem cM.new (w:World) (t:TypeId) (cs cs':Array Value):cM w t cs cs' ((w.alloc (.cells cs t)).alloc (.cells cs' t)):=by
 refine ⟨(Blk.new w t cs).alloc _,?_,((Below.refl _ w).alloc (Nat.le_refl _) _).alloc (by simp) _⟩;have:=Blk.new (w.alloc (.cells cs t)) t cs';rw [World.size_alloc] at this;exact this
theorem cM.keep {w wr wx:World} {t:TypeId} {cs cs':Array Value} (h:cM w t cs cs' wr) (hb:Below wr.heap.size wr wx):cM w t cs cs' wx:=⟨h.1.keep hb,h.2.1.keep hb,h.2.2.trans (hb.mono h.2.2.size)⟩
theorem cM.drewN {w wr:World} {t:TypeId} {cs cs':Array Value} (h:cM w t cs cs' wr) (k:Nat):cM w t cs cs' (wr.drewN k):=⟨h.1.drewN k,h.2.1.drewN k,av h.2.2 k⟩
theorem cM.drew {w wr:World} {t:TypeId} {cs cs':Array Value} (h:cM w t cs cs' wr):cM w t cs cs' wr.drew:=⟨h.1.drew,h.2.1.drew,h.2.2.drew⟩
def EqS (p:Prop) (w:World) (e:Ending) (w':World):Prop:=∃ t:Bool,e=.returned (.bool t)/\(t=true ↔ p)/\Below w.heap.size w w'
theorem EqS.no {p:Prop} {w w':World} (h:¬ p) (hb:Below w.heap.size w w'):EqS p w (.returned (.bool false)) w':=⟨false,rfl,by simp [h],hb⟩
theorem EqS.yes {p:Prop} {w w':World} (h:p) (hb:Below w.heap.size w w'):EqS p w (.returned (.bool true)) w':=⟨true,rfl,by simp [h],hb⟩
theorem tV:∀ (N:Nat) (v v':JV),ar v<=N->∀ (d d':Nat) (cs cs':List Value) (F F':Nat->Prop) (w:World),VR w F cs v->VR w F' cs' v'->aN d v=true->aN d' v'=true->au v->au v' ->
  Calls Tryz.prog 56 #[.agg cs.toArray,.agg cs'.toArray] w (EqS (v=v') w)
 | 0,v,_,h,_,_,_,_,_,_,_,_,_,_,_,_,_=>by have:=bj v;omega
 |N+1,.mk k n s kids keys,.mk kq nq sq kidsq keysq,hN,d,d',cs,cs',F,F',w,hv,hv',hR,hR',hC,hC'=>by
  have ih:=tV N;obtain ⟨hal,hdd,hrk⟩:=aK hR;obtain ⟨hal',hdd',hrk'⟩:=aK hR';unfold ar at hN;obtain ⟨_,_,hsl,hkl,hyl,_,hck⟩:=hC.out;obtain ⟨_,_,hsl',hkl',hyl',_,hck'⟩:=hC'.out;obtain ⟨A,B,ca,cb,css,rfl,h1,h2,h3,h4,h5,h6,h7⟩:=hv.out;obtain ⟨A',B',ca',cb',css',rfl,h1',h2',h3',h4',h5',h6',h7'⟩:=hv'.out;have HIH:=aW (λ (i:Nat) (x:JV) (hx:kids[i]? = some x)=>aS h1 h6 hx);have HIH':=aW (λ (i:Nat) (x:JV) (hx:kidsq[i]? = some x)=>aS h1' h6' hx);have HKY:=aW (show RdF w (λ _=>True) B (cQ keys) from h7.mono λ _ _ _=>trivial);have HKY':=aW (show RdF w (λ _=>True) B' (cQ keysq) from h7'.mono λ _ _ _=>trivial);obtain ⟨q1,q2⟩:=keyed hal;obtain ⟨q1',q2'⟩:=keyed hal';have HQ2:=aW q2;have HQ2':=aW q2';have HRK:=aW (bC.1 hrk);have HRK':=aW (bC.1 hrk');have HCK:=aW hck;have HCK':=aW hck';have HI:=aW ih;obtain ⟨nk,hnk⟩:∃ nk,kids.length=nk:=⟨_,rfl⟩
  obtain ⟨ny,hny⟩:∃ ny,keys.length=ny:=⟨_,rfl⟩
  obtain ⟨nkq,hnkq⟩:∃ nkq,kidsq.length=nkq:=⟨_,rfl⟩
  obtain ⟨nyq,hnyq⟩:∃ nyq,keysq.length=nyq:=⟨_,rfl⟩
  rw [hnk] at h2 hkl q1;rw [hny] at h3 hyl q1;rw [hnkq] at h2' hkl' q1';rw [hnyq] at h3' hyl' q1';have HNK:=aW hnk;have HNY:=aW hny;have HNKQ:=aW hnkq;have HNYQ:=aW hnyq;rw [hnk,hny,hnkq,hnyq];obtain ⟨T,hT⟩:∃ T,ay kids=T:=⟨_,rfl⟩
  have HT:=aW hT;rw [hT] at hN;have HTB:=aW (cM.new w 25 #[Zi Zq k,Zi Zq n,Zt ⟨s.toArray⟩,Zs A nk ca,Zs B ny cb] #[Zi Zq kq,Zi Zq nq,Zt ⟨sq.toArray⟩,Zs A' nkq ca',Zs B' nyq cb']);clear hv hv' hal hrk hal' hrk' h1 h1' h4 h4' h5 h5' h6 h6' h7 h7' hnk hny hnkq hnyq hT ih hdd hdd' hR hR' hC hC' hck hck' q2 q2';have y1:w.heap.size≠w.heap.size+1:=by omega
  have y2:w.heap.size+1≠w.heap.size:=by omega
  by_cases ek:k=kq
  case neg =>
   have HNO:=aW (show ¬ (JV.mk k n s kids keys=JV.mk kq nq sq kidsq keysq) from λ e=>by injection e with e _ _ _ _;exact ek e);have hb1:(k == kq)=false:=by simp [ek]
   have hb2:(k != kq)=true:=by simp [ek]
   go_enter Tryz.func56,Tryz.ntmps56;go_wp2;go_ret;exact EqS.no HNO.out HTB.out.2.2
  by_cases en:n=nq
  case neg =>
   have HNO:=aW (show ¬ (JV.mk k n s kids keys=JV.mk kq nq sq kidsq keysq) from λ e=>by injection e with _ e _ _ _;exact en e);have hb1:(n == nq)=false:=by simp [en]
   have hb2:(n != nq)=true:=by simp [en]
   subst ek;go_enter Tryz.func56,Tryz.ntmps56;go_wp2;go_ret;exact EqS.no HNO.out HTB.out.2.2
  by_cases es:s=sq
  case neg =>
   have HNO:=aW (show ¬ (JV.mk k n s kids keys=JV.mk kq nq sq kidsq keysq) from λ e=>by injection e with _ _ e _ _;exact es e);have hb1:(s == sq)=false:=by simp [es]
   have hb2:(s != sq)=true:=by simp [es]
   subst ek en;go_enter Tryz.func56,Tryz.ntmps56;go_wp2;go_ret;exact EqS.no HNO.out HTB.out.2.2
  by_cases el:nk=nkq
  case neg =>
   have HNO:=aW (show ¬ (JV.mk k n s kids keys=JV.mk kq nq sq kidsq keysq) from λ e=>by injection e with _ _ _ e _;exact el (by rw [← HNK.out,← HNKQ.out,e]));have hb1:((nk:Int) == nkq)=false:=by simp;omega
   have hb2:((nk:Int) != nkq)=true:=by simp;omega
   subst ek en es;go_enter Tryz.func56,Tryz.ntmps56;go_wp2;go_ret;exact EqS.no HNO.out HTB.out.2.2
  subst ek en es el;obtain ⟨PP,hPP⟩:∃ PP:Prop,(JV.mk k n s kids keys=JV.mk k n s kidsq keysq)=PP:=⟨_,rfl⟩
  rw [hPP];have HPN:=aW (show (kids≠kidsq∨keys≠keysq)->¬ PP by rw [← hPP];intro h e;injection e with _ _ _ e1 e2;rcases h with h | h;exact h e1;exact h e2);have HPY:=aW (show kids=kidsq->keys=keysq->PP by rw [← hPP];intro h e;rw [h,e]);clear hPP;have hcs:(k == 6)=true/\nk=ny/\nk=nyq∨(k == 6)=false/\Hid (keys=keysq):=by
   by_cases h:k=6
   ·exact .inl ⟨by simpa using h,(q1 h).symm,(q1' h).symm⟩
   ·exact .inr ⟨by simpa using h,aW (by rw [HQ2.out h,HQ2'.out h])⟩
  clear q1 q1';go_enter Tryz.func56,Tryz.ntmps56;go_wp2;go_loopg [5] nk (λ gk s5 wr => ∃ i:Nat,i<=nk/\gk=nk-i/\s5=Zi Zq i/\Hid (kids.take i=kidsq.take i/\((k == 6)=true->keys.take i=keysq.take i))/\Hid (cM w 25 #[Zi Zq k,Zi Zq n,Zt ⟨s.toArray⟩,Zs A nk ca,Zs B ny cb] #[Zi Zq k,Zi Zq n,Zt ⟨s.toArray⟩,Zs A' nk ca',Zs B' nyq cb'] wr))
  case atStart=>exact ⟨0,Nat.zero_le _,rfl,by go_num,aW ⟨rfl,λ _=>rfl⟩,HTB⟩
  case round =>
   obtain ⟨i,hi,hgk,rfl,HSM,HB⟩:=hrel;have HG:=aW hgk;clear hgk HTB;obtain ⟨c1,f1,l1⟩:=HB.out.1.rules;obtain ⟨c2,f2,l2⟩:=HB.out.2.1.rules;have z0:=c1 0;have z3:=c1 3;have z4:=c1 4;have u3:=c2 3;have u4:=c2 4;simp at z0 z3 z4 u3 u4;by_cases hlt:i<nk
   ·obtain ⟨x,hx⟩:∃ x,kids[i]? = some x:=⟨_,List.getElem?_eq_getElem (by rw [HNK.out];exact hlt)⟩
    obtain ⟨y,hy⟩:∃ y,kidsq[i]? = some y:=⟨_,List.getElem?_eq_getElem (by rw [HNKQ.out];exact hlt)⟩
    obtain ⟨b,o,k1,n1,s1,A1,na1,ca1,B1,nb1,cb1,rfl,hb,hvx,hz⟩:=HIH.out i x hx;obtain ⟨b',o',k2,n2,s2,A2,na2,ca2,B2,nb2,cb2,rfl,hb',hvx',hz'⟩:=HIH'.out i y hy;obtain ⟨q0,q1,q2,q3,q4⟩:=hz _ HB.out.2.2;obtain ⟨p0,p1,p2,p3,p4⟩:=hz' _ HB.out.2.2;obtain ⟨hn1,hn2⟩:=bO hx;have hn4:=HT.out;have hcl:=HI.out x y (by omega) (d-1) (d'-1) _ _ F F' _ (hvx.bel HB.out.drew.2.2) (hvx'.bel HB.out.drew.2.2) (HRK.out x (List.mem_of_getElem? hx)) (HRK'.out y (List.mem_of_getElem? hy)) (HCK.out x (List.mem_of_getElem? hx)) (HCK'.out y (List.mem_of_getElem? hy));have HCL:=aW hcl;have HZ:=aW hz;have HZ':=aW hz';have HXY:=aW (show x=y->kids.take (i+1)=kidsq.take (i+1) from λ e=>by rw [List.take_add_one,List.take_add_one,HSM.out.1,hx,hy,e]);have HXN:=aW (show x≠y->¬ PP from λ e=>HPN.out (.inl λ h=>e (by rw [h,hy] at hx;exact (Option.some.inj hx).symm)));clear hcl hz hz' hvx hvx' hx hy hn1 hn2 hn4 c1 c2;rcases hcs with ⟨hk6,rfl,rfl⟩ | ⟨hk6,HKK⟩
    ·obtain ⟨t,ht⟩:∃ t,keys[i]? = some t:=⟨_,List.getElem?_eq_getElem (by rw [HNY.out];exact hlt)⟩
     obtain ⟨u,hu⟩:∃ u,keysq[i]? = some u:=⟨_,List.getElem?_eq_getElem (by rw [HNYQ.out];exact hlt)⟩
     obtain ⟨d1,o1,rfl,hd1⟩:=bY HKY.out (by rw [HNY.out];omega);obtain ⟨d2,o2,rfl,hd2⟩:=bY HKY'.out (by rw [HNYQ.out];omega);have HC1:=aW (λ W (h:Below w.heap.size w W)=>bB (n:=0) (HKY.out.keep (af.of_below h)) ht);have HC2:=aW (λ W (h:Below w.heap.size w W)=>bB (n:=0) (HKY'.out.keep (af.of_below h)) hu);have x1:=HC1.out _ HB.out.2.2;have x2:=HC2.out _ HB.out.2.2;have HTU:=aW (show t=u->keys.take (i+1)=keysq.take (i+1) from λ e=>by rw [List.take_add_one,List.take_add_one,HSM.out.2 hk6,ht,hu,e]);have HTN:=aW (show t≠u->¬ PP from λ e=>HPN.out (.inr λ h=>e (by rw [h,hu] at ht;exact (Option.some.inj ht).symm)));clear ht hu;by_cases htu:t=u
     ·subst htu;have HKN:=aW (HTU.out rfl);clear HTU HTN;go_wp2;go_region_held3 (λ w'=>w'.cell? ⟨w.heap.size,0,none⟩=some (Zi Zq k)/\w'.cell? ⟨w.heap.size,3,none⟩=some (Zs (some ⟨b,o,none⟩) nk ca)/\w'.cell? ⟨w.heap.size,4,none⟩=some (Zs (some ⟨d1,o1,none⟩) nk cb)/\w'.cell? ⟨w.heap.size+1,3,none⟩=some (Zs (some ⟨b',o',none⟩) nk ca')/\w'.cell? ⟨w.heap.size+1,4,none⟩=some (Zs (some ⟨d2,o2,none⟩) nk cb') /\
      w'.cell? ⟨d1,o1+i,none⟩=some (Zt ⟨t.toArray⟩)/\w'.cell? ⟨d2,o2+i,none⟩=some (Zt ⟨t.toArray⟩) /\
      w'.cell? ⟨b,o+i*5,none⟩=some (Zi Zq k1)/\w'.cell? ⟨b,o+i*5+1,none⟩=some (Zi Zq n1)/\w'.cell? ⟨b,o+i*5+2,none⟩=some (Zt s1)/\w'.cell? ⟨b,o+i*5+3,none⟩=some (Zs A1 na1 ca1)/\w'.cell? ⟨b,o+i*5+4,none⟩=some (Zs B1 nb1 cb1) /\
      w'.cell? ⟨b',o'+i*5,none⟩=some (Zi Zq k2)/\w'.cell? ⟨b',o'+i*5+1,none⟩=some (Zi Zq n2)/\w'.cell? ⟨b',o'+i*5+2,none⟩=some (Zt s2)/\w'.cell? ⟨b',o'+i*5+3,none⟩=some (Zs A2 na2 ca2)/\w'.cell? ⟨b',o'+i*5+4,none⟩=some (Zs B2 nb2 cb2)) (go_keep)
       ((go_at_call 56;refine HCL.out.mono ?_;rintro e w2 ⟨tt,rfl,htt,hb2⟩;have hB2:=HB.out.drew.keep hb2;have e0:=hB2.1.cell 0;have e3:=hB2.1.cell 3;have e4:=hB2.1.cell 4;have r3:=hB2.2.1.cell 3;have r4:=hB2.2.1.cell 4;simp at e0 e3 e4 r3 r4;have x3:=HC1.out _ hB2.2.2;have x4:=HC2.out _ hB2.2.2;obtain ⟨v0,v1,v2,v3,v4⟩:=HZ.out _ hB2.2.2;obtain ⟨t0,t1,t2,t3,t4⟩:=HZ'.out _ hB2.2.2))
      have HB2:=aW hB2;have HTT:=aW htt;clear hB2 hb2 htt;cases tt with
      |true =>
       go_wp2;go_roundg (nk-(i+1))
       case measure=>rw [HG.out];omega
       case rel=>exact ⟨i+1,hlt,rfl,by go_num,aW ⟨HXY.out (HTT.out.1 (by trivial)),λ _=>HKN.out⟩,HB2⟩
      |false =>
       have HF:=aW (HXN.out (λ e=>by have:=HTT.out.2 e;cases this));go_wp2;go_ret;exact EqS.no HF.out HB2.out.2.2
     ·have HF:=aW (HTN.out htu);have hb1:(t == u)=false:=by simp [htu]
      have hb2:(t != u)=true:=by simp [htu]
      clear HTU HTN HKY HKY' HIH HIH' HCL HI;go_wp2;go_quiet (fail);go_wp2;go_ret;exact EqS.no HF.out (HB.out.drewN nq).2.2
    ·go_wp2;refine wp_region_held_drew (S:=λ w'=>w'.cell? ⟨w.heap.size,0,none⟩=some (Zi Zq k)/\w'.cell? ⟨w.heap.size,3,none⟩=some (Zs (some ⟨b,o,none⟩) nk ca)/\w'.cell? ⟨w.heap.size+1,3,none⟩=some (Zs (some ⟨b',o',none⟩) nk ca') /\
           w'.cell? ⟨b,o+i*5,none⟩=some (Zi Zq k1)/\w'.cell? ⟨b,o+i*5+1,none⟩=some (Zi Zq n1)/\w'.cell? ⟨b,o+i*5+2,none⟩=some (Zt s1)/\w'.cell? ⟨b,o+i*5+3,none⟩=some (Zs A1 na1 ca1)/\w'.cell? ⟨b,o+i*5+4,none⟩=some (Zs B1 nb1 cb1) /\
           w'.cell? ⟨b',o'+i*5,none⟩=some (Zi Zq k2)/\w'.cell? ⟨b',o'+i*5+1,none⟩=some (Zi Zq n2)/\w'.cell? ⟨b',o'+i*5+2,none⟩=some (Zt s2)/\w'.cell? ⟨b',o'+i*5+3,none⟩=some (Zs A2 na2 ca2)/\w'.cell? ⟨b',o'+i*5+4,none⟩=some (Zs B2 nb2 cb2)) (by kernel_rfl) (by exact ⟨z0,z3,u3,q0,q1,q2,q3,q4,p0,p1,p2,p3,p4⟩) (λ hHeld=>?_)
     refine tA 0 41 (Zp (some ⟨w.heap.size,0,none⟩)) rfl ?_;refine tA 1 42 (Zi Zq k) rfl ?_;refine tA 2 43 (.bool false) rfl ?_;refine tA 3 44 (.bool false) rfl ?_;refine tN 4 45 undef rfl ?_;refine tN 5 46 undef rfl ?_;refine tN 6 47 undef rfl ?_;refine tN 7 48 undef rfl ?_;refine tN 8 49 undef rfl ?_;refine tN 9 50 undef rfl ?_;refine tN 10 51 undef rfl ?_;refine tN 11 52 undef rfl ?_;refine tN 12 53 undef rfl ?_;refine tN 13 54 undef rfl ?_;refine tN 14 55 undef rfl ?_;refine tA 15 56 (.bool false) rfl ?_;refine tA 16 57 (.bool false) rfl ?_;refine tA 17 58 (Zp (some ⟨w.heap.size,3,none⟩)) rfl ?_;refine tA 18 59 (Zs (some ⟨b,o,none⟩) nk ca) rfl ?_;refine tA 19 60 (Zi Zq i) rfl ?_;refine tA 20 61 (Zp (some ⟨b,o+i*5,none⟩)) rfl ?_;refine tA 21 62 (.agg #[Zi Zq k1,Zi Zq n1,Zt s1,Zs A1 na1 ca1,Zs B1 nb1 cb1]) rfl ?_;refine tA 22 63 (Zp (some ⟨w.heap.size+1,3,none⟩)) rfl ?_;refine tA 23 64 (Zs (some ⟨b',o',none⟩) nk ca') rfl ?_;refine tA 24 65 (Zi Zq i) rfl ?_;refine tA 25 66 (Zp (some ⟨b',o'+i*5,none⟩)) rfl ?_;refine tA 26 67 (.agg #[Zi Zq k2,Zi Zq n2,Zt s2,Zs A2 na2 ca2,Zs B2 nb2 cb2]) rfl ?_;refine aV 27 68 rfl (λ K hK=>?_);go_simp;refine HCL.out.mono ?_;rintro e w2 ⟨tt,rfl,htt,hb2⟩;have hB2:=HB.out.drew.keep hb2;have e0:=hB2.1.cell 0;have e3:=hB2.1.cell 3;have r3:=hB2.2.1.cell 3;simp at e0 e3 r3;obtain ⟨v0,v1,v2,v3,v4⟩:=HZ.out _ hB2.2.2;obtain ⟨t0,t1,t2,t3,t4⟩:=HZ'.out _ hB2.2.2;refine hK.out _ _ (⟨e0,e3,r3,v0,v1,v2,v3,v4,t0,t1,t2,t3,t4⟩) (λ hHeld2=>?_);clear hK K hHeld
     try simp only [pU]
     refine tA 28 69 (.bool (!tt)) rfl ?_;refine tA 29 70 (.bool (!tt)) rfl ?_;refine aX ?_;have HB2:=aW hB2;have HTT:=aW htt;clear hB2 hb2 htt;cases tt with
     |true =>
      go_wp2;go_roundg (nk-(i+1))
      case measure=>rw [HG.out];omega
      case rel=>exact ⟨i+1,hlt,rfl,by go_num,aW ⟨HXY.out (HTT.out.1 (by trivial)),λ e=>absurd (hk6.symm.trans e) (by decide)⟩,HB2⟩
     |false =>
      have HF:=aW (HXN.out (λ e=>by have:=HTT.out.2 e;cases this));go_wp2;go_ret;exact EqS.no HF.out HB2.out.2.2
   ·obtain rfl:i=nk:=by omega
    have HF:=aW (show PP by
     have e1:=HSM.out.1;rw [List.take_of_length_le (Nat.le_of_eq HNK.out),List.take_of_length_le (Nat.le_of_eq HNKQ.out)] at e1;refine HPY.out e1 ?_;rcases hcs with ⟨h6,h7,h8⟩ | ⟨_,h⟩
     ·have e2:=HSM.out.2 h6;rwa [List.take_of_length_le (Nat.le_of_eq (HNY.out.trans h7.symm)),List.take_of_length_le (Nat.le_of_eq (HNYQ.out.trans h8.symm))] at e2
     ·exact h.out)
    clear hcs;go_wp2;go_ret;exact EqS.yes HF.out HB.out.2.2
theorem vu (v v':JV) (cs cs':List Value) (F F':Nat->Prop) (w:World) (hv:VR w F cs v) (hv':VR w F' cs' v') (hC:au v) (hC':au v') :
  Calls Tryz.prog 18 #[.agg cs.toArray,.agg cs'.toArray] w (EqS (good v=true/\good v'=true/\v=v') w):=by
 have H1:=aW (λ W (h:Below w.heap.size w W)=>gz v cs F W (hv.bel h) hC);have H2:=aW (λ W (h:Below w.heap.size w W)=>gz v' cs' F' W (hv'.bel h) hC');have H3:=aW (λ W (h:Below w.heap.size w W) (g:good v=true) (g':good v'=true)=>tV _ v v' (Nat.le_refl _) 8 8 cs cs' F F' W (hv.bel h) (hv'.bel h) (by unfold good at g;rw [Bool.and_eq_true] at g;exact g.1) (by unfold good at g';rw [Bool.and_eq_true] at g';exact g'.1) hC hC');obtain ⟨k0,n0,s0,A0,na0,ca0,B0,nb0,cb0,rfl⟩:=hv.form;obtain ⟨k1,n1,s1,A1,na1,ca1,B1,nb1,cb1,rfl⟩:=hv'.form;have HB:=aW (cM.new w 25 #[Zi Zq k0,Zi Zq n0,Zt s0,Zs A0 na0 ca0,Zs B0 nb0 cb0] #[Zi Zq k1,Zi Zq n1,Zt s1,Zs A1 na1 ca1,Zs B1 nb1 cb1]);clear hv hv' hC hC';obtain ⟨g,hg⟩:∃ g,good v=g:=⟨_,rfl⟩
 obtain ⟨g',hg'⟩:∃ g',good v'=g':=⟨_,rfl⟩
 rw [hg] at H1 H3 ⊢;rw [hg'] at H2 H3 ⊢;clear hg hg';cases g with
 |false =>
  go_enter Tryz.func18,Tryz.ntmps18;go_wp2_with fail;refine (H1.out _ HB.out.2.2).mono ?_;rintro e w1 ⟨rfl,hb1⟩;have HB1:=aW (HB.out.keep hb1);clear hb1;go_wp2;go_ret;exact EqS.no (λ e=>by cases e.1) HB1.out.2.2
 | true =>
 cases g' with
 |false =>
  go_enter Tryz.func18,Tryz.ntmps18;go_wp2_with fail;refine (H1.out _ HB.out.2.2).mono ?_;rintro e w1 ⟨rfl,hb1⟩;have HB1:=aW (HB.out.keep hb1);clear hb1;obtain ⟨c1,f1,l1⟩:=HB1.out.1.rules;obtain ⟨c2,f2,l2⟩:=HB1.out.2.1.rules;go_wp2_with fail;refine (H2.out _ HB1.out.2.2).mono ?_;rintro e w2 ⟨rfl,hb2⟩;have HB2:=aW (HB1.out.keep hb2);clear hb2;go_wp2;go_ret;exact EqS.no (λ e=>by cases e.2.1) HB2.out.2.2
 |true =>
  go_enter Tryz.func18,Tryz.ntmps18;go_wp2_with fail;refine (H1.out _ HB.out.2.2).mono ?_;rintro e w1 ⟨rfl,hb1⟩;have HB1:=aW (HB.out.keep hb1);clear hb1;obtain ⟨c1,f1,l1⟩:=HB1.out.1.rules;obtain ⟨c2,f2,l2⟩:=HB1.out.2.1.rules;go_wp2_with fail;refine (H2.out _ HB1.out.2.2).mono ?_;rintro e w2 ⟨rfl,hb2⟩;have HB2:=aW (HB1.out.keep hb2);clear hb2 c1 f1 l1 c2 f2 l2;obtain ⟨c1,f1,l1⟩:=HB2.out.1.rules;obtain ⟨c2,f2,l2⟩:=HB2.out.2.1.rules;go_wp2_with fail;refine (H3.out _ HB2.out.2.2 (by trivial) (by trivial)).mono ?_;rintro e w3 ⟨tt,rfl,htt,hb3⟩;have HB3:=aW (HB2.out.keep hb3);have HTT:=aW htt;clear hb3 htt;go_wp2;go_ret;exact ⟨tt,rfl,by rw [HTT.out];simp,HB3.out.2.2⟩
end
end Go.Proofs.YtgolomgmnanbpaaGreatDoor
