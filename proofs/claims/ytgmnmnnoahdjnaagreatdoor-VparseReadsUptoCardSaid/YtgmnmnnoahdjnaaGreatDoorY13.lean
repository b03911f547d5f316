import Derived.Test.YtgmnmnnoahdjnaaGreatDoorY09
set_option maxRecDepth 100000
set_option maxHeartbeats 16000000
set_option linter.unusedVariables false
set_option linter.unusedSimpArgs false
namespace Go.Proofs.YtgmnmnnoahdjnaaGreatDoor
section
open Go.RowKit
attribute [local go_sem] aa ac ae ab
def zh (l:List UInt8) (w:World) (e:Ending) (w':World):Prop:=e=.returned (.string ⟨l.toArray⟩)/\Below w.heap.size w w'
def po (w:World) (g:Nat) (k:Nat) (ds:List UInt8):Prop:=∃ pre:List Value,pre.length=k/\k+ds.length=20/\Blk w g 221 (pre++aq ds).toArray
theorem po.put {w:World} {g k:Nat} {ds:List UInt8} (h:po w g (k+1) ds) (c:UInt8):po (w.setCell ⟨g,k,none⟩ (.int .u8 c.toNat)) g k (c::ds):=by
 obtain ⟨pre,h1,h2,h3⟩:=h;have hne:pre≠[]:=by intro e;rw [e] at h1;simp at h1
 obtain ⟨p,x,rfl⟩:∃ p x,pre=p++[x]:=⟨pre.dropLast,pre.getLast hne,(List.dropLast_concat_getLast hne).symm⟩
 have h1:p.length=k:=by simpa using h1
 refine ⟨p,h1,by simp;omega,?_⟩;have:=h3.set_ k (.int .u8 c.toNat);have e:(p++[x]++aq ds).toArray.setIfInBounds k (.int .u8 c.toNat)=(p++aq (c::ds)).toArray:=by
  simp only [List.setIfInBounds_toArray,List.append_assoc];rw [List.set_append_right _ _ (by omega),h1,Nat.sub_self];simp [aq]
 rw [e] at this;exact this
theorem po.bs {w:World} {g k:Nat} {ds:List UInt8} (h:po w g k ds):BS w (.slice (some ⟨g,k,none⟩) ds.length ds.length) ds:=by
 obtain ⟨pre,h1,h2,h3⟩:=h;refine ⟨_,_,rfl,Nat.le_refl _,λ _=>⟨g,k,rfl,h3.lt,λ i hi=>?_⟩⟩;rw [h3.cell];simp only [List.getElem?_toArray];rw [List.getElem?_append_right (by omega),h1,show k+i-k=i from by omega,List.getElem?_eq_getElem hi]
def oE (N m:Nat) (first:Bool) (ds:List UInt8):Prop:=if first=true then ds=[]/\m=N else ds≠[]/\fT N=(if m=0 then [] else fT m)++ds
theorem pY:∀ {N k:Nat},N<10 ^ k->0<k->(fT N).length<=k
 | N,0,h,h0=>by omega
 | N,1,h,_=>by rw [jq (by simpa using h)];simp
 |N,k+2,h,_=>by
  by_cases h10:N<10
  ·rw [jq h10];simp
  ·rw [nJ (by omega),List.length_append];have:=pY (N:=N / 10) (k:=k+1) (by rw [Nat.pow_succ] at h;omega) (by omega);simp;omega
theorem oE.step {N m:Nat} {first:Bool} {ds:List UInt8} (h:oE N m first ds) (hc:first=true∨0<m):oE N (m / 10) false (UInt8.ofNat (48+m % 10)::ds)/\(fT N).length=ds.length+(fT m).length:=by
 unfold oE at h ⊢;have key:fT N=fT m++ds:=by
  cases first with
  | true=>simp only [if_true] at h;rw [h.1,h.2,List.append_nil]
  |false =>
   have hm:m≠0:=by rcases hc with hc | hc;cases hc;omega
   simp only [Bool.false_eq_true,if_false] at h;rw [if_neg hm] at h;exact h.2
 refine ⟨?_,by rw [key,List.length_append];omega⟩;simp only [Bool.false_eq_true,if_false];refine ⟨by simp,?_⟩;rw [key];by_cases h10:m<10
 ·rw [jq h10,if_pos (by omega),Nat.mod_eq_of_lt h10];rfl
 ·rw [nJ (by omega),if_neg (by omega)];simp
theorem oE.done {N m:Nat} {ds:List UInt8} (h:oE N m false ds) (hm:m=0):ds=fT N:=by
 unfold oE at h;simp only [Bool.false_eq_true,if_false] at h;rw [if_pos hm] at h;rw [h.2];rfl
theorem zy (g j:Nat) (hj:j<20) (W:World):(Instr.sliceAt 221 (.pointer (some ⟨g,0,none⟩)) (some (.int .i64 (j:Int))) none none).run Tryz.prog W=.ok (.slice (some ⟨g,j,none⟩) (20-j) (20-j)) W:=by
 have hal:Tryz.prog.arrayLen 221=20:=by kernel_rfl
 rw [run_sliceAt_array_l W 221 ⟨g,0,none⟩ (by kernel_rfl) .i64 (j:Int) (by omega) (by rw [hal];omega)];go_simp;omega
theorem kH (k:Nat) (h:k<(⟨#[48,49,50,51,52,53,54,55,56,57]⟩:ByteArray).size):(⟨#[48,49,50,51,52,53,54,55,56,57]⟩:ByteArray)[k].toNat=(UInt8.ofNat (48+k)).toNat:=by
 have key:∀ k:Fin 10,(⟨#[48,49,50,51,52,53,54,55,56,57]⟩:ByteArray)[k.1].toNat=(UInt8.ofNat (48+k.1)).toNat:=by decide
 exact key ⟨k,h⟩
theorem oX (n:Int) (w:World) (hn:-9223372036854775808<=n/\n<=9223372036854775807):Calls Tryz.prog 158 #[.int .i64 n] w (zh (iZ n) w):=by
 obtain ⟨h0,h1⟩:=hn;obtain ⟨N,hN⟩:∃ N,n.natAbs=N:=⟨_,rfl⟩
 have hNb:N<=9223372036854775808:=by omega
 have hlen:=pY (N:=N) (k:=19) (by omega) (by decide);have HD0:=aW (show po (w.alloc (.cells #[.int .u8 0,.int .u8 0,.int .u8 0,.int .u8 0,.int .u8 0,.int .u8 0,.int .u8 0,.int .u8 0,.int .u8 0,.int .u8 0,.int .u8 0,.int .u8 0,.int .u8 0,.int .u8 0,.int .u8 0,.int .u8 0,.int .u8 0,.int .u8 0,.int .u8 0,.int .u8 0] 221)) w.heap.size 20 [] from
  ⟨[.int .u8 0,.int .u8 0,.int .u8 0,.int .u8 0,.int .u8 0,.int .u8 0,.int .u8 0,.int .u8 0,.int .u8 0,.int .u8 0,.int .u8 0,.int .u8 0,.int .u8 0,.int .u8 0,.int .u8 0,.int .u8 0,.int .u8 0,.int .u8 0,.int .u8 0,.int .u8 0],rfl,rfl,Blk.new _ _ _⟩)
 have HL:=aW hlen;have HN:=aW hN;clear hlen hN;by_cases hneg:n<0
 ·have HE:=aW (show IntKind.u64.wrap (-IntKind.u64.wrap n)=(N:Int) by have:=HN.out;rw [IntKind.wrap_u64,IntKind.wrap_u64];omega);go_enter Tryz.func158,Tryz.ntmps158;go_wp2;rw [HE.out];go_loopg [3,5,6] (2*N+1) (λ gk s3 s5 s6 wr => ∃ (m k:Nat) (first:Bool) (ds:List UInt8),gk=2*m+(if first then 1 else 0)/\s3=.int .u64 m/\s5=.int .i64 k/\s6=.bool first/\m<=N/\Hid (po wr w.heap.size k ds)/\Hid (Below w.heap.size w wr)/\Hid (oE N m first ds))
  case atStart=>exact ⟨N,20,true,[],rfl,rfl,rfl,rfl,Nat.le_refl _,HD0,aW ((Below.refl _ w).alloc (Nat.le_refl _) _),aW ⟨rfl,rfl⟩⟩
  case round =>
   obtain ⟨m,k,first,ds,hgk,rfl,rfl,rfl,hmN,HA,HB,HG⟩:=hrel;have hk20:k+ds.length=20:=by obtain ⟨_,_,h,_⟩:=HA.out;exact h
   obtain ⟨hbf,hbl,hbx⟩:(∀ i,wr.frozen? ⟨w.heap.size,i,none⟩=false)/\w.heap.size<wr.heap.size/\∀ i,i<20->∃ v,wr.cell? ⟨w.heap.size,i,none⟩=some v:=by
    obtain ⟨pre,h1,h2,h⟩:=HA.out;refine ⟨h.rules.2.1,h.rules.2.2,λ i hi=>?_⟩;rw [h.cell];exact ⟨_,Array.getElem?_eq_getElem (by simp [aq,h1];omega)⟩
   by_cases hc:first=true∨0<m
   ·obtain ⟨hs1,hs2⟩:=HG.out.step hc;have HS:=aW hs1;have hmp:=List.length_pos_iff.2 (iJ m);obtain ⟨j,rfl⟩:∃ j,k=j+1:=⟨k-1,by have:=HL.out;omega⟩
    have hj:1<=j/\j<=19:=by have:=HL.out;omega
    have HA2:=aW (HA.out.put (UInt8.ofNat (48+m % 10)));have HB2:=aW (HB.out.setCell (p:=⟨w.heap.size,j,none⟩) (Nat.le_refl _) (.int .u8 (UInt8.ofNat (48+m % 10)).toNat));have HGK:=aW hgk;obtain ⟨vj,hvj⟩:=hbx j (by omega);clear hbx hs1 hs2 hgk hk20;rcases first with _ | _
    ·have hm0:0<m:=by rcases hc with hc | hc;cases hc;exact hc
     clear hc;go_wp2;go_roundg (2*(m / 10))
     case measure=>have:=HGK.out;simp at this;omega
     case rel =>
      refine ⟨m / 10,j,false,_,by simp,congrArg (Value.int .u64) (by omega),rfl,rfl,by omega,?_,?_,HS⟩
      ·rw [kH];exact HA2
      ·rw [kH];exact HB2
    ·clear hc;go_wp2;go_roundg (2*(m / 10))
     case measure=>have:=HGK.out;simp at this;omega
     case rel =>
      refine ⟨m / 10,j,false,_,by simp,congrArg (Value.int .u64) (by omega),rfl,rfl,by omega,?_,?_,HS⟩
      ·rw [kH];exact HA2
      ·rw [kH];exact HB2
   ·obtain rfl:first=false:=by cases first;rfl;exact absurd (.inl rfl) hc
    obtain rfl:m=0:=by omega
    have hds:=HG.out.done rfl;subst hds;have hmp:=List.length_pos_iff.2 (iJ N);clear hgk hc;obtain ⟨j,rfl⟩:∃ j,k=j+1:=⟨k-1,by have:=HL.out;omega⟩
    have hj:j+1<=20:=by omega
    obtain ⟨vj,hvj⟩:=hbx j (by omega);have hA2:=HA.out.put 45;have HB2:=aW (HB.out.setCell (p:=⟨w.heap.size,j,none⟩) (Nat.le_refl _) (.int .u8 45));have hnt:iZ n=45::fT N:=by unfold iZ;rw [if_pos hneg,HN.out]
    have hln:(iZ n).length=20-j:=by rw [hnt,List.length_cons];omega
    have HCV:=aW (show (convert 67 9 (.slice (some ⟨w.heap.size,j,none⟩) (20-j) (20-j))).run Tryz.prog (wr.setCell ⟨w.heap.size,j,none⟩ (.int .u8 45))=.ok (.string ⟨(iZ n).toArray⟩) (wr.setCell ⟨w.heap.size,j,none⟩ (.int .u8 45)) by
     have h:=hA2.bs.conv;rw [← hnt] at h;rw [← hln];exact h)
    clear hbx hA2 hnt hln hk20;have hcv:=HCV.out;have hsl:=zy w.heap.size j (by omega);go_wp2;go_ret;exact ⟨rfl,HB2.out⟩
 ·have hN2:n=(N:Int):=by have:=HN.out;omega
  subst hN2;go_enter Tryz.func158,Tryz.ntmps158;go_wp2;go_loopg [3,5,6] (2*N+1) (λ gk s3 s5 s6 wr => ∃ (m k:Nat) (first:Bool) (ds:List UInt8),gk=2*m+(if first then 1 else 0)/\s3=.int .u64 m/\s5=.int .i64 k/\s6=.bool first/\m<=N/\Hid (po wr w.heap.size k ds)/\Hid (Below w.heap.size w wr)/\Hid (oE N m first ds))
  case atStart=>exact ⟨N,20,true,[],rfl,rfl,rfl,rfl,Nat.le_refl _,HD0,aW ((Below.refl _ w).alloc (Nat.le_refl _) _),aW ⟨rfl,rfl⟩⟩
  case round =>
   obtain ⟨m,k,first,ds,hgk,rfl,rfl,rfl,hmN,HA,HB,HG⟩:=hrel;have hk20:k+ds.length=20:=by obtain ⟨_,_,h,_⟩:=HA.out;exact h
   obtain ⟨hbf,hbl,hbx⟩:(∀ i,wr.frozen? ⟨w.heap.size,i,none⟩=false)/\w.heap.size<wr.heap.size/\∀ i,i<20->∃ v,wr.cell? ⟨w.heap.size,i,none⟩=some v:=by
    obtain ⟨pre,h1,h2,h⟩:=HA.out;refine ⟨h.rules.2.1,h.rules.2.2,λ i hi=>?_⟩;rw [h.cell];exact ⟨_,Array.getElem?_eq_getElem (by simp [aq,h1];omega)⟩
   by_cases hc:first=true∨0<m
   ·obtain ⟨hs1,hs2⟩:=HG.out.step hc;have HS:=aW hs1;have hmp:=List.length_pos_iff.2 (iJ m);obtain ⟨j,rfl⟩:∃ j,k=j+1:=⟨k-1,by have:=HL.out;omega⟩
    have hj:1<=j/\j<=19:=by have:=HL.out;omega
    have HA2:=aW (HA.out.put (UInt8.ofNat (48+m % 10)));have HB2:=aW (HB.out.setCell (p:=⟨w.heap.size,j,none⟩) (Nat.le_refl _) (.int .u8 (UInt8.ofNat (48+m % 10)).toNat));have HGK:=aW hgk;obtain ⟨vj,hvj⟩:=hbx j (by omega);clear hbx hs1 hs2 hgk hk20;rcases first with _ | _
    ·have hm0:0<m:=by rcases hc with hc | hc;cases hc;exact hc
     clear hc;go_wp2;go_roundg (2*(m / 10))
     case measure=>have:=HGK.out;simp at this;omega
     case rel =>
      refine ⟨m / 10,j,false,_,by simp,congrArg (Value.int .u64) (by omega),rfl,rfl,by omega,?_,?_,HS⟩
      ·rw [kH];exact HA2
      ·rw [kH];exact HB2
    ·clear hc;go_wp2;go_roundg (2*(m / 10))
     case measure=>have:=HGK.out;simp at this;omega
     case rel =>
      refine ⟨m / 10,j,false,_,by simp,congrArg (Value.int .u64) (by omega),rfl,rfl,by omega,?_,?_,HS⟩
      ·rw [kH];exact HA2
      ·rw [kH];exact HB2
   ·obtain rfl:first=false:=by cases first;rfl;exact absurd (.inl rfl) hc
    obtain rfl:m=0:=by omega
    have hds:=HG.out.done rfl;subst hds;have hmp:=List.length_pos_iff.2 (iJ N);clear hgk hc;have hj:k<20:=by omega
    have hnn:¬ (N:Int)<0:=by omega
    have hnt:iZ (N:Int)=fT N:=by unfold iZ;rw [if_neg hnn,Int.natAbs_natCast]
    have hln:(iZ (N:Int)).length=20-k:=by rw [hnt];omega
    have HCV:=aW (show (convert 67 9 (.slice (some ⟨w.heap.size,k,none⟩) (20-k) (20-k))).run Tryz.prog wr=.ok (.string ⟨(iZ (N:Int)).toArray⟩) wr by
     have h:=HA.out.bs.conv;rw [← hnt] at h;rw [← hln];exact h)
    clear hbx hnt hln hk20;have hcv:=HCV.out;have hsl:=zy w.heap.size k hj;go_wp2;go_ret;exact ⟨rfl,HB.out⟩
def qK (B g:Nat) (l:List UInt8) (w:World):Prop:=B<=g/\∃ v,Blk w g 67 #[v]/\w.ownsRow B 5 1 v l.length (aq l)
abbrev ze (g:Nat) (w w':World):Prop:=Lib.OthersKept 5 (some g) w w'
def oF (B g:Nat) (l:List UInt8) (w:World) (e:Ending) (w':World):Prop:=e=.returned (.tuple #[])/\qK B g l w'/\Below B w w'/\ze g w w'
theorem qL (l:List UInt8):∀ u ∈ aq l,u.oneCell'=true:=by
 intro u hu;simp only [aq,List.mem_map] at hu;obtain ⟨c,_,rfl⟩:=hu;rfl
theorem nP {w:World} {B:Nat} {e:TypeId} {v:Value} {n:Nat} {xs:List Value} (h:w.ownsRow B e 1 v n xs):∀ g,v.ownBlock=some g->∃ c fz,w.heap[g]? = some (.cells c e fz):=by
 intro g hg;rcases h.2 with ⟨rfl,_⟩ | ⟨g',cap,cur,rfl,_,hgg,_⟩
 ·simp [Value.ownBlock] at hg
 ·simp [Value.ownBlock] at hg;subst hg;exact ⟨cur,_,hgg⟩
theorem mm (B g:Nat) (l m:List UInt8) (A:Option Addr) (n cap:Nat) (w:World) (hv:qK B g l w) (hA:A=none->n=0) (hn:m.length=n) (hr:Rd w A (aq m)) (hb:l.length+n<=140737488355328) (hBw:B<=w.heap.size) :
  Calls Tryz.prog 186 #[.slice A n cap,.pointer (some ⟨g,0,none⟩)] w (oF B g (l++m) w):=by
 obtain ⟨hBg,v,hblk,hown⟩:=hv;obtain ⟨i0,hi,hz0,hz1,hz2⟩:=info_parts lP;obtain ⟨c1,f1,l1⟩:=hblk.rules;obtain ⟨ao,no,co,rfl⟩:∃ ao no co,v=.slice ao no co:=by
  rcases hown.2 with ⟨hv,_⟩ | ⟨g,cap,cur,hv,_⟩
  ·exact ⟨_,_,_,hv⟩
  ·exact ⟨_,_,_,hv⟩
 have HI:=aW hi;have HO:=aW hown;have HN:=aW hn;have HR:=aW hr;have HA:=aW hA;have HBK:=aW hblk;clear hi hown hn hr hA hblk;go_enter Tryz.func186,Tryz.ntmps186;have HFIN:=aW (λ (v':Value) (w1:World) (hown':w1.ownsRow B 5 1 v' (l.length+n) (aq l++aq m)) (hgr:w.grownBy w1 (Value.slice ao no co).ownBlock) =>
  show ∃ ao' no' co',v'=.slice ao' no' co'/\Blk w1 g 67 #[.slice ao no co]/\oF B g (l++m) w (.returned (.tuple #[])) (w1.setCell ⟨g,0,none⟩ (.slice ao' no' co')) by
   have hne:some g≠(Value.slice ao no co).ownBlock:=dq HO.out HBK.out (by decide);have hk:=HBK.out.grown hgr hne;have hX:ze g w w1:=(Lib.OthersKept.refl _ _ w).grown hgr (nP HO.out);have hb1:Below B w w1:=(Below.refl B w).grown hgr hBw (λ k hk=>(HO.out.lt k hk).1);obtain ⟨ao',no',co',rfl⟩:∃ ao no co,v'=.slice ao no co:=by
    rcases hown'.2 with ⟨hv,_⟩ | ⟨g,cap,cur,hv,_⟩
    ·exact ⟨_,_,_,hv⟩
    ·exact ⟨_,_,_,hv⟩
   have hne':some g≠(Value.slice ao' no' co').ownBlock:=dq hown' hk (by decide);refine ⟨_,_,_,rfl,hk,rfl,⟨hBg,.slice ao' no' co',hk.set_ 0 _,?_⟩,hb1.setCell (p:=⟨g,0,none⟩) hBg _,hX.setCell ⟨g,0,none⟩ rfl _⟩;rw [List.length_append,HN.out,gh];exact hown'.kept (row:=some g) ⟨rfl,rfl,rfl,by simp [World.setCell],λ k _ hk=>Below.heap_setCell _ _ _ _ (λ e=>hk (by simp [e]))⟩ (.inr (λ e=>hne' e.symm)))
 go_wp2_with (at_builtin;refine bD _ rfl _ _ 67 rfl B 5 i0 _ 1 1 Tryz.underlying67 HI.out hz0 hz1 hz2 rfl (by decide) _ _ _ rfl HO.out A n cap HA.out (aq m) rfl (by rw [av,Nat.mul_one];exact HN.out) HR.out (qL m) (by unfold maxLen;omega) (by omega) hBw ?_;intro v' w1 hown' hgr _;obtain ⟨ao',no',co',rfl,hk,hf⟩:=HFIN.out v' w1 hown' hgr;obtain ⟨c2,f2,l2⟩:=hk.rules;have HF:=aW hf;clear hf hown' hgr hk);go_end0;exact HF.out
theorem qK.bel {B g:Nat} {l:List UInt8} {w w':World} (h:qK B g l w) (hb:Below w.heap.size w w'):qK B g l w':=by
 obtain ⟨h1,v,h2,h3⟩:=h;exact ⟨h1,v,h2.keep hb,rC h3 hb⟩
def QSt (B g ib:Nat) (w0:World) (S:ByteArray) (p:Nat) (l:List UInt8) (W:World):Prop:=qK B g l W/\W.heap[ib]? = some (.stringIter S p)/\Below B w0 W/\B<=ib/\B<=W.heap.size
section
variable {B g ib p:Nat} {w0 W W':World} {S:ByteArray} {l m:List UInt8}
theorem QSt.bel (h:QSt B g ib w0 S p l W) (hb:Below W.heap.size W W'):QSt B g ib w0 S p l W':=by
 obtain ⟨h1,h2,h3,h4,h5⟩:=h;exact ⟨h1.bel hb,(hb.block ib (Array.getElem?_eq_some_iff.1 h2).1).trans h2,h3.trans (hb.mono h5),h4,Nat.le_trans h5 hb.size⟩
theorem QSt.alloc (h:QSt B g ib w0 S p l W) (o:Obj):QSt B g ib w0 S p l (W.alloc o):=h.bel ((Below.refl _ W).alloc (Nat.le_refl _) o)
theorem QSt.drew (h:QSt B g ib w0 S p l W):QSt B g ib w0 S p l W.drew:=h.bel (Below.refl _ W).drew
theorem QSt.lay (h:QSt B g ib w0 S p l W) {r:Ending} (hl:oF B g m W r W'):QSt B g ib w0 S p m W':=by
 obtain ⟨h1,h2,h3,h4,h5⟩:=h;obtain ⟨_,k1,k2,k3⟩:=hl;have hne:ib≠g:=by
  rintro rfl;obtain ⟨_,v,hv,_⟩:=h1;unfold Blk at hv;rw [hv] at h2;cases h2
 exact ⟨k1,k3.iter h2 hne,h3.trans k2,h4,Nat.le_trans h5 k2.size⟩
theorem QSt.next (h:QSt B g ib w0 S p l W) (q:Nat):QSt B g ib w0 S q l (W.iterAt ib S q):=by
 obtain ⟨h1,h2,h3,h4,h5⟩:=h;obtain ⟨k1,v,k2,k3⟩:=h1;have hne:g≠ib:=by
  rintro rfl;unfold Blk at k2;rw [k2] at h2;cases h2
 refine ⟨⟨k1,v,(Lib.iterAt_other W ib g S q hne).trans k2,?_⟩,Lib.iterAt_heap W ib S p q h2,Lib.below_iterAt h3 h4 S q,h4,by rw [Lib.iterAt_size];exact h5⟩;refine k3.kept (row:=some ib) ⟨rfl,rfl,rfl,by rw [Lib.iterAt_size];exact Nat.le_refl _,λ k _ hk=>Lib.iterAt_other W ib k S q (λ e=>hk (by rw [e]))⟩ (.inr λ e=>?_);obtain ⟨c,fz,hc⟩:=nP k3 ib e;rw [h2] at hc;cases hc
end
theorem tC (c:Nat):(bQ c).length<=6:=by
 unfold bQ;split
 ·simp
 ·split
  ·simp
  ·have:=eF c;omega
theorem rF:∀ cs:List Nat,(cs.flatMap bQ).length<=6*cs.length
 | []=>by simp
 | c::r=>by have:=tC c;have:=rF r;rw [List.flatMap_cons,List.length_append,List.length_cons];omega
def dx (c k:Nat):Prop:=(1<=k->c≠34)/\(2<=k->c≠92)/\(4<=k->c≠8)/\(5<=k->c≠12)/\(6<=k->c≠10)/\(7<=k->c≠13)/\(8<=k->c≠9)
theorem tn {c:Nat} (h:dx c 8):uB c=none:=by
 simp only [dx] at h;unfold uB;rw [if_neg (by omega),if_neg (by omega),if_neg (by omega),if_neg (by omega),if_neg (by omega),if_neg (by omega),if_neg (by omega)]
theorem zo (k:Nat) (h:k<(⟨#[48,49,50,51,52,53,54,55,56,57,97,98,99,100,101,102]⟩:ByteArray).size):(⟨#[48,49,50,51,52,53,54,55,56,57,97,98,99,100,101,102]⟩:ByteArray)[k].toNat=(UInt8.ofNat (uH k)).toNat:=by
 have key:∀ k:Fin 16,(⟨#[48,49,50,51,52,53,54,55,56,57,97,98,99,100,101,102]⟩:ByteArray)[k.1].toNat=(UInt8.ofNat (uH k.1)).toNat:=by decide
 exact key ⟨k,h⟩
theorem Rd.lit {W:World} {t:TypeId} {cs:Array Value} {xs:List Value} (h:xs=cs.toList):Rd (W.alloc (.cells cs t)) (some ⟨W.heap.size,0,none⟩) xs:=by
 subst h;exact Rd.of_blk (Blk.new W t cs)
theorem fK {B g ib p:Nat} {w0:World} {S:ByteArray} {l:List UInt8} (cs:List UInt8) (arr:Array Value) (n k:Nat) (W:World) (hq:QSt B g ib w0 S p l W) (ha:arr=(aq cs).toArray) (hn:cs.length=n) (hk:k=W.heap.size) (hb:l.length+6<=140737488355328) (hn6:n<=6) :
  Calls Tryz.prog 186 #[.slice (some ⟨k,0,none⟩) n n,.pointer (some ⟨g,0,none⟩)] (W.alloc (.cells arr 5)) λ e w'=>e=.returned (.tuple #[])/\QSt B g ib w0 S p (l++cs) w':=by
 subst hk ha hn;refine (mm B g l cs _ _ _ _ ((hq.alloc _).1) (by intro h;cases h) rfl (Rd.lit (by simp)) (by omega) ((hq.alloc _).2.2.2.2)).mono ?_;intro e w' h;exact ⟨h.1,(hq.alloc _).lay h⟩
theorem xd {S:ByteArray} {s u:List UInt8} {p:Nat} (hS:S.data.toList=s) (h:s.drop p=u):S.data.toList.drop p=u:=by rw [hS];exact h
def rZ (s:List UInt8) (w:World) (e:Ending) (w':World):Prop:=e=.returned (.tuple #[.string ⟨(mX s).toArray⟩,.int .i64 0])/\Below w.heap.size w w'
theorem rD (s:List UInt8) (w:World) (hG:GOK w) (ht:cA s=true) (hl:s.length<=4194304):Calls Tryz.prog 159 #[.string ⟨s.toArray⟩] w (rZ s w):=by
 obtain ⟨hcp,hcs⟩:=qA ht;obtain ⟨cs,hcse⟩:∃ cs,ig s=cs:=⟨_,rfl⟩
 rw [hcse] at hcp hcs;have hcl:=ws hcp;rw [← hcs] at hcl;have HCK:=aW (jw s w hG hl);have HE:=aW (show fe s=0 by unfold fe;rw [if_pos ht]);have HQT:=aW (show mX s=34::cs.flatMap bQ++[34] by unfold mX;rw [hcse]);have HCP:=aW hcp;have HCS:=aW hcs;have HCL:=aW hcl;obtain ⟨S,hS⟩:∃ S:ByteArray,S=⟨s.toArray⟩:=⟨_,rfl⟩
 have HSL:=aW (show S.data.toList=s by rw [hS]);have HSZ:=aW (show S.size=s.length by rw [hS];simp [ByteArray.size]);rw [← hS] at HCK ⊢;clear hcp hcs hG ht hS hcse hcl;obtain ⟨B,hB⟩:∃ B,B=w.heap.size:=⟨_,rfl⟩
 have HBB:=aW hB;clear hB;go_enter Tryz.func159,Tryz.ntmps159;go_wp2;go_step3;go_wp2_with fail;refine HCK.out.mono ?_;rintro e w1 ⟨⟨pz,rfl⟩,hb1⟩;rw [HE.out];have HST0:Hid (QSt B (w1.heap.size+1) (w1.heap.size+1+1) w S 0 [34] (((w1.alloc (.cells #[.int .u8 34] 5)).alloc (.cells #[.slice (some ⟨w1.heap.size,0,none⟩) 1 1] 67)).iter S 0)):=aW (by
  have hB1:B<=w1.heap.size:=by rw [HBB.out];exact hb1.size
  have hb9:Below B w (((w1.alloc (.cells #[.int .u8 34] 5)).alloc (.cells #[.slice (some ⟨w1.heap.size,0,none⟩) 1 1] 67)).iter S 0):=by
   rw [← HBB.out] at hb1;exact ((hb1.alloc hB1 _).alloc (by simp;omega) _).alloc (by simp;omega) _
  have ho:(w1.alloc (.cells #[.int .u8 34] 5)).ownsRow B 5 1 (.slice (some ⟨w1.heap.size,0,none⟩) 1 1) 1 (aq [34]) :=
   ⟨rfl,.inr ⟨w1.heap.size,1,_,rfl,hB1,Blk.new w1 5 #[.int .u8 34],Nat.le_refl _,by decide,rfl,rfl⟩⟩
  have hk:=Blk.new (w1.alloc (.cells #[.int .u8 34] 5)) 67 #[.slice (some ⟨w1.heap.size,0,none⟩) 1 1];rw [World.size_alloc] at hk;have hO:qK B (w1.heap.size+1) [34] ((w1.alloc (.cells #[.int .u8 34] 5)).alloc (.cells #[.slice (some ⟨w1.heap.size,0,none⟩) 1 1] 67)):=⟨by omega,_,hk,ho.alloc _⟩
  have hi:=World.iter_heap ((w1.alloc (.cells #[.int .u8 34] 5)).alloc (.cells #[.slice (some ⟨w1.heap.size,0,none⟩) 1 1] 67)) S 0;rw [World.size_alloc,World.size_alloc] at hi;exact ⟨hO.bel ((Below.refl _ _).alloc (Nat.le_refl _) _),hi,hb9,by omega,by simp [World.iter];omega⟩)
 clear hb1;go_wp2;go_step3;go_wp2;go_loopg [9] cs.length (λ gk s9 wr => ∃ (p:Nat) (pre suf:List Nat),gk=suf.length/\Hid (cs=pre++suf)/\Hid (s.drop p=suf.flatMap ah)/\p<=s.length/\Hid (QSt B (w1.heap.size+1) (w1.heap.size+1+1) w S p (34::pre.flatMap bQ) wr))
 case atStart=>exact ⟨0,[],cs,rfl,aW rfl,aW (by rw [List.drop_zero];exact HCS.out),Nat.zero_le _,HST0⟩
 case round =>
  obtain ⟨p,pre,suf,hgk,HPS,HD,hp,HQ⟩:=hrel;have HG:=aW hgk;clear hgk HST0;cases suf with
  |nil =>
   have hpe:¬ p<S.size:=by
    have h:=HD.out;have h2:=congrArg List.length h;rw [List.length_drop] at h2;simp at h2;rw [HSZ.out];omega
   have HNX:=aW (λ ty=>Lib.run_next_end_at (P:=Tryz.prog) wr (w1.heap.size+1+1) S p ty HQ.out.2.1 hpe);have hnx:=HNX.out;have hpl:pre=cs:=by rw [HPS.out,List.append_nil]
   subst hpl;have hq6:=rF pre;have hbd:(34::pre.flatMap bQ).length+1<=140737488355328:=by have:=HCL.out;rw [List.length_cons];omega
   have HBD:=aW hbd;clear hpe hq6 hbd;go_wp2_with fail;refine (mm B (w1.heap.size+1) (34::pre.flatMap bQ) [34] _ _ _ _ ((HQ.out.alloc _).1) (by intro h;cases h) rfl (Rd.lit rfl) HBD.out ((HQ.out.alloc _).2.2.2.2)).mono ?_;rintro e w5 hlay;have HQ5:=aW ((HQ.out.alloc _).lay hlay);obtain ⟨rfl,⟨_,v,hbv,hov⟩,_,_⟩:=hlay;obtain ⟨A5,c5,rfl,hr5,hc5⟩:=Rd.of_own hov;have hcv:=BS.conv (show BS w5 (.slice A5 (34::pre.flatMap bQ++[34]).length c5) (34::pre.flatMap bQ++[34]) from ⟨_,_,rfl,hr5,hc5⟩);rw [← HQT.out] at hcv;obtain ⟨n5,hn5⟩:∃ n5,(34::pre.flatMap bQ++[34]).length=n5:=⟨_,rfl⟩
   obtain ⟨n6,hn6⟩:∃ n6,(mX s).length=n6:=⟨_,rfl⟩
   rw [hn6] at hcv;rw [← HQT.out,hn6] at hbv;obtain ⟨c6,f6,l6⟩:=hbv.rules;clear hov hbv hr5 hc5 hn5 hn6 hnx;go_wp2;rw [Exit.noGoto_ret];go_ret2;exact ⟨rfl,by rw [← HBB.out];exact HQ5.out.2.2.1⟩
  |cons c suf =>
   have hcc:=HCP.out c (by rw [HPS.out];simp);have hlt:p<S.size:=by
    have h2:=congrArg List.length HD.out;rw [List.length_drop,List.flatMap_cons,List.length_append] at h2;have:=(fR c [] hcc).2.1;rw [HSZ.out];omega
   have hdec:=sZ hcc (xd HSL.out (HD.out.trans List.flatMap_cons));have HNX:=aW (λ ty=>show (Instr.next (.pointer (some ⟨w1.heap.size+1+1,0,none⟩)) true ty).run Tryz.prog wr=.ok (.tuple #[.bool true,.int .i64 p,.int .i32 c]) (wr.iterAt (w1.heap.size+1+1) S (p+(ah c).length)) by
    rw [Lib.run_next_any_at (P:=Tryz.prog) wr (w1.heap.size+1+1) S p ty HQ.out.2.1 hlt,hdec])
   have HQ2:=aW (HQ.out.next (p+(ah c).length));have hnx:=HNX.out;clear hdec hlt;obtain ⟨W3,hW3⟩:∃ W3,wr.iterAt (w1.heap.size+1+1) S (p+(ah c).length)=W3:=⟨_,rfl⟩
   rw [hW3] at HQ2 hnx;have hbd:(34::pre.flatMap bQ).length+6<=140737488355328:=by have:=HCL.out;have:=rF pre;have:=congrArg List.length HPS.out;rw [List.length_append,List.length_cons] at this;rw [List.length_cons];omega
   have hp2:p+(ah c).length<=s.length:=by
    have h2:=congrArg List.length HD.out;rw [List.length_drop,List.flatMap_cons,List.length_append] at h2;have:=(fR c [] hcc).2.1;omega
   have HD2:=aW (show s.drop (p+(ah c).length)=suf.flatMap ah by rw [← List.drop_drop,HD.out,List.flatMap_cons,List.drop_left]);have HPS2:=aW (show cs=(pre++[c])++suf by rw [HPS.out];simp);have HND:=aW (λ (W:World) (hq:QSt B (w1.heap.size+1) (w1.heap.size+1+1) w S (p+(ah c).length) (34::pre.flatMap bQ++bQ c) W)=>show ∃ (p':Nat) (pre' suf':List Nat),suf.length=suf'.length/\Hid (cs=pre'++suf')/\Hid (s.drop p'=suf'.flatMap ah)/\p'<=s.length/\Hid (QSt B (w1.heap.size+1) (w1.heap.size+1+1) w S p' (34::pre'.flatMap bQ) W) from
    ⟨_,pre++[c],suf,rfl,HPS2,HD2,hp2,aW (by rw [List.flatMap_append,List.flatMap_cons,List.flatMap_nil,List.append_nil];exact hq)⟩)
   have hc21:=(ec c).1 hcc;have HCC:=aW hcc;have HBD:=aW hbd;clear hW3 HNX hbd hp2 hcc;go_wp2_with fail;refine (kM _).mono ?_;rintro e w4 ⟨rfl,hb4⟩;have HQ4:=aW (HQ2.out.bel hb4);clear hb4 hnx;unfold lV;go_wp2;go_loopg [28] 8 (λ gk s28 wx => ∃ k:Nat,gk=8-k/\k<=8/\s28=.int .i64 k/\Hid (dx c k)/\Hid (QSt B (w1.heap.size+1) (w1.heap.size+1+1) w S (p+(ah c).length) (34::pre.flatMap bQ) wx))
   case atStart=>exact ⟨0,rfl,by omega,rfl,aW (by simp [dx]),HQ4⟩
   case round =>
    obtain ⟨k,hgk2,hk8,rfl,HL,HX⟩:=hrel;have HG2:=aW hgk2;clear hgk2 HQ4 HQ2;rcases (by omega:k=0∨k=1∨k=2∨k=3∨k=4∨k=5∨k=6∨k=7∨k=8) with rfl | rfl | rfl | rfl | rfl | rfl | rfl | rfl | rfl
    ·by_cases hh:c=34
     ·subst hh;have hqs:bQ 34=[92,34]:=by decide
      rw [hqs] at HND;clear hqs;go_wp2_with fail;with_reducible refine (fK [92,34] _ 2 _ _ (HX.out.alloc _) ?la ?ln ?lk HBD.out (by decide)).mono ?_
      case la=>rfl
      case ln=>rfl
      case lk=>simp
      rintro e w5 ⟨rfl,hq5⟩;have HQ5:=aW hq5;clear hq5;go_wp2;go_roundg suf.length
      case measure=>rw [HG.out];simp
      case rel=>exact HND.out _ HQ5.out
     ·have e1:((c:Int) == 34)=false:=by simp;omega
      go_wp2;go_roundg 7
      case measure=>rw [HG2.out];omega
      case rel=>exact ⟨1,rfl,by omega,rfl,aW (by have h:=HL.out;simp only [dx] at h ⊢;omega),aW (HX.out.alloc _)⟩
    ·by_cases hh:c=92
     ·subst hh;have hqs:bQ 92=[92,92]:=by decide
      rw [hqs] at HND;clear hqs;go_wp2_with fail;with_reducible refine (fK [92,92] _ 2 _ _ (HX.out.alloc _) ?la ?ln ?lk HBD.out (by decide)).mono ?_
      case la=>rfl
      case ln=>rfl
      case lk=>simp
      rintro e w5 ⟨rfl,hq5⟩;have HQ5:=aW hq5;clear hq5;go_wp2;go_roundg suf.length
      case measure=>rw [HG.out];simp
      case rel=>exact HND.out _ HQ5.out
     ·have e1:((c:Int) == 92)=false:=by simp;omega
      go_wp2;go_roundg 6
      case measure=>rw [HG2.out];omega
      case rel=>exact ⟨2,rfl,by omega,rfl,aW (by have h:=HL.out;simp only [dx] at h ⊢;omega),aW (HX.out.alloc _)⟩
    ·by_cases hh:c=47
     ·subst hh;go_wp2;go_roundg 5
      case measure=>rw [HG2.out];omega
      case rel=>exact ⟨3,rfl,by omega,rfl,aW (by have h:=HL.out;simp only [dx] at h ⊢;omega),aW (HX.out.alloc _)⟩
     ·have e1:((c:Int) == 47)=false:=by simp;omega
      go_wp2;go_roundg 5
      case measure=>rw [HG2.out];omega
      case rel=>exact ⟨3,rfl,by omega,rfl,aW (by have h:=HL.out;simp only [dx] at h ⊢;omega),aW (HX.out.alloc _)⟩
    ·by_cases hh:c=8
     ·subst hh;have hqs:bQ 8=[92,98]:=by decide
      rw [hqs] at HND;clear hqs;go_wp2_with fail;with_reducible refine (fK [92,98] _ 2 _ _ (HX.out.alloc _) ?la ?ln ?lk HBD.out (by decide)).mono ?_
      case la=>rfl
      case ln=>rfl
      case lk=>simp
      rintro e w5 ⟨rfl,hq5⟩;have HQ5:=aW hq5;clear hq5;go_wp2;go_roundg suf.length
      case measure=>rw [HG.out];simp
      case rel=>exact HND.out _ HQ5.out
     ·have e1:((c:Int) == 8)=false:=by simp;omega
      go_wp2;go_roundg 4
      case measure=>rw [HG2.out];omega
      case rel=>exact ⟨4,rfl,by omega,rfl,aW (by have h:=HL.out;simp only [dx] at h ⊢;omega),aW (HX.out.alloc _)⟩
    ·by_cases hh:c=12
     ·subst hh;have hqs:bQ 12=[92,102]:=by decide
      rw [hqs] at HND;clear hqs;go_wp2_with fail;with_reducible refine (fK [92,102] _ 2 _ _ (HX.out.alloc _) ?la ?ln ?lk HBD.out (by decide)).mono ?_
      case la=>rfl
      case ln=>rfl
      case lk=>simp
      rintro e w5 ⟨rfl,hq5⟩;have HQ5:=aW hq5;clear hq5;go_wp2;go_roundg suf.length
      case measure=>rw [HG.out];simp
      case rel=>exact HND.out _ HQ5.out
     ·have e1:((c:Int) == 12)=false:=by simp;omega
      go_wp2;go_roundg 3
      case measure=>rw [HG2.out];omega
      case rel=>exact ⟨5,rfl,by omega,rfl,aW (by have h:=HL.out;simp only [dx] at h ⊢;omega),aW (HX.out.alloc _)⟩
    ·by_cases hh:c=10
     ·subst hh;have hqs:bQ 10=[92,110]:=by decide
      rw [hqs] at HND;clear hqs;go_wp2_with fail;with_reducible refine (fK [92,110] _ 2 _ _ (HX.out.alloc _) ?la ?ln ?lk HBD.out (by decide)).mono ?_
      case la=>rfl
      case ln=>rfl
      case lk=>simp
      rintro e w5 ⟨rfl,hq5⟩;have HQ5:=aW hq5;clear hq5;go_wp2;go_roundg suf.length
      case measure=>rw [HG.out];simp
      case rel=>exact HND.out _ HQ5.out
     ·have e1:((c:Int) == 10)=false:=by simp;omega
      go_wp2;go_roundg 2
      case measure=>rw [HG2.out];omega
      case rel=>exact ⟨6,rfl,by omega,rfl,aW (by have h:=HL.out;simp only [dx] at h ⊢;omega),aW (HX.out.alloc _)⟩
    ·by_cases hh:c=13
     ·subst hh;have hqs:bQ 13=[92,114]:=by decide
      rw [hqs] at HND;clear hqs;go_wp2_with fail;with_reducible refine (fK [92,114] _ 2 _ _ (HX.out.alloc _) ?la ?ln ?lk HBD.out (by decide)).mono ?_
      case la=>rfl
      case ln=>rfl
      case lk=>simp
      rintro e w5 ⟨rfl,hq5⟩;have HQ5:=aW hq5;clear hq5;go_wp2;go_roundg suf.length
      case measure=>rw [HG.out];simp
      case rel=>exact HND.out _ HQ5.out
     ·have e1:((c:Int) == 13)=false:=by simp;omega
      go_wp2;go_roundg 1
      case measure=>rw [HG2.out];omega
      case rel=>exact ⟨7,rfl,by omega,rfl,aW (by have h:=HL.out;simp only [dx] at h ⊢;omega),aW (HX.out.alloc _)⟩
    ·by_cases hh:c=9
     ·subst hh;have hqs:bQ 9=[92,116]:=by decide
      rw [hqs] at HND;clear hqs;go_wp2_with fail;with_reducible refine (fK [92,116] _ 2 _ _ (HX.out.alloc _) ?la ?ln ?lk HBD.out (by decide)).mono ?_
      case la=>rfl
      case ln=>rfl
      case lk=>simp
      rintro e w5 ⟨rfl,hq5⟩;have HQ5:=aW hq5;clear hq5;go_wp2;go_roundg suf.length
      case measure=>rw [HG.out];simp
      case rel=>exact HND.out _ HQ5.out
     ·have e1:((c:Int) == 9)=false:=by simp;omega
      go_wp2;go_roundg 0
      case measure=>rw [HG2.out];omega
      case rel=>exact ⟨8,rfl,by omega,rfl,aW (by have h:=HL.out;simp only [dx] at h ⊢;omega),aW (HX.out.alloc _)⟩
    ·have hesc:=tn HL.out;have hqs:bQ c=(if c<32 then [92,117,48,48,UInt8.ofNat (48+c / 16),UInt8.ofNat (uH (c % 16))] else ah c):=by unfold bQ;rw [hesc]
     clear hesc;by_cases h32:c<32
     ·rw [if_pos h32] at hqs;rw [hqs] at HND;clear hqs hc21;go_wp2_with fail;with_reducible refine (fK [92,117,48,48,UInt8.ofNat (48+c / 16),UInt8.ofNat (uH (c % 16))] _ 6 _ _ HX.out ?la ?ln rfl HBD.out (by decide)).mono ?_
      case la =>
       have e1:=oN8 (48+c / 16) (by omega);rw [zo];simp only [aq,List.map_cons,List.map_nil,e1];rfl
      case ln=>rfl
      rintro e w5 ⟨rfl,hq5⟩;have HQ5:=aW hq5;clear hq5;go_wp2;go_roundg suf.length
      case measure=>rw [HG.out];simp
      case rel=>exact HND.out _ HQ5.out
     ·rw [if_neg h32] at hqs;rw [hqs] at HND;have hen:=tc HCC.out;obtain ⟨T,hT⟩:∃ T,Utf8.encode (c:Int)=T:=⟨_,rfl⟩
      rw [hT] at hen;obtain ⟨capb,Wb,hcvb,hcb1,hcb2,hcb3,hcb4⟩:=fm (P:=Tryz.prog) wr 9 67 5 T Tryz.underlying9 Tryz.underlying67 Tryz.underlying5;have hTs:sl T=ah c:=by rw [hen]
      have hTn:T.size=(ah c).length:=by rw [← hTs,bL]
      rw [hTs] at hcb4;rw [hTn] at hcvb hcb1;have HQ6:=aW (HX.out.bel hcb2);have HRB:=aW hcb4;have HB4:=aW (eF c);obtain ⟨nb,hnb⟩:∃ nb,(ah c).length=nb:=⟨_,rfl⟩
      rw [hnb] at hcvb;have HNB:=aW hnb;have h32i:¬ (c:Int)<32:=by omega
      have HTT:=aW hT;have HCV:=aW hcvb;clear hqs hc21 hen hTs hTn hcb1 hcb2 hcb3 hcb4 hnb hT hcvb h32;go_upto_region 17 with (fail);have hT:=HTT.out;have hcvb:=HCV.out;go_wp2_with fail;clear hT hcvb;refine (mm B (w1.heap.size+1) (34::pre.flatMap bQ) (ah c) _ nb capb Wb HQ6.out.1 (by intro h;cases h) HNB.out HRB.out (by have h1:=HBD.out;have h2:=HB4.out;have h3:=HNB.out;omega) HQ6.out.2.2.2.2).mono ?_;rintro e w5 hlay;have HQ7:=aW (HQ6.out.lay hlay);obtain rfl:=hlay.1;clear hlay;go_wp2;go_roundg suf.length
      case measure=>rw [HG.out];simp
      case rel=>exact HND.out _ HQ7.out
end
end Go.Proofs.YtgmnmnnoahdjnaaGreatDoor
