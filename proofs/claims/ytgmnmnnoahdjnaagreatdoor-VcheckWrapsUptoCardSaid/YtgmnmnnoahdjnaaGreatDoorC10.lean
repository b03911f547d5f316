import Derived.Test.YtgmnmnnoahdjnaaGreatDoorC09
open Go.Value renaming int → Zi, slice → Zs, string → Zt, pointer → Zp
open Go.IntKind renaming i64 → Zq
set_option maxRecDepth 100000
set_option maxHeartbeats 16000000
set_option linter.unusedVariables false
set_option linter.unusedSimpArgs false
namespace Go.Proofs.YtgmnmnnoahdjnaaGreatDoor
section
open Go.RowKit
attribute [local go_sem] aa ac ae ab
/-- slices.Equal over texts -/
theorem j4 (A1 A2:Option Addr) (n1 n2 c1 c2:Nat) (k1 k2:List (List UInt8)) (w:World) (hn1:k1.length=n1) (hn2:k2.length=n2) (h1:Rd w A1 (bY k1)) (h2:Rd w A2 (bY k2)) (hc1:n1<=c1) (hc2:n2<=c2) (hl1:n1<=4194304) (hl2:n2<=4194304) :
  Calls Tryz.prog 31 #[Zs A1 n1 c1,Zs A2 n2 c2] w λ e w'=>e=.returned (.bool (decide (k1=k2)))/\∃ q,w.drewN q=w':=by
 by_cases hlen:n1=n2
 ·subst hlen;have HN1:=aW hn1;have HN2:=aW hn2;clear hn1 hn2;go_enter Tryz.func31,Tryz.ntmps31;go_wp2;go_loopg [13] n1 (λ gk i wr => ∃ k q:Nat,k<=n1/\gk=n1-k/\i=Zi Zq k/\wr=w.drewN q/\Hid (k1.take k=k2.take k))
  case atStart=>exact ⟨0,0,Nat.zero_le _,rfl,rfl,rfl,aW rfl⟩
  case round =>
   obtain ⟨k,q,hk,hgk,rfl,rfl,HE⟩:=hrel;have HG:=aW hgk;clear hgk;by_cases hlt:k<n1
   ·obtain ⟨a,ha⟩:∃ x,k1[k]? = some x:=⟨_,List.getElem?_eq_getElem (by rw [HN1.out];exact hlt)⟩
    obtain ⟨b,hb⟩:∃ x,k2[k]? = some x:=⟨_,List.getElem?_eq_getElem (by rw [HN2.out];exact hlt)⟩
    have key:∀ (A:Option Addr) (ks:List (List UInt8)) (x:List UInt8),Rd w A (bY ks)->ks[k]? = some x->∃ b o,A=some ⟨b,o,none⟩/\w.cell? ⟨b,o+k,none⟩=some (Zt ⟨x.toArray⟩):=λ A ks x hr hx=>by
     have hkl:=(List.getElem?_eq_some_iff.1 hx)
     obtain ⟨b,o,rfl,_,hc⟩:=hr (by intro e;have h:=di ks;rw [e] at h;have:=hkl.1;simp at h;omega);refine ⟨b,o,rfl,?_⟩;rw [hc k (by rw [di];exact hkl.1)];simp [bY,hkl.2]
    obtain ⟨b1,o1,rfl,x1⟩:=key A1 k1 a h1 ha;obtain ⟨b2,o2,rfl,x2⟩:=key A2 k2 b h2 hb;have HA:=aW ha;have HB:=aW hb;clear ha hb key;by_cases hab:a=b
    ·subst hab;go_wp2;go_quiet (fail);go_wp2;go_roundg (n1-(k+1))
     case measure=>rw [HG.out];omega
     case rel=>exact ⟨k+1,q+nq,hlt,rfl,by go_num,rfl,aW (by rw [List.take_add_one,List.take_add_one,HE.out,HA.out,HB.out])⟩
    ·have hbe:(a == b)=false:=by simpa using hab
     have hbe2:(a != b)=true:=by simpa using hab
     have HF:=aW (show k1≠k2 from λ e=>hab (by have h:=HA.out;rw [e,HB.out] at h;injection h with h;exact h.symm));clear hab;go_wp2;go_quiet (fail);go_wp2;go_ret;exact ⟨av (by rw [decide_eq_false HF.out]),q+nq,(World.drewN_drewN _ _ _).symm⟩
   ·obtain rfl:k=n1:=by omega
    go_wp2;go_ret;refine ⟨av ?_,q,rfl⟩;have h:=HE.out;rw [List.take_of_length_le (by rw [HN1.out];exact Nat.le_refl _),List.take_of_length_le (by rw [HN2.out];exact Nat.le_refl _)] at h;simp [h]
 ·have hne:((n1:Int) != (n2:Int))=true:=by simp;omega
  have HF:=aW (show k1≠k2 from λ e=>hlen (by rw [← hn1,← hn2,e]));clear hlen;go_enter Tryz.func31,Tryz.ntmps31;go_wp2;go_ret;exact ⟨av (by rw [decide_eq_false HF.out]),0,rfl⟩
theorem VRs.cell {W:World} {F:Nat->Prop} {css:List (List Value)} {xs:List JV} {A:Option Addr} (h:VRs W F css xs) (hr:RdF W F A css.flatten) {i:Nat} {x:JV} (hx:xs[i]? = some x) :
  ∃ b o c,A=some ⟨b,o,none⟩/\b<W.heap.size/\F b/\VR W F c x/\∀ (j:Nat) (u:Value),j<5->c[j]? = some u->W.cell? ⟨b,o+(i*5+j),none⟩=some u:=by
 obtain ⟨c,hc,hv⟩:=h.get_ hx;have hl:css.flatten≠[]:=by
  have h3:=iQ h.five;have h4:=(List.getElem?_eq_some_iff.1 hc).1;intro e;rw [e] at h3;simp at h3;omega
 obtain ⟨b,o,rfl,hb,hf,hx⟩:=hr hl;refine ⟨b,o,c,rfl,hb,hf,hv,λ j u hj hu=>?_⟩;have h1:=kt h.five hc hj;rw [hu] at h1;obtain ⟨hlt,e⟩:=List.getElem?_eq_some_iff.1 h1;rw [hx _ hlt,e]
abbrev ak:=Int × Nat × List UInt8 × Int
def lB (x:ak):List Value:=[Zi Zq x.1,Zi Zq x.2.1,Zt ⟨x.2.2.1.toArray⟩,Zi Zq x.2.2.2]
def bA (ts:List ak):List Value:=ts.flatMap lB
theorem gg (x:ak) (ts:List ak):bA (x::ts)=lB x++bA ts:=rfl
theorem pC (a b:List ak):bA (a++b)=bA a++bA b:=by simp [bA]
theorem fl:∀ ts:List ak,(bA ts).length=ts.length*4
 | []=>rfl
 | x::ts=>by rw [gg,List.length_append,fl ts];simp [lB];omega
theorem j8:∀ {ts:List ak} {i:Nat} {x:ak} (_:ts[i]? = some x) {j:Nat} (_:j<4),(bA ts)[i*4+j]? = (lB x)[j]?
 | [],i,x,h,_,_=>by simp at h
 |y::ts,0,x,h,j,hj=>by
  have:y=x:=by simpa using h
  subst this;rw [gg,Nat.zero_mul,Nat.zero_add,List.getElem?_append_left (by simp [lB];omega)]
 |y::ts,i+1,x,h,j,hj=>by
  have h':ts[i]? = some x:=by simpa using h
  rw [gg,List.getElem?_append_right (by simp [lB];omega),← j8 h' hj];congr 1;simp [lB];omega
def TS (w:World) (v:Value) (ts:List ak):Prop:=∃ A cap,v=Zs A ts.length cap/\ts.length<=cap/\Rd w A (bA ts)
theorem TS.below {w w':World} {v:Value} {ts:List ak} (h:TS w v ts) (hb:Below w.heap.size w w'):TS w' v ts:=by
 obtain ⟨A,cap,rfl,hc,hr⟩:=h;exact ⟨A,cap,rfl,hc,hr.below hb⟩
theorem TS.drewN {w:World} {v:Value} {ts:List ak} (h:TS w v ts) (n:Nat):TS (w.drewN n) v ts:=h
theorem TS.alloc {w:World} {v:Value} {ts:List ak} (h:TS w v ts) (o:Obj):TS (w.alloc o) v ts:=h.below ((Below.refl _ w).alloc (Nat.le_refl _) o)
theorem TS.nil {w:World}:TS w (Zs none 0 0) []:=⟨none,0,rfl,Nat.le_refl _,Rd.nil⟩
theorem Rd.tok {w:World} {A:Option Addr} {ts:List ak} (h:Rd w A (bA ts)) {i:Nat} {x:ak} (hx:ts[i]? = some x) :
  ∃ b o,A=some ⟨b,o,none⟩/\b<w.heap.size/\w.cell? ⟨b,o+i*4,none⟩=some (Zi Zq x.1)/\w.cell? ⟨b,o+i*4+1,none⟩=some (Zi Zq x.2.1) /\
   w.cell? ⟨b,o+i*4+2,none⟩=some (Zt ⟨x.2.2.1.toArray⟩)/\w.cell? ⟨b,o+i*4+3,none⟩=some (Zi Zq x.2.2.2):=by
 have hi:i<ts.length:=(List.getElem?_eq_some_iff.1 hx).1;obtain ⟨b,o,rfl,hb,hc⟩:=h (by intro e;have h3:=fl ts;rw [e,List.length_nil] at h3;omega);have key:∀ j v,j<4->(lB x)[j]? = some v->w.cell? ⟨b,o+i*4+j,none⟩=some v:=λ j v hj hv=>by
  have h1:=j8 hx hj;rw [hv] at h1;obtain ⟨hlt,e⟩:=List.getElem?_eq_some_iff.1 h1;rw [Nat.add_assoc,hc _ hlt,e]
 exact ⟨b,o,rfl,hb,key 0 _ (by omega) rfl,key 1 _ (by omega) rfl,key 2 _ (by omega) rfl,key 3 _ (by omega) rfl⟩
theorem eH {a b:List UInt8}:((⟨a.toArray⟩:ByteArray).toList == (⟨b.toArray⟩:ByteArray).toList)=decide (a=b):=by
 rw [ByteArray.toList_eq,ByteArray.toList_eq,Bool.eq_iff_iff];simp
end
section
theorem Blk.set8C {w:World} {g:Nat} {t:TypeId} {c0 c1 c2 c3 c4 c5 c6 c7:Value} (h:Blk w g t #[c0,c1,c2,c3,c4,c5,c6,c7]) (x0 x1 x2 x3 x4 x5 x6 x7:Value):Blk (w.setCells g 0 [x0,x1,x2,x3,x4,x5,x6,x7]) g t #[x0,x1,x2,x3,x4,x5,x6,x7] :=
 (((((((h.set_ 0 x0).set_ 1 x1).set_ 2 x2).set_ 3 x3).set_ 4 x4).set_ 5 x5).set_ 6 x6).set_ 7 x7
end
section
open Go.RowKit
attribute [local go_sem] aa ac ae ab
theorem yc:(Tryz.prog.info? 86).map (λ i=>(i.zero,i.size,i.bytes))=some (some (.agg #[Zi Zq 0,Zi Zq 0,Zt ⟨#[]⟩,Zi Zq 0]),4,40):=by kernel_rfl
theorem pD (ts:List ak):∀ v ∈ bA ts,v.oneCell'=true:=by
 intro v hv;simp only [bA,List.mem_flatMap] at hv;obtain ⟨x,_,hx⟩:=hv;simp only [lB,List.mem_cons,List.not_mem_nil,or_false] at hx;rcases hx with rfl | rfl | rfl | rfl<;>rfl
theorem TS.of_own {w:World} {base:Nat} {e:TypeId} {v:Value} {n:Nat} {ts:List ak} (h:w.ownsRow base e 4 v n (bA ts)):TS w v ts:=by
 obtain ⟨A,cap,rfl,hc,hr⟩:=Rd.of_own h;have h1:=h.1;rw [fl] at h1;obtain rfl:n=ts.length:=by omega
 exact ⟨A,cap,rfl,hc,hr⟩
end
end Go.Proofs.YtgmnmnnoahdjnaaGreatDoor
