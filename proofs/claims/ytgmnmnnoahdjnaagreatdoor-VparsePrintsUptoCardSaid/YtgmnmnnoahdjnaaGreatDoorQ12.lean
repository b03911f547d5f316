import Derived.Test.YtgmnmnnoahdjnaaGreatDoorQ09
import Derived.Test.YtgmnmnnoahdjnaaGreatDoorQ10
open Go.Value renaming int → Zi, slice → Zs, string → Zt, pointer → Zp
open Go.IntKind renaming i64 → Zq
set_option maxRecDepth 100000
set_option maxHeartbeats 16000000
set_option linter.unusedVariables false
set_option linter.unusedSimpArgs false
namespace Go.Proofs.YtgmnmnnoahdjnaaGreatDoor
section
open Go.RowKit
attribute [local go_sem] aa ac ae ab
abbrev aq:=Int × Nat × List UInt8 × Int
def lI (x:aq):List Value:=[Zi Zq x.1,Zi Zq x.2.1,Zt ⟨x.2.2.1.toArray⟩,Zi Zq x.2.2.2]
def bz (ts:List aq):List Value:=ts.flatMap lI
theorem gh (x:aq) (ts:List aq):bz (x::ts)=lI x++bz ts:=rfl
theorem pS (a b:List aq):bz (a++b)=bz a++bz b:=by simp [bz]
theorem fg:∀ ts:List aq,(bz ts).length=ts.length*4
 | []=>rfl
 | x::ts=>by rw [gh,List.length_append,fg ts];simp [lI];omega
theorem kg:∀ {ts:List aq} {i:Nat} {x:aq} (_:ts[i]? = some x) {j:Nat} (_:j<4),(bz ts)[i*4+j]? = (lI x)[j]?
 | [],i,x,h,_,_=>by simp at h
 |y::ts,0,x,h,j,hj=>by
  have:y=x:=by simpa using h
  subst this;rw [gh,Nat.zero_mul,Nat.zero_add,List.getElem?_append_left (by simp [lI];omega)]
 |y::ts,i+1,x,h,j,hj=>by
  have h':ts[i]? = some x:=by simpa using h
  rw [gh,List.getElem?_append_right (by simp [lI];omega),← kg h' hj];congr 1;simp [lI];omega
def TS (w:World) (v:Value) (ts:List aq):Prop:=∃ A cap,v=Zs A ts.length cap/\ts.length<=cap/\Rd w A (bz ts)
theorem TS.below {w w':World} {v:Value} {ts:List aq} (h:TS w v ts) (hb:Below w.heap.size w w'):TS w' v ts:=by
 obtain ⟨A,cap,rfl,hc,hr⟩:=h;exact ⟨A,cap,rfl,hc,hr.below hb⟩
theorem TS.drewN {w:World} {v:Value} {ts:List aq} (h:TS w v ts) (n:Nat):TS (w.drewN n) v ts:=h
theorem TS.alloc {w:World} {v:Value} {ts:List aq} (h:TS w v ts) (o:Obj):TS (w.alloc o) v ts:=h.below ((Below.refl _ w).alloc (Nat.le_refl _) o)
theorem TS.nil {w:World}:TS w (Zs none 0 0) []:=⟨none,0,rfl,Nat.le_refl _,Rd.nil⟩
theorem Rd.tok {w:World} {A:Option Addr} {ts:List aq} (h:Rd w A (bz ts)) {i:Nat} {x:aq} (hx:ts[i]? = some x) :
  ∃ b o,A=some ⟨b,o,none⟩/\b<w.heap.size/\w.cell? ⟨b,o+i*4,none⟩=some (Zi Zq x.1)/\w.cell? ⟨b,o+i*4+1,none⟩=some (Zi Zq x.2.1) /\
   w.cell? ⟨b,o+i*4+2,none⟩=some (Zt ⟨x.2.2.1.toArray⟩)/\w.cell? ⟨b,o+i*4+3,none⟩=some (Zi Zq x.2.2.2):=by
 have hi:i<ts.length:=(List.getElem?_eq_some_iff.1 hx).1;obtain ⟨b,o,rfl,hb,hc⟩:=h (by intro e;have h3:=fg ts;rw [e,List.length_nil] at h3;omega);have key:∀ j v,j<4->(lI x)[j]? = some v->w.cell? ⟨b,o+i*4+j,none⟩=some v:=λ j v hj hv=>by
  have h1:=kg hx hj;rw [hv] at h1;obtain ⟨hlt,e⟩:=List.getElem?_eq_some_iff.1 h1;rw [Nat.add_assoc,hc _ hlt,e]
 exact ⟨b,o,rfl,hb,key 0 _ (by omega) rfl,key 1 _ (by omega) rfl,key 2 _ (by omega) rfl,key 3 _ (by omega) rfl⟩
theorem d5 {a b:List UInt8}:((⟨a.toArray⟩:ByteArray).toList == (⟨b.toArray⟩:ByteArray).toList)=decide (a=b):=by
 rw [ByteArray.toList_eq,ByteArray.toList_eq,Bool.eq_iff_iff];simp
theorem VRs.cell {W:World} {F:Nat->Prop} {css:List (List Value)} {xs:List JV} {A:Option Addr} (h:VRs W F css xs) (hr:RdF W F A css.flatten) {i:Nat} {x:JV} (hx:xs[i]? = some x) :
  ∃ b o c,A=some ⟨b,o,none⟩/\b<W.heap.size/\F b/\VR W F c x/\∀ (j:Nat) (u:Value),j<5->c[j]? = some u->W.cell? ⟨b,o+(i*5+j),none⟩=some u:=by
 obtain ⟨c,hc,hv⟩:=h.get_ hx;have hl:css.flatten≠[]:=by
  have h3:=iQ h.five;have h4:=(List.getElem?_eq_some_iff.1 hc).1;intro e;rw [e] at h3;simp at h3;omega
 obtain ⟨b,o,rfl,hb,hf,hx⟩:=hr hl;refine ⟨b,o,c,rfl,hb,hf,hv,λ j u hj hu=>?_⟩;have h1:=ku h.five hc hj;rw [hu] at h1;obtain ⟨hlt,e⟩:=List.getElem?_eq_some_iff.1 h1;rw [hx _ hlt,e]
end
end Go.Proofs.YtgmnmnnoahdjnaaGreatDoor
namespace Go.Proofs.YtgmnmnnoahdjnaaGreatDoor
open Go.RowKit
end Go.Proofs.YtgmnmnnoahdjnaaGreatDoor
namespace Go.Proofs.YtgmnmnnoahdjnaaGreatDoor
open Go.RowKit
attribute [local go_sem] aa ac ae ab
theorem sV:(Tryz.prog.info? 3).map (λ i=>(i.zero,i.size,i.bytes))=some (some (Zi Zq 0),1,8):=by kernel_rfl
def t6 (l:List Int):List Value:=l.map (Value.int .i64)
def IS (w:World) (v:Value) (l:List Int):Prop:=∃ A cap,v=Zs A l.length cap/\l.length<=cap/\Rd w A (t6 l)
theorem IS.of_own {w:World} {base:Nat} {e:TypeId} {v:Value} {l:List Int} {n:Nat} (hn:n=l.length) (h:w.ownsRow base e 1 v n (t6 l)):IS w v l:=by
 subst hn;obtain ⟨A,cap,rfl,hc,hr⟩:=Rd.of_own h;exact ⟨A,cap,rfl,hc,hr⟩
theorem qv {w w':World} (h:Below w.heap.size w w'):w.grownBy w' none:=⟨h.os,h.tape,h.output,h.size,λ k hk _=>h.block k hk⟩
theorem kL {w w':World} {base:Nat} {e:TypeId} {size n:Nat} {v:Value} {xs:List Value} (h:w.ownsRow base e size v n xs) (hb:Below w.heap.size w w'):w'.ownsRow base e size v n xs :=
 h.kept (qv hb) (by cases v.ownBlock<;>simp)
end Go.Proofs.YtgmnmnnoahdjnaaGreatDoor
namespace Go.Proofs.YtgmnmnnoahdjnaaGreatDoor
section
theorem Blk.set8C {w:World} {g:Nat} {t:TypeId} {c0 c1 c2 c3 c4 c5 c6 c7:Value} (h:Blk w g t #[c0,c1,c2,c3,c4,c5,c6,c7]) (x0 x1 x2 x3 x4 x5 x6 x7:Value):Blk (w.setCells g 0 [x0,x1,x2,x3,x4,x5,x6,x7]) g t #[x0,x1,x2,x3,x4,x5,x6,x7] :=
 (((((((h.set_ 0 x0).set_ 1 x1).set_ 2 x2).set_ 3 x3).set_ 4 x4).set_ 5 x5).set_ 6 x6).set_ 7 x7
end
section
open Go.RowKit
attribute [local go_sem] aa ac ae ab
def cG (A:Option Addr) (n cap:Nat) (p why:Int):Array Value:=#[Zi Zq p,Zi Zq why,Zs A n cap]
def VB (w:World) (g:Nat) (A:Option Addr) (cap:Nat) (l:List UInt8) (p why:Int):Prop:=Blk w g 113 (cG A l.length cap p why)/\Rd w A (ak l)
def a8 (w:World) (g:Nat) (A:Option Addr) (cap:Nat) (l:List UInt8) (p why:Int) (w':World):Prop:=VB w' g A cap l p why/\w.grownBy w' (some g)
section
variable {w w':World} {g:Nat} {A:Option Addr} {cap:Nat} {l:List UInt8} {p why p' why':Int}
theorem oX {m:Nat}:∀ (i:Nat) (c:Int),(cG A m cap p why)[i]? = some (Value.int .u8 c)->False:=by
 intro i c h;unfold cG at h
 match i with
 | 0 | 1 | 2=>simp at h
 | i+3=>simp at h
theorem VB.drewN (h:VB w g A cap l p why) (k:Nat):VB (w.drewN k) g A cap l p why:=⟨h.1.drewN k,h.2.drewN k⟩
theorem VB.keep (h:VB w g A cap l p why) (hb:Below w.heap.size w w'):VB w' g A cap l p why:=⟨h.1.keep hb,h.2.below hb⟩
theorem VB.set0 (h:VB w g A cap l p why) (q:Int):VB (w.setCell ⟨g,0,none⟩ (Zi Zq q)) g A cap l q why :=
 ⟨by have:=h.1.set_ 0 (Zi Zq q);simpa [cG] using this,h.2.setCell (h.2.ne_blk h.1 oX) _ _⟩
theorem VB.set1 (h:VB w g A cap l p why) (q:Int):VB (w.setCell ⟨g,1,none⟩ (Zi Zq q)) g A cap l p q :=
 ⟨by have:=h.1.set_ 1 (Zi Zq q);simpa [cG] using this,h.2.setCell (h.2.ne_blk h.1 oX) _ _⟩
theorem a8.refl (h:VB w g A cap l p why):a8 w g A cap l p why w:=⟨h,ee _ _⟩
theorem a8.trans {w'':World} (h:a8 w g A cap l p why w') (k:a8 w' g A cap l p' why' w''):a8 w g A cap l p' why' w'':=⟨k.1,ag h.2 k.2⟩
theorem a8.drewN (h:a8 w g A cap l p why w') (k:Nat):a8 w g A cap l p why (w'.drewN k):=⟨h.1.drewN k,gA h.2 k⟩
theorem a8.keep {w'':World} (h:a8 w g A cap l p why w') (hb:Below w'.heap.size w' w''):a8 w g A cap l p why w'' :=
 ⟨h.1.keep hb,ag h.2 ⟨hb.os,hb.tape,hb.output,hb.size,λ i hi _=>hb.block i hi⟩⟩
theorem a8.set0 (h:a8 w g A cap l p why w') (q:Int):a8 w g A cap l q why (w'.setCell ⟨g,0,none⟩ (Zi Zq q)):=⟨h.1.set0 q,bD h.2 _ _⟩
theorem a8.set1 (h:a8 w g A cap l p why w') (q:Int):a8 w g A cap l p q (w'.setCell ⟨g,1,none⟩ (Zi Zq q)):=⟨h.1.set1 q,bD h.2 _ _⟩
theorem a8.alloc (h:a8 w g A cap l p why w') (o:Obj):a8 w g A cap l p why (w'.alloc o):=h.keep ((Below.refl _ _).alloc (Nat.le_refl _) _)
theorem a8.new (h:a8 w g A cap l p why w') {k:Nat} {t:TypeId} {cs:Array Value} (hb:Blk w' k t cs) (hcs:∀ (i:Nat) (c:Int),cs[i]? = some (Value.int .u8 c)->False) (hk:w.heap.size<=k) (hg:g<w.heap.size) (i:Nat) (u:Value) :
  a8 w g A cap l p why (w'.setCell ⟨k,i,none⟩ u) :=
 ⟨⟨h.1.1.far (p:=⟨k,i,none⟩) (by simp;omega) u,h.1.2.setCell (h.1.2.ne_blk hb hcs) i u⟩,dF h.2 _ _ hk⟩
end
def uu (k:Int) (p:Int) (s:ByteArray) (n:Int):Value:=.agg #[Zi Zq k,Zi Zq p,Zt s,Zi Zq n]
def gZ:Value:=.agg #[Zi Zq 0,Zi Zq 0,Zt ⟨#[]⟩,Zi Zq 0]
theorem gy (w:World) (g:Nat) (A:Option Addr) (cap:Nat) (l:List UInt8) (p why q e:Int) (hV:VB w g A cap l p why) :
  Calls Tryz.prog 167 #[Zp (some ⟨g,0,none⟩),Zi Zq q,Zi Zq e] w λ x w'=>x=.returned gZ/\a8 w g A cap l q e w':=by
 obtain ⟨hc,hf,hlt⟩:=hV.1.rules;have HV:=aW hV;clear hV;unfold cG at hc;go_enter Tryz.func167,Tryz.ntmps167;go_wp2;go_returns;exact ⟨rfl,(((a8.refl HV.out).set0 q).set1 e).alloc _⟩
theorem VB.byte {w:World} {g:Nat} {A:Option Addr} {cap:Nat} {l:List UInt8} {p why:Int} (h:VB w g A cap l p why) {k:Nat} {c:UInt8} (hc:l[k]? = some c) :
  ∃ b o,A=some ⟨b,o,none⟩/\b<w.heap.size/\w.cell? ⟨b,o+k,none⟩=some (Zi .u8 c.toNat):=by
 obtain ⟨hlt,e⟩:=List.getElem?_eq_some_iff.1 hc;obtain ⟨b,o,rfl,hb,hx⟩:=h.2 (by intro e;have h3:=aC l;rw [e,List.length_nil] at h3;omega);exact ⟨b,o,rfl,hb,by rw [hx k (by rw [aC];exact hlt)];simp [ak,e]⟩
theorem qO (w:World) (g:Nat) (A:Option Addr) (cap:Nat) (l:List UInt8) (p:Nat) (why:Int) (hV:VB w g A cap l p why) (hp:p<=l.length) (hcap:l.length<=cap) (hlen:l.length<=4194304) :
  Calls Tryz.prog 135 #[Zp (some ⟨g,0,none⟩)] w λ e w'=>e=.returned (.tuple #[])/\a8 w g A cap l (aM l p) why w':=by
 have HV:=aW hV;clear hV;go_enter Tryz.func135,Tryz.ntmps135;go_wp2;go_loopg [24] (l.length-p) (λ gk _ wr => ∃ k:Nat,k<=l.length/\gk=l.length-k/\aM l p=aM l k/\a8 w g A cap l k why wr)
 case atStart=>exact ⟨p,hp,rfl,rfl,a8.refl HV.out⟩
 case round =>
  obtain ⟨k,hk,hgk,hs,hst⟩:=hrel;obtain ⟨hc,hf,hlt⟩:=hst.1.1.rules;unfold cG at hc;have HS:=aW hs;have HG:=aW hgk;clear hs hgk;by_cases hkl:k<l.length
  ·obtain ⟨c,hcc⟩:∃ c,l[k]? = some c:=⟨_,List.getElem?_eq_getElem hkl⟩
   obtain ⟨b,o,rfl,hb,hx⟩:=hst.1.byte hcc;have HC:=aW hcc;clear hcc;cases hbk:dq c with
   |true =>
    have HN:=aW (sB HC.out hbk);unfold dq at hbk;have hq:c.toNat=9∨c.toNat=10∨c.toNat=13∨c.toNat=32:=by simpa using hbk
    clear hbk;rcases hq with hq | hq | hq | hq
    all_goals
     rw [hq] at hx;clear hq;go_wp2;go_quiet (fail);go_wp2;go_quiet (fail);go_wp2;go_roundg (l.length-(k+1))
     case measure=>rw [HG.out];omega
     case rel=>exact ⟨k+1,hkl,rfl,HS.out.trans HN.out,(hst.drewN _).set0 _⟩
   |false =>
    have HN:=aW (sC HC.out hbk);unfold dq at hbk;have hq:¬ (c.toNat=9∨c.toNat=10∨c.toNat=13∨c.toNat=32):=by simpa using hbk
    clear hbk;have q1:((c.toNat:Int) == 9)=false:=by simp;omega
    have q2:((c.toNat:Int) == 10)=false:=by simp;omega
    have q3:((c.toNat:Int) == 13)=false:=by simp;omega
    have q4:((c.toNat:Int) == 32)=false:=by simp;omega
    clear hq;go_wp2;go_quiet (fail);go_wp2;go_quiet (fail);go_wp2;refine bodyPost_ret (results_none rfl _ _ _) rfl ⟨rfl,?_⟩;rw [HS.out,HN.out];exact hst.drewN _
  ·have HN:=aW (uo (l:=l) (p:=k) (by omega));obtain rfl:k=l.length:=by omega
   clear hkl;go_wp2;go_quiet (fail);go_wp2;go_end0;refine ⟨rfl,?_⟩;rw [HS.out,HN.out];exact hst.drewN _
abbrev pg:=Sum (Int × List UInt8 × Int × Nat) (Int × Int)
def fK (r:pg) (p:Nat) (w:World) (g:Nat) (A:Option Addr) (cap:Nat) (l:List UInt8) (e:Ending) (w':World):Prop :=
 match r with
 | .inl (k,t,n,m)=>e=.returned (uu k p ⟨t.toArray⟩ n)/\a8 w g A cap l m 0 w'
 | .inr (q,er)=>e=.returned gZ/\a8 w g A cap l q er w'
def dK (c:UInt8):Bool:=aL c || bc c
def gJ (l:List UInt8) (p:Nat):pg :=
 let t:=(l.drop p).takeWhile dK
 if dG t then .inl (2,t,0,p+t.length) else if bI ⟨t.toArray⟩ then .inl (1,t,0,p+t.length) else .inr (p,320)
theorem pC {l:List UInt8} {p:Nat} {c:UInt8} (h:l[p]? = some c) (hb:dK c=true):(l.drop p).takeWhile dK=c::(l.drop (p+1)).takeWhile dK:=by
 obtain ⟨hlt,e⟩:=List.getElem?_eq_some_iff.1 h;rw [List.drop_eq_getElem_cons hlt,e,List.takeWhile_cons,hb];rfl
theorem xx {l:List UInt8} {p:Nat} {c:UInt8} (h:l[p]? = some c) (hb:dK c=false):(l.drop p).takeWhile dK=[]:=by
 obtain ⟨hlt,e⟩:=List.getElem?_eq_some_iff.1 h;rw [List.drop_eq_getElem_cons hlt,e,List.takeWhile_cons,hb];rfl
theorem zn {l:List UInt8} {p:Nat} (h:l.length<=p):(l.drop p).takeWhile dK=[]:=by rw [List.drop_eq_nil_of_le h];rfl
theorem oS {l:List UInt8} {p k:Nat} {c:UInt8} (h:(l.drop p).takeWhile dK=(l.drop p).take (k-p)++(l.drop k).takeWhile dK) (hc:l[k]? = some c)
  (hs:(l.drop k).takeWhile dK=c::(l.drop (k+1)).takeWhile dK) (hpk:p<=k):(l.drop p).takeWhile dK=(l.drop p).take (k+1-p)++(l.drop (k+1)).takeWhile dK:=by
 rw [h,hs,show k+1-p=(k-p)+1 from by omega,List.take_add_one,List.getElem?_drop,show p+(k-p)=k from by omega,hc];simp
theorem sH {a b d:Int} {s:ByteArray}:∀ (i:Nat) (c:Int),(#[Value.int .i64 a,Zi Zq b,Zt s,Zi Zq d]:Array Value)[i]? = some (Value.int .u8 c)->False:=by
 intro i c h
 match i with
 | 0 | 1 | 2 | 3=>simp at h
 | i+4=>simp at h
theorem Blk.put4 {W:World} {k:Nat} {t:TypeId} {z0 z1 z2 z3:Value} (hb:Blk W k t #[z0,z1,z2,z3]) (a b s d:Value) :
  Blk ((((W.setCell ⟨k,0,none⟩ a).setCell ⟨k,1,none⟩ b).setCell ⟨k,2,none⟩ s).setCell ⟨k,3,none⟩ d) k t #[a,b,s,d]:=by
 have:=(((hb.set_ 0 a).set_ 1 b).set_ 2 s).set_ 3 d;simpa using this
theorem a8.put4 {w w':World} {g:Nat} {A:Option Addr} {cap:Nat} {l:List UInt8} {p why:Int} (h:a8 w g A cap l p why w') {k:Nat} {t:TypeId} {a b d:Int} {s:ByteArray} (hb:Blk w' k t #[Zi Zq a,Zi Zq b,Zt s,Zi Zq d]) (hk:w.heap.size<=k) (hg:g<w.heap.size)
  (a' b':Value) (s' d':Value):a8 w g A cap l p why ((((w'.setCell ⟨k,0,none⟩ a').setCell ⟨k,1,none⟩ b').setCell ⟨k,2,none⟩ s').setCell ⟨k,3,none⟩ d'):=by
 have hne:=h.1.2.ne_blk hb sH;have hgk:g≠k:=by omega
 refine ⟨⟨(((h.1.1.far (p:=⟨k,0,none⟩) hgk a').far (p:=⟨k,1,none⟩) hgk b').far (p:=⟨k,2,none⟩) hgk s').far (p:=⟨k,3,none⟩) hgk d',?_⟩,dF (dF (dF (dF h.2 _ _ hk) _ _ hk) _ _ hk) _ _ hk⟩;exact (((h.1.2.setCell hne 0 a').setCell hne 1 b').setCell hne 2 s').setCell hne 3 d'
theorem pR {w:World} {b o:Nat} {l:List UInt8} {p n:Nat} (h:Rd w (some ⟨b,o,none⟩) (ak l)):Rd w (some ⟨b,o+p,none⟩) (ak ((l.drop p).take n)):=by
 have h1:=(h.drop p).take n;have e:((some (⟨b,o,none⟩:Addr)).map λ a=>a.add p)=some ⟨b,o+p,none⟩:=by simp [Addr.add]
 rw [e] at h1;simpa [ak,List.map_drop,List.map_take] using h1
theorem kc {w:World} {b o cap p k:Nat} {l:List UInt8} (hpk:p<=k) (hk:k<=l.length) (hcap:l.length<=cap) (h:Rd w (some ⟨b,o+p,none⟩) (ak ((l.drop p).take (k-p)))) :
  (convert 67 9 (Zs (some ⟨b,o+p,none⟩) (k-p) (cap-p))).run Tryz.prog w=.ok (Zt ⟨((l.drop p).take (k-p)).toArray⟩) w:=by
 have e:((l.drop p).take (k-p)).length=k-p:=by simp;omega
 have h1:BS w (Zs (some ⟨b,o+p,none⟩) (k-p) (cap-p)) ((l.drop p).take (k-p)):=⟨_,_,by rw [e],by omega,h⟩
 exact h1.conv
theorem vM (w:World) (g:Nat) (A:Option Addr) (cap:Nat) (l:List UInt8) (p:Nat) (hV:VB w g A cap l p 0) (hp:p<l.length) (hcap:l.length<=cap) (hlen:l.length<=4194304) :
  Calls Tryz.prog 128 #[Zp (some ⟨g,0,none⟩)] w (fK (gJ l p) p w g A cap l):=by
 obtain ⟨hc,hf,hlt⟩:=hV.1.rules;have hpc:p<cap:=by omega
 have HV:=aW hV;clear hV;unfold cG at hc;go_enter Tryz.func128,Tryz.ntmps128;go_wp2;go_loopg [] (l.length-p) (λ gk wr => ∃ k:Nat,p<=k/\k<=l.length/\gk=l.length-k/\(l.drop p).takeWhile dK=(l.drop p).take (k-p)++(l.drop k).takeWhile dK/\a8 w g A cap l k 0 wr/\Blk wr w.heap.size 86 #[Zi Zq 0,Zi Zq 0,Zt ⟨#[]⟩,Zi Zq 0])
 case atStart=>exact ⟨p,Nat.le_refl _,Nat.le_of_lt hp,rfl,by simp,(a8.refl HV.out).alloc _,Blk.new _ _ _⟩
 case round =>
  obtain ⟨k,hpk,hk,hgk,hs,hst,hbt⟩:=hrel;clear hc hf hlt;obtain ⟨hc,hf,hlt⟩:=hst.1.1.rules;unfold cG at hc;have HS:=aW hs;have HG:=aW hgk;clear hs hgk;by_cases hkl:k<l.length
  ·obtain ⟨c,hcc⟩:∃ c,l[k]? = some c:=⟨_,List.getElem?_eq_getElem hkl⟩
   obtain ⟨b,o,rfl,hb,hx⟩:=hst.1.byte hcc;obtain ⟨b1,hb1⟩:∃ b,aL c=b:=⟨_,rfl⟩
   obtain ⟨b2,hb2⟩:∃ b,bc c=b:=⟨_,rfl⟩
   have hl:=λ w=>jw c.toNat w
   have hg:=λ w=>kt c.toNat w
   rw [show decide (97<=c.toNat/\c.toNat<=122)=b1 from hb1] at hl;rw [show decide (48<=c.toNat/\c.toNat<=57)=b2 from hb2] at hg;have HL:=aW hl;have HD:=aW hg;have HB:=aW (show dK c=(b1 || b2) by rw [dK,hb1,hb2]);have HC:=aW hcc;clear hl hg hb1 hb2 hcc;cases b1
   ·cases b2
    ·have HE:=aW (show (l.drop p).takeWhile dK=(l.drop p).take (k-p) by rw [HS.out,xx HC.out HB.out,List.append_nil]);go_wp2;go_quiet (first | (go_at_call 122;refine Calls.quiet_of_same ((HL.out _).mono λ e w' h=>⟨h.1,h.2.symm⟩)) | (go_at_call 123;refine Calls.quiet_of_same ((HD.out _).mono λ e w' h=>⟨h.1,h.2.symm⟩)));go_wp2;have hq:∀ w',Rd w' (some ⟨b,o+p,none⟩) (ak ((l.drop p).take (k-p)))->(convert 67 9 (Zs (some ⟨b,o+p,none⟩) (k-p) (cap-p))).run Tryz.prog w'=.ok (Zt ⟨((l.drop p).take (k-p)).toArray⟩) w':=λ w' h=>kc hpk hk hcap h
     have hka:∀ (w':World) (o':Obj),Rd w' (some ⟨b,o+p,none⟩) (ak ((l.drop p).take (k-p)))->Rd (w'.alloc o') (some ⟨b,o+p,none⟩) (ak ((l.drop p).take (k-p))):=λ w' o' h=>h.alloc o'
     have hs0:Rd wr (some ⟨b,o+p,none⟩) (ak ((l.drop p).take (k-p))):=pR hst.1.2;obtain ⟨RQ,hRQ⟩:∃ RQ:World->Prop,RQ=λ w'=>Rd w' (some ⟨b,o+p,none⟩) (ak ((l.drop p).take (k-p))):=⟨_,rfl⟩
     have hq':∀ w',RQ w'->(convert 67 9 (Zs (some ⟨b,o+p,none⟩) (k-p) (cap-p))).run Tryz.prog w'=.ok (Zt ⟨((l.drop p).take (k-p)).toArray⟩) w':=by rw [hRQ];exact hq
     have hka':∀ (w':World) (o':Obj),RQ w'->RQ (w'.alloc o'):=by rw [hRQ];exact hka
     have hkd':∀ (w':World),RQ w'->RQ w'.drew:=by rw [hRQ];exact λ w' h=>h
     have hs1:∀ j,RQ (wr.drewN j):=by rw [hRQ];exact λ j=>hs0.drewN j
     clear hq hka hs0;have HRQ:=aW hRQ;clear hRQ;obtain ⟨wq,hwq⟩:∃ wq,wr.drewN nq=wq:=⟨_,rfl⟩
     have hc0:wq.cell? ⟨g,0,none⟩=some (Zi Zq (k:Int)):=by rw [← hwq];exact hc 0
     have hc2:wq.cell? ⟨g,2,none⟩=some (Zs (some ⟨b,o,none⟩) l.length cap):=by rw [← hwq];exact hc 2
     have hlq:g<wq.heap.size:=by rw [← hwq];exact hlt
     have hkc:k<=cap:=by omega
     have hpc':¬ cap=p:=by omega
     have hs2:RQ wq:=by rw [← hwq];exact hs1 nq
     rw [hwq];go_region_held3 (λ w'=>w'.cell? ⟨g,0,none⟩=some (Zi Zq (k:Int))/\w'.cell? ⟨g,2,none⟩=some (Zs (some ⟨b,o,none⟩) l.length cap)/\RQ w') (go_keep) ((fail))
     all_goals
      obtain ⟨Wx,hWx⟩:∃ Wx,(wq.alloc (.cells #[Zi Zq 1,Zi Zq p,Zt ⟨((l.drop p).take (k-p)).toArray⟩,Zi Zq 0] 86)).drew=Wx:=⟨_,rfl⟩
      have hT:Blk Wx wq.heap.size 86 #[Zi Zq 1,Zi Zq p,Zt ⟨((l.drop p).take (k-p)).toArray⟩,Zi Zq 0]:=by rw [← hWx];exact Blk.new wq _ _
      have hR:Blk Wx w.heap.size 86 #[Zi Zq 0,Zi Zq 0,Zt ⟨#[]⟩,Zi Zq 0]:=by rw [← hWx,← hwq];exact (hbt.drewN nq).alloc _
      have hst2:a8 w g (some ⟨b,o,none⟩) cap l k 0 Wx:=by rw [← hWx,← hwq];exact ((hst.drewN nq).alloc _).drewN 1
      have hn0:w.heap.size<wq.heap.size:=by rw [← hwq];exact hbt.lt
      rw [hWx];obtain ⟨N,hN⟩:∃ N,wq.heap.size=N:=⟨_,rfl⟩
      rw [hN] at hT hn0 ⊢;clear hWx hN hc0 hc2 hlq hs2 hs1 hq' hka' hkd' hwq hx hb hc hf hlt hst hbt;obtain ⟨t,ht⟩:∃ t,(l.drop p).take (k-p)=t:=⟨_,rfl⟩
      have htl:k=p+t.length:=by rw [← ht];simp;omega
      rw [ht] at hT;have hE2:=HE.out;rw [ht] at hE2;have HE2:=aW hE2;have HTL:=aW htl;clear hE2 ht htl;have hspec:gJ l p=if dG t then .inl (2,t,0,p+t.length) else if bI ⟨t.toArray⟩ then .inl (1,t,0,p+t.length) else .inr (p,320):=by
       unfold gJ;rw [HE2.out]
      have HSP:=aW hspec;obtain ⟨b1,hb1⟩:∃ b,dG t=b:=⟨_,rfl⟩
      obtain ⟨b2,hb2⟩:∃ b,bI ⟨t.toArray⟩=b:=⟨_,rfl⟩
      have hw1:=λ w=>lT ⟨t.toArray⟩ w
      rw [eQ,hb1] at hw1;have hw2:=λ w=>il ⟨t.toArray⟩ w
      rw [hb2] at hw2;have HW1:=aW hw1;have HW2:=aW hw2;rw [hb1,hb2] at hspec;have HSQ:=aW hspec;clear hspec hb1 hb2 hw1 hw2;obtain ⟨ct,ft,lt⟩:=hT.rules;obtain ⟨cr,fr,lr⟩:=hR.rules;have hgw:g<w.heap.size:=HV.out.1.lt;cases b1
      ·cases b2
       ·go_wp2_with (first | (go_at_call 124;refine (HW1.out _).mono ?_;rintro e w1 ⟨rfl,hb1⟩;have hT1:=hT.keep hb1;have hR1:=hR.keep hb1;have hst3:=hst2.keep hb1;obtain ⟨ct1,ft1,lt1⟩:=hT1.rules;obtain ⟨cr1,fr1,lr1⟩:=hR1.rules) | (go_at_call 81;refine (HW2.out _).mono ?_;rintro e w2 ⟨rfl,hb2⟩;have hT2:=hT1.keep hb2;have hR2:=hR1.keep hb2;have hst4:=hst3.keep hb2;obtain ⟨ct2,ft2,lt2⟩:=hT2.rules;obtain ⟨cr2,fr2,lr2⟩:=hR2.rules) | (go_at_call 167;refine (gy _ g _ cap l _ _ _ _ hst4.1).mono ?_;rintro e w3 ⟨rfl,hst5⟩;have hR3:=hR2.grown hst5.2 (by have:=HV.out.1.lt;simp;omega);obtain ⟨cr3,fr3,lr3⟩:=hR3.rules;unfold gZ));obtain ⟨cf,_,_⟩:=(Blk.put4 hR3 (Zi Zq 0) (Zi Zq 0) (Zt ⟨#[]⟩) (Zi Zq 0)).rules;refine bodyPost_ret (v:=.agg #[(Zi Zq 0),(Zi Zq 0),(Zt ⟨#[]⟩),(Zi Zq 0)]) (by simp only [results,Tryz.results128];go_simp) rfl ?_;rw [HSQ.out];exact ⟨rfl,(hst4.trans hst5).put4 hR3 (Nat.le_refl _) hgw _ _ _ _⟩
       ·go_wp2_with (first | (go_at_call 124;refine (HW1.out _).mono ?_;rintro e w1 ⟨rfl,hb1⟩;have hT1:=hT.keep hb1;have hR1:=hR.keep hb1;have hst3:=hst2.keep hb1;obtain ⟨ct1,ft1,lt1⟩:=hT1.rules;obtain ⟨cr1,fr1,lr1⟩:=hR1.rules) | (go_at_call 81;refine (HW2.out _).mono ?_;rintro e w2 ⟨rfl,hb2⟩;have hT2:=hT1.keep hb2;have hR2:=hR1.keep hb2;have hst4:=hst3.keep hb2;obtain ⟨ct2,ft2,lt2⟩:=hT2.rules;obtain ⟨cr2,fr2,lr2⟩:=hR2.rules));obtain ⟨cf,_,_⟩:=(Blk.put4 hR2 (Zi Zq 1) (Zi Zq p) (Zt ⟨t.toArray⟩) (Zi Zq 0)).rules;refine bodyPost_ret (v:=.agg #[(Zi Zq 1),(Zi Zq p),(Zt ⟨t.toArray⟩),(Zi Zq 0)]) (by simp only [results,Tryz.results128];go_simp) rfl ?_;rw [HSQ.out];exact ⟨rfl,by have:=hst4.put4 hR2 (Nat.le_refl _) hgw (Zi Zq 1) (Zi Zq p) (Zt ⟨t.toArray⟩) (Zi Zq 0);rw [HTL.out] at this;exact this⟩
      ·go_wp2_with (go_at_call 124;refine (HW1.out _).mono ?_;rintro e w1 ⟨rfl,hb1⟩;have hT1:=hT.keep hb1;have hR1:=hR.keep hb1;have hst3:=hst2.keep hb1;obtain ⟨ct1,ft1,lt1⟩:=hT1.rules;obtain ⟨cr1,fr1,lr1⟩:=hR1.rules);obtain ⟨cf,_,_⟩:=(Blk.put4 (hR1.far (p:=⟨N,0,none⟩) (show w.heap.size≠N by omega) (Zi Zq 2)) (Zi Zq 2) (Zi Zq p) (Zt ⟨t.toArray⟩) (Zi Zq 0)).rules;refine bodyPost_ret (v:=.agg #[(Zi Zq 2),(Zi Zq p),(Zt ⟨t.toArray⟩),(Zi Zq 0)]) (by simp only [results,Tryz.results128];go_simp) rfl ?_;rw [HSQ.out];exact ⟨rfl,by have:=(hst3.new hT1 sH (Nat.le_of_lt hn0) hgw 0 (Zi Zq 2)).put4 (hR1.far (p:=⟨N,0,none⟩) (by simp;omega) _) (Nat.le_refl _) hgw (Zi Zq 2) (Zi Zq p) (Zt ⟨t.toArray⟩) (Zi Zq 0);rw [HTL.out] at this;exact this⟩
    ·have HSt:=aW (pC HC.out (HB.out));go_wp2;go_quiet (first | (go_at_call 122;refine Calls.quiet_of_same ((HL.out _).mono λ e w' h=>⟨h.1,h.2.symm⟩)) | (go_at_call 123;refine Calls.quiet_of_same ((HD.out _).mono λ e w' h=>⟨h.1,h.2.symm⟩)));go_wp2;go_roundg (l.length-(k+1))
     case measure=>rw [HG.out];omega
     case rel=>exact ⟨k+1,by omega,hkl,rfl,oS HS.out HC.out HSt.out hpk,(hst.drewN _).set0 _,hbt.far (p:=⟨g,0,none⟩) (by have:=HV.out.1.lt;simp;omega) _⟩
   ·skip
    ·have HSt:=aW (pC HC.out (HB.out));go_wp2;go_quiet (first | (go_at_call 122;refine Calls.quiet_of_same ((HL.out _).mono λ e w' h=>⟨h.1,h.2.symm⟩)) | (go_at_call 123;refine Calls.quiet_of_same ((HD.out _).mono λ e w' h=>⟨h.1,h.2.symm⟩)));go_wp2;go_roundg (l.length-(k+1))
     case measure=>rw [HG.out];omega
     case rel=>exact ⟨k+1,by omega,hkl,rfl,oS HS.out HC.out HSt.out hpk,(hst.drewN _).set0 _,hbt.far (p:=⟨g,0,none⟩) (by have:=HV.out.1.lt;simp;omega) _⟩
  ·obtain rfl:k=l.length:=by omega
   obtain ⟨c,hcc⟩:∃ c,l[p]? = some c:=⟨_,List.getElem?_eq_getElem hp⟩
   obtain ⟨b,o,rfl,hb,hx⟩:=hst.1.byte hcc;have HE:=aW (show (l.drop p).takeWhile dK=(l.drop p).take (l.length-p) by rw [HS.out,zn (Nat.le_refl _),List.append_nil]);clear hcc hkl;go_wp2;go_quiet (fail);go_wp2;have hq:∀ w',Rd w' (some ⟨b,o+p,none⟩) (ak ((l.drop p).take (l.length-p)))->(convert 67 9 (Zs (some ⟨b,o+p,none⟩) (l.length-p) (cap-p))).run Tryz.prog w'=.ok (Zt ⟨((l.drop p).take (l.length-p)).toArray⟩) w':=λ w' h=>kc hpk hk hcap h
   have hka:∀ (w':World) (o':Obj),Rd w' (some ⟨b,o+p,none⟩) (ak ((l.drop p).take (l.length-p)))->Rd (w'.alloc o') (some ⟨b,o+p,none⟩) (ak ((l.drop p).take (l.length-p))):=λ w' o' h=>h.alloc o'
   have hs0:Rd wr (some ⟨b,o+p,none⟩) (ak ((l.drop p).take (l.length-p))):=pR hst.1.2;obtain ⟨RQ,hRQ⟩:∃ RQ:World->Prop,RQ=λ w'=>Rd w' (some ⟨b,o+p,none⟩) (ak ((l.drop p).take (l.length-p))):=⟨_,rfl⟩
   have hq':∀ w',RQ w'->(convert 67 9 (Zs (some ⟨b,o+p,none⟩) (l.length-p) (cap-p))).run Tryz.prog w'=.ok (Zt ⟨((l.drop p).take (l.length-p)).toArray⟩) w':=by rw [hRQ];exact hq
   have hka':∀ (w':World) (o':Obj),RQ w'->RQ (w'.alloc o'):=by rw [hRQ];exact hka
   have hkd':∀ (w':World),RQ w'->RQ w'.drew:=by rw [hRQ];exact λ w' h=>h
   have hs1:∀ j,RQ (wr.drewN j):=by rw [hRQ];exact λ j=>hs0.drewN j
   clear hq hka hs0;have HRQ:=aW hRQ;clear hRQ;obtain ⟨wq,hwq⟩:∃ wq,wr.drewN nq=wq:=⟨_,rfl⟩
   have hc0:wq.cell? ⟨g,0,none⟩=some (Zi Zq (l.length:Int)):=by rw [← hwq];exact hc 0
   have hc2:wq.cell? ⟨g,2,none⟩=some (Zs (some ⟨b,o,none⟩) l.length cap):=by rw [← hwq];exact hc 2
   have hlq:g<wq.heap.size:=by rw [← hwq];exact hlt
   have hkc:l.length<=cap:=by omega
   have hpc':¬ cap=p:=by omega
   have hs2:RQ wq:=by rw [← hwq];exact hs1 nq
   rw [hwq];go_region_held3 (λ w'=>w'.cell? ⟨g,0,none⟩=some (Zi Zq (l.length:Int))/\w'.cell? ⟨g,2,none⟩=some (Zs (some ⟨b,o,none⟩) l.length cap)/\RQ w') (go_keep) ((fail))
   all_goals
    obtain ⟨Wx,hWx⟩:∃ Wx,(wq.alloc (.cells #[Zi Zq 1,Zi Zq p,Zt ⟨((l.drop p).take (l.length-p)).toArray⟩,Zi Zq 0] 86)).drew=Wx:=⟨_,rfl⟩
    have hT:Blk Wx wq.heap.size 86 #[Zi Zq 1,Zi Zq p,Zt ⟨((l.drop p).take (l.length-p)).toArray⟩,Zi Zq 0]:=by rw [← hWx];exact Blk.new wq _ _
    have hR:Blk Wx w.heap.size 86 #[Zi Zq 0,Zi Zq 0,Zt ⟨#[]⟩,Zi Zq 0]:=by rw [← hWx,← hwq];exact (hbt.drewN nq).alloc _
    have hst2:a8 w g (some ⟨b,o,none⟩) cap l l.length 0 Wx:=by rw [← hWx,← hwq];exact ((hst.drewN nq).alloc _).drewN 1
    have hn0:w.heap.size<wq.heap.size:=by rw [← hwq];exact hbt.lt
    rw [hWx];obtain ⟨N,hN⟩:∃ N,wq.heap.size=N:=⟨_,rfl⟩
    rw [hN] at hT hn0 ⊢;clear hWx hN hc0 hc2 hlq hs2 hs1 hq' hka' hkd' hwq hx hb hc hf hlt hst hbt;obtain ⟨t,ht⟩:∃ t,(l.drop p).take (l.length-p)=t:=⟨_,rfl⟩
    have htl:l.length=p+t.length:=by rw [← ht];simp;omega
    rw [ht] at hT;have hE2:=HE.out;rw [ht] at hE2;have HE2:=aW hE2;have HTL:=aW htl;clear hE2 ht htl;have hspec:gJ l p=if dG t then .inl (2,t,0,p+t.length) else if bI ⟨t.toArray⟩ then .inl (1,t,0,p+t.length) else .inr (p,320):=by
     unfold gJ;rw [HE2.out]
    have HSP:=aW hspec;obtain ⟨b1,hb1⟩:∃ b,dG t=b:=⟨_,rfl⟩
    obtain ⟨b2,hb2⟩:∃ b,bI ⟨t.toArray⟩=b:=⟨_,rfl⟩
    have hw1:=λ w=>lT ⟨t.toArray⟩ w
    rw [eQ,hb1] at hw1;have hw2:=λ w=>il ⟨t.toArray⟩ w
    rw [hb2] at hw2;have HW1:=aW hw1;have HW2:=aW hw2;rw [hb1,hb2] at hspec;have HSQ:=aW hspec;clear hspec hb1 hb2 hw1 hw2;obtain ⟨ct,ft,lt⟩:=hT.rules;obtain ⟨cr,fr,lr⟩:=hR.rules;have hgw:g<w.heap.size:=HV.out.1.lt;cases b1
    ·cases b2
     ·go_wp2_with (first | (go_at_call 124;refine (HW1.out _).mono ?_;rintro e w1 ⟨rfl,hb1⟩;have hT1:=hT.keep hb1;have hR1:=hR.keep hb1;have hst3:=hst2.keep hb1;obtain ⟨ct1,ft1,lt1⟩:=hT1.rules;obtain ⟨cr1,fr1,lr1⟩:=hR1.rules) | (go_at_call 81;refine (HW2.out _).mono ?_;rintro e w2 ⟨rfl,hb2⟩;have hT2:=hT1.keep hb2;have hR2:=hR1.keep hb2;have hst4:=hst3.keep hb2;obtain ⟨ct2,ft2,lt2⟩:=hT2.rules;obtain ⟨cr2,fr2,lr2⟩:=hR2.rules) | (go_at_call 167;refine (gy _ g _ cap l _ _ _ _ hst4.1).mono ?_;rintro e w3 ⟨rfl,hst5⟩;have hR3:=hR2.grown hst5.2 (by have:=HV.out.1.lt;simp;omega);obtain ⟨cr3,fr3,lr3⟩:=hR3.rules;unfold gZ));obtain ⟨cf,_,_⟩:=(Blk.put4 hR3 (Zi Zq 0) (Zi Zq 0) (Zt ⟨#[]⟩) (Zi Zq 0)).rules;refine bodyPost_ret (v:=.agg #[(Zi Zq 0),(Zi Zq 0),(Zt ⟨#[]⟩),(Zi Zq 0)]) (by simp only [results,Tryz.results128];go_simp) rfl ?_;rw [HSQ.out];exact ⟨rfl,(hst4.trans hst5).put4 hR3 (Nat.le_refl _) hgw _ _ _ _⟩
     ·go_wp2_with (first | (go_at_call 124;refine (HW1.out _).mono ?_;rintro e w1 ⟨rfl,hb1⟩;have hT1:=hT.keep hb1;have hR1:=hR.keep hb1;have hst3:=hst2.keep hb1;obtain ⟨ct1,ft1,lt1⟩:=hT1.rules;obtain ⟨cr1,fr1,lr1⟩:=hR1.rules) | (go_at_call 81;refine (HW2.out _).mono ?_;rintro e w2 ⟨rfl,hb2⟩;have hT2:=hT1.keep hb2;have hR2:=hR1.keep hb2;have hst4:=hst3.keep hb2;obtain ⟨ct2,ft2,lt2⟩:=hT2.rules;obtain ⟨cr2,fr2,lr2⟩:=hR2.rules));obtain ⟨cf,_,_⟩:=(Blk.put4 hR2 (Zi Zq 1) (Zi Zq p) (Zt ⟨t.toArray⟩) (Zi Zq 0)).rules;refine bodyPost_ret (v:=.agg #[(Zi Zq 1),(Zi Zq p),(Zt ⟨t.toArray⟩),(Zi Zq 0)]) (by simp only [results,Tryz.results128];go_simp) rfl ?_;rw [HSQ.out];exact ⟨rfl,by have:=hst4.put4 hR2 (Nat.le_refl _) hgw (Zi Zq 1) (Zi Zq p) (Zt ⟨t.toArray⟩) (Zi Zq 0);rw [HTL.out] at this;exact this⟩
    ·go_wp2_with (go_at_call 124;refine (HW1.out _).mono ?_;rintro e w1 ⟨rfl,hb1⟩;have hT1:=hT.keep hb1;have hR1:=hR.keep hb1;have hst3:=hst2.keep hb1;obtain ⟨ct1,ft1,lt1⟩:=hT1.rules;obtain ⟨cr1,fr1,lr1⟩:=hR1.rules);obtain ⟨cf,_,_⟩:=(Blk.put4 (hR1.far (p:=⟨N,0,none⟩) (show w.heap.size≠N by omega) (Zi Zq 2)) (Zi Zq 2) (Zi Zq p) (Zt ⟨t.toArray⟩) (Zi Zq 0)).rules;refine bodyPost_ret (v:=.agg #[(Zi Zq 2),(Zi Zq p),(Zt ⟨t.toArray⟩),(Zi Zq 0)]) (by simp only [results,Tryz.results128];go_simp) rfl ?_;rw [HSQ.out];exact ⟨rfl,by have:=(hst3.new hT1 sH (Nat.le_of_lt hn0) hgw 0 (Zi Zq 2)).put4 (hR1.far (p:=⟨N,0,none⟩) (by simp;omega) _) (Nat.le_refl _) hgw (Zi Zq 2) (Zi Zq p) (Zt ⟨t.toArray⟩) (Zi Zq 0);rw [HTL.out] at this;exact this⟩
theorem xt:(Tryz.prog.info? 86).map (λ i=>(i.zero,i.size,i.bytes))=some (some (.agg #[Zi Zq 0,Zi Zq 0,Zt ⟨#[]⟩,Zi Zq 0]),4,40):=by kernel_rfl
theorem pT (ts:List aq):∀ v ∈ bz ts,v.oneCell'=true:=by
 intro v hv;simp only [bz,List.mem_flatMap] at hv;obtain ⟨x,_,hx⟩:=hv;simp only [lI,List.mem_cons,List.not_mem_nil,or_false] at hx;rcases hx with rfl | rfl | rfl | rfl<;>rfl
theorem TS.of_own {w:World} {base:Nat} {e:TypeId} {v:Value} {n:Nat} {ts:List aq} (h:w.ownsRow base e 4 v n (bz ts)):TS w v ts:=by
 obtain ⟨A,cap,rfl,hc,hr⟩:=Rd.of_own h;have h1:=h.1;rw [fg] at h1;obtain rfl:n=ts.length:=by omega
 exact ⟨A,cap,rfl,hc,hr⟩
end
end Go.Proofs.YtgmnmnnoahdjnaaGreatDoor
