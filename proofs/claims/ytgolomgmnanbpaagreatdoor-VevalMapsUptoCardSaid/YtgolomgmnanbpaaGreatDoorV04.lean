import Derived.Test.YtgolomgmnanbpaaGreatDoorV03
import Derived.Laws.EntriesVeiled
import Derived.StillTailTactics
import Derived.Sort.LoopGhostIn
import Derived.Lib.BufferRead
open Go.Value renaming int → Zi, slice → Zs, string → Zt, pointer → Zp
open Go.IntKind renaming i64 → Zq
set_option maxRecDepth 100000
set_option maxHeartbeats 16000000
set_option linter.unusedVariables false
set_option linter.unusedSimpArgs false
namespace Go.Proofs.YtgolomgmnanbpaaGreatDoor
open Go.RowKit Go.Shelf
attribute [local go_sem] aa ac ae ab Oper.semAt_some
end Go.Proofs.YtgolomgmnanbpaaGreatDoor
namespace Go.Proofs.YtgolomgmnanbpaaGreatDoor
open Go.RowKit Go.Shelf
attribute [local go_sem] aa ac ae ab Oper.semAt_some
theorem nS:(Tryz.prog.info? 5).map (λ i=>(i.zero,i.size,i.bytes))=some (some (Zi .u8 0),1,1):=by kernel_rfl
end Go.Proofs.YtgolomgmnanbpaaGreatDoor
namespace Go.Proofs.YtgolomgmnanbpaaGreatDoor
open Go.RowKit
attribute [local go_sem] aa ac ae ab
def ng:Value:=.agg #[Zi .u8 34,Zi .u8 34,Zi .u8 92,Zi .u8 92,Zi .u8 47,Zi .u8 47,Zi .u8 98,Zi .u8 8,Zi .u8 102,Zi .u8 12,Zi .u8 110,Zi .u8 10,Zi .u8 114,Zi .u8 13,Zi .u8 116,Zi .u8 9]
theorem n8 (w:World):Calls Tryz.prog 184 #[] w λ e w'=>e=.returned ng/\Below w.heap.size w w':=by
 go_enter Tryz.func184,Tryz.ntmps184;go_wp2;go_returns;exact ⟨rfl,by go_grown⟩
end Go.Proofs.YtgolomgmnanbpaaGreatDoor
namespace Go.Proofs.YtgolomgmnanbpaaGreatDoor
open Go.RowKit
attribute [local go_sem] aa ac ae ab
end Go.Proofs.YtgolomgmnanbpaaGreatDoor
namespace Go.Proofs.YtgolomgmnanbpaaGreatDoor
open Go.RowKit
attribute [local go_sem] aa ac ae ab
end Go.Proofs.YtgolomgmnanbpaaGreatDoor
namespace Go.Proofs.YtgolomgmnanbpaaGreatDoor
open Go.RowKit
attribute [local go_sem] aa ac ae ab
end Go.Proofs.YtgolomgmnanbpaaGreatDoor
namespace Go.Proofs.YtgolomgmnanbpaaGreatDoor
open Go.RowKit
attribute [local go_sem] aa ac ae ab
def qsS (l:List UInt8) (a:Nat):Int × Int × Int :=
 match l[a]? with
 | some c=>if c.toNat=92 then xO l a else if c.toNat<32∨c.toNat=34 then (0,0,7) else xA l a
 | none=>(0,0,0)
def xh (l:List UInt8) (a:Int):Int × Int × Int :=
 if a<0∨(l.length:Int)<a then (0,0,2) else if a=l.length then (0,0,6) else qsS l a.toNat
end Go.Proofs.YtgolomgmnanbpaaGreatDoor
namespace Go.Proofs.YtgolomgmnanbpaaGreatDoor
open Go.RowKit Go.Shelf
attribute [local go_sem] aa ac ae ab Oper.semAt_some
def q8 (l:List UInt8):Nat->Nat->List (Int × Int)
 | 0,_=>[]
 | k+1,a=>if a<l.length/\(qsS l a).2.2=0 then ((qsS l a).1,(qsS l a).2.1)::q8 l k (qsS l a).2.1.toNat else []
def kl (l:List UInt8) (a:Nat):List (Int × Int):=q8 l (l.length-a) a
end Go.Proofs.YtgolomgmnanbpaaGreatDoor
namespace Go.Proofs.YtgolomgmnanbpaaGreatDoor
open Go.RowKit
attribute [local go_sem] aa ac ae ab
structure NSt where
 pos:Nat
 minus:Bool
 size:Nat
 over:Bool
 part:Bool
theorem eU {a w:World} {g:Nat} (h:a.grownBy w (some g)) (i:Nat) (u:Value):a.grownBy (w.setCell ⟨g,i,none⟩ u) (some g) :=
 ⟨h.os,h.tape,h.output,by simpa [World.setCell] using h.size,λ j hj hne=>(Below.heap_setCell w ⟨g,i,none⟩ u j (λ e=>hne (by rw [e]))).trans (h.block j hj hne)⟩
theorem jc (w:World) (row:Option Nat):w.grownBy w row:=⟨rfl,rfl,rfl,Nat.le_refl _,λ _ _ _=>rfl⟩
theorem Rd.setCell {w:World} {A:Option Addr} {xs:List Value} {g:Nat} (h:Rd w A xs) (hne:∀ b o,A=some ⟨b,o,none⟩->xs≠[]->b≠g) (i:Nat) (u:Value):Rd (w.setCell ⟨g,i,none⟩ u) A xs:=λ hn=>by
 obtain ⟨b,o,rfl,hb,hx⟩:=h hn;refine ⟨b,o,rfl,by simpa [World.setCell] using hb,λ j hj=>?_⟩;rw [← hx j hj];exact World.cell?_of_block (w:=w) (Below.heap_setCell w ⟨g,i,none⟩ u b (hne b o rfl hn))
end Go.Proofs.YtgolomgmnanbpaaGreatDoor
namespace Go.Proofs.YtgolomgmnanbpaaGreatDoor
open Go.RowKit
attribute [local go_sem] aa ac ae ab
def xq (d:Nat) (s:NSt):NSt:={ s with over:=s.over || decide ((18446744073709551615-d) / 10<s.size),size:=(10*s.size+d) % 18446744073709551616 }
def tR (ds:List UInt8) (s:NSt):NSt:=ds.foldl (λ s c=>xq (yf c) s) s
def xM (gr:Bool) (ds:List UInt8) (s:NSt):NSt:=if gr then { tR ds s with pos:=s.pos+ds.length } else { s with pos:=s.pos+ds.length }
end Go.Proofs.YtgolomgmnanbpaaGreatDoor
namespace Go.Proofs.YtgolomgmnanbpaaGreatDoor
open Go.RowKit
attribute [local go_sem] aa ac ae ab
def ub (s:List UInt8) (l:List UInt8) (st:NSt):NSt:=if mN l st.pos s then { st with pos:=st.pos+1 } else st
def vH (gr:Bool) (l:List UInt8) (st:NSt):NSt × Option Nat:=if wT l st.pos=[] then (st,some st.pos) else (xM gr (wT l st.pos) st,none)
def xl (l:List UInt8) (st:NSt):NSt × Option Nat:=({ ub [45] l st with minus:=mN l st.pos [45] },none)
def vN (l:List UInt8) (st:NSt):NSt × Option Nat:=if mN l st.pos [48] then ({ st with pos:=st.pos+1 },none) else vH true l st
def wv (l:List UInt8) (st:NSt):NSt × Option Nat:=if mN l st.pos [46] then vH false l { st with pos:=st.pos+1,part:=true } else (st,none)
def xL (l:List UInt8) (st:NSt):NSt × Option Nat:=if mN l st.pos [101,69] then vH false l (ub [43,45] l { st with pos:=st.pos+1,part:=true }) else (st,none)
end Go.Proofs.YtgolomgmnanbpaaGreatDoor
namespace Go.Proofs.YtgolomgmnanbpaaGreatDoor
open Go.RowKit
attribute [local go_sem] aa ac ae ab
def wR:Nat->List UInt8->NSt->NSt × Option Nat
 | 0=>xl | 1=>vN | 2=>wv | _=>xL
def xp (l:List UInt8):List Nat->NSt->NSt × Option Nat
 | [],st=>(st,none)
 | k::ks,st=>match wR k l st with | (st',none)=>xp l ks st' | r=>r
def vJ (l:List UInt8) (st:NSt):NSt × Option Nat:=xp l [0,1,2,3] st
end Go.Proofs.YtgolomgmnanbpaaGreatDoor
namespace Go.Proofs.YtgolomgmnanbpaaGreatDoor
open Go.RowKit
attribute [local go_sem] aa ac ae ab
def rU (a:Nat):NSt:={ pos:=a,minus:=false,size:=0,over:=false,part:=false }
def um (minus:Bool):Nat:=if minus then 9223372036854775808 else 9223372036854775807
def vf (st:NSt) (a:Int):Int × Int × Int :=
 if (st.part || st.over || decide (um st.minus<st.size))=true then (0,a,130) else ((if st.minus then -(st.size:Int) else st.size),st.pos,0)
def gE (l:List UInt8) (a:Int):Int × Int × Int :=
 if a<0∨(l.length:Int)<a then (0,0,2) else
 match vJ l (rU a.toNat) with
 | (_,some p)=>(0,p,7)
 | (st,none)=>vf st a
end Go.Proofs.YtgolomgmnanbpaaGreatDoor
namespace Go.Proofs.YtgolomgmnanbpaaGreatDoor
open Go.RowKit Go.Shelf
attribute [local go_sem] aa ac ae ab Oper.semAt_some
def StS (Ba:Nat) (A B:World):Prop:=World.grownBy A B (some Ba)/\∀ q:Int,Blk A Ba 3 #[Zi Zq q]->∃ q':Int,Blk B Ba 3 #[Zi Zq q']
theorem StS.of_below {Ba:Nat} {A B:World} (h:Below A.heap.size A B):StS Ba A B:=⟨⟨h.os,h.tape,h.output,h.size,λ i hi _=>h.block i hi⟩,λ q hb=>⟨q,hb.keep h⟩⟩
end Go.Proofs.YtgolomgmnanbpaaGreatDoor
namespace Go.Proofs.YtgolomgmnanbpaaGreatDoor
open Go.RowKit Go.Shelf
attribute [local go_sem] aa ac ae ab Oper.semAt_some
theorem BS.conv {w:World} {v:Value} {l:List UInt8} (h:BS w v l):(convert 76 9 v).run Tryz.prog w=.ok (Zt ⟨l.toArray⟩) w:=by
 obtain ⟨A,cap,rfl,hc,hr⟩:=h;cases A with
 |none =>
  have hl:l=[]:=by
   cases l with
   | nil=>rfl
   | cons c r=>obtain ⟨b,o,e,_⟩:=hr (by simp [al]);cases e
  subst hl;exact Lib.run_convert_nil_bytes w _ _ 5 cap (by simp [go_sem]) (by simp [go_sem]) (by simp [go_sem])
 |some a =>
  refine Go.run_convert_bytes_back w _ _ 5 a cap l (by simp [go_sem]) (by simp [go_sem]) (by simp [go_sem]) ?_;intro j hj;obtain ⟨b,o,e,_,hx⟩:=hr (by intro e;have:=bJ l;rw [e] at this;simp at this;omega);cases e
  have:=hx j (by rw [bJ];exact hj);have e2:(⟨b,o,none⟩:Addr).add j=⟨b,o+j,none⟩:=by simp [Addr.add]
  rw [e2];simpa [al] using this
def uM (xs:List (Int × Int)):List UInt8:=xs.flatMap λ x=>ai x.1.toNat
def tr (a:Nat) (xs:List (Int × Int)):Nat:=match xs.getLast? with | some x=>x.2.toNat | none=>a
end Go.Proofs.YtgolomgmnanbpaaGreatDoor
namespace Go.Proofs.YtgolomgmnanbpaaGreatDoor
open Go.RowKit Go.Shelf
attribute [local go_sem] aa ac ae ab Oper.semAt_some
def fj (l:List UInt8) (a:Int):List UInt8 × Int × Int :=
 if a<0∨(l.length:Int)<a then ([],0,2) else if a=l.length then ([],a,6) else if l[a.toNat]? ≠ some 34 then ([],a,7)
 else if l[tr (a.toNat+1) (kl l (a.toNat+1))]? = some 34 then (uM (kl l (a.toNat+1)),tr (a.toNat+1) (kl l (a.toNat+1))+1,0)
 else ([],tr (a.toNat+1) (kl l (a.toNat+1)),(xh l (tr (a.toNat+1) (kl l (a.toNat+1)):Nat)).2.2)
theorem BS.putObj {W:World} {v:Value} {l:List UInt8} {k:Nat} {o:Obj} (o':Obj) (h:BS W v l) (ho:W.heap[k]? = some o) (hc:o.isCells=false):BS (W.putObj k o') v l:=by
 obtain ⟨A,cap,rfl,hcap,hr⟩:=h;exact ⟨A,cap,rfl,hcap,hr.putObj o' ho hc⟩
theorem KeepsFrom.below_ {B:Nat} {W W':World} (h:Below W.heap.size W W'):KeepsFrom B W W':=⟨h.size,λ k o _ ho _=>(h.block k (Array.getElem?_eq_some_iff.1 ho).1).trans ho⟩
theorem aO {B:Nat} {W W':World} {g:Nat} {t:TypeId} {cs:Array Value} (h:KeepsFrom B W W') (hb:Blk W' g t cs) (i:Nat) (u:Value):KeepsFrom B W (W'.setCell ⟨g,i,none⟩ u) :=
 ⟨by simpa [World.setCell] using h.1,λ k o hk ho hc=>by
  have h1:=h.2 k o hk ho hc;rw [← h1];refine Below.heap_setCell W' ⟨g,i,none⟩ u k ?_;rintro rfl;unfold Blk at hb;rw [hb] at h1;cases h1
  cases hc⟩
end Go.Proofs.YtgolomgmnanbpaaGreatDoor
namespace Go.Proofs.YtgolomgmnanbpaaGreatDoor
section
inductive JV where
 | mk:Int->Int->List UInt8->List JV->List (List UInt8)->JV
def JV.kind:JV->Int | .mk k _ _ _ _=>k
def JV.num:JV->Int | .mk _ n _ _ _=>n
def JV.txt:JV->List UInt8 | .mk _ _ s _ _=>s
def JV.kids:JV->List JV | .mk _ _ _ l _=>l
def JV.keys:JV->List (List UInt8) | .mk _ _ _ _ k=>k
def eP:JV:=.mk 0 0 [] [] []
def ltB (a b:List UInt8):Bool:=Op.bytesLess a b
def dD (key:List UInt8) (keys:List (List UInt8)):Nat->Nat
 | 0=>0
 | n+1=>if ltB key (keys.getD n []) then dD key keys n else n+1
theorem ia (key:List UInt8) (keys:List (List UInt8)):∀ n,dD key keys n<=n
 | 0=>Nat.le_refl _
 | n+1=>by unfold dD;split;exact Nat.le_succ_of_le (ia key keys n);exact Nat.le_refl _
def ez {α:Type} (l:List α) (i:Nat) (x:α):List α:=l.take i++x::l.drop i
def ir (v:JV) (key:List UInt8) (x:JV):JV :=
 match v with
 | .mk k n s kids keys =>
  if k=6 then .mk k n s (ez kids (dD key keys kids.length) x) (ez keys (dD key keys kids.length) key)
  else .mk k n s (kids++[x]) keys
abbrev mu:=List (JV × List UInt8)
inductive dX where
 | fail:Int->Int->dX
 | done:Nat->JV->dX
 | go:Nat->Nat->Nat->mu->dX
def gS (l:List UInt8) (p e:Int):Int × Int:=(p,if e=7/\(l.length:Int)<=p then 6 else e)
def pX (l:List UInt8) (p e:Int):dX:=.fail (gS l p e).1 (gS l p e).2
def vS (v:JV) (m many:Nat):mu->dX
 | []=>.done m v
 | (top,key)::r=>.go 5 m many ((ir top key v,key)::r)
def tm (c:UInt8):Bool:=decide (c.toNat=34∨c.toNat=91∨c.toNat=123∨c.toNat=45∨c.toNat=110∨c.toNat=116∨c.toNat=102∨(48<=c.toNat/\c.toNat<=57))
def pS (l:List UInt8) (p:Nat):List UInt8->Option Nat
 | []=>none
 | c::r=>if l[p]? = some c then pS l (p+1) r else some p
def rx (l:List UInt8) (p:Nat) (u:List UInt8) (v:JV):Sum (JV × Nat) (Int × Int) :=
 match pS l p u with | none=>.inl (v,p+u.length) | some q=>.inr (gS l q 7)
def pF:List UInt8:=[110,117,108,108]
def pY:List UInt8:=[116,114,117,101]
def lN:List UInt8:=[102,97,108,115,101]
def ws (l:List UInt8) (p:Nat):Sum (JV × Nat) (Int × Int) :=
 if (fj l p).2.2=0 then .inl (.mk 4 0 (fj l p).1 [] [],(fj l p).2.1.toNat) else .inr (gS l (fj l p).2.1 (fj l p).2.2)
def x9 (l:List UInt8) (p:Nat):Sum (JV × Nat) (Int × Int) :=
 if (gE l p).2.2=0 then .inl (.mk 3 (gE l p).1 [] [] [],(gE l p).2.1.toNat) else .inr (gS l (gE l p).2.1 (gE l p).2.2)
def xa (l:List UInt8) (p:Nat) (c:UInt8):Sum (JV × Nat) (Int × Int) :=
 if c.toNat=34 then ws l p else if c.toNat=110 then rx l p pF (.mk 1 0 [] [] []) else if c.toNat=116 then rx l p pY (.mk 2 1 [] [] [])
 else if c.toNat=102 then rx l p lN (.mk 2 0 [] [] []) else x9 l p
inductive sU where
 | err:Int->Int->sU
 | atom:JV->Nat->sU
 | opens:Nat->Bool->sU
def uH (l:List UInt8) (at_ many deep:Nat):sU :=
 match l[bH l at_]? with
 | none=>.err (gS l (bH l at_) 7).1 (gS l (bH l at_) 7).2
 |some c =>
  if tm c=false then .err (gS l (bH l at_) 7).1 (gS l (bH l at_) 7).2
  else if many=256 then .err (bH l at_) 151
  else if c.toNat=91∨c.toNat=123 then (if deep=8 then .err (bH l at_) 150 else .opens (bH l at_) (decide (c.toNat=123)))
  else match xa l (bH l at_) c with | .inl (v,m)=>.atom v m | .inr (p,e)=>.err p e
def rP (l:List UInt8) (at_ many:Nat) (stk:mu):dX :=
 match uH l at_ many stk.length with
 | .err p e=>.fail p e
 | .atom v m=>vS v m (many+1) stk
 | .opens p o=>.go (if o then 2 else 1) (p+1) (many+1) ((.mk (if o then 6 else 5) 0 [] [] [],[])::stk)
def oO (l:List UInt8) (q many:Nat):mu->dX
 | []=>.fail q 0
 | (v,_)::r=>vS v (q+1) many r
def ul (l:List UInt8) (at_ many:Nat) (stk:mu):dX :=
 if l[bH l at_]? = some 93 then oO l (bH l at_) many stk else rP l at_ many stk
def wP (l:List UInt8) (at_ many:Nat):mu->dX
 | []=>.fail at_ 0
 |(v,k)::r =>
  if l[bH l at_]? = some 34 then
   if (fj l (bH l at_)).2.2=0 then
    if (fj l (bH l at_)).1 ∈ v.keys then .fail (bH l at_) 141
    else .go 4 (fj l (bH l at_)).2.1.toNat many ((v,(fj l (bH l at_)).1)::r)
   else pX l (fj l (bH l at_)).2.1 (fj l (bH l at_)).2.2
  else pX l (bH l at_) 7
def qy (l:List UInt8) (at_ many:Nat) (stk:mu):dX :=
 if l[bH l at_]? = some 125 then oO l (bH l at_) many stk else wP l at_ many stk
def uP (l:List UInt8) (at_ many:Nat) (stk:mu):dX :=
 if l[bH l at_]? = some 58 then .go 0 (bH l at_+1) many stk else pX l (bH l at_) 7
def xz (l:List UInt8) (at_ many:Nat):mu->dX
 | []=>.fail at_ 0
 |(v,k)::r =>
  if l[bH l at_]? = some 44 then .go (if v.kind=6 then 3 else 0) (bH l at_+1) many ((v,k)::r)
  else if l[bH l at_]? = some (if v.kind=6 then 125 else 93) then oO l (bH l at_) many ((v,k)::r)
  else pX l (bH l at_) 7
def tY (l:List UInt8):dX->dX
 | .go 0 a m s=>rP l a m s
 | .go 1 a m s=>ul l a m s
 | .go 2 a m s=>qy l a m s
 | .go 3 a m s=>wP l a m s
 | .go 4 a m s=>uP l a m s
 | .go 5 a m s=>xz l a m s
 | r=>r
def rf (l:List UInt8):Nat->dX->dX
 | 0,r=>r
 | k+1,r=>rf l k (tY l r)
end
end Go.Proofs.YtgolomgmnanbpaaGreatDoor
namespace Go.Proofs.YtgolomgmnanbpaaGreatDoor
end Go.Proofs.YtgolomgmnanbpaaGreatDoor
namespace Go.Proofs.YtgolomgmnanbpaaGreatDoor
open Go.RowKit
end Go.Proofs.YtgolomgmnanbpaaGreatDoor
namespace Go.Proofs.YtgolomgmnanbpaaGreatDoor
section
variable {l:List UInt8}
theorem nD:∀ (a b:Nat) (r:dX),rf l (a+b) r=rf l b (rf l a r)
 | 0,b,r=>by rw [Nat.zero_add];rfl
 | a+1,b,r=>by rw [show a+1+b=(a+b)+1 from by omega];exact nD a b _
def gL (l:List UInt8) (a b:dX):Prop:=∃ k,rf l k a=b
theorem gL.refl (a:dX):gL l a a:=⟨0,rfl⟩
theorem gL.trans {a b c:dX}:gL l a b->gL l b c->gL l a c
 | ⟨k,h⟩,⟨k',h'⟩=>⟨k+k',by rw [nD,h,h']⟩
theorem gL.step {a c:dX} (h:gL l (tY l a) c):gL l a c:=by obtain ⟨k,h⟩:=h;exact ⟨k+1,h⟩
theorem ig {α:Type} {l:List α} {i:Nat} {x y:α}:y ∈ ez l i x ↔ y ∈ l∨y=x:=by
 unfold ez;constructor
 ·intro h;rcases List.mem_append.1 h with h | h
  ·exact .inl (List.mem_of_mem_take h)
  ·rcases List.mem_cons.1 h with h | h
   ·exact .inr h
   ·exact .inl (List.mem_of_mem_drop h)
 ·rintro (h | rfl)
  ·rw [← List.take_append_drop i l] at h;rcases List.mem_append.1 h with h | h
   ·exact List.mem_append_left _ h
   ·exact List.mem_append_right _ (List.mem_cons_of_mem _ h)
  ·simp
structure pN (v:JV) (keys:List (List UInt8)):Prop where
 kind:v.kind=6
 len:v.keys.length=v.kids.length
 mem:∀ s,s ∈ v.keys ↔ s ∈ keys
theorem pN.add {v:JV} {keys:List (List UInt8)} (h:pN v keys) (s:List UInt8) (x:JV):pN (ir v s x) (keys++[s]):=by
 obtain ⟨k,n,t,kids,ks⟩:=v;have hk:k=6:=h.kind;have hl:ks.length=kids.length:=h.len;unfold ir;simp only;rw [if_pos hk];refine ⟨hk,?_,λ y=>?_⟩
 ·show (ez ks _ s).length=(ez kids _ x).length
  have:=ia s ks kids.length;simp [ez];omega
 ·show y ∈ ez ks _ s ↔ _
  rw [ig,List.mem_append,List.mem_singleton];have:y ∈ ks ↔ y ∈ keys:=h.mem y;rw [this]
end
end Go.Proofs.YtgolomgmnanbpaaGreatDoor
namespace Go.Proofs.YtgolomgmnanbpaaGreatDoor
def later (p:Nat):dX->Prop
 | .go _ p' _ _=>p<p'
 | _=>True
section
variable {l:List UInt8}
end
end Go.Proofs.YtgolomgmnanbpaaGreatDoor
namespace Go.Proofs.YtgolomgmnanbpaaGreatDoor
open Go.RowKit
section Cut
variable {l:List UInt8}
end Cut
end Go.Proofs.YtgolomgmnanbpaaGreatDoor
namespace Go.Proofs.YtgolomgmnanbpaaGreatDoor
open Go.RowKit
section Cut
variable {l:List UInt8}
end Cut
end Go.Proofs.YtgolomgmnanbpaaGreatDoor
namespace Go.Proofs.YtgolomgmnanbpaaGreatDoor
open Go.RowKit
section CutN
variable {l:List UInt8}
end CutN
end Go.Proofs.YtgolomgmnanbpaaGreatDoor
namespace Go.Proofs.YtgolomgmnanbpaaGreatDoor
open Go.RowKit
section CutS
variable {l:List UInt8}
def far (n:Nat):dX->Prop
 | .fail _ _=>True
 | .go _ p' _ _=>n<p'
 | .done q _=>n<q
end CutS
end Go.Proofs.YtgolomgmnanbpaaGreatDoor
namespace Go.Proofs.YtgolomgmnanbpaaGreatDoor
section
open Go.RowKit
attribute [local go_sem] aa ac ae ab
theorem pA {a b:ByteArray} (h:(a.toList == b.toList)=true):a=b:=by
 have:a.toList=b.toList:=by simpa using h
 rw [ByteArray.toList_eq,ByteArray.toList_eq] at this;exact fI this
theorem pC {a b:ByteArray} (h:(a.toList == b.toList)=false):a≠b:=by rintro rfl;simp at h
theorem nv (c:UInt8) (t:ByteArray) (w:World) (ht:t.size<=4194304):Calls Tryz.prog 87 #[Zi .u8 c.toNat,Zt t] w λ e w'=>e=.returned (.bool ((sl t).contains c))/\w=w':=by
 obtain ⟨b,hb⟩:∃ b,(sl t).contains c=b:=⟨_,rfl⟩
 rw [hb];have HB:=aW hb;clear hb;go_enter Tryz.func87,Tryz.ntmps87;go_wp2;go_loop [5] (λ i => ∃ k:Nat,k<=t.size/\i=Zi Zq k/\b=((sl t).drop k).contains c) (λ i=>t.size-(intOf i).toNat)
 case atStart=>exact ⟨0,Nat.zero_le _,rfl,by rw [← HB.out];simp⟩
 case round =>
  obtain ⟨k,hk,rfl,hc⟩:=hrel;by_cases hlt:k<t.size
  ·have hd:(sl t).drop k=t[k]::(sl t).drop (k+1):=List.drop_eq_getElem_cons (by rw [bR];exact hlt);rw [hd] at hc;obtain ⟨x,hx⟩:∃ x,t[k]=x:=⟨_,rfl⟩
   rw [hx] at hc;have HC:=aW hc;clear hc hd;by_cases hxc:x=c
   ·subst hxc;go_wp2;go_ret;exact ⟨ap (by rw [HC.out];simp),rfl⟩
   ·have hne:((x.toNat:Int) == (c.toNat:Int))=false:=by
     have:x.toNat≠c.toNat:=λ e=>hxc (UInt8.toNat_inj.1 e)
     simp;omega
    go_wp2;go_round
    case rel=>exact ⟨k+1,hlt,by go_num,by rw [HC.out,List.contains_cons];simp;intro h;exact absurd h.symm hxc⟩
    case measure=>simp [intOf];omega
  ·obtain rfl:k=t.size:=by omega
   have HC:=aW hc;clear hc;go_wp2;go_ret;exact ⟨ap (by rw [HC.out,List.drop_eq_nil_of_le (by rw [bR];exact Nat.le_refl _)];rfl),rfl⟩
def ed:List UInt8->List UInt8->List (List UInt8)
 | [],acc=>[acc]
 | c::r,acc=>if c=32 then acc::ed r [] else ed r (acc++[c])
theorem ud (t:ByteArray) (f k:Nat):sl (t.extract f k)=((sl t).drop f).take (k-f):=by
 simp [sl,List.drop_take]
theorem q6 {l:List UInt8} {f k:Nat} {c:UInt8} (hf:f<=k) (h:l[k]? = some c):(l.drop f).take (k+1-f)=(l.drop f).take (k-f)++[c]:=by
 rw [show k+1-f=(k-f)+1 from by omega,List.take_add_one,List.getElem?_drop,show f+(k-f)=k from by omega,h];rfl
theorem oT (s t:ByteArray) (w:World) (ht:t.size<=4194304):Calls Tryz.prog 135 #[Zt s,Zt t] w λ e w'=>e=.returned (.bool (decide (sl s ∈ ed (sl t) [])))/\w=w':=by
 obtain ⟨bb,hb⟩:∃ b,decide (sl s ∈ ed (sl t) [])=b:=⟨_,rfl⟩
 rw [hb];have HB:=aW (show (sl s ∈ ed (sl t) []) ↔ bb=true by rw [← hb];simp);clear hb;go_enter Tryz.func135,Tryz.ntmps135;go_wp2;go_loop [5,6] (λ fr i => ∃ f k:Nat,k<=t.size+1/\f<=k/\fr=Zi Zq f/\i=Zi Zq k/\(k<=t.size->Hid (bb=true ↔ sl s ∈ ed ((sl t).drop k) (((sl t).drop f).take (k-f))))/\(k=t.size+1->Hid (bb=false))) (λ _ i=>t.size+1-(intOf i).toNat)
 case atStart=>exact ⟨0,0,Nat.zero_le _,Nat.le_refl _,rfl,rfl,λ _=>aW (by rw [← HB.out];simp),λ h=>by omega⟩
 case round =>
  obtain ⟨f,k,hk,hf,rfl,rfl,h1,h2⟩:=hrel;by_cases hle:k<=t.size
  ·have h1:=(h1 hle).out;have hcut:=ud t f k;obtain ⟨a,ha⟩:∃ a,t.extract f k=a:=⟨_,rfl⟩
   rw [ha] at hcut;rw [← hcut] at h1;have HCUT:=aW hcut;clear h2 hcut;by_cases hlt:k<t.size
   ·have hget:=sC t k hlt;have hd:(sl t).drop k=t[k]::(sl t).drop (k+1):=List.drop_eq_getElem_cons (by rw [bR];exact hlt);obtain ⟨x,hx⟩:∃ x,t[k]=x:=⟨_,rfl⟩
    rw [hx] at hd hget;rw [hd] at h1;have HX:=aW hget;have H1:=aW h1;have hkn:((k:Int) == (t.size:Int))=false:=by simp;omega
    clear h1 hd hget;by_cases h32:x=32
    ·subst h32;go_wp2
     ·have hq:=pA ‹(a.toList == s.toList)=true›;go_ret;refine ⟨ap ?_,rfl⟩;rw [eq_comm,H1.out,ed,if_pos rfl,hq];exact List.mem_cons_self
     ·have hq:=pC ‹(a.toList == s.toList)=false›;go_round
      case rel =>
       refine ⟨k+1,k+1,by omega,Nat.le_refl _,by go_num,by go_num,λ _=>aW ?_,λ h=>by omega⟩;rw [H1.out,ed,if_pos rfl,List.mem_cons,Nat.sub_self,List.take_zero];constructor
       ·rintro (h | h)
        ·exact absurd (fI h.symm) hq
        ·exact h
       ·exact .inr
      case measure=>simp [intOf];omega
    ·have hne:((x.toNat:Int) == 32)=false:=by
      have:x.toNat≠32:=λ e=>h32 (UInt8.toNat_inj.1 (by simpa using e))
      simp;omega
     go_wp2;go_round
     case rel =>
      refine ⟨f,k+1,by omega,by omega,rfl,by go_num,λ _=>aW ?_,λ h=>by omega⟩;rw [H1.out,ed,if_neg h32,HCUT.out,q6 hf HX.out]
     case measure=>simp [intOf];omega
   ·obtain rfl:k=t.size:=by omega
    rw [List.drop_eq_nil_of_le (by rw [bR];exact Nat.le_refl _),ed,List.mem_singleton] at h1;have H1:=aW h1;clear h1;go_wp2
    ·have hq:=pA ‹(a.toList == s.toList)=true›;go_ret;refine ⟨ap ?_,rfl⟩;rw [eq_comm,H1.out,hq]
    ·have hq:=pC ‹(a.toList == s.toList)=false›;go_round
     case rel =>
      refine ⟨t.size+1,t.size+1,by omega,Nat.le_refl _,by go_num,by go_num,λ h=>by omega,λ _=>aW ?_⟩;rw [Bool.eq_false_iff,Ne,H1.out];exact λ h=>hq (fI h.symm)
     case measure=>first | (simp [intOf];done) | (simp [intOf];omega)
  ·obtain rfl:k=t.size+1:=by omega
   have H2:=h2 rfl;clear h1 h2;go_wp2;go_ret;exact ⟨ap H2.out.symm,rfl⟩
end
end Go.Proofs.YtgolomgmnanbpaaGreatDoor
