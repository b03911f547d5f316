import Derived.Test.YtgmnmnnoahdjnaaGreatDoorH24
import Derived.Test.YtgmnmnnoahdjnaaGreatDoorH23
open Go.Value renaming int → Zi, slice → Zs, string → Zt, pointer → Zp
open Go.IntKind renaming i64 → Zq
set_option maxRecDepth 100000
set_option maxHeartbeats 16000000
set_option linter.unusedVariables false
set_option linter.unusedSimpArgs false
namespace Go.Proofs.YtgmnmnnoahdjnaaGreatDoor
section
def pM (T:List al):Nat:=12*T.length+23
theorem xL (T:List al):tn T=pM T+1:=by unfold tn pM;omega
def eE (T:List al) (lvl p:Nat):PR EJ:=aB T (pM T+1) lvl p
def eB (T:List al) (lvl:Nat) (x:EJ) (p:Nat):PR EJ:=fC T (pM T+1) lvl x p
def eP (T:List al) (x:EJ) (p:Nat):PR EJ:=dB T (pM T+1) x p
def eA (T:List al) (p:Nat):PR EJ:=bU T (pM T+1) p
def eL (T:List al) (acc:List EJ) (p:Nat):PR EJ:=dA T (pM T+1) acc p
def eS (T:List al) (acc:List SJ) (p:Nat):PR (List SJ):=bE T (pM T+1) acc p
def eK (T:List al) (p:Nat):PR (List SJ):=bc T (pM T+1) p
section
variable {T:List al} (hT:WT T)
include hT
theorem lk {lvl p:Nat} (hl:lvl<=8) (hp:p<T.length):aB T (pM T) lvl p=eE T lvl p:=((ia hT (pM T)).1 lvl p hl hp (by unfold pM;omega)).symm
theorem xB {lvl p:Nat} {x:EJ} (hl:lvl<=7) (hp:p<T.length):fC T (pM T) lvl x p=eB T lvl x p:=((ia hT (pM T)).2.1 lvl x p hl hp (by unfold pM;omega)).symm
theorem xI {p:Nat} {x:EJ} (hp:p<T.length):dB T (pM T) x p=eP T x p:=((ia hT (pM T)).2.2.1 x p hp (by unfold pM;omega)).symm
theorem yj {p:Nat} (hp:p<T.length):bU T (pM T) p=eA T p:=((ia hT (pM T)).2.2.2.1 p hp (by unfold pM;omega)).symm
theorem xG {p:Nat} {acc:List EJ} (hp:p<T.length):dA T (pM T) acc p=eL T acc p:=((ia hT (pM T)).2.2.2.2 acc p hp (by unfold pM;omega)).symm
theorem sA {p:Nat} {acc:List SJ} (hp:p<T.length):bE T (pM T) acc p=eS T acc p:=((pF hT (pM T)).1 acc p hp (by unfold pM;omega)).symm
theorem wi {p:Nat} (hp:p<T.length):bc T (pM T) p=eK T p:=((pF hT (pM T)).2 p hp (by unfold pM;omega)).symm
theorem vB {lvl p:Nat} (hp:p<T.length):(eE T lvl p).In T p:=(lq hT _).1 lvl p hp
theorem xy {p:Nat} (hp:p<T.length):(eA T p).In T p:=(lq hT _).2.2.2.1 p hp
theorem qf {p:Nat} {acc:List SJ} (hp:p<T.length):(eS T acc p).In0 T p:=(pG hT _).1 acc p hp
theorem vC {p:Nat} (hp:p<T.length):(eK T p).In T p:=(pG hT _).2 p hp
theorem dl {lvl p q:Nat} {x:EJ} (hp:p<T.length) (h:eE T lvl p=.ok x q):p<q/\q<T.length:=by have:=vB hT (lvl:=lvl) hp;rw [h] at this;exact this
theorem mx {lvl p q:Nat} (hp:p<T.length) (h:eE T lvl p=.bad q):p<=q/\q<T.length:=by have:=vB hT (lvl:=lvl) hp;rw [h] at this;exact this
theorem vA {p q:Nat} {x:EJ} (hp:p<T.length) (h:eA T p=.ok x q):p<q/\q<T.length:=by have:=xy hT hp;rw [h] at this;exact this
theorem kf {p q:Nat} {x:List SJ} (hp:p<T.length) (h:eK T p=.ok x q):p<q/\q<T.length:=by have:=vC hT hp;rw [h] at this;exact this
theorem pb {p q:Nat} (hp:p<T.length) (h:eK T p=.bad q):p<=q/\q<T.length:=by have:=vC hT hp;rw [h] at this;exact this
theorem wg {lvl p:Nat} (h:lvl=3∨lvl=7) (hp:p<T.length):eE T lvl p=(match dU T lvl p with
  | some k=>(match eE T lvl (p+1) with | .ok x q=>.ok (eOp k [x]) q | .bad q=>.bad q)
  | none=>eE T (lvl+1) p):=by
 conv=>lhs;unfold eE aB
 rw [if_pos h];cases ho:dU T lvl p with
 | none=>simp only;rw [lk hT (by omega) hp]
 | some k=>simp only;rw [lk hT (by omega) (hT.next hp (eq ho))];rfl
theorem ux {p:Nat} (hp:p<T.length):eE T 8 p=(match eA T p with | .ok x q=>eP T x q | .bad q=>.bad q):=by
 conv=>lhs;unfold eE aB
 rw [if_neg (by omega),if_pos (Nat.le_refl _),yj hT hp];cases ho:eA T p with
 | bad q=>rfl
 | ok x q=>simp only;rw [xI hT (vA hT hp ho).2]
theorem we {lvl p:Nat} (h3:¬ (lvl=3∨lvl=7)) (h8:¬ 8<=lvl) (hp:p<T.length):eE T lvl p=(match eE T (lvl+1) p with | .ok x q=>eB T lvl x q | .bad q=>.bad q):=by
 conv=>lhs;unfold eE aB
 rw [if_neg h3,if_neg h8,lk hT (by omega) hp];cases ho:eE T (lvl+1) p with
 | bad q=>rfl
 | ok x q=>simp only;rw [xB hT (by omega) (dl hT hp ho).2]
theorem xz {lvl p:Nat} {x:EJ} (hl:lvl<=7) (hp:p<T.length):eB T lvl x p=(match dU T lvl p with
  | none=>.ok x p
  |some k=>match eE T (lvl+1) (p+1) with
   | .bad q=>.bad q
   | .ok y q=>if lvl=4 then .ok (eOp k [x,y]) q else eB T lvl (eOp k [x,y]) q):=by
 conv=>lhs;unfold eB fC
 cases ho:dU T lvl p with
 | none=>rfl
 |some k =>
  simp only;have h1:=hT.next hp (eq ho);rw [lk hT (by omega) h1];cases hx:eE T (lvl+1) (p+1) with
  | bad q=>rfl
  | ok y q=>simp only;rw [xB hT hl (dl hT h1 hx).2]
theorem vF {p:Nat} {x:EJ} (hp:p<T.length):eP T x p=(if ao T p [46]=true then (if tkK T (p+1)=1 then eP T (.mk 3 cJ (tkT T (p+1)) [x]) (p+2) else .bad (p+1)) else .ok x p):=by
 conv=>lhs;unfold eP dB
 by_cases hs:ao T p [46]=true
 ·rw [if_pos hs,if_pos hs];by_cases hk:tkK T (p+1)=1
  ·rw [if_pos hk,if_pos hk,xI hT (hT.next (hT.next hp (am hs)) (by omega))]
  ·rw [if_neg hk,if_neg hk]
 ·rw [if_neg hs,if_neg hs]
theorem xx {p:Nat} (hp:p<T.length):eA T p=(if tkK T p=1 then .ok (.mk 2 cJ (tkT T p) []) (p+1)
  else if tkK T p=3 then .ok (eb (nS (tkN T p))) (p+1)
  else if tkK T p=4 then .ok (eb (jz (tkT T p))) (p+1)
  else if ao T p pX=true then .ok (eb (.mk 1 0 [] [] [])) (p+1)
  else if ao T p lh=true then .ok (eb (fe true)) (p+1)
  else if ao T p ig=true then .ok (eb (fe false)) (p+1)
  else if ao T p [40]=true then (match eE T 1 (p+1) with
   | .ok x q=>if ao T q [41]=true then .ok x (q+1) else .bad q
   | .bad q=>.bad q)
  else if ao T p [91]=true then (if ao T (p+1) [93]=true then .ok (eOp 4 []) (p+2) else eL T [] (p+1))
  else .bad p):=by
 conv=>lhs;unfold eA bU
 by_cases h40:ao T p [40]=true
 ·rw [lk hT (by omega) (hT.next hp (am h40))]
  repeat' split
  all_goals first | rfl | contradiction | simp_all
 ·by_cases h91:ao T p [91]=true
  ·rw [xG hT (hT.next hp (am h91))]
   repeat' split
   all_goals first | rfl | contradiction | simp_all
  ·repeat' split
   all_goals first | rfl | contradiction | simp_all
theorem vD {p:Nat} {acc:List EJ} (hp:p<T.length):eL T acc p=(match eE T 1 p with
  | .bad q=>.bad q
  | .ok x q=>if ao T q [44]=true then eL T (acc++[x]) (q+1) else if ao T q [93]=true then .ok (eOp 4 (acc++[x])) (q+1) else .bad q):=by
 conv=>lhs;unfold eL dA
 rw [lk hT (by omega) hp];cases hx:eE T 1 p with
 | bad q=>rfl
 |ok x q =>
  simp only;by_cases hs:ao T q [44]=true
  ·rw [if_pos hs,if_pos hs,xG hT (hT.next (dl hT hp hx).2 (am hs))]
  ·rw [if_neg hs,if_neg hs]
theorem xC {p:Nat} (hp:p<T.length):eK T p=(if ao T p [123]=true then (match eS T [] (p+1) with
   | .bad q=>.bad q
   | .ok l q=>if ao T q [125]=true then .ok l (q+1) else .bad q)
  else .bad p):=by
 conv=>lhs;unfold eK bc
 by_cases hs:ao T p [123]=true
 ·rw [if_pos hs,if_pos hs,sA hT (hT.next hp (am hs))];rfl
 ·rw [if_neg hs,if_neg hs]
end
def jv (T:List al) (p:Nat):PR SJ:=match eE T 1 p with
 | .bad q=>.bad q
 | .ok a q=>if ao T q [44]=true then (match eE T 1 (q+1) with
   | .bad r=>.bad r
   | .ok b r=>if ao T r [59]=true then .ok (.mk 1 [] a b [] []) (r+1) else .bad r)
  else .bad q
def eIf (T:List al) (p:Nat):PR SJ:=match eE T 1 p with
 | .bad q=>.bad q
 | .ok a q=>match eK T q with
  | .bad r=>.bad r
  | .ok body r=>if ao T r gl=true then (match eK T (r+1) with
    | .bad u=>.bad u
    | .ok els u=>.ok (.mk 2 [] a a8 body els) u)
   else .ok (.mk 2 [] a a8 body []) r
def nC (T:List al) (p:Nat):PR SJ :=
 if tkK T p=1 then
  (if ao T (p+1) wIn=true then (match eE T 1 (p+2) with
   | .bad q=>.bad q
   | .ok a q=>match eK T q with
    | .bad r=>.bad r
    | .ok body r=>.ok (.mk 3 (tkT T p) a a8 body []) r)
  else .bad (p+1))
 else .bad p
def fM (T:List al) (p:Nat):Option (PR SJ) :=
 if ao T p fB=true then some (jv T (p+1)) else if ao T p wIf=true then some (eIf T (p+1)) else if ao T p lu=true then some (nC T (p+1)) else none
section
variable {T:List al} (hT:WT T)
include hT
theorem sw {p:Nat} (hp:p<T.length):(jv T p).In T p:=by
 unfold jv;cases h1:eE T 1 p with
 | bad q=>exact mx hT hp h1
 |ok a q =>
  have g1:=dl hT hp h1;simp only;split
  ·rename_i hs
   have h0:=hT.next g1.2 (am hs);cases h2:eE T 1 (q+1) with
   | bad r=>have g2:=mx hT h0 h2;exact ⟨by omega,g2.2⟩
   |ok b r =>
    have g2:=dl hT h0 h2;simp only;split
    ·rename_i hs2;exact ⟨by omega,hT.next g2.2 (am hs2)⟩
    ·exact ⟨by omega,g2.2⟩
  ·exact ⟨by omega,g1.2⟩
theorem wh {p:Nat} (hp:p<T.length):(eIf T p).In T p:=by
 unfold eIf;cases h1:eE T 1 p with
 | bad q=>exact mx hT hp h1
 |ok a q =>
  have g1:=dl hT hp h1;simp only;cases h2:eK T q with
  | bad r=>have g2:=pb hT g1.2 h2;exact ⟨by omega,g2.2⟩
  |ok body r =>
   have g2:=kf hT g1.2 h2;simp only;split
   ·rename_i hs
    have h0:=hT.next g2.2 (am hs);cases h3:eK T (r+1) with
    | bad u=>have g3:=pb hT h0 h3;exact ⟨by omega,g3.2⟩
    | ok els u=>have g3:=kf hT h0 h3;exact ⟨by omega,g3.2⟩
   ·exact ⟨by omega,g2.2⟩
theorem uy {p:Nat} (hp:p<T.length):(nC T p).In T p:=by
 unfold nC;split
 ·rename_i hk
  have h0:=hT.next hp (by omega);split
  ·rename_i hs
   have h9:=hT.next h0 (am hs);cases h1:eE T 1 (p+2) with
   | bad q=>have g1:=mx hT h9 h1;exact ⟨by omega,g1.2⟩
   |ok a q =>
    have g1:=dl hT h9 h1;simp only;cases h2:eK T q with
    | bad r=>have g2:=pb hT g1.2 h2;exact ⟨by omega,g2.2⟩
    | ok body r=>have g2:=kf hT g1.2 h2;exact ⟨by omega,g2.2⟩
  ·exact ⟨by omega,h0⟩
 ·exact ⟨Nat.le_refl _,hp⟩
theorem eX {p:Nat} {r:PR SJ} (hp:p<T.length) (h:fM T p=some r):p+1<T.length/\r.In T (p+1):=by
 unfold fM at h;split at h
 ·rename_i hs
  have h0:=hT.next hp (am hs);injection h with h;subst h
  exact ⟨h0,sw hT h0⟩
 split at h
 ·rename_i hs
  have h0:=hT.next hp (am hs);injection h with h;subst h
  exact ⟨h0,wh hT h0⟩
 split at h
 ·rename_i hs
  have h0:=hT.next hp (am hs);injection h with h;subst h
  exact ⟨h0,uy hT h0⟩
 ·cases h
theorem kh {p:Nat} {acc:List SJ} (hp:p<T.length):eS T acc p=(match fM T p with
  | none=>.ok acc p
  | some (.bad q)=>.bad q
  | some (.ok x q)=>eS T (acc++[x]) q):=by
 conv=>lhs;unfold eS bE
 unfold fM;by_cases h1:ao T p fB=true
 ·have h0:=hT.next hp (am h1);rw [if_pos h1,if_pos h1,lk hT (by omega) h0];simp only [jv];cases hx:eE T 1 (p+1) with
  | bad q=>rfl
  |ok a q =>
   simp only;have g1:=dl hT h0 hx;by_cases h2:ao T q [44]=true
   ·have g0:=hT.next g1.2 (am h2);rw [if_pos h2,if_pos h2,lk hT (by omega) g0];cases hy:eE T 1 (q+1) with
    | bad r=>rfl
    |ok b r =>
     have g2:=dl hT g0 hy;simp only;by_cases h3:ao T r [59]=true
     ·rw [if_pos h3,if_pos h3,sA hT (hT.next g2.2 (am h3))]
     ·rw [if_neg h3,if_neg h3]
   ·rw [if_neg h2,if_neg h2]
 rw [if_neg h1,if_neg h1];by_cases h4:ao T p wIf=true
 ·have h0:=hT.next hp (am h4);rw [if_pos h4,if_pos h4,lk hT (by omega) h0];simp only [eIf];cases hx:eE T 1 (p+1) with
  | bad q=>rfl
  |ok a q =>
   have g1:=dl hT h0 hx;simp only;rw [wi hT g1.2];cases hy:eK T q with
   | bad r=>rfl
   |ok body r =>
    have g2:=kf hT g1.2 hy;simp only;by_cases h5:ao T r gl=true
    ·have g0:=hT.next g2.2 (am h5);rw [if_pos h5,if_pos h5,wi hT g0];cases hz:eK T (r+1) with
     | bad u=>rfl
     | ok els u=>simp only;rw [sA hT (kf hT g0 hz).2]
    ·rw [if_neg h5,if_neg h5,sA hT g2.2]
 rw [if_neg h4,if_neg h4];by_cases h6:ao T p lu=true
 ·have h0:=hT.next hp (am h6);rw [if_pos h6,if_pos h6];simp only [nC];by_cases h7:tkK T (p+1)=1
  ·have h9:=hT.next h0 (by omega);rw [if_pos h7,if_pos h7,show p+1+1=p+2 from rfl,show p+1+2=p+3 from rfl];by_cases h8:ao T (p+2) wIn=true
   ·have g9:=hT.next h9 (am h8);rw [if_pos h8,if_pos h8,lk hT (by omega) g9];cases hx:eE T 1 (p+3) with
    | bad q=>rfl
    |ok a q =>
     have g1:=dl hT g9 hx;simp only;rw [wi hT g1.2];cases hy:eK T q with
     | bad r=>rfl
     | ok body r=>simp only;rw [sA hT (kf hT g1.2 hy).2]
   ·rw [if_neg h8,if_neg h8]
  ·rw [if_neg h7,if_neg h7]
 rw [if_neg h6,if_neg h6]
end
theorem kH (T:List al):fZ T=(match eS T [] 0 with
 | .bad p=>.bad p
 | .ok l p=>if tkK T p=6 then .ok l p else .bad p):=by unfold fZ eS;rw [xL];rfl
end
section
open Go.RowKit
attribute [local go_sem] ab ae af ac
structure VP (W:World) (g:Nat) (A:Option Addr) (nT cap:Nat) (T:List al) (p:Nat):Prop where
 blk:Blk W g 123 #[Zi Zq p,Zs A nT cap]
 rd:RdF W (λ b=>b≠g) A (aS T)
 len:T.length=nT
 gob:∃ w0:World,GOE w0/\w0.heap.size<=g/\Below w0.heap.size w0 W
section
variable {W W':World} {g:Nat} {A:Option Addr} {nT cap:Nat} {T:List al} {p q:Nat}
theorem VP.keep (h:VP W g A nT cap T p) (hb:Below W.heap.size W W'):VP W' g A nT cap T p:=by
 obtain ⟨w0,h1,h2,h3⟩:=h.gob;exact ⟨h.blk.keep hb,h.rd.keep (aj.of_below hb),h.len,w0,h1,h2,h3.trans (hb.mono (by have:=h.blk.lt;omega))⟩
theorem VP.goe (h:VP W g A nT cap T p):GOE W:=by obtain ⟨w0,h1,_,h2⟩:=h.gob;exact h1.keep h2
theorem qX (h:W.grownBy W' (some g)):aj (λ b=>b≠g) W W':=aj.of_grown h λ b hb e=>hb (by injection e)
theorem VP.step (h:VP W g A nT cap T p) (hg:W.grownBy W' (some g)) (hb:Blk W' g 123 #[Zi Zq q,Zs A nT cap]):VP W' g A nT cap T q:=by
 obtain ⟨w0,h1,h2,h3⟩:=h.gob;exact ⟨hb,h.rd.keep (qX hg),h.len,w0,h1,h2,h3.grown hg (by have:=h.blk.lt;omega) (λ k e=>by injection e with e;omega)⟩
theorem VP.set0 (h:VP W g A nT cap T p) {z:Int} (hz:z=(q:Nat)):VP (W.setCell ⟨g,0,none⟩ (Zi Zq z)) g A nT cap T q:=by
 subst hz;exact h.step (bt (ec W _) 0 _) (h.blk.set_ 0 _)
theorem VP.tok (h:VP W g A nT cap T p) (hq:q<nT):∃ b o,A=some ⟨b,o,none⟩/\b<W.heap.size/\b≠g/\W.cell? ⟨b,o+q*4,none⟩=some (Zi Zq (tkK T q))/\W.cell? ⟨b,o+q*4+1,none⟩=some (Zi Zq (tkA T q:Nat)) /\
   W.cell? ⟨b,o+q*4+2,none⟩=some (Zt ⟨(tkT T q).toArray⟩)/\W.cell? ⟨b,o+q*4+3,none⟩=some (Zi Zq (tkN T q)):=by
 have hl:=h.len;have hx:T[q]? = some T[q]:=List.getElem?_eq_getElem (by omega);obtain ⟨b,o,e,hb,h0,h1,h2,h3⟩:=h.rd.rd.tok hx;obtain ⟨b',o',e',_,hne,_⟩:=h.rd (by intro e9;have h9:=ee T;rw [e9,List.length_nil] at h9;omega);obtain ⟨rfl,rfl⟩:b=b'/\o=o':=by rw [e] at e';simpa using e'
 refine ⟨b,o,e,hb,hne,?_,?_,?_,?_⟩
 ·unfold tkK;rw [hx];exact h0
 ·unfold tkA;rw [hx];exact h1
 ·unfold tkT;rw [hx];exact h2
 ·unfold tkN;rw [hx];exact h3
end
def aG (q:Nat):Ending:=.panicked [{ v:=.iface 117 (Zi Zq q),recovered:=false }]
def vQ (b:Bool) (W:World) (e:Ending) (W':World):Prop:=e=.returned (.bool b)/\Below W.heap.size W W'
theorem tW (s:List UInt8) (W:World) (g:Nat) (A:Option Addr) (nT cap:Nat) (T:List al) (p:Nat) (hV:VP W g A nT cap T p) (hp:p<nT) (hn:nT<=1000) :
  Calls Tryz.prog 175 #[Zp (some ⟨g,0,none⟩),Zt ⟨s.toArray⟩] W (vQ (ao T p s) W):=by
 obtain ⟨b,o,rfl,hb,hbg,x0,x1,x2,x3⟩:=hV.tok hp;have hS:ao T p s=decide ((tkK T p=5∨tkK T p=2)/\tkT T p=s):=rfl;obtain ⟨k,hk⟩:∃ k,tkK T p=k:=⟨_,rfl⟩
 obtain ⟨t,ht⟩:∃ t,tkT T p=t:=⟨_,rfl⟩
 obtain ⟨at_,hat⟩:∃ a,tkA T p=a:=⟨_,rfl⟩
 obtain ⟨m,hm⟩:∃ a,tkN T p=a:=⟨_,rfl⟩
 rw [hk] at x0 hS;rw [ht] at x2 hS;rw [hat] at x1;rw [hm] at x3;rw [hS];obtain ⟨tb,htb⟩:∃ tb,decide (t=s)=tb:=⟨_,rfl⟩
 have hres:decide ((k=5∨k=2)/\t=s)=(decide (k=5∨k=2) && tb):=by rw [← htb,Bool.decide_and]
 rw [hres];have e1:(t == s)=tb:=by rw [← htb,Bool.eq_iff_iff];simp
 have e2:((⟨t.toArray⟩:ByteArray).toList == (⟨s.toArray⟩:ByteArray).toList)=tb:=by rw [dP];exact htb
 obtain ⟨c0,f0,l0⟩:=hV.blk.rules;have c00:=c0 0;have c01:=c0 1;simp at c00 c01;have HT:=aW htb;have HB:=aW (Below.refl W.heap.size W);have hpi:(p:Int)<(nT:Int):=by omega
 clear hV hS hk ht hat hm hres htb;have key:∀ r:Bool,r=(decide (k=5∨k=2) && tb)->Calls Tryz.prog 175 #[Zp (some ⟨g,0,none⟩),Zt ⟨s.toArray⟩] W (vQ r W):=by
  intro r hr;by_cases h5:k=5
  ·have k5:(k == 5)=true:=by simp [h5]
   have HR:=aW (show r=tb by rw [hr,h5];simp);clear hr h5;cases tb
   all_goals
    go_enter Tryz.func175,Tryz.ntmps175;go_upto_region 1 with fail;go_region_held3 (λ w'=>w'.cell? ⟨g,0,none⟩=some (Zi Zq (p:Int))/\w'.cell? ⟨g,1,none⟩=some (Zs (some ⟨b,o,none⟩) nT cap)/\w'.cell? ⟨b,o+p*4,none⟩=some (Zi Zq k)/\w'.cell? ⟨b,o+p*4+1,none⟩=some (Zi Zq (at_:Int))/\w'.cell? ⟨b,o+p*4+2,none⟩=some (Zt ⟨t.toArray⟩)/\w'.cell? ⟨b,o+p*4+3,none⟩=some (Zi Zq m)) (go_keep) (fail)
    all_goals
     go_wp2;go_ret;exact ⟨ak HR.out.symm,by go_grown⟩
  ·have k5:(k == 5)=false:=by simp [h5]
   by_cases h2:k=2
   ·have k2:(k == 2)=true:=by simp [h2]
    have HR:=aW (show r=tb by rw [hr,h2];simp);clear hr h5 h2;cases tb
    all_goals
     go_enter Tryz.func175,Tryz.ntmps175;go_upto_region 1 with fail;go_region_held3 (λ w'=>w'.cell? ⟨g,0,none⟩=some (Zi Zq (p:Int))/\w'.cell? ⟨g,1,none⟩=some (Zs (some ⟨b,o,none⟩) nT cap)/\w'.cell? ⟨b,o+p*4,none⟩=some (Zi Zq k)/\w'.cell? ⟨b,o+p*4+1,none⟩=some (Zi Zq (at_:Int))/\w'.cell? ⟨b,o+p*4+2,none⟩=some (Zt ⟨t.toArray⟩)/\w'.cell? ⟨b,o+p*4+3,none⟩=some (Zi Zq m)) (go_keep) (fail)
     all_goals
      go_wp2;go_ret;exact ⟨ak HR.out.symm,by go_grown⟩
   ·have k2:(k == 2)=false:=by simp [h2]
    have HR:=aW (show r=false by rw [hr];simp [h5,h2]);clear hr h5 h2 e1 e2;go_enter Tryz.func175,Tryz.ntmps175;go_upto_region 1 with fail;go_region_held3 (λ w'=>w'.cell? ⟨g,0,none⟩=some (Zi Zq (p:Int))/\w'.cell? ⟨g,1,none⟩=some (Zs (some ⟨b,o,none⟩) nT cap)/\w'.cell? ⟨b,o+p*4,none⟩=some (Zi Zq k)/\w'.cell? ⟨b,o+p*4+1,none⟩=some (Zi Zq (at_:Int))/\w'.cell? ⟨b,o+p*4+2,none⟩=some (Zt ⟨t.toArray⟩)/\w'.cell? ⟨b,o+p*4+3,none⟩=some (Zi Zq m)) (go_keep) (fail)
    all_goals
     go_wp2;go_ret;exact ⟨ak HR.out.symm,by go_grown⟩
 exact key _ rfl
theorem gL (W:World) (g:Nat) (A:Option Addr) (nT cap:Nat) (T:List al) (p:Nat) (hV:VP W g A nT cap T p) (hp:p<nT) (hn:nT<=1000) :
  Calls Tryz.prog 87 #[Zp (some ⟨g,0,none⟩)] W λ e W'=>e=aG (tkA T p)/\Below W.heap.size W W':=by
 obtain ⟨b,o,rfl,hb,hbg,x0,x1,x2,x3⟩:=hV.tok hp;obtain ⟨at_,hat⟩:∃ a,tkA T p=a:=⟨_,rfl⟩
 rw [hat] at x1 ⊢;obtain ⟨c0,f0,l0⟩:=hV.blk.rules;have c00:=c0 0;have c01:=c0 1;simp at c00 c01;have hpi:(p:Int)<(nT:Int):=by omega
 unfold aG;clear hV hat x0 x2 x3;go_enter Tryz.func87,Tryz.ntmps87;go_upto_region 0 with fail;refine wp_region_held_drew (S:=λ w'=>w'.cell? ⟨g,0,none⟩=some (Zi Zq (p:Int))/\w'.cell? ⟨g,1,none⟩=some (Zs (some ⟨b,o,none⟩) nT cap)/\w'.cell? ⟨b,o+p*4+1,none⟩=some (Zi Zq (at_:Int))) (by kernel_rfl) (by exact ⟨c00,c01,x1⟩) (λ hHeld=>?_);refine aY 0 2 (Zp (some ⟨g,0,none⟩)) rfl ?_ ?_
 ·intro W hSw;obtain ⟨z0,z1,z2⟩:=hSw;go_simp
 refine aY 1 3 (Zp (some ⟨g,0,none⟩)) rfl ?_ ?_
 ·intro W hSw;obtain ⟨z0,z1,z2⟩:=hSw;go_simp
 refine aY 2 4 (Zp (some ⟨g,1,none⟩)) rfl ?_ ?_
 ·intro W hSw;obtain ⟨z0,z1,z2⟩:=hSw;go_simp
 refine aY 3 5 (Zs (some ⟨b,o,none⟩) nT cap) rfl ?_ ?_
 ·intro W hSw;obtain ⟨z0,z1,z2⟩:=hSw;go_simp
 refine aY 4 6 (Zp (some ⟨g,0,none⟩)) rfl ?_ ?_
 ·intro W hSw;obtain ⟨z0,z1,z2⟩:=hSw;go_simp
 refine aY 5 7 (Zp (some ⟨g,0,none⟩)) rfl ?_ ?_
 ·intro W hSw;obtain ⟨z0,z1,z2⟩:=hSw;go_simp
 refine aY 6 8 (Zp (some ⟨g,0,none⟩)) rfl ?_ ?_
 ·intro W hSw;obtain ⟨z0,z1,z2⟩:=hSw;go_simp
 refine aY 7 9 (Zp (some ⟨g,0,none⟩)) rfl ?_ ?_
 ·intro W hSw;obtain ⟨z0,z1,z2⟩:=hSw;go_simp
 refine aY 8 10 (Zi Zq (p:Int)) rfl ?_ ?_
 ·intro W hSw;obtain ⟨z0,z1,z2⟩:=hSw;go_simp
 refine aY 9 11 (Zp (some ⟨b,o+p*4,none⟩)) rfl ?_ ?_
 ·intro W hSw;obtain ⟨z0,z1,z2⟩:=hSw;go_simp
 refine aY 10 12 (Zp (some ⟨b,o+p*4+1,none⟩)) rfl ?_ ?_
 ·intro W hSw;obtain ⟨z0,z1,z2⟩:=hSw;go_simp
 refine aY 11 13 (Zi Zq (at_:Int)) rfl ?_ ?_
 ·intro W hSw;obtain ⟨z0,z1,z2⟩:=hSw;go_simp
 refine aY 12 14 (.iface 117 (Zi Zq (at_:Int))) rfl ?_ ?_
 ·intro W hSw;obtain ⟨z0,z1,z2⟩:=hSw;go_simp
 refine aU 13 rfl (λ K hK=>?_);go_simp;exact ⟨rfl,rfl,(Below.refl _ _).drew⟩
def yg (g:Nat) (A:Option Addr) (nT cap:Nat) (T:List al) (p:Nat) (W:World) (e:Ending) (W':World):Prop:=e=.returned (.bool true)/\VP W' g A nT cap T (p+1)/\W.grownBy W' (some g)
theorem ef (s:List UInt8) (W:World) (g:Nat) (A:Option Addr) (nT cap:Nat) (T:List al) (p:Nat) (hV:VP W g A nT cap T p) (hp:p<nT) (hn:nT<=1000) (hs:ao T p s=false) :
  Calls Tryz.prog 139 #[Zp (some ⟨g,0,none⟩),Zt ⟨s.toArray⟩] W (vQ false W):=by
 have hS:=tW s W g A nT cap T p hV hp hn;rw [hs] at hS;have HS:=aW hS;clear hV hS hs;go_enter Tryz.func139,Tryz.ntmps139;go_wp2_with (go_at_call 175;refine HS.out.mono ?_;rintro e w1 ⟨rfl,hb1⟩);go_ret;exact ⟨rfl,hb1⟩
theorem eh (s:List UInt8) (W:World) (g:Nat) (A:Option Addr) (nT cap:Nat) (T:List al) (p:Nat) (hV:VP W g A nT cap T p) (hp:p<nT) (hn:nT<=1000) (hs:ao T p s=true) :
  Calls Tryz.prog 139 #[Zp (some ⟨g,0,none⟩),Zt ⟨s.toArray⟩] W (yg g A nT cap T p W):=by
 have hS:=tW s W g A nT cap T p hV hp hn;rw [hs] at hS;have HS:=aW hS;have HV:=aW hV;have hp9:(p:Int)<=1000:=by omega
 clear hV hS hs hp;go_enter Tryz.func139,Tryz.ntmps139;go_wp2_with (go_at_call 175;refine HS.out.mono ?_;rintro e w1 ⟨rfl,hb1⟩;obtain ⟨c0,f0,l0⟩:=(HV.out.keep hb1).blk.rules);go_ret;exact ⟨rfl,(HV.out.keep hb1).set0 (by omega),bt (aw hb1 _) 0 _⟩
theorem fz (s:List UInt8) (W:World) (g:Nat) (A:Option Addr) (nT cap:Nat) (T:List al) (p:Nat) (hV:VP W g A nT cap T p) (hp:p<nT) (hn:nT<=1000) (hs:ao T p s=true) :
  Calls Tryz.prog 172 #[Zp (some ⟨g,0,none⟩),Zt ⟨s.toArray⟩] W (λ e W'=>e=.returned (.tuple #[])/\VP W' g A nT cap T (p+1)/\W.grownBy W' (some g)):=by
 have HS:=aW (eh s W g A nT cap T p hV hp hn hs);clear hV hs hp;go_enter Tryz.func172,Tryz.ntmps172;go_wp2_with (go_at_call 139;refine HS.out.mono ?_;rintro e w1 ⟨rfl,hv1,hg1⟩);go_end0;exact ⟨rfl,hv1,hg1⟩
theorem fy (s:List UInt8) (W:World) (g:Nat) (A:Option Addr) (nT cap:Nat) (T:List al) (p:Nat) (hV:VP W g A nT cap T p) (hp:p<nT) (hn:nT<=1000) (hs:ao T p s=false) :
  Calls Tryz.prog 172 #[Zp (some ⟨g,0,none⟩),Zt ⟨s.toArray⟩] W (λ e W'=>e=aG (tkA T p)/\Below W.heap.size W W'):=by
 have HS:=aW (ef s W g A nT cap T p hV hp hn hs);have HF:=aW (λ w1 (h:Below W.heap.size W w1)=>gL w1 g A nT cap T p (hV.keep h) hp hn);unfold aG at HF ⊢;clear hV hs hp;go_enter Tryz.func172,Tryz.ntmps172;go_wp2_with (first | (go_at_call 139;refine HS.out.mono ?_;rintro e w1 ⟨rfl,hb1⟩) | (go_at_call 87;refine (HF.out _ hb1).mono ?_;rintro e w2 ⟨rfl,hb2⟩));exact ⟨rfl,rfl,hb1.trans (hb2.mono hb1.size)⟩
def uc (g:Nat) (A:Option Addr) (nT cap:Nat) (T:List al) (p:Nat) (W:World) (e:Ending) (W':World):Prop:=e=.returned (Zt ⟨(tkT T p).toArray⟩)/\VP W' g A nT cap T (p+1)/\W.grownBy W' (some g)
theorem qF (W:World) (g:Nat) (A:Option Addr) (nT cap:Nat) (T:List al) (p:Nat) (hV:VP W g A nT cap T p) (hp:p<nT) (hn:nT<=1000) (hk:tkK T p=1) :
  Calls Tryz.prog 174 #[Zp (some ⟨g,0,none⟩)] W (uc g A nT cap T p W):=by
 obtain ⟨b,o,rfl,hb,hbg,x0,x1,x2,x3⟩:=hV.tok hp;rw [hk] at x0;unfold uc;obtain ⟨t,ht⟩:∃ t,tkT T p=t:=⟨_,rfl⟩
 rw [ht] at x2 ⊢;obtain ⟨c0,f0,l0⟩:=hV.blk.rules;have hpi:(p:Int)<(nT:Int):=by omega
 have hp9:(p:Int)<=1000:=by omega
 have HV:=aW hV;clear hV hk ht x1 x3;go_enter Tryz.func174,Tryz.ntmps174;go_wp2;go_quiet (fail);go_wp2;go_quiet (fail);go_wp2;go_ret;exact ⟨rfl,((HV.out.keep (ah (Below.refl _ _) _)).set0 (by omega)).keep (ah (Below.refl _ _) _),e7 (bt (e7 (ec _ _) _) 0 _) _⟩
theorem qE (W:World) (g:Nat) (A:Option Addr) (nT cap:Nat) (T:List al) (p:Nat) (hV:VP W g A nT cap T p) (hp:p<nT) (hn:nT<=1000) (hk:tkK T p≠1) :
  Calls Tryz.prog 174 #[Zp (some ⟨g,0,none⟩)] W (λ e W'=>e=aG (tkA T p)/\Below W.heap.size W W'):=by
 obtain ⟨b,o,rfl,hb,hbg,x0,x1,x2,x3⟩:=hV.tok hp;obtain ⟨k,hkk⟩:∃ k,tkK T p=k:=⟨_,rfl⟩
 rw [hkk] at x0 hk;have HF:=aW (λ w1 (h:Below W.heap.size W w1)=>gL w1 g _ nT cap T p (hV.keep h) hp hn);unfold aG at HF ⊢;obtain ⟨c0,f0,l0⟩:=hV.blk.rules;have hpi:(p:Int)<(nT:Int):=by omega
 have hkb:(k != 1)=true:=by simpa using hk
 clear hV hkk x1 x2 x3;go_enter Tryz.func174,Tryz.ntmps174;go_wp2;go_quiet (fail);go_wp2_with (go_at_call 87;refine (HF.out _ (ah (Below.refl _ _) _)).mono ?_;rintro e w2 ⟨rfl,hb2⟩);exact ⟨rfl,rfl,(ah (Below.refl _ _) _).trans (hb2.mono (Nat.le_refl _))⟩
def lo (lvl:Int) (l:List (List UInt8 × Int × Int)):List (List UInt8 × Int):=(l.filter λ o=>decide (o.2.2=lvl)).map λ o=>(o.1,o.2.1)
theorem ti {lvl:Nat} (h:lvl<=9):lo lvl eJ=es lvl:=by
 rcases (by omega:lvl=0∨lvl=1∨lvl=2∨lvl=3∨lvl=4∨lvl=5∨lvl=6∨lvl=7∨lvl=8∨lvl=9) with rfl | rfl | rfl | rfl | rfl | rfl | rfl | rfl | rfl | rfl<;>rfl
theorem rh {T:List al} {p:Nat} {lvl:Int} {k:Nat} {t:List UInt8} {q1 q2:Int} (h:k<11) (hx:eJ.getD k fY=(t,q1,q2)) :
  eI T p (lo lvl (eJ.drop k))=if q2=lvl/\ao T p t=true then some q1 else eI T p (lo lvl (eJ.drop (k+1))):=by
 have e:eJ.drop k=(t,q1,q2)::eJ.drop (k+1):=by
  have hk:k<eJ.length:=h;rw [List.drop_eq_getElem_cons hk,← hx];simp [List.getD,hk]
 rw [e];unfold lo;rw [List.filter_cons];by_cases hq:q2=lvl
 ·rw [if_pos (by simpa using hq),List.map_cons,eI];by_cases hs:ao T p t=true
  ·rw [if_pos hs,if_pos ⟨hq,hs⟩]
  ·rw [if_neg hs,if_neg (λ h=>hs h.2)]
 ·rw [if_neg (by simpa using hq),if_neg (λ h=>hq h.1)]
theorem tj {T:List al} {p:Nat} {lvl:Int}:eI T p (lo lvl (eJ.drop 11))=none:=rfl
theorem wP {k:Nat} {t:List UInt8} {q1 q2:Int} (h:k<11) (hx:eJ.getD k fY=(t,q1,q2)):ofJ q1=(t,q1,q2):=by
 rcases (by omega:k=0∨k=1∨k=2∨k=3∨k=4∨k=5∨k=6∨k=7∨k=8∨k=9∨k=10) with rfl | rfl | rfl | rfl | rfl | rfl | rfl | rfl | rfl | rfl | rfl <;>
  (injection hx with h1 h2;injection h2 with h2 h3;subst h1 h2 h3;rfl)
def qK (o:Option Int) (g:Nat) (A:Option Addr) (nT cap:Nat) (T:List al) (p:Nat) (W:World) (e:Ending) (W':World):Prop:=match o with
 | none=>e=.returned (.agg #[Zt ⟨#[]⟩,Zi Zq 0,Zi Zq 0])/\Below W.heap.size W W'
 | some k=>e=.returned (.agg (fx (ofJ k)).toArray)/\VP W' g A nT cap T (p+1)/\W.grownBy W' (some g)
theorem oJ {w W:World} {g:Nat} (h:w.grownBy W (some g)) {b:Nat} (hb:w.heap.size<=b) (x y z:Value):w.grownBy (((W.setCell ⟨b,0,none⟩ x).setCell ⟨b,1,none⟩ y).setCell ⟨b,2,none⟩ z) (some g) :=
 cR (cR (cR h ⟨b,0,none⟩ x hb) ⟨b,1,none⟩ y hb) ⟨b,2,none⟩ z hb
theorem Blk.far3 {w:World} {g b:Nat} {t:TypeId} {cs:Array Value} (h:Blk w g t cs) (hb:g≠b) (x y z:Value):Blk (((w.setCell ⟨b,0,none⟩ x).setCell ⟨b,1,none⟩ y).setCell ⟨b,2,none⟩ z) g t cs :=
 ((h.far (p:=⟨b,0,none⟩) hb x).far (p:=⟨b,1,none⟩) hb y).far (p:=⟨b,2,none⟩) hb z
theorem tV (lvl:Nat) (q:Int) (w:World) (g:Nat) (A:Option Addr) (nT cap:Nat) (T:List al) (p:Nat) (hV:VP w g A nT cap T p) (hp:p<nT) (hn:nT<=1000) (hq:q=lvl) (hl:lvl<=9) :
  Calls Tryz.prog 197 #[Zp (some ⟨g,0,none⟩),Zi Zq q] w (qK (dU T lvl p) g A nT cap T p w):=by
 obtain ⟨r,hr⟩:∃ r,dU T lvl p=r:=⟨_,rfl⟩
 have HR:=aW (show eI T p (lo q (eJ.drop 0))=r by rw [← hr,hq];show eI T p (lo lvl eJ)=_;rw [ti hl];rfl);rw [hr];have HV:=aW hV;have HH0:=aW ((aH.nil w).push 154 #[Zt ⟨#[]⟩,Zi Zq 0,Zi Zq 0] (g:=w.heap.size) rfl);have hgw:g<w.heap.size:=hV.blk.lt;have hq9:q<=9/\0<=q:=by omega
 have HTN:=aW (λ (s:List UInt8) W (h:Below w.heap.size w W) (hs:ao T p s=false)=>ef s W g A nT cap T p (hV.keep h) hp hn hs);have HTY:=aW (λ (s:List UInt8) W (h:Below w.heap.size w W) (hs:ao T p s=true)=>eh s W g A nT cap T p (hV.keep h) hp hn hs);clear hV hr hq hl hp hn;go_enter Tryz.func197,Tryz.ntmps197;go_wp2_with fail;refine (kg _).mono ?_;rintro e w1 ⟨rfl,hb1⟩;have HH1:=aW (HH0.out.keep hb1);clear hb1 HH0;go_wp2;go_loopw [6,8] (λ _ i wr => ∃ k:Nat,k<=11/\i=Zi Zq k/\Hid (aH [(w.heap.size,154,#[Zt ⟨#[]⟩,Zi Zq 0,Zi Zq 0])] w wr)/\Hid (eI T p (lo q (eJ.drop k))=r)) (λ _ i _=>11-(intOf i).toNat)
 case atStart=>exact ⟨0,by omega,rfl,HH1,HR⟩
 case round =>
  obtain ⟨k,hk,rfl,HH,HN⟩:=hrel;by_cases h11:k<11
  ·have hix:=λ W=>tl k h11 W
   obtain ⟨⟨t,q1,q2⟩,hx⟩:∃ x,eJ.getD k fY=x:=⟨_,rfl⟩
   rw [hx] at hix;unfold fx at hix;simp only at hix;have HST:=aW (rh (T:=T) (p:=p) (lvl:=q) h11 hx);have HAT:=aW (wP h11 hx);clear hx;have HH2:=aW (HH.out.push 154 #[Zt ⟨t.toArray⟩,Zi Zq q1,Zi Zq q2] (g:=wr.heap.size) rfl);by_cases hqq:q2=q
   ·have hqe:(q2 == q)=true:=by simp [hqq]
    by_cases hs:ao T p t=true
    ·have HRR:=aW (show r=some q1 by rw [← HN.out,HST.out,if_pos ⟨hqq,hs⟩]);have HTA:=aW (HTY.out t _ HH2.out.1 hs);clear hqq hs;go_wp2_with (go_at_call 139;refine HTA.out.mono ?_;rintro e w3 ⟨rfl,hv3,hg3⟩;have hne:some wr.heap.size≠some g:=(by have:=HH.out.1.size;simp;omega);have hne0:some w.heap.size≠some g:=(by simp;omega);obtain ⟨c1,f1,l1⟩:=(HH2.out.b0.grown hg3 hne).rules;obtain ⟨c2,f2,l2⟩:=(HH2.out.b1.grown hg3 hne0).rules;have HV3:=aW hv3;have HG3:=aW hg3;clear hv3 hg3);refine bodyPost_ret (v:=.agg #[Zt ⟨t.toArray⟩,Zi Zq q1,Zi Zq q2]) (by simp only [results,Tryz.results197];go_simp) rfl ?_;rw [HRR.out];have hg9:=ag (aw HH2.out.1 (some g)) HG3.out;refine ⟨by rw [HAT.out];rfl,HV.out.step (oJ hg9 (Nat.le_refl _) _ _ _) (Blk.far3 HV3.out.blk (by omega) _ _ _),oJ hg9 (Nat.le_refl _) _ _ _⟩
    ·have hs':ao T p t=false:=by simpa using hs
     have HRR:=aW (show eI T p (lo q (eJ.drop (k+1)))=r by rw [← HN.out,HST.out,if_neg (λ h=>hs h.2)]);have HTA:=aW (HTN.out t _ HH2.out.1 hs');clear hqq hs hs';go_wp2_with (go_at_call 139;refine HTA.out.mono ?_;rintro e w3 ⟨rfl,hb3⟩;have HH3:=aW (HH2.out.keep hb3);clear hb3);go_roundw
     case rel=>exact ⟨k+1,by omega,by go_num,aW HH3.out.pop,HRR⟩
     case measure=>simp [intOf];omega
   ·have hqe:(q2 == q)=false:=by simp [hqq]
    have HRR:=aW (show eI T p (lo q (eJ.drop (k+1)))=r by rw [← HN.out,HST.out,if_neg (λ h=>hqq h.1)]);clear hqq;go_wp2;go_roundw
    case rel=>exact ⟨k+1,by omega,by go_num,aW HH2.out.pop,HRR⟩
    case measure=>simp [intOf];omega
  ·obtain rfl:k=11:=by omega
   have HRR:=aW (show r=none by rw [← HN.out,tj]);have hg:=HV.out.goe.keep HH.out.1;have hg0:=hg.c0;have hg1:=hg.c1;have hg2:=hg.c2;clear hg;obtain ⟨c0,f0,l0⟩:=HH.out.b0.rules;go_wp2;refine bodyPost_ret (v:=.agg #[Zt ⟨#[]⟩,Zi Zq 0,Zi Zq 0]) (by simp only [results,Tryz.results197];go_simp) rfl ?_;rw [HRR.out];exact ⟨rfl,js HH.out.1 (Nat.le_refl _) _ _ _⟩
end
end Go.Proofs.YtgmnmnnoahdjnaaGreatDoor
