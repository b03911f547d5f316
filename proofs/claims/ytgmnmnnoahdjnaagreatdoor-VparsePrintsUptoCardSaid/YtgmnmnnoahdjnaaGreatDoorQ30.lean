import Derived.Test.YtgmnmnnoahdjnaaGreatDoorQ26
import Derived.Test.YtgmnmnnoahdjnaaGreatDoorQ27
open Go.Value renaming int → Zi, slice → Zs, string → Zt, pointer → Zp
open Go.IntKind renaming i64 → Zq
set_option maxRecDepth 100000
set_option maxHeartbeats 16000000
set_option linter.unusedVariables false
set_option linter.unusedSimpArgs false
namespace Go.Proofs.YtgmnmnnoahdjnaaGreatDoor
section
def pM (T:List aq):Nat:=12*T.length+23
theorem AH (T:List aq):vU T=pM T+1:=by unfold vU pM;omega
def eE (T:List aq) (lvl p:Nat):PR EJ:=aP T (pM T+1) lvl p
def eB (T:List aq) (lvl:Nat) (x:EJ) (p:Nat):PR EJ:=iD T (pM T+1) lvl x p
def eP (T:List aq) (x:EJ) (p:Nat):PR EJ:=eJ T (pM T+1) x p
def eA (T:List aq) (p:Nat):PR EJ:=de T (pM T+1) p
def eL (T:List aq) (acc:List EJ) (p:Nat):PR EJ:=eI T (pM T+1) acc p
def eS (T:List aq) (acc:List SJ) (p:Nat):PR (List SJ):=cF T (pM T+1) acc p
def eK (T:List aq) (p:Nat):PR (List SJ):=bX T (pM T+1) p
section
variable {T:List aq} (hT:WT T)
include hT
theorem nJ {lvl p:Nat} (hl:lvl<=8) (hp:p<T.length):aP T (pM T) lvl p=eE T lvl p:=((iE hT (pM T)).1 lvl p hl hp (by unfold pM;omega)).symm
theorem Au {lvl p:Nat} {x:EJ} (hl:lvl<=7) (hp:p<T.length):iD T (pM T) lvl x p=eB T lvl x p:=((iE hT (pM T)).2.1 lvl x p hl hp (by unfold pM;omega)).symm
theorem AB {p:Nat} {x:EJ} (hp:p<T.length):eJ T (pM T) x p=eP T x p:=((iE hT (pM T)).2.2.1 x p hp (by unfold pM;omega)).symm
theorem Bm {p:Nat} (hp:p<T.length):de T (pM T) p=eA T p:=((iE hT (pM T)).2.2.2.1 p hp (by unfold pM;omega)).symm
theorem Az {p:Nat} {acc:List EJ} (hp:p<T.length):eI T (pM T) acc p=eL T acc p:=((iE hT (pM T)).2.2.2.2 acc p hp (by unfold pM;omega)).symm
theorem vi {p:Nat} {acc:List SJ} (hp:p<T.length):cF T (pM T) acc p=eS T acc p:=((sn hT (pM T)).1 acc p hp (by unfold pM;omega)).symm
theorem zf {p:Nat} (hp:p<T.length):bX T (pM T) p=eK T p:=((sn hT (pM T)).2 p hp (by unfold pM;omega)).symm
theorem yx {lvl p:Nat} (hp:p<T.length):(eE T lvl p).In T p:=(nO hT _).1 lvl p hp
theorem Ar {p:Nat} (hp:p<T.length):(eA T p).In T p:=(nO hT _).2.2.2.1 p hp
theorem vk {p:Nat} {acc:List SJ} (hp:p<T.length):(eS T acc p).In0 T p:=(su hT _).1 acc p hp
theorem yy {p:Nat} (hp:p<T.length):(eK T p).In T p:=(su hT _).2 p hp
theorem ec {lvl p q:Nat} {x:EJ} (hp:p<T.length) (h:eE T lvl p=.ok x q):p<q/\q<T.length:=by have:=yx hT (lvl:=lvl) hp;rw [h] at this;exact this
theorem po {lvl p q:Nat} (hp:p<T.length) (h:eE T lvl p=.bad q):p<=q/\q<T.length:=by have:=yx hT (lvl:=lvl) hp;rw [h] at this;exact this
theorem yw {p q:Nat} {x:EJ} (hp:p<T.length) (h:eA T p=.ok x q):p<q/\q<T.length:=by have:=Ar hT hp;rw [h] at this;exact this
theorem mp {p q:Nat} {x:List SJ} (hp:p<T.length) (h:eK T p=.ok x q):p<q/\q<T.length:=by have:=yy hT hp;rw [h] at this;exact this
theorem rJ {p q:Nat} (hp:p<T.length) (h:eK T p=.bad q):p<=q/\q<T.length:=by have:=yy hT hp;rw [h] at this;exact this
theorem zd {lvl p:Nat} (h:lvl=3∨lvl=7) (hp:p<T.length):eE T lvl p=(match ez T lvl p with
  | some k=>(match eE T lvl (p+1) with | .ok x q=>.ok (eOp k [x]) q | .bad q=>.bad q)
  | none=>eE T (lvl+1) p):=by
 conv=>lhs;unfold eE aP
 rw [if_pos h];cases ho:ez T lvl p with
 | none=>simp only;rw [nJ hT (by omega) hp]
 | some k=>simp only;rw [nJ hT (by omega) (hT.next hp (fy ho))];rfl
theorem xm {p:Nat} (hp:p<T.length):eE T 8 p=(match eA T p with | .ok x q=>eP T x q | .bad q=>.bad q):=by
 conv=>lhs;unfold eE aP
 rw [if_neg (by omega),if_pos (Nat.le_refl _),Bm hT hp];cases ho:eA T p with
 | bad q=>rfl
 | ok x q=>simp only;rw [AB hT (yw hT hp ho).2]
theorem zc {lvl p:Nat} (h3:¬ (lvl=3∨lvl=7)) (h8:¬ 8<=lvl) (hp:p<T.length):eE T lvl p=(match eE T (lvl+1) p with | .ok x q=>eB T lvl x q | .bad q=>.bad q):=by
 conv=>lhs;unfold eE aP
 rw [if_neg h3,if_neg h8,nJ hT (by omega) hp];cases ho:eE T (lvl+1) p with
 | bad q=>rfl
 | ok x q=>simp only;rw [Au hT (by omega) (ec hT hp ho).2]
theorem As {lvl p:Nat} {x:EJ} (hl:lvl<=7) (hp:p<T.length):eB T lvl x p=(match ez T lvl p with
  | none=>.ok x p
  |some k=>match eE T (lvl+1) (p+1) with
   | .bad q=>.bad q
   | .ok y q=>if lvl=4 then .ok (eOp k [x,y]) q else eB T lvl (eOp k [x,y]) q):=by
 conv=>lhs;unfold eB iD
 cases ho:ez T lvl p with
 | none=>rfl
 |some k =>
  simp only;have h1:=hT.next hp (fy ho);rw [nJ hT (by omega) h1];cases hx:eE T (lvl+1) (p+1) with
  | bad q=>rfl
  | ok y q=>simp only;rw [Au hT hl (ec hT h1 hx).2]
theorem yB {p:Nat} {x:EJ} (hp:p<T.length):eP T x p=(if au T p [46]=true then (if tkK T (p+1)=1 then eP T (.mk 3 dX (tkT T (p+1)) [x]) (p+2) else .bad (p+1)) else .ok x p):=by
 conv=>lhs;unfold eP eJ
 by_cases hs:au T p [46]=true
 ·rw [if_pos hs,if_pos hs];by_cases hk:tkK T (p+1)=1
  ·rw [if_pos hk,if_pos hk,AB hT (hT.next (hT.next hp (av hs)) (by omega))]
  ·rw [if_neg hk,if_neg hk]
 ·rw [if_neg hs,if_neg hs]
theorem Aq {p:Nat} (hp:p<T.length):eA T p=(if tkK T p=1 then .ok (.mk 2 dX (tkT T p) []) (p+1)
  else if tkK T p=3 then .ok (fH (pA (tkN T p))) (p+1)
  else if tkK T p=4 then .ok (fH (lg (tkT T p))) (p+1)
  else if au T p pX=true then .ok (fH (.mk 1 0 [] [] [])) (p+1)
  else if au T p kj=true then .ok (fH (ic true)) (p+1)
  else if au T p gX=true then .ok (fH (ic false)) (p+1)
  else if au T p [40]=true then (match eE T 1 (p+1) with
   | .ok x q=>if au T q [41]=true then .ok x (q+1) else .bad q
   | .bad q=>.bad q)
  else if au T p [91]=true then (if au T (p+1) [93]=true then .ok (eOp 4 []) (p+2) else eL T [] (p+1))
  else .bad p):=by
 conv=>lhs;unfold eA de
 by_cases h40:au T p [40]=true
 ·rw [nJ hT (by omega) (hT.next hp (av h40))]
  repeat' split
  all_goals first | rfl | contradiction | simp_all
 ·by_cases h91:au T p [91]=true
  ·rw [Az hT (hT.next hp (av h91))]
   repeat' split
   all_goals first | rfl | contradiction | simp_all
  ·repeat' split
   all_goals first | rfl | contradiction | simp_all
theorem yz {p:Nat} {acc:List EJ} (hp:p<T.length):eL T acc p=(match eE T 1 p with
  | .bad q=>.bad q
  | .ok x q=>if au T q [44]=true then eL T (acc++[x]) (q+1) else if au T q [93]=true then .ok (eOp 4 (acc++[x])) (q+1) else .bad q):=by
 conv=>lhs;unfold eL eI
 rw [nJ hT (by omega) hp];cases hx:eE T 1 p with
 | bad q=>rfl
 |ok x q =>
  simp only;by_cases hs:au T q [44]=true
  ·rw [if_pos hs,if_pos hs,Az hT (hT.next (ec hT hp hx).2 (av hs))]
  ·rw [if_neg hs,if_neg hs]
theorem Av {p:Nat} (hp:p<T.length):eK T p=(if au T p [123]=true then (match eS T [] (p+1) with
   | .bad q=>.bad q
   | .ok l q=>if au T q [125]=true then .ok l (q+1) else .bad q)
  else .bad p):=by
 conv=>lhs;unfold eK bX
 by_cases hs:au T p [123]=true
 ·rw [if_pos hs,if_pos hs,vi hT (hT.next hp (av hs))];rfl
 ·rw [if_neg hs,if_neg hs]
end
def kY (T:List aq) (p:Nat):PR SJ:=match eE T 1 p with
 | .bad q=>.bad q
 | .ok a q=>if au T q [44]=true then (match eE T 1 (q+1) with
   | .bad r=>.bad r
   | .ok b r=>if au T r [59]=true then .ok (.mk 1 [] a b [] []) (r+1) else .bad r)
  else .bad q
def eIf (T:List aq) (p:Nat):PR SJ:=match eE T 1 p with
 | .bad q=>.bad q
 | .ok a q=>match eK T q with
  | .bad r=>.bad r
  | .ok body r=>if au T r dE=true then (match eK T (r+1) with
    | .bad u=>.bad u
    | .ok els u=>.ok (.mk 2 [] a bQ body els) u)
   else .ok (.mk 2 [] a bQ body []) r
def qq (T:List aq) (p:Nat):PR SJ :=
 if tkK T p=1 then
  (if au T (p+1) wIn=true then (match eE T 1 (p+2) with
   | .bad q=>.bad q
   | .ok a q=>match eK T q with
    | .bad r=>.bad r
    | .ok body r=>.ok (.mk 3 (tkT T p) a bQ body []) r)
  else .bad (p+1))
 else .bad p
def iq (T:List aq) (p:Nat):Option (PR SJ) :=
 if au T p d8=true then some (kY T (p+1)) else if au T p wIf=true then some (eIf T (p+1)) else if au T p gM=true then some (qq T (p+1)) else none
section
variable {T:List aq} (hT:WT T)
include hT
theorem vg {p:Nat} (hp:p<T.length):(kY T p).In T p:=by
 unfold kY;cases h1:eE T 1 p with
 | bad q=>exact po hT hp h1
 |ok a q =>
  have g1:=ec hT hp h1;simp only;split
  ·rename_i hs
   have h0:=hT.next g1.2 (av hs);cases h2:eE T 1 (q+1) with
   | bad r=>have g2:=po hT h0 h2;exact ⟨by omega,g2.2⟩
   |ok b r =>
    have g2:=ec hT h0 h2;simp only;split
    ·rename_i hs2;exact ⟨by omega,hT.next g2.2 (av hs2)⟩
    ·exact ⟨by omega,g2.2⟩
  ·exact ⟨by omega,g1.2⟩
theorem ze {p:Nat} (hp:p<T.length):(eIf T p).In T p:=by
 unfold eIf;cases h1:eE T 1 p with
 | bad q=>exact po hT hp h1
 |ok a q =>
  have g1:=ec hT hp h1;simp only;cases h2:eK T q with
  | bad r=>have g2:=rJ hT g1.2 h2;exact ⟨by omega,g2.2⟩
  |ok body r =>
   have g2:=mp hT g1.2 h2;simp only;split
   ·rename_i hs
    have h0:=hT.next g2.2 (av hs);cases h3:eK T (r+1) with
    | bad u=>have g3:=rJ hT h0 h3;exact ⟨by omega,g3.2⟩
    | ok els u=>have g3:=mp hT h0 h3;exact ⟨by omega,g3.2⟩
   ·exact ⟨by omega,g2.2⟩
theorem xn {p:Nat} (hp:p<T.length):(qq T p).In T p:=by
 unfold qq;split
 ·rename_i hk
  have h0:=hT.next hp (by omega);split
  ·rename_i hs
   have h9:=hT.next h0 (av hs);cases h1:eE T 1 (p+2) with
   | bad q=>have g1:=po hT h9 h1;exact ⟨by omega,g1.2⟩
   |ok a q =>
    have g1:=ec hT h9 h1;simp only;cases h2:eK T q with
    | bad r=>have g2:=rJ hT g1.2 h2;exact ⟨by omega,g2.2⟩
    | ok body r=>have g2:=mp hT g1.2 h2;exact ⟨by omega,g2.2⟩
  ·exact ⟨by omega,h0⟩
 ·exact ⟨Nat.le_refl _,hp⟩
theorem gw {p:Nat} {r:PR SJ} (hp:p<T.length) (h:iq T p=some r):p+1<T.length/\r.In T (p+1):=by
 unfold iq at h;split at h
 ·rename_i hs
  have h0:=hT.next hp (av hs);injection h with h;subst h
  exact ⟨h0,vg hT h0⟩
 split at h
 ·rename_i hs
  have h0:=hT.next hp (av hs);injection h with h;subst h
  exact ⟨h0,ze hT h0⟩
 split at h
 ·rename_i hs
  have h0:=hT.next hp (av hs);injection h with h;subst h
  exact ⟨h0,xn hT h0⟩
 ·cases h
theorem mr {p:Nat} {acc:List SJ} (hp:p<T.length):eS T acc p=(match iq T p with
  | none=>.ok acc p
  | some (.bad q)=>.bad q
  | some (.ok x q)=>eS T (acc++[x]) q):=by
 conv=>lhs;unfold eS cF
 unfold iq;by_cases h1:au T p d8=true
 ·have h0:=hT.next hp (av h1);rw [if_pos h1,if_pos h1,nJ hT (by omega) h0];simp only [kY];cases hx:eE T 1 (p+1) with
  | bad q=>rfl
  |ok a q =>
   simp only;have g1:=ec hT h0 hx;by_cases h2:au T q [44]=true
   ·have g0:=hT.next g1.2 (av h2);rw [if_pos h2,if_pos h2,nJ hT (by omega) g0];cases hy:eE T 1 (q+1) with
    | bad r=>rfl
    |ok b r =>
     have g2:=ec hT g0 hy;simp only;by_cases h3:au T r [59]=true
     ·rw [if_pos h3,if_pos h3,vi hT (hT.next g2.2 (av h3))]
     ·rw [if_neg h3,if_neg h3]
   ·rw [if_neg h2,if_neg h2]
 rw [if_neg h1,if_neg h1];by_cases h4:au T p wIf=true
 ·have h0:=hT.next hp (av h4);rw [if_pos h4,if_pos h4,nJ hT (by omega) h0];simp only [eIf];cases hx:eE T 1 (p+1) with
  | bad q=>rfl
  |ok a q =>
   have g1:=ec hT h0 hx;simp only;rw [zf hT g1.2];cases hy:eK T q with
   | bad r=>rfl
   |ok body r =>
    have g2:=mp hT g1.2 hy;simp only;by_cases h5:au T r dE=true
    ·have g0:=hT.next g2.2 (av h5);rw [if_pos h5,if_pos h5,zf hT g0];cases hz:eK T (r+1) with
     | bad u=>rfl
     | ok els u=>simp only;rw [vi hT (mp hT g0 hz).2]
    ·rw [if_neg h5,if_neg h5,vi hT g2.2]
 rw [if_neg h4,if_neg h4];by_cases h6:au T p gM=true
 ·have h0:=hT.next hp (av h6);rw [if_pos h6,if_pos h6];simp only [qq];by_cases h7:tkK T (p+1)=1
  ·have h9:=hT.next h0 (by omega);rw [if_pos h7,if_pos h7,show p+1+1=p+2 from rfl,show p+1+2=p+3 from rfl];by_cases h8:au T (p+2) wIn=true
   ·have g9:=hT.next h9 (av h8);rw [if_pos h8,if_pos h8,nJ hT (by omega) g9];cases hx:eE T 1 (p+3) with
    | bad q=>rfl
    |ok a q =>
     have g1:=ec hT g9 hx;simp only;rw [zf hT g1.2];cases hy:eK T q with
     | bad r=>rfl
     | ok body r=>simp only;rw [vi hT (mp hT g1.2 hy).2]
   ·rw [if_neg h8,if_neg h8]
  ·rw [if_neg h7,if_neg h7]
 rw [if_neg h6,if_neg h6]
end
theorem qM (T:List aq):jn T=(match eS T [] 0 with
 | .bad p=>.bad p
 | .ok l p=>if tkK T p=6 then .ok l p else .bad p):=by unfold jn eS;rw [AH];rfl
end
section
open Go.RowKit
attribute [local go_sem] aa ac ae ab
structure VP (W:World) (g:Nat) (A:Option Addr) (nT cap:Nat) (T:List aq) (p:Nat):Prop where
 blk:Blk W g 123 #[Zi Zq p,Zs A nT cap]
 rd:RdF W (λ b=>b≠g) A (bz T)
 len:T.length=nT
 gob:∃ w0:World,GOE w0/\w0.heap.size<=g/\Below w0.heap.size w0 W
section
variable {W W':World} {g:Nat} {A:Option Addr} {nT cap:Nat} {T:List aq} {p q:Nat}
theorem VP.keep (h:VP W g A nT cap T p) (hb:Below W.heap.size W W'):VP W' g A nT cap T p:=by
 obtain ⟨w0,h1,h2,h3⟩:=h.gob;exact ⟨h.blk.keep hb,h.rd.keep (ah.of_below hb),h.len,w0,h1,h2,h3.trans (hb.mono (by have:=h.blk.lt;omega))⟩
theorem VP.goe (h:VP W g A nT cap T p):GOE W:=by obtain ⟨w0,h1,_,h2⟩:=h.gob;exact h1.keep h2
theorem tW (h:W.grownBy W' (some g)):ah (λ b=>b≠g) W W':=ah.of_grown h λ b hb e=>hb (by injection e)
theorem VP.step (h:VP W g A nT cap T p) (hg:W.grownBy W' (some g)) (hb:Blk W' g 123 #[Zi Zq q,Zs A nT cap]):VP W' g A nT cap T q:=by
 obtain ⟨w0,h1,h2,h3⟩:=h.gob;exact ⟨hb,h.rd.keep (tW hg),h.len,w0,h1,h2,h3.grown hg (by have:=h.blk.lt;omega) (λ k e=>by injection e with e;omega)⟩
theorem VP.set0 (h:VP W g A nT cap T p) {z:Int} (hz:z=(q:Nat)):VP (W.setCell ⟨g,0,none⟩ (Zi Zq z)) g A nT cap T q:=by
 subst hz;exact h.step (bD (ee W _) 0 _) (h.blk.set_ 0 _)
theorem VP.tok (h:VP W g A nT cap T p) (hq:q<nT):∃ b o,A=some ⟨b,o,none⟩/\b<W.heap.size/\b≠g/\W.cell? ⟨b,o+q*4,none⟩=some (Zi Zq (tkK T q))/\W.cell? ⟨b,o+q*4+1,none⟩=some (Zi Zq (tkA T q:Nat)) /\
   W.cell? ⟨b,o+q*4+2,none⟩=some (Zt ⟨(tkT T q).toArray⟩)/\W.cell? ⟨b,o+q*4+3,none⟩=some (Zi Zq (tkN T q)):=by
 have hl:=h.len;have hx:T[q]? = some T[q]:=List.getElem?_eq_getElem (by omega);obtain ⟨b,o,e,hb,h0,h1,h2,h3⟩:=h.rd.rd.tok hx;obtain ⟨b',o',e',_,hne,_⟩:=h.rd (by intro e9;have h9:=fg T;rw [e9,List.length_nil] at h9;omega);obtain ⟨rfl,rfl⟩:b=b'/\o=o':=by rw [e] at e';simpa using e'
 refine ⟨b,o,e,hb,hne,?_,?_,?_,?_⟩
 ·unfold tkK;rw [hx];exact h0
 ·unfold tkA;rw [hx];exact h1
 ·unfold tkT;rw [hx];exact h2
 ·unfold tkN;rw [hx];exact h3
end
def aQ (q:Nat):Ending:=.panicked [{ v:=.iface 117 (Zi Zq q),recovered:=false }]
def yT (b:Bool) (W:World) (e:Ending) (W':World):Prop:=e=.returned (.bool b)/\Below W.heap.size W W'
theorem wM (s:List UInt8) (W:World) (g:Nat) (A:Option Addr) (nT cap:Nat) (T:List aq) (p:Nat) (hV:VP W g A nT cap T p) (hp:p<nT) (hn:nT<=1000) :
  Calls Tryz.prog 175 #[Zp (some ⟨g,0,none⟩),Zt ⟨s.toArray⟩] W (yT (au T p s) W):=by
 obtain ⟨b,o,rfl,hb,hbg,x0,x1,x2,x3⟩:=hV.tok hp;have hS:au T p s=decide ((tkK T p=5∨tkK T p=2)/\tkT T p=s):=rfl;obtain ⟨k,hk⟩:∃ k,tkK T p=k:=⟨_,rfl⟩
 obtain ⟨t,ht⟩:∃ t,tkT T p=t:=⟨_,rfl⟩
 obtain ⟨at_,hat⟩:∃ a,tkA T p=a:=⟨_,rfl⟩
 obtain ⟨m,hm⟩:∃ a,tkN T p=a:=⟨_,rfl⟩
 rw [hk] at x0 hS;rw [ht] at x2 hS;rw [hat] at x1;rw [hm] at x3;rw [hS];obtain ⟨tb,htb⟩:∃ tb,decide (t=s)=tb:=⟨_,rfl⟩
 have hres:decide ((k=5∨k=2)/\t=s)=(decide (k=5∨k=2) && tb):=by rw [← htb,Bool.decide_and]
 rw [hres];have e1:(t == s)=tb:=by rw [← htb,Bool.eq_iff_iff];simp
 have e2:((⟨t.toArray⟩:ByteArray).toList == (⟨s.toArray⟩:ByteArray).toList)=tb:=by rw [d5];exact htb
 obtain ⟨c0,f0,l0⟩:=hV.blk.rules;have c00:=c0 0;have c01:=c0 1;simp at c00 c01;have HT:=aW htb;have HB:=aW (Below.refl W.heap.size W);have hpi:(p:Int)<(nT:Int):=by omega
 clear hV hS hk ht hat hm hres htb;have key:∀ r:Bool,r=(decide (k=5∨k=2) && tb)->Calls Tryz.prog 175 #[Zp (some ⟨g,0,none⟩),Zt ⟨s.toArray⟩] W (yT r W):=by
  intro r hr;by_cases h5:k=5
  ·have k5:(k == 5)=true:=by simp [h5]
   have HR:=aW (show r=tb by rw [hr,h5];simp);clear hr h5;cases tb
   all_goals
    go_enter Tryz.func175,Tryz.ntmps175;go_upto_region 1 with fail;go_region_held3 (λ w'=>w'.cell? ⟨g,0,none⟩=some (Zi Zq (p:Int))/\w'.cell? ⟨g,1,none⟩=some (Zs (some ⟨b,o,none⟩) nT cap)/\w'.cell? ⟨b,o+p*4,none⟩=some (Zi Zq k)/\w'.cell? ⟨b,o+p*4+1,none⟩=some (Zi Zq (at_:Int))/\w'.cell? ⟨b,o+p*4+2,none⟩=some (Zt ⟨t.toArray⟩)/\w'.cell? ⟨b,o+p*4+3,none⟩=some (Zi Zq m)) (go_keep) (fail)
    all_goals
     go_wp2;go_ret;exact ⟨am HR.out.symm,by go_grown⟩
  ·have k5:(k == 5)=false:=by simp [h5]
   by_cases h2:k=2
   ·have k2:(k == 2)=true:=by simp [h2]
    have HR:=aW (show r=tb by rw [hr,h2];simp);clear hr h5 h2;cases tb
    all_goals
     go_enter Tryz.func175,Tryz.ntmps175;go_upto_region 1 with fail;go_region_held3 (λ w'=>w'.cell? ⟨g,0,none⟩=some (Zi Zq (p:Int))/\w'.cell? ⟨g,1,none⟩=some (Zs (some ⟨b,o,none⟩) nT cap)/\w'.cell? ⟨b,o+p*4,none⟩=some (Zi Zq k)/\w'.cell? ⟨b,o+p*4+1,none⟩=some (Zi Zq (at_:Int))/\w'.cell? ⟨b,o+p*4+2,none⟩=some (Zt ⟨t.toArray⟩)/\w'.cell? ⟨b,o+p*4+3,none⟩=some (Zi Zq m)) (go_keep) (fail)
     all_goals
      go_wp2;go_ret;exact ⟨am HR.out.symm,by go_grown⟩
   ·have k2:(k == 2)=false:=by simp [h2]
    have HR:=aW (show r=false by rw [hr];simp [h5,h2]);clear hr h5 h2 e1 e2;go_enter Tryz.func175,Tryz.ntmps175;go_upto_region 1 with fail;go_region_held3 (λ w'=>w'.cell? ⟨g,0,none⟩=some (Zi Zq (p:Int))/\w'.cell? ⟨g,1,none⟩=some (Zs (some ⟨b,o,none⟩) nT cap)/\w'.cell? ⟨b,o+p*4,none⟩=some (Zi Zq k)/\w'.cell? ⟨b,o+p*4+1,none⟩=some (Zi Zq (at_:Int))/\w'.cell? ⟨b,o+p*4+2,none⟩=some (Zt ⟨t.toArray⟩)/\w'.cell? ⟨b,o+p*4+3,none⟩=some (Zi Zq m)) (go_keep) (fail)
    all_goals
     go_wp2;go_ret;exact ⟨am HR.out.symm,by go_grown⟩
 exact key _ rfl
theorem jg (W:World) (g:Nat) (A:Option Addr) (nT cap:Nat) (T:List aq) (p:Nat) (hV:VP W g A nT cap T p) (hp:p<nT) (hn:nT<=1000) :
  Calls Tryz.prog 87 #[Zp (some ⟨g,0,none⟩)] W λ e W'=>e=aQ (tkA T p)/\Below W.heap.size W W':=by
 obtain ⟨b,o,rfl,hb,hbg,x0,x1,x2,x3⟩:=hV.tok hp;obtain ⟨at_,hat⟩:∃ a,tkA T p=a:=⟨_,rfl⟩
 rw [hat] at x1 ⊢;obtain ⟨c0,f0,l0⟩:=hV.blk.rules;have c00:=c0 0;have c01:=c0 1;simp at c00 c01;have hpi:(p:Int)<(nT:Int):=by omega
 unfold aQ;clear hV hat x0 x2 x3;go_enter Tryz.func87,Tryz.ntmps87;go_upto_region 0 with fail;refine wp_region_held_drew (S:=λ w'=>w'.cell? ⟨g,0,none⟩=some (Zi Zq (p:Int))/\w'.cell? ⟨g,1,none⟩=some (Zs (some ⟨b,o,none⟩) nT cap)/\w'.cell? ⟨b,o+p*4+1,none⟩=some (Zi Zq (at_:Int))) (by kernel_rfl) (by exact ⟨c00,c01,x1⟩) (λ hHeld=>?_);refine aY 0 2 (Zp (some ⟨g,0,none⟩)) rfl ?_ ?_
 ·intro W hSw;obtain ⟨z0,z1,z2⟩:=hSw;go_simp
 refine aY 1 3 (Zp (some ⟨g,0,none⟩)) rfl ?_ ?_
 ·intro W hSw;obtain ⟨z0,z1,z2⟩:=hSw;go_simp
 refine aY 2 4 (Zp (some ⟨g,1,none⟩)) rfl ?_ ?_
 ·intro W hSw;obtain ⟨z0,z1,z2⟩:=hSw;go_simp
 refine aY 3 5 (Zs (some ⟨b,o,none⟩) nT cap) rfl ?_ ?_
 ·intro W hSw;obtain ⟨z0,z1,z2⟩:=hSw;go_simp
 refine aY 4 6 (Zp (some ⟨g,0,none⟩)) rfl ?_ ?_
 ·intro W hSw;obtain ⟨z0,z1,z2⟩:=hSw;go_simp
 refine aY 5 7 (Zp (some ⟨g,0,none⟩)) rfl ?_ ?_
 ·intro W hSw;obtain ⟨z0,z1,z2⟩:=hSw;go_simp
 refine aY 6 8 (Zp (some ⟨g,0,none⟩)) rfl ?_ ?_
 ·intro W hSw;obtain ⟨z0,z1,z2⟩:=hSw;go_simp
 refine aY 7 9 (Zp (some ⟨g,0,none⟩)) rfl ?_ ?_
 ·intro W hSw;obtain ⟨z0,z1,z2⟩:=hSw;go_simp
 refine aY 8 10 (Zi Zq (p:Int)) rfl ?_ ?_
 ·intro W hSw;obtain ⟨z0,z1,z2⟩:=hSw;go_simp
 refine aY 9 11 (Zp (some ⟨b,o+p*4,none⟩)) rfl ?_ ?_
 ·intro W hSw;obtain ⟨z0,z1,z2⟩:=hSw;go_simp
 refine aY 10 12 (Zp (some ⟨b,o+p*4+1,none⟩)) rfl ?_ ?_
 ·intro W hSw;obtain ⟨z0,z1,z2⟩:=hSw;go_simp
 refine aY 11 13 (Zi Zq (at_:Int)) rfl ?_ ?_
 ·intro W hSw;obtain ⟨z0,z1,z2⟩:=hSw;go_simp
 refine aY 12 14 (.iface 117 (Zi Zq (at_:Int))) rfl ?_ ?_
 ·intro W hSw;obtain ⟨z0,z1,z2⟩:=hSw;go_simp
 refine aU 13 rfl (λ K hK=>?_);go_simp;exact ⟨rfl,rfl,(Below.refl _ _).drew⟩
def Bk (g:Nat) (A:Option Addr) (nT cap:Nat) (T:List aq) (p:Nat) (W:World) (e:Ending) (W':World):Prop:=e=.returned (.bool true)/\VP W' g A nT cap T (p+1)/\W.grownBy W' (some g)
theorem fi (s:List UInt8) (W:World) (g:Nat) (A:Option Addr) (nT cap:Nat) (T:List aq) (p:Nat) (hV:VP W g A nT cap T p) (hp:p<nT) (hn:nT<=1000) (hs:au T p s=false) :
  Calls Tryz.prog 139 #[Zp (some ⟨g,0,none⟩),Zt ⟨s.toArray⟩] W (yT false W):=by
 have hS:=wM s W g A nT cap T p hV hp hn;rw [hs] at hS;have HS:=aW hS;clear hV hS hs;go_enter Tryz.func139,Tryz.ntmps139;go_wp2_with (go_at_call 175;refine HS.out.mono ?_;rintro e w1 ⟨rfl,hb1⟩);go_ret;exact ⟨rfl,hb1⟩
theorem fj (s:List UInt8) (W:World) (g:Nat) (A:Option Addr) (nT cap:Nat) (T:List aq) (p:Nat) (hV:VP W g A nT cap T p) (hp:p<nT) (hn:nT<=1000) (hs:au T p s=true) :
  Calls Tryz.prog 139 #[Zp (some ⟨g,0,none⟩),Zt ⟨s.toArray⟩] W (Bk g A nT cap T p W):=by
 have hS:=wM s W g A nT cap T p hV hp hn;rw [hs] at hS;have HS:=aW hS;have HV:=aW hV;have hp9:(p:Int)<=1000:=by omega
 clear hV hS hs hp;go_enter Tryz.func139,Tryz.ntmps139;go_wp2_with (go_at_call 175;refine HS.out.mono ?_;rintro e w1 ⟨rfl,hb1⟩;obtain ⟨c0,f0,l0⟩:=(HV.out.keep hb1).blk.rules);go_ret;exact ⟨rfl,(HV.out.keep hb1).set0 (by omega),bD (aD hb1 _) 0 _⟩
theorem gW (s:List UInt8) (W:World) (g:Nat) (A:Option Addr) (nT cap:Nat) (T:List aq) (p:Nat) (hV:VP W g A nT cap T p) (hp:p<nT) (hn:nT<=1000) (hs:au T p s=true) :
  Calls Tryz.prog 172 #[Zp (some ⟨g,0,none⟩),Zt ⟨s.toArray⟩] W (λ e W'=>e=.returned (.tuple #[])/\VP W' g A nT cap T (p+1)/\W.grownBy W' (some g)):=by
 have HS:=aW (fj s W g A nT cap T p hV hp hn hs);clear hV hs hp;go_enter Tryz.func172,Tryz.ntmps172;go_wp2_with (go_at_call 139;refine HS.out.mono ?_;rintro e w1 ⟨rfl,hv1,hg1⟩);go_end0;exact ⟨rfl,hv1,hg1⟩
theorem gV (s:List UInt8) (W:World) (g:Nat) (A:Option Addr) (nT cap:Nat) (T:List aq) (p:Nat) (hV:VP W g A nT cap T p) (hp:p<nT) (hn:nT<=1000) (hs:au T p s=false) :
  Calls Tryz.prog 172 #[Zp (some ⟨g,0,none⟩),Zt ⟨s.toArray⟩] W (λ e W'=>e=aQ (tkA T p)/\Below W.heap.size W W'):=by
 have HS:=aW (fi s W g A nT cap T p hV hp hn hs);have HF:=aW (λ w1 (h:Below W.heap.size W w1)=>jg w1 g A nT cap T p (hV.keep h) hp hn);unfold aQ at HF ⊢;clear hV hs hp;go_enter Tryz.func172,Tryz.ntmps172;go_wp2_with (first | (go_at_call 139;refine HS.out.mono ?_;rintro e w1 ⟨rfl,hb1⟩) | (go_at_call 87;refine (HF.out _ hb1).mono ?_;rintro e w2 ⟨rfl,hb2⟩));exact ⟨rfl,rfl,hb1.trans (hb2.mono hb1.size)⟩
def wX (g:Nat) (A:Option Addr) (nT cap:Nat) (T:List aq) (p:Nat) (W:World) (e:Ending) (W':World):Prop:=e=.returned (Zt ⟨(tkT T p).toArray⟩)/\VP W' g A nT cap T (p+1)/\W.grownBy W' (some g)
theorem tE (W:World) (g:Nat) (A:Option Addr) (nT cap:Nat) (T:List aq) (p:Nat) (hV:VP W g A nT cap T p) (hp:p<nT) (hn:nT<=1000) (hk:tkK T p=1) :
  Calls Tryz.prog 174 #[Zp (some ⟨g,0,none⟩)] W (wX g A nT cap T p W):=by
 obtain ⟨b,o,rfl,hb,hbg,x0,x1,x2,x3⟩:=hV.tok hp;rw [hk] at x0;unfold wX;obtain ⟨t,ht⟩:∃ t,tkT T p=t:=⟨_,rfl⟩
 rw [ht] at x2 ⊢;obtain ⟨c0,f0,l0⟩:=hV.blk.rules;have hpi:(p:Int)<(nT:Int):=by omega
 have hp9:(p:Int)<=1000:=by omega
 have HV:=aW hV;clear hV hk ht x1 x3;go_enter Tryz.func174,Tryz.ntmps174;go_wp2;go_quiet (fail);go_wp2;go_quiet (fail);go_wp2;go_ret;exact ⟨rfl,((HV.out.keep (aj (Below.refl _ _) _)).set0 (by omega)).keep (aj (Below.refl _ _) _),gA (bD (gA (ee _ _) _) 0 _) _⟩
theorem tD (W:World) (g:Nat) (A:Option Addr) (nT cap:Nat) (T:List aq) (p:Nat) (hV:VP W g A nT cap T p) (hp:p<nT) (hn:nT<=1000) (hk:tkK T p≠1) :
  Calls Tryz.prog 174 #[Zp (some ⟨g,0,none⟩)] W (λ e W'=>e=aQ (tkA T p)/\Below W.heap.size W W'):=by
 obtain ⟨b,o,rfl,hb,hbg,x0,x1,x2,x3⟩:=hV.tok hp;obtain ⟨k,hkk⟩:∃ k,tkK T p=k:=⟨_,rfl⟩
 rw [hkk] at x0 hk;have HF:=aW (λ w1 (h:Below W.heap.size W w1)=>jg w1 g _ nT cap T p (hV.keep h) hp hn);unfold aQ at HF ⊢;obtain ⟨c0,f0,l0⟩:=hV.blk.rules;have hpi:(p:Int)<(nT:Int):=by omega
 have hkb:(k != 1)=true:=by simpa using hk
 clear hV hkk x1 x2 x3;go_enter Tryz.func174,Tryz.ntmps174;go_wp2;go_quiet (fail);go_wp2_with (go_at_call 87;refine (HF.out _ (aj (Below.refl _ _) _)).mono ?_;rintro e w2 ⟨rfl,hb2⟩);exact ⟨rfl,rfl,(aj (Below.refl _ _) _).trans (hb2.mono (Nat.le_refl _))⟩
def nN (lvl:Int) (l:List (List UInt8 × Int × Int)):List (List UInt8 × Int):=(l.filter λ o=>decide (o.2.2=lvl)).map λ o=>(o.1,o.2.1)
theorem vR {lvl:Nat} (h:lvl<=9):nN lvl gg=fA lvl:=by
 rcases (by omega:lvl=0∨lvl=1∨lvl=2∨lvl=3∨lvl=4∨lvl=5∨lvl=6∨lvl=7∨lvl=8∨lvl=9) with rfl | rfl | rfl | rfl | rfl | rfl | rfl | rfl | rfl | rfl<;>rfl
theorem ue {T:List aq} {p:Nat} {lvl:Int} {k:Nat} {t:List UInt8} {q1 q2:Int} (h:k<11) (hx:gg.getD k fJ=(t,q1,q2)) :
  gc T p (nN lvl (gg.drop k))=if q2=lvl/\au T p t=true then some q1 else gc T p (nN lvl (gg.drop (k+1))):=by
 have e:gg.drop k=(t,q1,q2)::gg.drop (k+1):=by
  have hk:k<gg.length:=h;rw [List.drop_eq_getElem_cons hk,← hx];simp [List.getD,hk]
 rw [e];unfold nN;rw [List.filter_cons];by_cases hq:q2=lvl
 ·rw [if_pos (by simpa using hq),List.map_cons,gc];by_cases hs:au T p t=true
  ·rw [if_pos hs,if_pos ⟨hq,hs⟩]
  ·rw [if_neg hs,if_neg (λ h=>hs h.2)]
 ·rw [if_neg (by simpa using hq),if_neg (λ h=>hq h.1)]
theorem vS {T:List aq} {p:Nat} {lvl:Int}:gc T p (nN lvl (gg.drop 11))=none:=rfl
theorem zw {k:Nat} {t:List UInt8} {q1 q2:Int} (h:k<11) (hx:gg.getD k fJ=(t,q1,q2)):ofJ q1=(t,q1,q2):=by
 rcases (by omega:k=0∨k=1∨k=2∨k=3∨k=4∨k=5∨k=6∨k=7∨k=8∨k=9∨k=10) with rfl | rfl | rfl | rfl | rfl | rfl | rfl | rfl | rfl | rfl | rfl <;>
  (injection hx with h1 h2;injection h2 with h2 h3;subst h1 h2 h3;rfl)
def tL (o:Option Int) (g:Nat) (A:Option Addr) (nT cap:Nat) (T:List aq) (p:Nat) (W:World) (e:Ending) (W':World):Prop:=match o with
 | none=>e=.returned (.agg #[Zt ⟨#[]⟩,Zi Zq 0,Zi Zq 0])/\Below W.heap.size W W'
 | some k=>e=.returned (.agg (cx (ofJ k)).toArray)/\VP W' g A nT cap T (p+1)/\W.grownBy W' (some g)
theorem rg {w W:World} {g:Nat} (h:w.grownBy W (some g)) {b:Nat} (hb:w.heap.size<=b) (x y z:Value):w.grownBy (((W.setCell ⟨b,0,none⟩ x).setCell ⟨b,1,none⟩ y).setCell ⟨b,2,none⟩ z) (some g) :=
 dF (dF (dF h ⟨b,0,none⟩ x hb) ⟨b,1,none⟩ y hb) ⟨b,2,none⟩ z hb
theorem Blk.far3 {w:World} {g b:Nat} {t:TypeId} {cs:Array Value} (h:Blk w g t cs) (hb:g≠b) (x y z:Value):Blk (((w.setCell ⟨b,0,none⟩ x).setCell ⟨b,1,none⟩ y).setCell ⟨b,2,none⟩ z) g t cs :=
 ((h.far (p:=⟨b,0,none⟩) hb x).far (p:=⟨b,1,none⟩) hb y).far (p:=⟨b,2,none⟩) hb z
theorem wL (lvl:Nat) (q:Int) (w:World) (g:Nat) (A:Option Addr) (nT cap:Nat) (T:List aq) (p:Nat) (hV:VP w g A nT cap T p) (hp:p<nT) (hn:nT<=1000) (hq:q=lvl) (hl:lvl<=9) :
  Calls Tryz.prog 197 #[Zp (some ⟨g,0,none⟩),Zi Zq q] w (tL (ez T lvl p) g A nT cap T p w):=by
 obtain ⟨r,hr⟩:∃ r,ez T lvl p=r:=⟨_,rfl⟩
 have HR:=aW (show gc T p (nN q (gg.drop 0))=r by rw [← hr,hq];show gc T p (nN lvl gg)=_;rw [vR hl];rfl);rw [hr];have HV:=aW hV;have HH0:=aW ((aH.nil w).push 154 #[Zt ⟨#[]⟩,Zi Zq 0,Zi Zq 0] (g:=w.heap.size) rfl);have hgw:g<w.heap.size:=hV.blk.lt;have hq9:q<=9/\0<=q:=by omega
 have HTN:=aW (λ (s:List UInt8) W (h:Below w.heap.size w W) (hs:au T p s=false)=>fi s W g A nT cap T p (hV.keep h) hp hn hs);have HTY:=aW (λ (s:List UInt8) W (h:Below w.heap.size w W) (hs:au T p s=true)=>fj s W g A nT cap T p (hV.keep h) hp hn hs);clear hV hr hq hl hp hn;go_enter Tryz.func197,Tryz.ntmps197;go_wp2_with fail;refine (mq _).mono ?_;rintro e w1 ⟨rfl,hb1⟩;have HH1:=aW (HH0.out.keep hb1);clear hb1 HH0;go_wp2;go_loopw [6,8] (λ _ i wr => ∃ k:Nat,k<=11/\i=Zi Zq k/\Hid (aH [(w.heap.size,154,#[Zt ⟨#[]⟩,Zi Zq 0,Zi Zq 0])] w wr)/\Hid (gc T p (nN q (gg.drop k))=r)) (λ _ i _=>11-(intOf i).toNat)
 case atStart=>exact ⟨0,by omega,rfl,HH1,HR⟩
 case round =>
  obtain ⟨k,hk,rfl,HH,HN⟩:=hrel;by_cases h11:k<11
  ·have hix:=λ W=>vT k h11 W
   obtain ⟨⟨t,q1,q2⟩,hx⟩:∃ x,gg.getD k fJ=x:=⟨_,rfl⟩
   rw [hx] at hix;unfold cx at hix;simp only at hix;have HST:=aW (ue (T:=T) (p:=p) (lvl:=q) h11 hx);have HAT:=aW (zw h11 hx);clear hx;have HH2:=aW (HH.out.push 154 #[Zt ⟨t.toArray⟩,Zi Zq q1,Zi Zq q2] (g:=wr.heap.size) rfl);by_cases hqq:q2=q
   ·have hqe:(q2 == q)=true:=by simp [hqq]
    by_cases hs:au T p t=true
    ·have HRR:=aW (show r=some q1 by rw [← HN.out,HST.out,if_pos ⟨hqq,hs⟩]);have HTA:=aW (HTY.out t _ HH2.out.1 hs);clear hqq hs;go_wp2_with (go_at_call 139;refine HTA.out.mono ?_;rintro e w3 ⟨rfl,hv3,hg3⟩;have hne:some wr.heap.size≠some g:=(by have:=HH.out.1.size;simp;omega);have hne0:some w.heap.size≠some g:=(by simp;omega);obtain ⟨c1,f1,l1⟩:=(HH2.out.b0.grown hg3 hne).rules;obtain ⟨c2,f2,l2⟩:=(HH2.out.b1.grown hg3 hne0).rules;have HV3:=aW hv3;have HG3:=aW hg3;clear hv3 hg3);refine bodyPost_ret (v:=.agg #[Zt ⟨t.toArray⟩,Zi Zq q1,Zi Zq q2]) (by simp only [results,Tryz.results197];go_simp) rfl ?_;rw [HRR.out];have hg9:=ag (aD HH2.out.1 (some g)) HG3.out;refine ⟨by rw [HAT.out];rfl,HV.out.step (rg hg9 (Nat.le_refl _) _ _ _) (Blk.far3 HV3.out.blk (by omega) _ _ _),rg hg9 (Nat.le_refl _) _ _ _⟩
    ·have hs':au T p t=false:=by simpa using hs
     have HRR:=aW (show gc T p (nN q (gg.drop (k+1)))=r by rw [← HN.out,HST.out,if_neg (λ h=>hs h.2)]);have HTA:=aW (HTN.out t _ HH2.out.1 hs');clear hqq hs hs';go_wp2_with (go_at_call 139;refine HTA.out.mono ?_;rintro e w3 ⟨rfl,hb3⟩;have HH3:=aW (HH2.out.keep hb3);clear hb3);go_roundw
     case rel=>exact ⟨k+1,by omega,by go_num,aW HH3.out.pop,HRR⟩
     case measure=>simp [intOf];omega
   ·have hqe:(q2 == q)=false:=by simp [hqq]
    have HRR:=aW (show gc T p (nN q (gg.drop (k+1)))=r by rw [← HN.out,HST.out,if_neg (λ h=>hqq h.1)]);clear hqq;go_wp2;go_roundw
    case rel=>exact ⟨k+1,by omega,by go_num,aW HH2.out.pop,HRR⟩
    case measure=>simp [intOf];omega
  ·obtain rfl:k=11:=by omega
   have HRR:=aW (show r=none by rw [← HN.out,vS]);have hg:=HV.out.goe.keep HH.out.1;have hg0:=hg.c0;have hg1:=hg.c1;have hg2:=hg.c2;clear hg;obtain ⟨c0,f0,l0⟩:=HH.out.b0.rules;go_wp2;refine bodyPost_ret (v:=.agg #[Zt ⟨#[]⟩,Zi Zq 0,Zi Zq 0]) (by simp only [results,Tryz.results197];go_simp) rfl ?_;rw [HRR.out];exact ⟨rfl,kR HH.out.1 (Nat.le_refl _) _ _ _⟩
theorem AA:∀ r,r<=12->yP r
 | 0,h=>yA 0 h (λ h0=>absurd rfl h0)
 | r+1,h=>yA (r+1) h (λ _=>AA r (by omega))
def mS (l:List SJ):Int:=if ie l=true then 0 else 332
def tM (q:Int) (w:World) (e:Ending) (w':World):Prop:=e=.returned (Zi Zq q)/\Below w.heap.size w w'
theorem pm (l:List SJ) (css:List (List Value)) (A:Option Addr) (n ca:Nat) (F:Nat->Prop) (w:World) (hG:GOE w) (hS:SRs w F css l) (hln:l.length=n) (hnc:n<=ca) (hR:RdF w F A css.flatten) (hC:a9 l) (hn:n<=4194304) :
  Calls Tryz.prog 18 #[.agg #[Zs A n ca]] w (tM (mS l) w):=by
 have HM:=aW (λ (W:World) (h:Below w.heap.size w W)=>AA 12 (by omega) l css A n ca F W (hG.keep h) (RR.imp hS λ c x hc=>hc.bel h) hln hnc (hR.keep (ah.of_below h)) hC hn);obtain ⟨b,hb⟩:∃ b,bJ 12 l=b:=⟨_,rfl⟩
 have HQ:=aW (show mS l=(if b=true then 0 else 332) by unfold mS ie;rw [hb]);unfold yQ at HM;rw [hb] at HM;obtain ⟨q,hq⟩:∃ q,mS l=q:=⟨_,rfl⟩
 rw [hq] at HQ ⊢;clear hq;have HH0:=aW ((aH.nil w).push 24 #[Zs A n ca] (g:=w.heap.size) rfl);clear hG hS hln hnc hR hC hn hb;go_enter Tryz.func18,Tryz.ntmps18;go_wp2_with fail;refine (HM.out _ HH0.out.1).mono ?_;rintro e w1 ⟨rfl,hb1⟩;have HH1:=aW (HH0.out.keep hb1);clear hb1;cases b
 ·go_wp2;go_ret;exact ⟨by rw [HQ.out];rfl,HH1.out.1⟩
 ·go_wp2;go_ret;exact ⟨by rw [HQ.out];rfl,HH1.out.1⟩
end
section
open Go.RowKit Go.Shelf
attribute [local go_sem] aa ac ae ab
theorem oQ:∀ {l:List EJ} {x:EJ},x ∈ l->fE x<=cZ l
 |y::r,x,h=>by
  unfold cZ;rcases List.mem_cons.1 h with rfl | h
  ·omega
  ·have:=oQ h;omega
theorem wD (x:EJ):1<=fE x:=by cases x;unfold fE;omega
theorem oR:∀ {l:List SJ} {x:SJ},x ∈ l->ig x<=cq l
 |y::r,x,h=>by
  unfold cq;rcases List.mem_cons.1 h with rfl | h
  ·omega
  ·have:=oR h;omega
theorem wE (x:SJ):1<=ig x:=by cases x;unfold ig;omega
end
section
open Go.RowKit
attribute [local go_sem] aa ac ae ab
mutual
theorem vd:∀ (r:Nat) (x:EJ),dpR r x<=13+r
 |r,.mk k v s kids=>by
  unfold dpR;split
  ·omega
  ·split
   ·split
    ·omega
    ·rename_i hr _ _ m hm
     have:=vc (r-1) kids m hm;show m+1<=13+r
     omega
   ·omega
theorem vc:∀ (r:Nat) (l:List EJ) (m:Nat),dpL r l=some m->m<=13+r
 |r,[],m,h=>by
  rw [dpL] at h;obtain rfl:=Option.some.inj h;omega
 |r,x::l,m,h=>by
  rw [dpL] at h;split at h
  ·cases h
  ·split at h
   ·cases h
   ·rename_i q hq
    obtain rfl:=Option.some.inj h;have h1:=vd r x;have h2:=vc r l q hq;omega
end
theorem qo (r:Nat) (l:List EJ) (x:EJ):dpF r (l++[x])=if dpF r l<dpR r x then dpR r x else dpF r l:=by
 unfold dpF;rw [List.foldl_append];rfl
def DpS (n:Int) (w:World) (e:Ending) (w':World):Prop:=e=.returned (Zi Zq n)/\Below w.heap.size w w'
theorem AO:∀ (r:Nat) (x:EJ) (cs:List Value) (q:Int) (w:World),q=r->r<=13->ER w TT cs x->bh x->Calls Tryz.prog 116 #[.agg cs.toArray,Zi Zq q] w (DpS (dpR r x:Nat) w):=by
 intro r
 induction r with
 |zero =>
  rintro ⟨k,v,s,kids⟩ cs q w rfl hr hx hcx;obtain ⟨k1,n1,s1,A1,na1,ca1,B1,nb1,cb1,A,ca,css0,rfl,_⟩:=hx.out;clear hx hcx hr;obtain ⟨g,hg⟩:∃ g:Int,((dpR 0 (.mk k v s kids):Nat):Int)=g:=⟨_,rfl⟩
  obtain rfl:g=13:=by rw [← hg,dpR,if_pos rfl];rfl
  rw [hg];clear hg;go_enter Tryz.func116,Tryz.ntmps116;go_wp2;go_ret;exact ⟨rfl,by go_grown⟩
 |succ r ih =>
  rintro ⟨k,v,s,kids⟩ cs q w hq hr hx hcx;obtain ⟨k1,n1,s1,A1,na1,ca1,B1,nb1,cb1,A,ca,css0,rfl,hv,h1,h2,h3,h4⟩:=hx.out;unfold bh at hcx;obtain ⟨_,hcv,_,hkl,hkc⟩:=hcx;have HCK:=aW (aK.1 hkc);have HKD:=aW (And.intro h1 h4);have HLI:=aW (λ (W:World) (h:Below w.heap.size w W)=>Bs v _ TT W (hv.bel h) hcv);have HZE:=aW (λ (W:World) (h:Below w.heap.size w W)=>wk v _ TT W (hv.bel h));have HIH:=aW (show ∀ (x:EJ) (cs:List Value) (w:World),ER w TT cs x->bh x->Calls Tryz.prog 116 #[.agg cs.toArray,Zi Zq (q-1)] w (DpS (dpR r x:Nat) w) from λ x cs w h1 h2=>ih x cs (q-1) w (by omega) (by omega) h1 h2);obtain ⟨nr,hnr⟩:∃ n,kids.length=n:=⟨_,rfl⟩
  have HNR:=aW hnr;obtain ⟨gn,hgn⟩:∃ g:Int,((dpR (r+1) (.mk k v s kids):Nat):Int)=g:=⟨_,rfl⟩
  have HGN:=aW (show gn=((if okX k v s nr=true then (match dpL r kids with | none=>0 | some m=>m+1) else 0:Nat):Int) by rw [← hgn,dpR,if_neg (by omega),hnr];rfl);have HXN:=aW (show okX k v s nr≠true->gn=0 from λ h=>by rw [HGN.out,if_neg h];rfl);have HAB:=aW (xK k v s nr);rw [hnr] at hkl h2 ⊢;rw [hgn];have HH0:=aW ((aH.nil w).push 45 #[Zi Zq k,Zi Zq k1,Zi Zq n1,Zt s1,Zs A1 na1 ca1,Zs B1 nb1 cb1,Zt ⟨s.toArray⟩,Zs A nr ca] (g:=w.heap.size) rfl);have hq1:1<=q:=by omega
  have hq14:q<=13:=by omega
  have hq0:(q == 0)=false:=by simp;omega
  have hq0':¬ q=0:=by omega
  have hqw:IntKind.i64.wrap (q-1)=q-1:=by rw [IntKind.wrap_i64];omega
  have HRR:=aW hr;obtain ⟨kn,hkn⟩:∃ z,fT k=z:=⟨_,rfl⟩
  have HKN:=aW (λ (W:World)=>AP k kn hkn W);clear hx hv h1 h4 hkc hnr ih hgn hq hr hcv;obtain ⟨c0,f0,l0⟩:=HH0.out.b0.rules;obtain ⟨oa,hoa⟩:∃ b,okA k nr=b:=⟨_,rfl⟩
  cases oa with
  |false =>
   obtain rfl:gn=0:=HXN.out (by rw [HAB.out,hoa];simp);have hcase:k<1∨(1<=k/\15<k)∨(1<=k/\k<=15/\0<=kn/\(nr:Int)≠kn):=by
    unfold okA at hoa;rw [Bool.and_eq_false_iff,decide_eq_false_iff_not,Bool.or_eq_false_iff,decide_eq_false_iff_not,decide_eq_false_iff_not,hkn] at hoa;omega
   clear hoa HXN HAB HGN hkn;rcases hcase with hk | ⟨hk,hk2⟩ | ⟨hk,hk2,hk3,hk4⟩
   ·have e1:decide (k<1)=true:=decide_eq_true hk;go_enter Tryz.func116,Tryz.ntmps116;go_upto_region 3 with fail;go_quiet (fail);go_wp2;go_ret;exact ⟨rfl,(HH0.out.drewN _).1⟩
   ·have e1:decide (k<1)=false:=decide_eq_false (by omega);have e1':¬ k<1:=by omega
    have e2:decide (15<k)=true:=decide_eq_true hk2;go_enter Tryz.func116,Tryz.ntmps116;go_upto_region 3 with fail;go_quiet (fail);go_wp2;go_ret;exact ⟨rfl,(HH0.out.drewN _).1⟩
   ·have e1:decide (k<1)=false:=decide_eq_false (by omega);have e1':¬ k<1:=by omega
    have e2:decide (15<k)=false:=decide_eq_false (by omega);have e2':¬ 15<k:=by omega
    have e3:decide (0<=kn)=true:=decide_eq_true hk3;have e4:((nr:Int) != kn)=true:=by simp [hk4]
    go_enter Tryz.func116,Tryz.ntmps116;go_upto_region 3 with fail;go_quiet ((go_at_call 160;exact (HKN.out _).mono λ e w' h=>⟨h.1,_,h.2.symm⟩));go_wp2;go_ret;exact ⟨rfl,(HH0.out.drewN _).1⟩
  | true =>
  have hcase:1<=k/\k<=15/\(kn<0∨0<=kn/\(nr:Int)=kn):=by
   unfold okA at hoa;rw [Bool.and_eq_true,decide_eq_true_eq,Bool.or_eq_true,decide_eq_true_eq,decide_eq_true_eq,hkn] at hoa;omega
  obtain ⟨hk,hk2,hk3⟩:=hcase;have HAB2:=aW (show okX k v s nr=(okB k v && okC k s) by rw [HAB.out,hoa];rfl);have e1:decide (k<1)=false:=decide_eq_false (by omega);have e1':¬ k<1:=by omega
  have e2:decide (15<k)=false:=decide_eq_false (by omega);have e2':¬ 15<k:=by omega
  clear hoa HAB hkn;go_enter Tryz.func116,Tryz.ntmps116;go_upto_region 3 with fail;go_cut [33] (λ s33 wx=>s33=.bool false/\∃ W,W=wx/\Hid (aH [(w.heap.size,45,#[Zi Zq k,Zi Zq k1,Zi Zq n1,Zt s1,Zs A1 na1 ca1,Zs B1 nb1 cb1,Zt ⟨s.toArray⟩,Zs A nr ca])] w W))
  case first =>
   rcases hk3 with hk3 | ⟨hk3,hk4⟩
   ·have e3:decide (0<=kn)=false:=decide_eq_false (by omega);have e3':¬ 0<=kn:=by omega
    go_quiet ((go_at_call 160;exact (HKN.out _).mono λ e w' h=>⟨h.1,_,h.2.symm⟩));go_wp2;go_meet
    case rel=>exact ⟨rfl,_,rfl,aW (HH0.out.drewN _)⟩
   ·have e3:decide (0<=kn)=true:=decide_eq_true hk3;have e4:((nr:Int) != kn)=false:=by simp [hk4]
    go_quiet ((go_at_call 160;exact (HKN.out _).mono λ e w' h=>⟨h.1,_,h.2.symm⟩));go_wp2;go_meet
    case rel=>exact ⟨rfl,_,rfl,aW (HH0.out.drewN _)⟩
  case rest =>
   obtain ⟨rfl,W1,rfl,HH1⟩:=hcut;clear c0 f0 l0 HH0 HKN e1 e1' e2 e2' hk3;obtain ⟨c0,f0,l0⟩:=HH1.out.b0.rules;obtain ⟨ob,hob⟩:∃ b,okB k v=b:=⟨_,rfl⟩
   cases ob with
   |false =>
    obtain rfl:gn=0:=HXN.out (by rw [HAB2.out,hob];simp);clear HXN HAB2 HGN;by_cases h1:k=1
    ·subst h1;have hl:dM v=false:=by unfold okB at hob;rwa [if_pos rfl] at hob
     rw [hl] at HLI;clear hob hl HZE;go_wp2_with fail;refine (HLI.out _ HH1.out.1).mono ?_;rintro e w2 ⟨rfl,hb2⟩;have HH2:=aW (HH1.out.keep hb2);clear hb2 c0 f0 l0;obtain ⟨c0,f0,l0⟩:=HH2.out.b0.rules;go_wp2;go_ret;exact ⟨rfl,HH2.out.1⟩
    ·have hl:cV v=false:=by unfold okB at hob;rwa [if_neg h1] at hob
     have g1:(k == 1)=false:=by simp [h1]
     have g2:(k != 1)=true:=by simp [h1]
     rw [hl] at HZE;clear hob hl HLI h1;go_wp2_with fail;refine (HZE.out _ HH1.out.1).mono ?_;rintro e w2 ⟨rfl,hb2⟩;have HH2:=aW (HH1.out.keep hb2);clear hb2 c0 f0 l0;obtain ⟨c0,f0,l0⟩:=HH2.out.b0.rules;go_wp2;go_ret;exact ⟨rfl,HH2.out.1⟩
   | true =>
   have HAB3:=aW (show okX k v s nr=okC k s by rw [HAB2.out,hob];rfl);clear HAB2;go_upto_region 5 with fail;go_cut [53] (λ s53 wx=>s53=.bool false/\∃ W,W=wx/\Hid (aH [(w.heap.size,45,#[Zi Zq k,Zi Zq k1,Zi Zq n1,Zt s1,Zs A1 na1 ca1,Zs B1 nb1 cb1,Zt ⟨s.toArray⟩,Zs A nr ca])] w W))
   case first =>
    by_cases h1:k=1
    ·subst h1;have hl:dM v=true:=by unfold okB at hob;rwa [if_pos rfl] at hob
     rw [hl] at HLI;clear hob hl HZE;go_wp2_with fail;refine (HLI.out _ HH1.out.1).mono ?_;rintro e w2 ⟨rfl,hb2⟩;have HH2:=aW (HH1.out.keep hb2);clear hb2 c0 f0 l0;obtain ⟨c0,f0,l0⟩:=HH2.out.b0.rules;go_wp2;go_meet
     case rel=>exact ⟨rfl,_,rfl,HH2⟩
    ·have hl:cV v=true:=by unfold okB at hob;rwa [if_neg h1] at hob
     have g1:(k == 1)=false:=by simp [h1]
     have g2:(k != 1)=true:=by simp [h1]
     rw [hl] at HZE;clear hob hl HLI h1;go_wp2_with fail;refine (HZE.out _ HH1.out.1).mono ?_;rintro e w2 ⟨rfl,hb2⟩;have HH2:=aW (HH1.out.keep hb2);clear hb2 c0 f0 l0;obtain ⟨c0,f0,l0⟩:=HH2.out.b0.rules;go_wp2;go_meet
     case rel=>exact ⟨rfl,_,rfl,HH2⟩
   case rest =>
   obtain ⟨rfl,W2,rfl,HH2⟩:=hcut;clear c0 f0 l0 HH1 HLI HZE hob;obtain ⟨c0,f0,l0⟩:=HH2.out.b0.rules;obtain ⟨nb,hnb⟩:∃ b,decide (k=2∨k=3)=b:=⟨_,rfl⟩
   go_upto_region 7 with fail;go_cut [5] (λ s5 wx=>s5=.bool nb/\∃ W,W=wx/\Hid (aH [(w.heap.size,45,#[Zi Zq k,Zi Zq k1,Zi Zq n1,Zt s1,Zs A1 na1 ca1,Zs B1 nb1 cb1,Zt ⟨s.toArray⟩,Zs A nr ca])] w W))
   case first =>
    by_cases h2:k=2
    ·subst h2;obtain rfl:nb=true:=by rw [← hnb];decide
     clear hnb;go_wp2;go_meet
     case rel=>exact ⟨rfl,_,rfl,HH2⟩
    ·have g2:(k == 2)=false:=by simp [h2]
     by_cases h3:k=3
     ·subst h3;obtain rfl:nb=true:=by rw [← hnb];decide
      clear hnb;go_wp2;go_meet
      case rel=>exact ⟨rfl,_,rfl,HH2⟩
     ·have g3:(k == 3)=false:=by simp [h3]
      obtain rfl:nb=false:=by rw [← hnb];exact decide_eq_false (by omega)
      clear hnb h2 h3;go_wp2;go_meet
      case rel=>exact ⟨rfl,_,rfl,HH2⟩
   case rest =>
   clear c0 f0 l0 HH2;obtain ⟨rfl,W3,rfl,HH2⟩:=hcut;obtain ⟨c0,f0,l0⟩:=HH2.out.b0.rules;obtain ⟨nm,hnm⟩:∃ b,dv s=b:=⟨_,rfl⟩
   have HNA:=aW (λ (W:World)=>show Calls Tryz.prog 78 #[Zt ⟨s.toArray⟩] W (λ e w'=>e=.returned (.bool nm)/\W=w') by rw [← hnm];exact oH _ W);have HOC:=aW (show okX k v s nr=if nb=true then nm else decide (s=[]) by
    rw [HAB3.out,okC,hnm,← hnb];simp only [decide_eq_true_eq])
   clear HAB3 hnm hnb;by_cases hok:okX k v s nr=true;rotate_left
   ·obtain rfl:gn=0:=HXN.out hok;clear HXN HGN;cases nb with
    |true =>
     have hnf:nm=false:=by
      rw [HOC.out,if_pos rfl] at hok;simpa using hok
     subst hnf;clear HOC hok;go_wp2_with fail;refine (HNA.out _).mono ?_;rintro e w3 ⟨rfl,rfl⟩;go_wp2;go_ret;exact ⟨rfl,HH2.out.1⟩
    |false =>
     have hs:¬ s=[]:=by
      rw [HOC.out] at hok;simpa using hok
     have hs2:s.isEmpty=false:=by simpa using hs
     clear HOC hok;go_wp2;go_ret;exact ⟨rfl,HH2.out.1⟩
   have HGL:=aW (show gn=((match dpL r kids with | none=>0 | some m=>m+1:Nat):Int) by rw [HGN.out,if_pos hok]);clear HXN HGN;go_upto_region 8 with fail;go_cut [77] (λ s77 wx=>s77=.bool false/\∃ W,W=wx/\Hid (aH [(w.heap.size,45,#[Zi Zq k,Zi Zq k1,Zi Zq n1,Zt s1,Zs A1 na1 ca1,Zs B1 nb1 cb1,Zt ⟨s.toArray⟩,Zs A nr ca])] w W))
   case first =>
    cases nb with
    |true =>
     have hnf:nm=true:=by rw [HOC.out,if_pos rfl] at hok;exact hok
     subst hnf;clear HOC hok;go_wp2_with fail;refine (HNA.out _).mono ?_;rintro e w3 ⟨rfl,rfl⟩;go_wp2;go_meet
     case rel=>exact ⟨rfl,_,rfl,HH2⟩
    |false =>
     have hs:s=[]:=by
      rw [HOC.out] at hok;simpa using hok
     clear HOC hok;subst hs;go_wp2;go_meet
     case rel=>exact ⟨rfl,_,rfl,HH2⟩
   case rest =>
   clear c0 f0 l0 HH2;obtain ⟨rfl,W4,rfl,HH2⟩:=hcut;obtain ⟨c0,f0,l0⟩:=HH2.out.b0.rules;clear HNA HOC hok;go_upto_region 12 with fail;go_loopg [6,7] nr (λ gk s6 s7 wr => ∃ (i:Nat) (m:Int),s6=Zi Zq m/\i<=nr/\gk=nr-i/\s7=Zi Zq (i:Int)/\0<=m/\m<=26/\Hid (m=(dpF r (kids.take i):Nat))/\Hid (∀ x ∈ kids.take i,dpR r x≠0)/\Hid (aH [(w.heap.size,45,#[Zi Zq k,Zi Zq k1,Zi Zq n1,Zt s1,Zs A1 na1 ca1,Zs B1 nb1 cb1,Zt ⟨s.toArray⟩,Zs A nr ca])] w wr))
   case atStart=>exact ⟨0,0,rfl,Nat.zero_le _,by go_num,rfl,Int.le_refl _,by decide,aW (by rw [List.take_zero];rfl),aW (by simp),HH2⟩
   case round =>
    obtain ⟨i,m,rfl,hin,hgk,rfl,hm0,hm26,HM,HNO,HH⟩:=hrel;have HGK:=aW hgk;clear hgk HH2 c0 f0 l0;obtain ⟨c0,f0,l0⟩:=HH.out.b0.rules;by_cases hlt:i<nr
    ·obtain ⟨x,hx⟩:∃ x,kids[i]? = some x:=⟨_,List.getElem?_eq_getElem (by rw [HNR.out];omega)⟩
     have hxm:=List.mem_of_getElem? hx;obtain ⟨b,o,k',k1',n1',s1',A1',na1',ca1',B1',nb1',cb1',s',A2',n2',ca2',rfl,hb,hER,hz⟩:=bW HKD.out.1 HKD.out.2 hx;obtain ⟨z0,z1,z2,z3,z4,z5,z6,z7⟩:=hz wr HH.out.1;have HTK:=aW (show kids.take (i+1)=kids.take i++[x] by rw [List.take_add_one,hx];rfl);have hlb:b<wr.heap.size:=Nat.lt_of_lt_of_le hb HH.out.1.size;obtain ⟨d,hd⟩:∃ d:Nat,dpR r x=d:=⟨_,rfl⟩
     have HDD:=aW hd;have HXM:=aW hxm;have HDL:=aW (show d<=26 by rw [← hd];have:=vd r x;have:=HRR.out;omega);have HE:=aW (λ (W:World) (h:Below w.heap.size w W)=>show Calls Tryz.prog 116 #[.agg #[Zi Zq k',Zi Zq k1',Zi Zq n1',Zt s1',Zs A1' na1' ca1',Zs B1' nb1' cb1',Zt s',Zs A2' n2' ca2'],Zi Zq (q-1)] W (DpS (d:Nat) W) by rw [← hd];exact HIH.out x _ W (hER.bel h) (HCK.out x hxm));clear hz hER hx hxm hb hd;go_wp2_with fail;refine (HE.out _ HH.out.1).mono ?_;rintro e w4 ⟨rfl,hb4⟩;have HH4:=aW (HH.out.keep hb4);clear hb4 z0 z1 z2 z3 z4 z5 z6 z7 c0 f0 l0;by_cases hd0:d=0
     ·subst hd0;obtain rfl:gn=0:=by rw [HGL.out,mn HXM.out HDD.out];rfl
      clear HGL;go_wp2;go_ret;exact ⟨rfl,HH4.out.1⟩
     ·have e0:((d:Int) == 0)=false:=by simp;omega
      have HN2:=aW (show ∀ y ∈ kids.take (i+1),dpR r y≠0 by
       rw [HTK.out];intro y hy;rcases List.mem_append.1 hy with hy | hy
       ·exact HNO.out y hy
       ·obtain rfl:=List.mem_singleton.1 hy;rw [HDD.out];exact hd0)
      by_cases hmd:m<(d:Int)
      ·have e1:decide (m<(d:Int))=true:=decide_eq_true hmd;have HM2:=aW (show (d:Int)=(dpF r (kids.take (i+1)):Nat) by
        rw [HTK.out,qo,HDD.out,if_pos (by have:=HM.out;omega)])
       have hd26:(d:Int)<=26:=by have:=HDL.out;omega
       have hd00:(0:Int)<=(d:Int):=by omega
       go_wp2;go_roundg (nr-(i+1))
       case measure=>have:=HGK.out;omega
       case rel=>exact ⟨i+1,d,rfl,by omega,rfl,by go_num,hd00,hd26,HM2,HN2,HH4⟩
      ·have e1:decide (m<(d:Int))=false:=decide_eq_false hmd;have HM2:=aW (show m=(dpF r (kids.take (i+1)):Nat) by
        rw [HTK.out,qo,HDD.out,if_neg (by have:=HM.out;omega)];exact HM.out)
       go_wp2;go_roundg (nr-(i+1))
       case measure=>have:=HGK.out;omega
       case rel=>exact ⟨i+1,m,rfl,by omega,rfl,by go_num,hm0,hm26,HM2,HN2,HH4⟩
    ·obtain rfl:i=nr:=by omega
     have hgm:gn=m+1:=by
      have h1:kids.take i=kids:=by rw [← HNR.out,List.take_length]
      have h2:=HM.out;have h3:=HNO.out;rw [h1] at h2 h3;rw [HGL.out,mo h3,h2];rfl
     have hw1:IntKind.i64.wrap (m+1)=m+1:=by rw [IntKind.wrap_i64];omega
     clear HGL;subst hgm;go_wp2;go_ret;exact ⟨rfl,HH.out.1⟩
theorem yI (x:EJ) (cs:List Value) (w:World) (hx:ER w TT cs x) (hc:bh x):Calls Tryz.prog 76 #[.agg cs.toArray] w (cC (decide (fY x)) w):=by
 obtain ⟨d,hd⟩:∃ d:Nat,dpR 13 x=d:=⟨_,rfl⟩
 have HDP:=aW (λ (W:World) (h:Below w.heap.size w W)=>show Calls Tryz.prog 116 #[.agg cs.toArray,Zi Zq 13] W (DpS (d:Nat) W) by rw [← hd];exact AO 13 x cs 13 W rfl (Nat.le_refl _) (hx.bel h) hc);have HMY:=aW (show (1<=d/\d<=12) ↔ fY x by rw [← hd];exact uZ x);obtain ⟨g,hg⟩:∃ g,decide (fY x)=g:=⟨_,rfl⟩
 have hgd:g=decide (1<=d/\d<=12):=by rw [← hg,decide_eq_decide];exact HMY.out.symm
 rw [hg];obtain ⟨k,k1,n1,s1,A1,na1,ca1,B1,nb1,cb1,s,A,nr,ca,rfl⟩:=hx.form;have HH0:=aW ((aH.nil w).push 45 #[Zi Zq k,Zi Zq k1,Zi Zq n1,Zt s1,Zs A1 na1 ca1,Zs B1 nb1 cb1,Zt s,Zs A nr ca] (g:=w.heap.size) rfl);clear hx hc hd hg HMY;obtain ⟨c0,f0,l0⟩:=HH0.out.b0.rules;go_enter Tryz.func76,Tryz.ntmps76;go_wp2_with fail;refine (HDP.out _ HH0.out.1).mono ?_;rintro e w1 ⟨rfl,hb1⟩;have HH1:=aW (HH0.out.keep hb1);clear hb1 c0 f0 l0;by_cases h1:1<=d
 ·have e1:decide ((1:Int)<=(d:Int))=true:=decide_eq_true (by omega);have e1':(1:Int)<=(d:Int):=by omega
  by_cases h2:d<=12
  ·have e2:decide ((d:Int)<=12)=true:=decide_eq_true (by omega);have e2':(d:Int)<=12:=by omega
   obtain rfl:g=true:=by rw [hgd];exact decide_eq_true ⟨h1,h2⟩
   clear hgd;go_wp2;go_ret;exact ⟨rfl,HH1.out.1⟩
  ·have e2:decide ((d:Int)<=12)=false:=decide_eq_false (by omega);have e2':¬ (d:Int)<=12:=by omega
   obtain rfl:g=false:=by rw [hgd];exact decide_eq_false (by omega)
   clear hgd;go_wp2;go_ret;exact ⟨rfl,HH1.out.1⟩
 ·have e1:decide ((1:Int)<=(d:Int))=false:=decide_eq_false (by omega);have e1':¬ (1:Int)<=(d:Int):=by omega
  obtain rfl:g=false:=by rw [hgd];exact decide_eq_false (by omega)
  clear hgd;go_wp2;go_ret;exact ⟨rfl,HH1.out.1⟩
theorem zO (x:EJ) (cs:List Value) (w:World) (hx:ER w TT cs x):Calls Tryz.prog 77 #[.agg cs.toArray] w (cC (dp x) w):=by
 obtain ⟨k,v,s,kids⟩:=x;obtain ⟨k1,n1,s1,A1,na1,ca1,B1,nb1,cb1,A,ca,css0,rfl,hv,_⟩:=hx.out;have HZE:=aW (λ (W:World) (h:Below w.heap.size w W)=>wk v _ TT W (hv.bel h));obtain ⟨nr,hnr⟩:∃ q,kids.length=q:=⟨_,rfl⟩
 obtain ⟨g,hg⟩:∃ g,dp (.mk k v s kids)=g:=⟨_,rfl⟩
 have hgv:g=(decide (k=0/\s=[]/\nr=0) && cV v):=by rw [← hg,dp,hnr]
 rw [hg,hnr];clear hx hv hg hnr;obtain ⟨z,hz⟩:∃ z,cV v=z:=⟨_,rfl⟩
 rw [hz] at HZE hgv;clear hz;by_cases h1:k=0;rotate_left
 ·have e1:(k == 0)=false:=by simp [h1]
  obtain rfl:g=false:=by rw [hgv,decide_eq_false (λ h=>h1 h.1)];rfl
  have HH0:=aW ((aH.nil w).push 45 #[Zi Zq k,Zi Zq k1,Zi Zq n1,Zt s1,Zs A1 na1 ca1,Zs B1 nb1 cb1,Zt ⟨s.toArray⟩,Zs A nr ca] (g:=w.heap.size) rfl);obtain ⟨c0,f0,l0⟩:=HH0.out.b0.rules;clear h1 hgv;go_enter Tryz.func77,Tryz.ntmps77;go_wp2;go_ret;exact ⟨rfl,HH0.out.1⟩
 subst h1;by_cases h2:s=[];rotate_left
 ·have hse:s.isEmpty=false:=by simpa using h2
  obtain rfl:g=false:=by rw [hgv,decide_eq_false (λ h=>h2 h.2.1)];rfl
  have HH0:=aW ((aH.nil w).push 45 #[Zi Zq 0,Zi Zq k1,Zi Zq n1,Zt s1,Zs A1 na1 ca1,Zs B1 nb1 cb1,Zt ⟨s.toArray⟩,Zs A nr ca] (g:=w.heap.size) rfl);obtain ⟨c0,f0,l0⟩:=HH0.out.b0.rules;clear hgv;go_enter Tryz.func77,Tryz.ntmps77;go_wp2;go_ret;exact ⟨rfl,HH0.out.1⟩
 subst h2;by_cases h3:nr=0;rotate_left
 ·have e3:((nr:Int) == 0)=false:=by simp;omega
  obtain rfl:g=false:=by rw [hgv,decide_eq_false (λ h=>h3 h.2.2)];rfl
  have HH0:=aW ((aH.nil w).push 45 #[Zi Zq 0,Zi Zq k1,Zi Zq n1,Zt s1,Zs A1 na1 ca1,Zs B1 nb1 cb1,Zt ⟨([]:List UInt8).toArray⟩,Zs A nr ca] (g:=w.heap.size) rfl);obtain ⟨c0,f0,l0⟩:=HH0.out.b0.rules;clear hgv;go_enter Tryz.func77,Tryz.ntmps77;go_wp2;go_ret;exact ⟨rfl,HH0.out.1⟩
 subst h3;obtain rfl:g=z:=by rw [hgv,decide_eq_true ⟨rfl,rfl,rfl⟩];rfl
 have HH0:=aW ((aH.nil w).push 45 #[Zi Zq 0,Zi Zq k1,Zi Zq n1,Zt s1,Zs A1 na1 ca1,Zs B1 nb1 cb1,Zt ⟨([]:List UInt8).toArray⟩,Zs A 0 ca] (g:=w.heap.size) rfl);obtain ⟨c0,f0,l0⟩:=HH0.out.b0.rules;clear hgv;go_enter Tryz.func77,Tryz.ntmps77;go_wp2_with fail;refine (HZE.out _ HH0.out.1).mono ?_;rintro e w1 ⟨rfl,hb1⟩;have HH1:=aW (HH0.out.keep hb1);clear hb1 c0 f0 l0;go_wp2;go_ret;exact ⟨rfl,HH1.out.1⟩
end
end Go.Proofs.YtgmnmnnoahdjnaaGreatDoor
