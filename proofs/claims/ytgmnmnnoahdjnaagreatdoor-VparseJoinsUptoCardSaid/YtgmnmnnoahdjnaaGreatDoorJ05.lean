import Derived.Test.YtgmnmnnoahdjnaaGreatDoorJ04
import Derived.Test.YtgmnmnnoahdjnaaGreatDoorB34
set_option maxRecDepth 100000
set_option maxHeartbeats 16000000
set_option linter.unusedVariables false
set_option linter.unusedSimpArgs false
namespace Go.Proofs.YtgmnmnnoahdjnaaGreatDoor
section
theorem zv {a b:List (List UInt8)} (h:∀ x y,a.getLast? = some x→b.head? = some y→kF x y=false):pV (a++b)=pV a++pV b:=by
 cases a with
 | nil=>rfl
 |cons x r =>
  show x++bD x (r++b)=x++bD x r++pV b
  rw [zn,List.append_assoc];congr 2;cases b with
  | nil=>rfl
  |cons y t =>
   have hg:=h (r.getLastD x) y (by cases r with | nil=>rfl | cons z r=>simp [List.getLast?_cons]) rfl;show (if kF (r.getLastD x) y=true then 32::y else y)++bD y t=y++bD y t
   rw [if_neg (by rw [hg];decide)]
theorem zt (x:SJ):(dn x).getLast? = some (ap [59])∨(dn x).getLast? = some (ap [125]):=by
 obtain ⟨k,s,a,b,body,els⟩:=x;unfold dn;by_cases h1:k=1
 ·rw [if_pos h1];left;have e:aS dv::(ar 1 a++ap [44]::(ar 1 b++[ap [59]]))=(aS dv::(ar 1 a++ap [44]::ar 1 b))++[ap [59]]:=by simp
  rw [e,tS (by simp)];rfl
 ·rw [if_neg h1];right;by_cases he:els.length=0
  ·rw [if_pos he];have e:∀ u:List LX,u++(ar 1 a++ap [123]::(aq body++[ap [125]]))=(u++(ar 1 a++ap [123]::aq body))++[ap [125]]:=fun u=>by simp
   rw [e,tS (by simp)];rfl
  ·rw [if_neg he];have e:∀ u:List LX,u++(ar 1 a++ap [123]::(aq body++ap [125]::aS cS::ap [123]::(aq els++[ap [125]])))=(u++(ar 1 a++ap [123]::(aq body++ap [125]::aS cS::ap [123]::aq els)))++[ap [125]]:=fun u=>by simp
   rw [e,tS (by simp)];rfl
theorem zp:∀ (l:List SJ) (x:LX),(aq l).getLast? = some x→x=ap [59]∨x=ap [125]
 | [],x,h=>by unfold aq at h;cases h
 |y::r,x,h=>by
  unfold aq at h;cases hr:aq r with
  |nil =>
   rw [hr,List.append_nil] at h;rcases zt y with h1 | h1<;>rw [h1] at h
   ·exact .inl (Option.some.inj h).symm
   ·exact .inr (Option.some.inj h).symm
  |cons z t =>
   rw [hr,tS (by simp),← hr] at h;exact zp r x h
theorem zu (a b:List SJ):fA (a++b)=fA a++fA b:=by
 unfold fA;rw [kf,List.map_append];refine zv fun x y hx _=>?_
 rw [List.getLast?_map] at hx;obtain ⟨u,hu,rfl⟩:=Option.map_eq_some_iff.1 hx;rcases zp a u hu with rfl | rfl
 ·show ((cK 59 && cK (y.headD 0)) || (aR 59 && y == [46]))=false
  rw [show cK 59=false by decide,show aR 59=false by decide];rfl
 ·show ((cK 125 && cK (y.headD 0)) || (aR 125 && y == [46]))=false
  rw [show cK 125=false by decide,show aR 125=false by decide];rfl
theorem zw {a b:List SJ} (ha:jz a=true) (hb:jz b=true):jz (a++b)=true:=by
 unfold jz at *;rw [ui,ha,hb];rfl
end
end Go.Proofs.YtgmnmnnoahdjnaaGreatDoor
