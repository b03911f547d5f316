import Derived.Test.YtgmnmnnoahdjnaaGreatDoorK03
set_option maxRecDepth 100000
set_option maxHeartbeats 16000000
set_option linter.unusedVariables false
set_option linter.unusedSimpArgs false
namespace Go.Proofs.YtgmnmnnoahdjnaaGreatDoor
section
def glB (was:List UInt8):List LX→List (Nat × LX)
 | []=>[]
 | t::r=>(if kF was (ay t)=true then 1 else 0,t)::glB (ay t) r
theorem zz:∀ (was:List UInt8) (ls:List LX),zn (glB was ls)=bD was (ls.map ay)
 | _,[]=>rfl
 |was,t::r=>by
  show List.replicate (if kF was (ay t)=true then 1 else 0) 32++(ay t++zn (glB (ay t) r))=(if kF was (ay t)=true then 32::ay t else ay t)++bD (ay t) (r.map ay)
  rw [zz];split<;>rfl
theorem zG:∀ (was:List UInt8) (ls:List LX),(glB was ls).map (·.2)=ls
 | _,[]=>rfl
 | was,t::r=>by show t::(glB (ay t) r).map (·.2)=_;rw [zG]
theorem zt:∀ a b:List (Nat × LX),zn (a++b)=zn a++zn b
 | [],b=>rfl
 | x::r,b=>by show List.replicate x.1 32++(ay x.2++zn (r++b))=_;rw [zt r b];simp [zn]
theorem zN:∀ (was:List UInt8) (ls:List LX) (k:Nat),gi ls→ChB (match glB was ls with | []=>[] | x::r=>(k,x.2)::r)
 | _,[],_,_=>trivial
 | was,[t],k,h=>h
 |was,t::u::r,k,h=>by
  refine ⟨h.1,fun e=>⟨?_,h.2.1⟩,zN (ay t) (u::r) _ h.2.2⟩;have e':(if kF (ay t) (ay u)=true then 1 else 0)=0:=e;split at e'
  ·cases e'
  ·rename_i hg;simpa using hg
theorem zE (k:Nat) (hk:k≠0) {x:LX} (hx:iK x):∀ n,ChB (List.replicate n (k,x))
 | 0=>trivial
 | 1=>hx
 | n+2=>⟨hx,fun e=>absurd e hk,zE k hk hx (n+1)⟩
def zC (m:Nat) (t:LX) (r:List LX):List (Nat × LX) :=
 (0,aS dv)::(0,ap [40])::(List.replicate m (1,ap [40])++((1+(if kF dv (ay t)=true then 1 else 0),t)::glB (ay t) r)++(List.replicate (m+1) (1,ap [41])++[(1,ap [44]),(1,aS mz),(1,ap [59])]))
theorem zO (m:Nat) (Y:List UInt8):[40]++(zn (List.replicate m (1,ap [40]))++32::Y)=(List.replicate (m+1) [40,32]).flatten++Y:=by
 induction m with
 | zero=>rfl
 |succ m ih =>
  have e1:zn (List.replicate (m+1) (1,ap [40]))=[32,40]++zn (List.replicate m (1,ap [40])):=rfl;have e2:(List.replicate (m+1+1) ([40,32]:List UInt8)).flatten=[40,32]++(List.replicate (m+1) ([40,32]:List UInt8)).flatten:=rfl;rw [e1,e2,List.append_assoc ([40,32]:List UInt8),← ih];simp
theorem zP (m:Nat):zn (List.replicate m (1,ap [41]))=(List.replicate m ([32,41]:List UInt8)).flatten:=by
 induction m with
 | zero=>rfl
 |succ m ih =>
  show [32]++([41]++zn (List.replicate m (1,ap [41])))=[32,41]++(List.replicate m ([32,41]:List UInt8)).flatten
  rw [ih];rfl
theorem zM (m:Nat) (t:LX) (r:List LX):zn (zC m t r)=dv++(List.replicate (m+1) ([40,32]:List UInt8)).flatten++bD dv ((t::r).map ay)++(List.replicate (m+1) ([32,41]:List UInt8)).flatten++[32,44,32,110,117,108,108,32,59]:=by
 have e:zn ((1+(if kF dv (ay t)=true then 1 else 0),t)::glB (ay t) r)=32::bD dv ((t::r).map ay):=by
  show List.replicate (1+(if kF dv (ay t)=true then 1 else 0)) 32++(ay t++zn (glB (ay t) r))=32::((if kF dv (ay t)=true then 32::ay t else ay t)++bD (ay t) (r.map ay))
  rw [zz];split<;>rfl
 unfold zC;show dv++([40]++zn _)=_
 rw [zt,zt,zt,e,zP];have h:=zO m (bD dv ((t::r).map ay));rw [← List.append_assoc [40],h];simp only [List.append_assoc];rfl
theorem zR {m:Nat} {t:LX} {r:List LX} (h:gi (t::r)):ChB (zC m t r):=by
 have ho:=eI (t:=[40]) (by decide);have hc:=eI (t:=[41]) (by decide);have h1:ChB (List.replicate m (1,ap [40])++((1+(if kF dv (ay t)=true then 1 else 0),t)::glB (ay t) r)++(List.replicate (m+1) (1,ap [41])++[(1,ap [44]),(1,aS mz),(1,ap [59])])):=by
  refine ChB.app (ChB.app (zE 1 (by decide) ho m) (zN dv (t::r) _ h) (fun y hy=>?_)) (ChB.app (zE 1 (by decide) hc (m+1)) ⟨eI (by decide),fun e=>absurd e (by decide),fY (by decide),fun e=>absurd e (by decide),eI (by decide)⟩ (fun y hy=>?_)) (fun y hy=>?_)
  ·obtain rfl:(1+(if kF dv (ay t)=true then 1 else 0),t)=y:=by simpa using hy
   show 1+_≠0;omega
  ·obtain rfl:(1,ap [44])=y:=by simpa using hy
   decide
  ·obtain rfl:(1,ap [41])=y:=by simpa [List.replicate_succ] using hy
   decide
 unfold zC;refine ⟨fY (by decide),fun _=>⟨by decide,fun e=>absurd e (by decide)⟩,?_⟩;cases m with
 | zero=>exact ⟨ho,fun e=>absurd e (by show 1+_≠0;omega),h1⟩
 | succ m=>exact ⟨ho,fun e=>absurd e (by show (1:Nat)≠0;decide),h1⟩
theorem zy (m:Nat) (t:LX) (r:List LX):(zC m t r).map (·.2)=aS dv::((List.replicate (m+1) (ap [40])++((t::r)++List.replicate (m+1) (ap [41])))++[ap [44],aS mz,ap [59]]):=by
 unfold zC;rw [List.map_cons,List.map_cons,List.map_append,List.map_append,List.map_cons,zG,List.map_append,List.map_replicate,List.map_replicate];simp [List.replicate_succ]
theorem zH {x:EJ} (h:nV x) (hc:bB x) (m:Nat) (hm:jz [zo x]=true) {l:List UInt8} (hl:l=dv++(List.replicate (m+1) ([40,32]:List UInt8)).flatten++bD dv ((ar 1 x).map ay)++(List.replicate (m+1) ([32,41]:List UInt8)).flatten++[32,44,32,110,117,108,108,32,59]) :
  cY l=if 512<l.length then ([],0,3) else ([zo x],0,0):=by
 by_cases h5:512<l.length
 ·rw [if_pos h5];unfold cY;have e:gh l=([],0,3):=by unfold gh;rw [if_pos h5]
  rw [e,if_pos (by decide)]
 ·rw [if_neg h5];have hs:=pY h hc 1;obtain ⟨t,r,e⟩:∃ t r,ar 1 x=t::r:=by
   cases he:ar 1 x with
   | nil=>exact absurd he hs.ne
   | cons t r=>exact ⟨t,r,rfl⟩
  rw [e] at hl;rw [← zM] at hl;obtain ⟨T,h1,hT,hA,hn⟩:=zI (zR (m:=m) (e ▸ hs.ok)) (by rw [← hl];omega);rw [zy,← e] at hA;have hlen:(zC m t r).length=m+1+(ar 1 x).length+(m+1)+4:=by
   have:=congrArg List.length (zy m t r);rw [List.length_map] at this;rw [this,e];simp;omega
  obtain ⟨q,h2⟩:=zK hT h (m+1) hA (by rw [hn,hlen]);unfold cY;rw [hl,h1];simp only;rw [if_neg (by decide),h2];simp only;rw [if_pos hm]
end
end Go.Proofs.YtgmnmnnoahdjnaaGreatDoor
