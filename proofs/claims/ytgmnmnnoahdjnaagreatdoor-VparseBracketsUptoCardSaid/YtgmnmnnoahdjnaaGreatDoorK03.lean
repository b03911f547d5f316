import Derived.Test.YtgmnmnnoahdjnaaGreatDoorB34
import Derived.Test.YtgmnmnnoahdjnaaGreatDoorK02
set_option maxRecDepth 100000
set_option maxHeartbeats 16000000
set_option linter.unusedVariables false
set_option linter.unusedSimpArgs false
namespace Go.Proofs.YtgmnmnnoahdjnaaGreatDoor
section
theorem zL (x:LX) (r:List UInt8):oK x (32::r):=by
 refine ⟨fun _ c hc=>?_,fun _ c hc=>?_,fun _ _ c hc=>?_⟩<;>(obtain rfl:32=c:=by simpa using hc)<;>decide
theorem zT {x y:LX} (hx:iK x) (hy:iK y) (hg:kF (ay x) (ay y)=false) (hle:x.1=5→x.2.1=[60]→(ay y).headD 0≠61) (r:List UInt8):oK x (ay y++r):=by
 have h:=uN (x:=x) (r:=[y]) ⟨hx,hle,hy⟩;refine h.head ?_;show _=((if kF (ay x) (ay y)=true then 32::ay y else ay y)++[]).head?
 rw [if_neg (by rw [hg];decide)];obtain ⟨c,u,e,_⟩:=ef hy;rw [e];rfl
def zn:List (Nat × LX)→List UInt8
 | []=>[]
 | x::r=>List.replicate x.1 32++(ay x.2++zn r)
theorem zV {x:Nat × LX} {r:List (Nat × LX)} (h:ChB (x::r)):oK x.2 (zn r):=by
 cases r with
 | nil=>exact ⟨fun _ c e=>by simp [zn] at e,fun _ c e=>by simp [zn] at e,fun _ _ c e=>by simp [zn] at e⟩
 |cons y r =>
  obtain ⟨hx,hg,hy⟩:=h;obtain ⟨k,y⟩:=y;cases k with
  |zero =>
   obtain ⟨h1,h2⟩:=hg rfl;exact zT hx hy.head h1 h2 _
  | succ k=>exact zL _ _
theorem zQ {l:List UInt8} {c:UInt8} {u:List UInt8} (hc:dg c=false):∀ (k p:Nat),l.drop p=List.replicate k 32++c::u→aG l p=p+k
 | 0,p,h=>jg (gQ h).1 hc
 |k+1,p,h=>by
  have h':l.drop p=32::(List.replicate k 32++c::u):=h;rw [lY (gQ h').1 (by decide),zQ hc k (p+1) (o4 (a:=[32]) h')];omega
theorem zA {l:List UInt8}:∀ (ls:List (Nat × LX)) (k p:Nat),ChB ls→l.drop p=zn ls→p≤l.length→l.length-p<k →
  ∃ T,eO l k p=(T++[(6,l.length,[],0)],none)∧T.length=ls.length∧∀ (i:Nat) (x:Nat × LX),ls[i]? = some x→∃ a,T[i]? = some (x.2.1,a,x.2.2.1,x.2.2.2)
 | _,0,_,_,_,_,h=>by omega
 |[],k+1,p,_,hd,hp,hk=>by
  have h9:=congrArg List.length hd;rw [List.length_drop] at h9;have h8:(zn []).length=0:=rfl;refine ⟨[],?_,rfl,fun i x h=>by simp at h⟩;unfold eO;rw [if_neg (by have:=ig l p;omega)];rfl
 |y::r,k+1,p,hc,hd,hp,hk=>by
  obtain ⟨c,u,e,hb,_⟩:=ef hc.head;have hd':l.drop p=List.replicate y.1 32++(ay y.2++zn r):=hd;have hq1:aG l p=p+y.1:=zQ hb y.1 p (by rw [hd',e];rfl);have hq3:l.drop (p+y.1)=ay y.2++zn r:=by
   have:=o4 hd';rwa [List.length_replicate] at this
  have hql:p+y.1<l.length:=(gQ (show l.drop (p+y.1)=c::(u++zn r) by rw [hq3,e];rfl)).2;have ht:=wi hc.head hq3 (zV hc);have hlen:(ay y.2).length≤l.length-(p+y.1):=by
   have:=congrArg List.length hq3;rw [List.length_drop,List.length_append] at this;omega
  have hpos:0<(ay y.2).length:=by rw [e];simp
  obtain ⟨T,h1,h2,h3⟩:=zA r k (p+y.1+(ay y.2).length) hc.tail (o4 hq3) (by omega) (by omega);refine ⟨(y.2.1,p+y.1,y.2.2.1,y.2.2.2)::T,?_,by simp [h2],fun i x hx=>?_⟩
  ·unfold eO;rw [hq1,if_pos hql,ht];simp only;rw [h1];rfl
  ·cases i with
   |zero =>
    obtain rfl:y=x:=by simpa using hx
    exact ⟨p+y.1,rfl⟩
   | succ i=>exact h3 i x (by simpa using hx)
theorem zI {ls:List (Nat × LX)} (h:ChB ls) (hl:(zn ls).length≤512):∃ T,gh (zn ls)=(T,0,0)∧WT T∧At T 0 (ls.map (·.2))∧T.length=ls.length+1:=by
 obtain ⟨l,hle⟩:∃ l,zn ls=l:=⟨_,rfl⟩
 rw [hle] at hl ⊢;obtain ⟨T',h1,h2,h3⟩:=zA (l:=l) ls (l.length+1) 0 h (by rw [List.drop_zero,hle]) (Nat.zero_le _) (by omega);obtain ⟨T2,e,h4⟩:=qX _ _ _ h1 (by omega);have e2:=List.append_inj_left' e rfl;subst e2;refine ⟨T'++[(6,l.length,[],0)],?_,WT.of h4,fun i x hx=>?_,by simp [h2]⟩
 ·unfold gh cB;rw [if_neg (by omega),Nat.sub_zero,h1]
 ·rw [List.getElem?_map] at hx;obtain ⟨y,hy,rfl⟩:=Option.map_eq_some_iff.1 hx;obtain ⟨a,ha⟩:=h3 i y hy;have hi:i<T'.length:=(List.getElem?_eq_some_iff.1 ha).1;unfold rdT tkK tkT tkN;rw [Nat.zero_add,List.getElem?_append_left hi,ha]
theorem zw {T:List ak} {r:Nat} {x:EJ} (h:bi r x≠0):∀ (n p:Nat),At T p (List.replicate n (ap [40])++(ar 1 x++List.replicate n (ap [41])))→dL T 1 (p+(n+(ar 1 x).length+n))→TkE T 1 p x (p+(n+(ar 1 x).length+n))
 |0,p,ha,hs=>by
  have ha':At T p (ar 1 x++[]):=ha;rw [List.append_nil] at ha';rw [show p+(0+(ar 1 x).length+0)=p+(ar 1 x).length by omega] at hs ⊢;exact gg h ha' hs
 |n+1,p,ha,hs=>by
  have e:List.replicate (n+1) (ap [40])++(ar 1 x++List.replicate (n+1) (ap [41]))=ap [40]::((List.replicate n (ap [40])++(ar 1 x++List.replicate n (ap [41])))++[ap [41]]):=by
   rw [List.replicate_succ,List.replicate_succ'];simp
  rw [e] at ha;obtain ⟨h1,h2⟩:=At.cons.1 ha;obtain ⟨h3,h4⟩:=At.app.1 h2;have h5:=(At.cons.1 h4).1;have hlen:(List.replicate n (ap [40])++(ar 1 x++List.replicate n (ap [41]))).length=n+(ar 1 x).length+n:=by simp;omega
  rw [hlen] at h5;have h6:=zw h n (p+1) h3 (.of h5 (by decide) (by decide) 1);have h7:=TkA.brack h1 h6 (by rw [bc h5];decide);rw [show p+1+(n+(ar 1 x).length+n)+1=p+(n+1+(ar 1 x).length+(n+1)) by omega] at h7;exact TkE.lift 7 1 8 (by omega) (Nat.le_refl _) (.path h7 (.stop hs.2)) hs (fun l _ _ _=>rH h1 (.inr (by decide)) l)
def zx:EJ:=eZ (.mk 1 0 [] [] [])
def zo (x:EJ):SJ:=.mk 1 [] x zx [] []
theorem zS:bi 12 zx≠0:=zD (by decide) (by decide) (fun x h=>by cases h)
theorem zv:ar 1 zx=[aS mz]:=rfl
theorem zK {T:List ak} (hT:WT T) {x:EJ} (h:nV x) (n:Nat) (ha:At T 0 (aS dv::((List.replicate n (ap [40])++(ar 1 x++List.replicate n (ap [41])))++[ap [44],aS mz,ap [59]]))) (hl:T.length=n+(ar 1 x).length+n+5):∃ q,gG T=.ok [zo x] q:=by
 obtain ⟨m,hm,h6⟩:=hT.last;obtain ⟨h1,h2⟩:=At.cons.1 ha;obtain ⟨h3,h4⟩:=At.app.1 h2;have hlen:(List.replicate n (ap [40])++(ar 1 x++List.replicate n (ap [41]))).length=n+(ar 1 x).length+n:=by simp;omega
 rw [hlen] at h4;obtain ⟨h5,h7⟩:=At.cons.1 h4;obtain ⟨h8,h9⟩:=At.cons.1 h7;have h10:=(At.cons.1 h9).1;have hm2:0+1+(n+(ar 1 x).length+n)+1+1+1=m:=by omega
 have hno:∀ w,am T m w=false:=fun w=>by unfold am;rw [h6,decide_eq_false_iff_not];omega
 have hE:=zw h n (0+1) h3 (.of h5 (by decide) (by decide) 1);have hN:TkE T 1 (0+1+(n+(ar 1 x).length+n)+1) zx (0+1+(n+(ar 1 x).length+n)+1+1):=by
  have:=gg zS (T:=T) (p:=0+1+(n+(ar 1 x).length+n)+1) (by rw [zv];exact At.cons.2 ⟨h8,At.nil⟩) (by rw [zv];exact .of h10 (by decide) (by decide) 1);rwa [zv] at this
 have hS:=TkS.emit (acc:=[]) h1 hE h5 hN h10 (TkS.stop (by rw [hm2];exact hno _) (by rw [hm2];exact hno _) (by rw [hm2];exact hno _));obtain ⟨N,hN2⟩:=hS;have h11:=hN2 (max (m9 T) N) (Nat.le_max_right _ _);rw [pD hT (by omega) (n:=m9 T) (by unfold m9;omega) (Nat.le_max_left _ _),hm2] at h11;refine ⟨m,?_⟩;unfold gG;rw [h11];simp only;rw [if_pos h6];rfl
end
end Go.Proofs.YtgmnmnnoahdjnaaGreatDoor
