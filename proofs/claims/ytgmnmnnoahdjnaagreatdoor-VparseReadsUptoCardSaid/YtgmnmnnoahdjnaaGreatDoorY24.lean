import Derived.Test.YtgmnmnnoahdjnaaGreatDoorY23
import Derived.Test.YtgmnmnnoahdjnaaGreatDoorY22
open Go.Value renaming int → Zi, slice → Zs, string → Zt, pointer → Zp
open Go.IntKind renaming i64 → Zq
set_option maxRecDepth 100000
set_option maxHeartbeats 16000000
set_option linter.unusedVariables false
set_option linter.unusedSimpArgs false
namespace Go.Proofs.YtgmnmnnoahdjnaaGreatDoor
section
theorem uF {α:Type} {a b:List α} (hb:b≠[]):(a++b).getLast? = b.getLast?:=by
 rw [List.getLast?_append];cases h:b.getLast? with
 | none=>rw [List.getLast?_eq_none_iff] at h;exact absurd h hb
 | some v=>rfl
theorem iU.app:∀ {a b:List LX},iU a->iU b->(∀ x y,a.getLast? = some x->b.head? = some y->x.1=5->x.2.1=[60]->(bF y).headD 0≠61)->iU (a++b)
 | [],b,_,hb,_=>hb
 | [x],[],hx,_,_=>hx
 | [x],y::r,hx,hb,h=>⟨hx,h x y rfl rfl,hb⟩
 | x::z::r,b,ha,hb,h=>⟨ha.1,ha.2.1,iU.app (a:=z::r) ha.2.2 hb (λ u y hu hy=>h u y (by rw [List.getLast?_cons_cons];exact hu) hy)⟩
structure Seg (l:List LX):Prop where
 ok:iU l
 ne:l≠[]
 fst:∀ y,l.head? = some y->(bF y).headD 0≠61
 lst:∀ x,l.getLast? = some x->x.1=5->x.2.1≠[60]
theorem Seg.app {a b:List LX} (ha:Seg a) (hb:Seg b):Seg (a++b):=by
 refine ⟨ha.ok.app hb.ok (λ x y hx _ h5 h=>absurd h (ha.lst x hx h5)),by simp [ha.ne],λ y hy=>?_,λ x hx=>?_⟩
 ·cases a with
  | nil=>exact absurd rfl ha.ne
  | cons z r=>exact ha.fst y hy
 ·cases b with
  | nil=>exact absurd rfl hb.ne
  | cons z r=>rw [uF (List.cons_ne_nil _ _)] at hx;exact hb.lst x hx
theorem Seg.one {x:LX} (h:kW x) (h1:(bF x).headD 0≠61) (h2:x.1=5->x.2.1≠[60]):Seg [x] :=
 ⟨h,by simp,λ y hy=>by
  obtain rfl:x=y:=by simpa using hy
  exact h1,λ y hy=>by
   obtain rfl:x=y:=by simpa using hy
   exact h2⟩
theorem Seg.op {a b:List LX} {o:LX} (ha:Seg a) (ho:kW o) (hb:Seg b):Seg (a++o::b):=by
 have h1:iU (o::b):=by
  cases b with
  | nil=>exact absurd rfl hb.ne
  | cons y r=>exact ⟨ho,λ _ _=>hb.fst y rfl,hb.ok⟩
 refine ⟨ha.ok.app h1 (λ x y hx _ h5 h=>absurd h (ha.lst x hx h5)),by simp,λ y hy=>?_,λ x hx=>?_⟩
 ·cases a with
  | nil=>exact absurd rfl ha.ne
  | cons z r=>exact ha.fst y hy
 ·cases b with
  | nil=>exact absurd rfl hb.ne
  |cons z r =>
   rw [uF (List.cons_ne_nil _ _),List.getLast?_cons_cons] at hx;exact hb.lst x hx
theorem fc {t:List UInt8} (h:t ∈ aF):kW (aK t):=.inr (.inr (.inr (.inr ⟨rfl,h,rfl⟩)))
theorem gB {t:List UInt8} (h:t ∈ cC):kW (cF t):=.inr (.inl ⟨rfl,h,rfl⟩)
theorem eJ {t:List UInt8} (h:t ∈ aF) (h1:t.headD 0≠61) (h2:t≠[60]):Seg [aK t]:=.one (fc h) h1 (λ _=>h2)
theorem eM {t:List UInt8} (h:t ∈ cC):Seg [cF t]:=by
 have hall:∀ t ∈ cC,t.headD 0≠61/\t≠[60]:=by decide
 exact .one (gB h) (hall t h).1 (λ _=>(hall t h).2)
theorem my {s:List UInt8} (h:dB s=true):Seg [jf s]:=by
 obtain ⟨_,⟨c,r,rfl,hl⟩,_⟩:=sm h;have hb:=lT hl;refine .one (.inl ⟨rfl,h,rfl⟩) ?_ (λ e=>absurd e (by show ¬ (1:Int)=5;decide));show c≠61
 rintro rfl;exact absurd hb (by decide)
theorem yu {k:Int} (hk:5<=k/\k<=15):kW (opK k):=by
 have h11:k=5∨k=6∨k=7∨k=8∨k=9∨k=10∨k=11∨k=12∨k=13∨k=14∨k=15:=by omega
 rcases h11 with rfl | rfl | rfl | rfl | rfl | rfl | rfl | rfl | rfl | rfl | rfl
 ·exact gB (by decide)
 ·exact gB (by decide)
 ·exact gB (by decide)
 ·exact fc (by decide)
 ·exact fc (by decide)
 ·exact fc (by decide)
 ·exact fc (by decide)
 ·exact fc (by decide)
 ·exact fc (by decide)
 ·exact gB (by decide)
 ·exact gB (by decide)
theorem wO {k:Int} (hk:5<=k/\k<=7):Seg [opK k]:=by
 have h3:k=5∨k=6∨k=7:=by omega
 rcases h3 with rfl | rfl | rfl<;>exact eM (by decide)
theorem wE {v:JV} (h:ee v=true) (hc:dc v):Seg [lW v]:=by
 rcases tu h with ⟨n,hn,rfl⟩ | ⟨s,hs,rfl⟩ | rfl | ⟨b,rfl⟩
 ·have hi:=hc.out.2.1;have hok:kW (lW (lQ n)):=.inr (.inr (.inl ⟨rfl,hn,hi.2,rfl⟩));obtain ⟨c,r,e,_,_,_,hB,_⟩:=oc hok;have hd:=lC (hB rfl).1;refine .one hok ?_ (λ e=>absurd e (by show ¬ (3:Int)=5;decide));rw [e];show c≠61
  rintro rfl;exact absurd hd (by decide)
 ·refine .one (.inr (.inr (.inr (.inl ⟨rfl,hs,rfl⟩)))) ?_ (λ e=>absurd e (by show ¬ (4:Int)=5;decide));show (mX s).headD 0≠61
  unfold mX;exact (by decide:(34:UInt8)≠61)
 ·exact eM (by decide)
 ·cases b<;>exact eM (by decide)
theorem Seg.wrap {f:Nat} {x:Nat × List LX} (h:Seg x.2):Seg (fP f x):=by
 unfold fP;split
 ·exact (eJ (t:=[40]) (by decide) (by decide) (by decide)).app (h.app (eJ (t:=[41]) (by decide) (by decide) (by decide)))
 ·exact h
theorem nZ:∀ {ks:List (List LX)},ks≠[]->(∀ k ∈ ks,Seg k)->Seg (de ks)
 | [],h,_=>absurd rfl h
 | [a],_,h=>h a List.mem_cons_self
 | a::b::r,_,h=>(h a List.mem_cons_self).op (fc (by decide)) (nZ (List.cons_ne_nil _ _) (λ k hk=>h k (List.mem_cons_of_mem _ hk)))
theorem ou:∀ (r:Nat) (x:EJ),bM r x≠0->cj x->Seg (jb x).2
 | 0,x,h,_=>absurd (by cases x;rfl) h
 |r+1,.mk k v s kids,h,hc=>by
  obtain ⟨_,hk,hkids⟩:=cD h;unfold cj at hc;obtain ⟨_,hcv,_,_,hck⟩:=hc;have ih:∀ y ∈ kids,Seg (jb y).2:=λ y hy=>ou r y (hkids y hy) (bU.1 hck y hy)
  rw [xi];simp only;rcases tx hk with ⟨rfl,hl,rfl,hk0⟩ | ⟨rfl,⟨rfl,hn,hk0⟩ | ⟨rfl,hn,hk1⟩ | ⟨rfl,rfl⟩ | ⟨h5,h7,rfl,hk1⟩ | ⟨h8,h15,rfl,hk2⟩⟩
  ·exact wE hl hcv
  ·exact my hn
  ·obtain ⟨y,rfl⟩:=List.length_eq_one_iff.1 hk1;show Seg (fP 8 (jb y)++[aK [46],jf s])
   exact (ih y List.mem_cons_self).wrap.app ((eJ (t:=[46]) (by decide) (by decide) (by decide)).app (my hn))
  ·show Seg (aK [91]::(de ((kids.map jb).map (fP 1))++[aK [93]]))
   have ho:=eJ (t:=[91]) (by decide) (by decide) (by decide);have hcl:=eJ (t:=[93]) (by decide) (by decide) (by decide);cases kids with
   | nil=>exact ho.app hcl
   |cons y l =>
    refine ho.app ((nZ (by simp) λ k hk=>?_).app hcl);rw [List.map_map] at hk;obtain ⟨z,hz,rfl⟩:=List.mem_map.1 hk;exact (ih z hz).wrap
  ·obtain ⟨y,rfl⟩:=List.length_eq_one_iff.1 hk1;have e:dE k cS [] ([y].map jb)=[opK k]++bI (bt k) y:=by
    unfold dE;rw [if_neg (by omega),if_neg (by omega),if_neg (by omega),if_neg (by omega)];rfl
   rw [e];exact (wO ⟨h5,h7⟩).app (ih y List.mem_cons_self).wrap
  ·match kids,hk2,ih with
   |[y,z],_,ih =>
    have e:dE k cS [] ([y,z].map jb)=bI (tg (bt k)) y++opK k::bI (bt k+1) z:=by
     unfold dE;rw [if_neg (by omega),if_neg (by omega),if_neg (by omega),if_neg (by omega)];rfl
    rw [e];exact (ih y List.mem_cons_self).wrap.op (yu ⟨by omega,h15⟩) (ih z (List.mem_cons_of_mem _ List.mem_cons_self)).wrap
theorem qz {x:EJ} (h:gW x) (hc:cj x) (f:Nat):Seg (bI f x):=(ou 12 x h hc).wrap
theorem iy {d:Nat} (ih:d≠0->∀ l:List SJ,bK (d-1) l=true->bY l->l=[]∨Seg (aT l)):∀ l:List SJ,bK d l=true->bY l->l=[]∨Seg (aT l)
 | [],_,_=>.inl rfl
 | .mk k s a b body els::l,hm,hc=>by
  right;unfold bK at hm;unfold bY j3 at hc;rw [Bool.and_eq_true] at hm;obtain ⟨hx,hl⟩:=hm;obtain ⟨⟨_,_,hca,hcb,_,_,hcbo,hcel⟩,hcl⟩:=hc;unfold iY at hx;rw [Bool.and_eq_true,Bool.and_eq_true,decide_eq_true_eq,decide_eq_true_eq] at hx;obtain ⟨hd,hfa,hk⟩:=hx;have hb:∀ l:List SJ,bK (d-1) l=true->bY l->Seg (aK [123]::(aT l++[aK [125]])):=λ l h1 h2=>by
   have ho:=eJ (t:=[123]) (by decide) (by decide) (by decide);have hcl:=eJ (t:=[125]) (by decide) (by decide) (by decide);rcases ih hd l h1 h2 with rfl | h
   ·exact ho.app hcl
   ·exact ho.app (h.app hcl)
  have hA:=qz hfa hca 1;have hS:Seg (gY (.mk k s a b body els)):=by
   unfold gY;by_cases h1:k=1
   ·rw [if_pos h1] at hk ⊢;rw [Bool.and_eq_true,decide_eq_true_eq] at hk;exact (eM (t:=du) (by decide)).app (hA.op (fc (by decide)) ((qz hk.1 hcb 1).app (eJ (t:=[59]) (by decide) (by decide) (by decide))))
   ·rw [if_neg h1] at hk ⊢;by_cases h2:k=2
    ·rw [if_pos h2,Bool.and_eq_true,Bool.and_eq_true,Bool.and_eq_true] at hk;rw [if_neg (by omega)];refine (eM (t:=wIf) (by decide)).app (hA.app ?_);by_cases he:els.length=0
     ·rw [if_pos he];exact hb body hk.2.2.1 hcbo
     ·rw [if_neg he];have e:aK [123]::(aT body++aK [125]::cF ep::aK [123]::(aT els++[aK [125]]))=(aK [123]::(aT body++[aK [125]]))++([cF ep]++(aK [123]::(aT els++[aK [125]]))):=by simp
      rw [e];exact (hb body hk.2.2.1 hcbo).app ((eM (t:=ep) (by decide)).app (hb els hk.2.2.2 hcel))
    ·rw [if_neg h2] at hk;by_cases h3:k=3
     ·rw [if_pos h3,Bool.and_eq_true,Bool.and_eq_true,Bool.and_eq_true,decide_eq_true_eq] at hk;rw [if_pos h3,if_pos hk.2.2.2];exact ((eM (t:=iB) (by decide)).app ((my hk.2.1).app (eM (t:=wIn) (by decide)))).app (hA.app (hb body hk.2.2.1 hcbo))
     ·rw [if_neg h3] at hk;cases hk
  unfold aT;rcases iy ih l hl hcl with rfl | h
  ·unfold aT;rw [List.append_nil];exact hS
  ·exact hS.app h
theorem mJ:∀ (d:Nat) (l:List SJ),bK d l=true->bY l->l=[]∨Seg (aT l)
 | 0,l,h,hc=>iy (λ h=>absurd rfl h) l h hc
 | d+1,l,h,hc=>iy (d:=d+1) (λ _ l=>mJ d l) l h hc
theorem xj {d:Nat} {l:List SJ} (h:bK d l=true) (hc:bY l):iU (aT l):=by
 rcases mJ d l h hc with rfl | h
 ·unfold aT;trivial
 ·exact h.ok
def cW (l:List UInt8):List SJ × Int × Int :=
 if (ey l).2.2≠0 then ([],(ey l).2.1,(ey l).2.2)
 else match fL (ey l).1 with
  | .bad p=>([],(tkA (ey l).1 p:Nat),330)
  | .ok b _=>if lX b=true then (b,0,0) else ([],0,331)
def dY (l:List LX):Nat:=(l.map λ x=>(bF x).length+1).sum
theorem bB (a b:List LX):dY (a++b)=dY a+dY b:=by unfold dY;rw [List.map_append,List.sum_append]
theorem aI (x:LX) (b:List LX):dY (x::b)=(bF x).length+1+dY b:=by unfold dY;rw [List.map_cons,List.sum_cons]
theorem dH:dY []=0:=rfl
theorem cM (st:List UInt8 × Bool) (s:List UInt8):(a6 st s).1.length<=st.1.length+(s.length+1):=by
 unfold a6;simp only [List.length_append];split<;>simp<;>omega
theorem qk:∀ (l:List LX) (st:List UInt8 × Bool),((l.map bF).foldl a6 st).1.length<=st.1.length+dY l
 | [],st=>by simp [dY]
 |x::r,st=>by
  rw [List.map_cons,List.foldl_cons,aI];have h1:=qk r (a6 st (bF x));have h2:=cM st (bF x);omega
theorem yk {x:LX} (h:kW x):t9 (bF x):=by
 obtain ⟨c,r,e,_,_,h1,h2,h3,h4⟩:=oc h;refine ⟨by rw [e];simp,λ h46=>?_⟩;have hc:c=46:=by rw [e] at h46;simpa using h46
 subst hc;rcases h with ⟨hk,_⟩ | ⟨hk,_⟩ | ⟨hk,_⟩ | ⟨hk,_⟩ | ⟨hk,hs,_⟩
 ·exact absurd (h1 (.inl hk)) (by decide)
 ·exact absurd (h1 (.inr hk)) (by decide)
 ·exact absurd (h2 hk).1 (by decide)
 ·exact absurd (h3 hk) (by decide)
 ·have e2:bF x=x.2.1:=by unfold bF;rw [if_neg (by omega)]
  have:∀ t ∈ aF,t.headD 0=46->t=[46]:=by decide
  rw [e2] at h46 ⊢;exact this _ hs h46
theorem iU.all:∀ {l:List LX},iU l->∀ x ∈ l,kW x
 |y::r,h,x,hx=>by
  rcases List.mem_cons.1 hx with rfl | hx
  ·exact h.head
  ·exact h.tail.all x hx
theorem vh {d:Nat} {l:List SJ} (h:bK d l=true) (hc:bY l):(((aT l).map bF).foldl a6 ([],false)).1=mj l:=by
 refine vi _ λ s hs=>?_
 obtain ⟨x,hx,rfl⟩:=List.mem_map.1 hs;exact yk ((xj h hc).all x hx)
def fV (l:List SJ):List UInt8 × Int:=if lX l=true then (if 512<(mj l).length then ([],3) else (mj l,0)) else ([],332)
end
section
open Go.RowKit
attribute [local go_sem] aa ac ae ab
theorem mF (s:List UInt8):Lib.strCells ⟨s.toArray⟩=aq s:=by unfold Lib.strCells aq;simp
section
variable {P:Program} (w:World)
theorem kZ (base:Nat) (t u ty e:TypeId) (i:TypeInfo) (ht:P.underlying t=some (.slice e)) (hu:P.underlying u=some .string) (hi:P.info? e=some i) (hz:i.zero=some (Zi .u8 0)) (hsize:i.size=1) (hby:i.bytes=1)
  (v:Value) (n:Nat) (xs:List Value) (hown:w.ownsRow base e 1 v n xs) (s:ByteArray) (h63:n+s.size<=maxLen) (hbytes:n+s.size<=140737488355328) (hbase:base<=w.heap.size) :
  ∃ v' w',(Builtin.append_ #[t,u] ty #[v,Zt s]).run P w=.ok v' w'/\w'.ownsRow base e 1 v' (n+s.size) (xs++Lib.strCells s)/\w.grownBy w' v.ownBlock/\(v'.ownBlock=v.ownBlock∨∃ k,v'.ownBlock=some k/\w.heap.size<=k):=by
 obtain ⟨v',w',hr,h1,h2,h3⟩:=Lib.run_append_own_string (P:=P) w base t u ty e i ht hu hi hz hsize hby v n xs hown s h63 hbytes hbase;refine ⟨v',w',hr,h1,h2,?_⟩;rcases hown.2 with ⟨rfl,rfl⟩ | ⟨g,cap,cur,rfl,hbg,hg,hnc,hcm,hcs,htake⟩
 ·obtain ⟨v2,w2,hr2,k1,_,_⟩:=Lib.run_append_own_string (P:=P) w w.heap.size t u ty e i ht hu hi hz hsize hby (Zs none 0 0) 0 [] (World.ownsRow_nil _ _ _ _) s (by omega) (by omega) (Nat.le_refl _);rw [hr] at hr2;injection hr2 with e1 e2
  subst e1 e2;cases ho:v'.ownBlock with
  | none=>exact .inl rfl
  | some k=>exact .inr ⟨k,rfl,(k1.lt k ho).1⟩
 ·have hxl:xs.length=n:=by simpa using hown.1
  by_cases hroom:n+s.size<=cap
  ·have hcs':cur.size=cap:=by simpa using hcs
   have hr2:=Lib.run_append_room_string (P:=P) w t u ty e i ht hu hi hsize g n cap cur hg s hroom (by omega);rw [hr] at hr2;injection hr2 with e1 e2
   subst e1;exact .inl rfl
  ·have holds:∀ j u,xs[j]? = some u->w.cell? ((⟨g,0,none⟩:Addr).add j)=some u:=hown.cells (g:=g) rfl;unfold maxLen at h63;have hr2:=Lib.run_append_grow_string (P:=P) w t u ty e i (Zi .u8 0) ht hu hi hz ⟨g,0,none⟩ n cap xs (by rw [hsize];simpa using hxl) holds s (by omega) (by omega) (by rw [hby];exact growslice_fits (by omega) (by omega));rw [hr] at hr2;injection hr2 with e1 e2
   subst e1;exact .inr ⟨_,rfl,Nat.le_refl _⟩
theorem jj {o:Oper} {a:Act} {K:Act->World->Prop} {Q:Exit->Act->World->Prop} (s x:Operand) (t u:TypeId)
  (ho:o.op=.call { callee:=.builtin .append,args:=#[s,x],argTypes:=#[t,u] })
  (base:Nat) (e:TypeId) (i:TypeInfo) (ht:P.underlying t=some (.slice e)) (hu:P.underlying u=some .string) (hi:P.info? e=some i) (hz:i.zero=some (Zi .u8 0)) (hsize:i.size=1) (hby:i.bytes=1)
  (v:Value) (n:Nat) (xs:List Value) (hs:a.eval s=v) (hown:w.ownsRow base e 1 v n xs) (str:ByteArray) (hx:a.eval x=Zt str)
  (h63:n+str.size<=maxLen) (hbytes:n+str.size<=140737488355328) (hbase:base<=w.heap.size)
  (h:∀ v' w',w'.ownsRow base e 1 v' (n+str.size) (xs++Lib.strCells str)->w.grownBy w' v.ownBlock->(v'.ownBlock=v.ownBlock∨∃ k,v'.ownBlock=some k/\w.heap.size<=k)->K (a.put o.dst v') w'):o.wp P a w K Q:=by
 obtain ⟨v',w',hrun,h2,h3,h4⟩:=kZ (P:=P) w base t u o.type e i ht hu hi hz hsize hby v n xs hown str h63 hbytes hbase;unfold Oper.wp execOp;simp only [ho,resolve,invoke,builtin,Sem.run_bind,Sem.run_pure,Result.andThen_ok,List.map_toArray,List.map_cons,List.map_nil,hs,hx,hrun];exact h v' w' h2 h3 h4
end
structure WP (w:World) (g:Nat) (row:Value) (n:Nat) (out:List UInt8) (num:Bool):Prop where
 blk:Blk w g 71 #[row,.bool num]
 own:iV (g+1) row n out w
 gob:∃ w0:World,GOE w0/\w0.heap.size<=g/\Below w0.heap.size w0 w
section
variable {w w':World} {g:Nat} {row row':Value} {n n':Nat} {out out':List UInt8} {num num':Bool}
theorem WP.goe (h:WP w g row n out num):GOE w:=by obtain ⟨w0,h1,_,h2⟩:=h.gob;exact h1.keep h2
theorem WP.keep (h:WP w g row n out num) (hb:Below w.heap.size w w'):WP w' g row n out num:=by
 obtain ⟨w0,h1,h2,h3⟩:=h.gob;exact ⟨h.blk.keep hb,h.own.bel hb,w0,h1,h2,h3.trans (hb.mono (by have:=h.blk.lt;omega))⟩
theorem WP.ge (h:WP w g row n out num):∀ k,row.ownBlock=some k->g+1<=k/\k<w.heap.size:=λ k e=>h.own.2.1.lt k e
theorem WP.step (h:WP w g row n out num) (hg:MG g row w row' w') (hb:Blk w' g 71 #[row',.bool num']) (ho:iV (g+1) row' n' out' w'):WP w' g row' n' out' num':=by
 obtain ⟨w0,h1,h2,h3⟩:=h.gob;exact ⟨hb,ho,w0,h1,h2,h3.trans (hg.below (by have:=h.blk.lt;omega) h2 (λ k e=>by have:=(h.ge k e).1;omega))⟩
theorem WP.ne (h:WP w g row n out num):some g≠row.ownBlock:=λ e=>by have:=(h.ge g e.symm).1;omega
end
theorem az.mg {L:List (Nat × TypeId × Array Value)} {w0 W W':World} {g:Nat} {a b:Value} (h:az L w0 W) (hg:MG g a W b W') (hb:w0.heap.size<=g) (ho:∀ k,a.ownBlock=some k->w0.heap.size<=k) (hL:∀ x ∈ L,x.1≠g/\some x.1≠a.ownBlock):az L w0 W' :=
 ⟨h.1.trans (hg.below h.1.size hb ho),λ x hx=>hg.blk (h.2 x hx) (hL x hx).1 (hL x hx).2⟩
theorem sP (c:UInt8) (w:World):Calls Tryz.prog 111 #[Zi .u8 c.toNat] w λ e w'=>e=.returned (.bool (cR c))/\w'=w:=by
 have hc:=c.toNat_lt;obtain ⟨n,hn⟩:∃ n,c.toNat=n:=⟨_,rfl⟩
 have HB:=aW (show cR c=(decide (97<=n/\n<=122) || decide (48<=n/\n<=57)) by unfold cR ay aJ;rw [hn]);rw [hn] at hc ⊢;clear hn;by_cases h1:97<=n
 ·by_cases h2:n<=122
  ·have HT:=aW (show cR c=true by rw [HB.out];simp;omega);go_enter Tryz.func111,Tryz.ntmps111;go_wp2;go_ret;exact ⟨am (by rw [HT.out]),rfl⟩
  ·have HT:=aW (show cR c=false by rw [HB.out];simp;omega);go_enter Tryz.func111,Tryz.ntmps111;go_wp2;go_ret;exact ⟨am (by rw [HT.out];try (simp;omega)),rfl⟩
 ·by_cases h2:48<=n
  ·by_cases h3:n<=57
   ·have HT:=aW (show cR c=true by rw [HB.out];simp;omega);go_enter Tryz.func111,Tryz.ntmps111;go_wp2;go_ret;exact ⟨am (by rw [HT.out];try (simp;omega)),rfl⟩
   ·have HT:=aW (show cR c=false by rw [HB.out];simp;omega);go_enter Tryz.func111,Tryz.ntmps111;go_wp2;go_ret;exact ⟨am (by rw [HT.out];try (simp;omega)),rfl⟩
  ·have HT:=aW (show cR c=false by rw [HB.out];simp;omega);go_enter Tryz.func111,Tryz.ntmps111;go_wp2;go_ret;exact ⟨am (by rw [HT.out];try (simp;omega)),rfl⟩
end
end Go.Proofs.YtgmnmnnoahdjnaaGreatDoor
