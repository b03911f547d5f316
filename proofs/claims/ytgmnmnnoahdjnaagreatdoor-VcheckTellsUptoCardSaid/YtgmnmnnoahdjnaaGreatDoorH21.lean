import Derived.Test.YtgmnmnnoahdjnaaGreatDoorH16
import Derived.Test.YtgmnmnnoahdjnaaGreatDoorH17
open Go.Value renaming int → Zi, slice → Zs, string → Zt, pointer → Zp
open Go.IntKind renaming i64 → Zq
set_option maxRecDepth 100000
set_option maxHeartbeats 16000000
set_option linter.unusedVariables false
set_option linter.unusedSimpArgs false
namespace Go.Proofs.YtgmnmnnoahdjnaaGreatDoor
section
open Go.RowKit Go.Shelf
attribute [local go_sem] ab ae af ac Oper.semAt_some
theorem xJ (g:Nat):g≠g+1/\g≠g+1+1/\g≠g+1+1+1/\g+1≠g/\g+1+1≠g/\g+1+1+1≠g/\g+1≠g+1+1/\g+1≠g+1+1+1/\g+1+1≠g+1/\g+1+1+1≠g+1/\g+1+1≠g+1+1+1/\g+1+1+1≠g+1+1:=by
 refine ⟨?_,?_,?_,?_,?_,?_,?_,?_,?_,?_,?_,?_⟩<;>omega
def dG (k:Int):Bool:=decide (k=5∨k=6)
def jJ (d:Nat) (x:Nat × JV):Nat:=if dG x.2.kind then max d (x.1+1) else d
def dpt (l:List (Nat × JV)):Nat:=l.foldl jJ 0
theorem nB (l:List (Nat × JV)) (x:Nat × JV):dpt (l++[x])=jJ (dpt l) x:=by simp [dpt]
def jw:JV->Bool | .mk k n s kids keys=>bZ k n s kids.length keys
def ji (x:Nat × JV):Prop:=jw x.2=true/\(dG x.2.kind=true->x.1+1<=8)
def okF (l:List (Nat × JV)):Prop:=l.length<=256/\dpt l<=8/\∀ x ∈ l,jw x.2=true
theorem vW:∀ (l:List (Nat × JV)),dpt l<=8 ↔ ∀ x ∈ l,dG x.2.kind=true->x.1+1<=8:=by
 have key:∀ (l:List (Nat × JV)) (d:Nat),l.foldl jJ d<=8 ↔ d<=8/\∀ x ∈ l,dG x.2.kind=true->x.1+1<=8:=by
  intro l
  induction l with
  | nil=>intro d;simp
  |cons x r ih =>
   intro d;rw [List.foldl_cons,ih];unfold jJ;constructor
   ·rintro ⟨h1,h2⟩;split at h1
    ·refine ⟨by omega,λ y hy hh=>?_⟩;rcases List.mem_cons.1 hy with rfl | hy
     ·omega
     ·exact h2 y hy hh
    ·rename_i hn
     refine ⟨h1,λ y hy hh=>?_⟩;rcases List.mem_cons.1 hy with rfl | hy
     ·exact absurd hh hn
     ·exact h2 y hy hh
   ·rintro ⟨h1,h2⟩;refine ⟨?_,λ y hy=>h2 y (List.mem_cons_of_mem _ hy)⟩;split
    ·rename_i hh
     have:=h2 x List.mem_cons_self hh;omega
    ·exact h1
 intro l;rw [dpt,key];simp
theorem qs {l:List (Nat × JV)}:okF l ↔ l.length<=256/\∀ x ∈ l,ji x:=by
 unfold okF ji;rw [vW];exact ⟨λ ⟨h1,h2,h3⟩=>⟨h1,λ x hx=>⟨h3 x hx,h2 x hx⟩⟩,λ ⟨h1,h2⟩=>⟨h1,λ x hx=>(h2 x hx).2,λ x hx=>(h2 x hx).1⟩⟩
theorem uP {l l':List (Nat × JV)} (hp:l <+: l') (h:okF l'):okF l:=by
 rw [qs] at h ⊢;exact ⟨Nat.le_trans hp.length_le h.1,λ x hx=>h.2 x (hp.subset hx)⟩
theorem nM {k n:Int} {s:List UInt8} {nk:Nat} {keys:List (List UInt8)} (h:bZ k n s nk keys=true):dG k=true ↔ 5<=k:=by
 have:=fs h;unfold dG;rw [decide_eq_true_eq];omega
mutual
theorem ko:∀ (v:JV) (lv d:Nat),lv+d=8->(dR d v=true ↔ ∀ x ∈ cQ lv v,ji x)
 | .mk k n s kids keys,lv,d,he=>by
  rw [cQ];unfold dR;rw [Bool.and_eq_true,Bool.and_eq_true,decide_eq_true_eq,List.forall_mem_cons];show jw (.mk k n s kids keys)=true/\_ ↔ ji (lv,.mk k n s kids keys)/\_
  unfold ji;by_cases hg:jw (.mk k n s kids keys)=true
  ·have hh:=nM hg;have hl:=λ h=>km (k:=k) hg h
   show jw _=true/\(5<=k->d≠0)/\fP (d-1) kids=true ↔ (jw _=true/\(dG k=true->lv+1<=8))/\_
   rw [hh];by_cases hd:d=0
   ·subst hd;by_cases h5:5<=k
    ·exact ⟨λ h=>absurd rfl (h.2.1 h5),λ h=>by have:=h.1.2 h5;omega⟩
    ·have e:kids=[]:=List.length_eq_zero_iff.1 (hl (by omega)).1;subst e;exact ⟨λ h=>⟨⟨h.1,λ e=>absurd e h5⟩,λ x hx=>by simp [bz] at hx⟩,λ h=>⟨h.1.1,λ e=>absurd e h5,by simp [fP]⟩⟩
   ·rw [kq kids (lv+1) (d-1) (by omega)];exact ⟨λ h=>⟨⟨h.1,λ _=>by omega⟩,h.2.2⟩,λ h=>⟨h.1.1,λ _=>hd,h.2⟩⟩
  ·exact ⟨λ h=>absurd h.1 hg,λ h=>absurd h.1.1 hg⟩
theorem kq:∀ (xs:List JV) (lv d:Nat),lv+d=8->(fP d xs=true ↔ ∀ x ∈ bz lv xs,ji x)
 | [],lv,d,he=>by simp [fP,bz]
 |x::r,lv,d,he=>by
  rw [bz];unfold fP;rw [Bool.and_eq_true,ko x lv d he,kq r lv d he];exact ⟨λ h y hy=>(List.mem_append.1 hy).elim (h.1 y) (h.2 y),λ h=>⟨λ y hy=>h y (List.mem_append_left _ hy),λ y hy=>h y (List.mem_append_right _ hy)⟩⟩
end
theorem lJ (v:JV):dg v=true ↔ okF (cQ 0 v):=by
 unfold dg;rw [Bool.and_eq_true,decide_eq_true_eq,qs,ja,ko v 0 8 rfl];exact ⟨λ h=>⟨h.2,h.1⟩,λ h=>⟨h.2,h.1⟩⟩
mutual
theorem nF:∀ (v:JV) (lv:Nat),∀ x ∈ cQ lv v,x.1+1<=lv+aN v
 | .mk k n s kids keys,lv,x,hx=>by
  rw [cQ,List.mem_cons] at hx;unfold aN;rcases hx with rfl | hx
  ·show lv+1<=_;omega
  ·have:=nG kids (lv+1) x hx;omega
theorem nG:∀ (xs:List JV) (lv:Nat),∀ x ∈ bz lv xs,x.1+1<=lv+aP xs
 | [],lv,x,hx=>by simp [bz] at hx
 |y::r,lv,x,hx=>by
  rw [bz,List.mem_append] at hx;unfold aP;rcases hx with hx | hx
  ·have:=nF y lv x hx;omega
  ·have:=nG r lv x hx;omega
end
mutual
theorem ki:∀ (v:JV) (lv:Nat),cN v->∀ x ∈ cQ lv v,cN x.2
 | .mk k n s kids keys,lv,h,x,hx=>by
  rw [cQ,List.mem_cons] at hx;rcases hx with rfl | hx
  ·exact h
  ·exact kj kids (lv+1) h.out.2.2.2.2.2.2 x hx
theorem kj:∀ (xs:List JV) (lv:Nat),(∀ y ∈ xs,cN y)->∀ x ∈ bz lv xs,cN x.2
 | [],lv,h,x,hx=>by simp [bz] at hx
 |y::r,lv,h,x,hx=>by
  rw [bz,List.mem_append] at hx;rcases hx with hx | hx
  ·exact ki y lv (h y List.mem_cons_self) x hx
  ·exact kj r lv (λ z hz=>h z (List.mem_cons_of_mem _ hz)) x hx
end
theorem uO:okF []:=⟨Nat.zero_le _,Nat.zero_le _,λ x h=>by cases h⟩
theorem lc (k:Int) (w:World):Calls Tryz.prog 216 #[Zi Zq k] w λ e w'=>e=.returned (.bool (dG k))/\w=w':=by
 by_cases h5:k=5
 ·subst h5;go_enter Tryz.func216,Tryz.ntmps216;go_wp2;go_ret;exact ⟨rfl,rfl⟩
 ·have h5b:(k == 5)=false:=by simpa using h5
  go_enter Tryz.func216,Tryz.ntmps216;go_wp2;go_ret;refine ⟨ak ?_,rfl⟩;unfold dG;by_cases h6:k=6
  ·subst h6;rfl
  ·simp [h5,h6]
def MB (w:World) (d n:Int) (ok:Bool) (W:World):Prop :=
 Blk W (w.heap.size+1) 3 #[Zi Zq d]/\Blk W (w.heap.size+1+1) 3 #[Zi Zq n]/\Blk W (w.heap.size+1+1+1) 4 #[.bool ok]/\Below w.heap.size w W/\w.heap.size+4<=W.heap.size
section
variable {w W W':World} {d n:Int} {ok:Bool}
theorem MB.keep (h:MB w d n ok W) (hb:Below W.heap.size W W'):MB w d n ok W':=⟨h.1.keep hb,h.2.1.keep hb,h.2.2.1.keep hb,h.2.2.2.1.trans (hb.mono h.2.2.2.1.size),Nat.le_trans h.2.2.2.2 hb.size⟩
theorem MB.drew (h:MB w d n ok W):MB w d n ok W.drew:=⟨h.1.drew,h.2.1.drew,h.2.2.1.drew,h.2.2.2.1.drew,h.2.2.2.2⟩
theorem MB.setD (h:MB w d n ok W) (e:Int):MB w e n ok (W.setCell ⟨w.heap.size+1,0,none⟩ (Zi Zq e)) :=
 ⟨h.1.set_ 0 _,h.2.1.far (by show w.heap.size+1+1≠w.heap.size+1;omega) _,h.2.2.1.far (by show w.heap.size+1+1+1≠w.heap.size+1;omega) _,h.2.2.2.1.setCell (p:=⟨w.heap.size+1,0,none⟩) (by simp) _,by simpa using h.2.2.2.2⟩
theorem MB.setN (h:MB w d n ok W) (e:Int):MB w d e ok (W.setCell ⟨w.heap.size+1+1,0,none⟩ (Zi Zq e)) :=
 ⟨h.1.far (by show w.heap.size+1≠w.heap.size+1+1;omega) _,h.2.1.set_ 0 _,h.2.2.1.far (by show w.heap.size+1+1+1≠w.heap.size+1+1;omega) _,h.2.2.2.1.setCell (p:=⟨w.heap.size+1+1,0,none⟩) (by show w.heap.size<=w.heap.size+1+1;omega) _,by simpa using h.2.2.2.2⟩
theorem MB.setO (h:MB w d n ok W) (e:Bool):MB w d n e (W.setCell ⟨w.heap.size+1+1+1,0,none⟩ (.bool e)) :=
 ⟨h.1.far (by show w.heap.size+1≠w.heap.size+1+1+1;omega) _,h.2.1.far (by show w.heap.size+1+1≠w.heap.size+1+1+1;omega) _,h.2.2.1.set_ 0 _,h.2.2.2.1.setCell (p:=⟨w.heap.size+1+1+1,0,none⟩) (by show w.heap.size<=w.heap.size+1+1+1;omega) _,by simpa using h.2.2.2.2⟩
theorem MB.putObj (h:MB w d n ok W) {k:Nat} {o:Obj} (o':Obj) (hk:w.heap.size+4<=k) (ho:W.heap[k]? = some o) (hc:o.isCells=false):MB w d n ok (W.putObj k o') :=
 ⟨h.1.putObj o' ho hc,h.2.1.putObj o' ho hc,h.2.2.1.putObj o' ho hc,aT h.2.2.2.1 k o' (by omega),by simpa [World.putObj] using h.2.2.2.2⟩
theorem MB.facts (h:MB w d n ok W):(W.cell? ⟨w.heap.size+1,0,none⟩=some (Zi Zq d)/\W.cell? ⟨w.heap.size+1+1,0,none⟩=some (Zi Zq n)/\W.cell? ⟨w.heap.size+1+1+1,0,none⟩=some (.bool ok)) /\
  ((∀ i,W.frozen? ⟨w.heap.size+1,i,none⟩=false)/\(∀ i,W.frozen? ⟨w.heap.size+1+1,i,none⟩=false)/\(∀ i,W.frozen? ⟨w.heap.size+1+1+1,i,none⟩=false)) :=
 ⟨⟨h.1.cell 0,h.2.1.cell 0,h.2.2.1.cell 0⟩,h.1.frozen,h.2.1.frozen,h.2.2.1.frozen⟩
end
def MC (w:World) (k:Nat):Prop:=k=w.heap.size+1∨k=w.heap.size+1+1∨k=w.heap.size+1+1+1
theorem pp (w:World) (V V':Array Value) (Wr:World) (h:((((w.alloc (.cells V 42)).alloc (.cells #[Zi Zq 0] 3)).alloc (.cells #[Zi Zq 0] 3)).alloc (.cells #[.bool true] 4)).alloc (.cells V' 42)=Wr) :
  MB w 0 0 true Wr/\Blk Wr (w.heap.size+1+1+1+1) 42 V':=by
 subst h;have h1:=Blk.new (w.alloc (.cells V 42)) 3 #[Zi Zq 0];have h2:=Blk.new ((w.alloc (.cells V 42)).alloc (.cells #[Zi Zq 0] 3)) 3 #[Zi Zq 0];have h3:=Blk.new (((w.alloc (.cells V 42)).alloc (.cells #[Zi Zq 0] 3)).alloc (.cells #[Zi Zq 0] 3)) 4 #[.bool true];have h4:=Blk.new ((((w.alloc (.cells V 42)).alloc (.cells #[Zi Zq 0] 3)).alloc (.cells #[Zi Zq 0] 3)).alloc (.cells #[.bool true] 4)) 42 V';simp only [World.size_alloc] at h1 h2 h3 h4;refine ⟨⟨((h1.alloc _).alloc _).alloc _,(h2.alloc _).alloc _,h3.alloc _,?_,by simp⟩,h4⟩;exact (((((Below.refl _ w).alloc (Nat.le_refl _) _).alloc (by simp) _).alloc (by simp;omega) _).alloc (by simp;omega) _).alloc (by simp;omega) _
theorem KpC.putObj {C:Nat->Prop} {N:Nat} {W:World} {k:Nat} {o o':Obj} (hk:N<=k) (ho:W.heap[k]? = some o) (hc:o.isCells=false):KpC C N W (W.putObj k o'):=by
 refine ⟨by simp [World.putObj],λ j hj _ hb=>World.putObj_heap_other ?_⟩;rintro rfl;rcases hb with hb | ⟨t,cs,hb⟩
 ·omega
 ·unfold Blk at hb;rw [hb] at ho;cases ho
  cases hc
theorem uh (w0:World) (C:Nat->Prop) (NC:Nat) (v0:JV) (hC0:∀ k,C k->w0.heap.size<=k) (hCN:∀ k,C k->k<NC) (vb:Nat) (cs:List Value) (W:World) (hv:VR w0 gQ cs v0) (hK:aj gQ w0 W) (hvb:Blk W vb 42 cs.toArray) (hn:aN v0<=4194304) (hNC:NC<=W.heap.size) :
  ly Fence.wide 2 Tryz.prog 227 #[Zp (some ⟨vb,0,none⟩)] uz (λ A B=>Below A.heap.size A B) (KpC C w0.heap.size) (xk w0 v0) (λ xs _=>xs.map dq=cQ 0 v0) (λ _ _=>True) W:=by
 intro l J Jx W2 hW2 hJ _ hY h0;exact r3 l w0 C NC v0 J Jx hC0 hCN hJ hY vb cs W2 hv (hK.bel hW2) (hvb.keep hW2) h0 hn (Nat.le_trans hNC hW2.size)
def MI (w:World) (pre:List dQ) (W:World):Prop:=okF (pre.map dq)/\MB w (dpt (pre.map dq):Nat) (pre.length:Nat) true W
def MX (w:World) (v0:JV) (c:Code) (pre:List dQ) (W:World):Prop:=c=.exit 0/\dg v0=false/\∃ d n:Int,MB w d n false W
def fF (v:JV) (w:World) (e:Ending) (w':World):Prop:=(∃ d n:Int,e=.returned (.tuple #[Zi Zq d,Zi Zq n,.bool (dg v)]))/\Below w.heap.size w w'
theorem tc (v0:JV) (cs:List Value) (F:Nat->Prop) (w:World) (hG:GOK w) (hv:VR w F cs v0) (hR:cN v0):Calls Tryz.prog 203 #[.agg cs.toArray] w (fF v0 w):=by
 have hn:aN v0<=4194304:=hR.nodes;have hvT:=hv.mono (F':=gQ) (λ _ _ _=>trivial);obtain ⟨k0,n0,s0,A0,na0,ca0,B0,nb0,cb0,rfl⟩:=hv.form;refine (callsIn_wide (n:=3)).1 ?_;refine callsIn_of_wp_marks Tryz.func203 rfl trivial ?_ rfl;simp only [Tryz.ntmps203,List.size_toArray,List.length_cons,List.length_nil,Nat.reduceAdd,Nat.reduceSub,Array.replicate_succ,Array.replicate_zero,List.push_toArray,List.append_toArray,List.nil_append,List.cons_append];refine wpIn_wide.2 ?_;obtain ⟨y1,y2,y3,y4,y5,y6,y7,y8,y9,y10,y11,y12⟩:=xJ w.heap.size;have HVT:=aW hvT;have HG:=aW hG;have HR:=aW hR;clear hv hvT hG hR;go_wp2_with fail;go_step3;go_wp2_with fail;go_step3;go_wp2_with fail;refine (ug _ _ _ _ _ _ _ _ _ _).mono ?_;rintro e w1 ⟨rfl,rfl⟩;go_wp2_with fail;obtain ⟨Wr,hWr⟩:∃ Wr,((((w.alloc (.cells #[Zi Zq k0,Zi Zq n0,Zt s0,Zs A0 na0 ca0,Zs B0 nb0 cb0] 42)).alloc (.cells #[Zi Zq 0] 3)).alloc (.cells #[Zi Zq 0] 3)).alloc (.cells #[.bool true] 4)).alloc (.cells #[Zi Zq k0,Zi Zq n0,Zt s0,Zs A0 na0 ca0,Zs B0 nb0 cb0] 42)=Wr:=⟨_,rfl⟩
 have hwr:=pp w #[Zi Zq k0,Zi Zq n0,Zt s0,Zs A0 na0 ca0,Zs B0 nb0 cb0] #[Zi Zq k0,Zi Zq n0,Zt s0,Zs A0 na0 ca0,Zs B0 nb0 cb0] Wr hWr;rw [hWr];clear hWr;obtain ⟨hmb0,hvb⟩:=hwr;have hszr:w.heap.size+4<=Wr.heap.size:=hmb0.2.2.2.2;refine (wpIn_wide (n:=3)).1 ?_;refine oT rfl (by omega) (gf:=227) (lb:=#[Zp (some ⟨w.heap.size+1+1+1+1,0,none⟩)]) rfl trivial (enters_of Tryz.func227 (by kernel_rfl) rfl)
  (uh w (MC w) (w.heap.size+4) v0 (λ k h=>by unfold MC at h;omega) (λ k h=>by unfold MC at h;omega) _ _ Wr HVT.out (aj.of_below hmb0.2.2.2.1) hvb (by omega) hszr) (Below.refl _ _) (λ _=>rfl)
  (λ A B k o hs hk ho _=>(hs.block k (Array.getElem?_eq_some_iff.1 ho).1).trans ho)
  (λ h k=>h.trans k) (λ W k o o' hk ho hc=>KpC.putObj (by omega) ho hc)
  (λ _ _ _ _ _ _ _ _ h=>h) (λ _ _ _ _ _ _ _ _ h=>h)
  (MI w) (MX w v0) (λ s A B hs h=>⟨h.1,h.2.keep hs⟩) (λ _ _ _ _ hs ⟨h1,h2,d,n,h3⟩=>⟨h1,h2,d,n,h3.keep hs⟩) (λ s W k o o' hk ho hc h=>⟨h.1,h.2.putObj o' (by omega) ho hc⟩) (λ _ _ _ _ _ o' hk ho hc ⟨h1,h2,d,n,h3⟩=>⟨h1,h2,d,n,h3.putObj o' (by omega) ho hc⟩)
  (λ o o'=>⟨uO,(hmb0.keep ((Below.refl _ Wr).alloc (Nat.le_refl _) o)).keep ((Below.refl _ _).alloc (Nat.le_refl _) o')⟩)
  (λ pre x a1 W => ∃ tb,a1={ tmps:=#[.agg #[Zi Zq k0,Zi Zq n0,Zt s0,Zs A0 na0 ca0,Zs B0 nb0 cb0],Zp (some ⟨w.heap.size,0,none⟩),Zp (some ⟨w.heap.size+1,0,none⟩),Zp (some ⟨w.heap.size+1+1,0,none⟩),Zp (some ⟨w.heap.size+1+1+1,0,none⟩),Zi Zq x.1,Zp (some ⟨tb,0,none⟩),.agg #[Zi Zq k0,Zi Zq n0,Zt s0,Zs A0 na0 ca0,Zs B0 nb0 cb0],
   .func (.func 227) #[] #[Zp (some ⟨w.heap.size+1+1+1+1,0,none⟩)],Zi Zq x.1,.agg x.2.2,undef,undef,undef,undef,undef,undef,undef,undef,undef,undef,undef,undef,undef,undef,undef,undef,undef,undef,undef,undef,undef,undef,undef,undef],defers:=[] }/\Blk W tb 42 x.2.2/\w.heap.size+4<=tb/\MI w pre W)
  ?hI1p ?assign ?body ?done ?stop
 case hI1p =>
  rintro pre x a1 W k o o' hk ho hc ⟨tb,e,h1,h2,h3⟩;exact ⟨tb,e,h1.putObj o' ho hc,h2,h3.1,h3.2.putObj o' (by omega) ho hc⟩
 case assign =>
  rintro r pre ⟨lv,jx,ax⟩ W hI hadm;have hIA:=hI.2.keep ((Below.refl _ W).alloc (Nat.le_refl _) (.cells ax 42));obtain ⟨hvx,_⟩:=hadm;obtain ⟨k1,n1,s1,A1,na1,ca1,B1,nb1,cb1,hf⟩:=hvx.form;obtain rfl:ax=#[Zi Zq k1,Zi Zq n1,Zt s1,Zs A1 na1 ca1,Zs B1 nb1 cb1]:=by rw [← Array.toArray_toList (xs:=ax)];exact congrArg List.toArray hf
  have HIA:=aW hIA;have hd:=hI.1;have hsz:=hI.2.2.2.2.2;clear hIA hf hvx hI;simp only [uz];gi_wp2;have hba:Below W.heap.size W (W.alloc (.cells #[Zi Zq k1,Zi Zq n1,Zt s1,Zs A1 na1 ca1,Zs B1 nb1 cb1] 42)):=(Below.refl _ W).alloc (Nat.le_refl _) _;exact ⟨⟨W.heap.size,rfl,Blk.new _ _ _,hsz,hd,HIA.out⟩,KeepsFrom.below_ hba,KpC.of_below hba⟩
 case body =>
  rintro r pre ⟨lv,jx,ax⟩ a1 W ⟨tb,rfl,htb,htb4,hd,hmb⟩ hadm;obtain ⟨hvx,hpx⟩:=hadm;rw [List.map_append] at hpx;have hmem:(lv,jx) ∈ cQ 0 v0:=hpx.subset (List.mem_append_right _ (List.mem_singleton.2 rfl));have hlv:lv+1<=4194304:=by have:=nF v0 0 _ hmem;simp only at this;omega
  have hcx:cN jx:=ki v0 0 HR.out _ hmem;have hbad:¬ okF (pre.map dq++[(lv,jx)])->dg v0=false:=λ h=>by
   rw [Bool.eq_false_iff];intro hg;exact h (uP hpx ((lJ v0).1 hg))
  have hok:okF (pre.map dq++[(lv,jx)]) ↔ pre.length+1<=256/\jJ (dpt (pre.map dq)) (lv,jx)<=8/\jw jx=true:=by
   obtain ⟨o1,o2,o3⟩:=hd;unfold okF;rw [nB,List.length_append,List.length_map];refine ⟨λ ⟨h1,h2,h3⟩=>⟨h1,h2,h3 (lv,jx) (List.mem_append_right _ (List.mem_singleton.2 rfl))⟩,λ ⟨h1,h2,h3⟩=>⟨h1,h2,λ x hx=>?_⟩⟩;rcases List.mem_append.1 hx with hx | hx
   ·exact o3 x hx
   ·rw [List.mem_singleton.1 hx];exact h3
  have hd8:=hd.2.1;have hl8:=hd.1;rw [List.length_map] at hl8;obtain ⟨k,n,s,kids,keys⟩:=jx;obtain ⟨A1,B1,ca1,cb1,css,hf,_⟩:=hvx.out;obtain rfl:ax=#[Zi Zq k,Zi Zq n,Zt ⟨s.toArray⟩,Zs A1 kids.length ca1,Zs B1 keys.length cb1]:=by rw [← Array.toArray_toList (xs:=ax)];exact congrArg List.toArray hf
  have HIS:=aW (λ W' (h:Below w.heap.size w W')=>tS _ k n s kids keys gQ W' (HG.out.keep h) (hvx.keep (aj.of_below h)) hcx);have hN:((pre++[((lv,JV.mk k n s kids keys,#[Zi Zq k,Zi Zq n,Zt ⟨s.toArray⟩,Zs A1 kids.length ca1,Zs B1 keys.length cb1]):dQ)]).map dq)=pre.map dq++[(lv,JV.mk k n s kids keys)]:=by rw [List.map_append];rfl
  have hQ:((pre++[((lv,JV.mk k n s kids keys,#[Zi Zq k,Zi Zq n,Zt ⟨s.toArray⟩,Zs A1 kids.length ca1,Zs B1 keys.length cb1]):dQ)]).length)=pre.length+1:=by simp
  have hN2:dpt ((pre++[((lv,JV.mk k n s kids keys,#[Zi Zq k,Zi Zq n,Zt ⟨s.toArray⟩,Zs A1 kids.length ca1,Zs B1 keys.length cb1]):dQ)]).map dq)=jJ (dpt (pre.map dq)) (lv,JV.mk k n s kids keys):=by rw [hN,nB]
  obtain ⟨q,hq⟩:∃ q:Nat,pre.length=q:=⟨_,rfl⟩
  obtain ⟨dd,hdd⟩:∃ dd:Nat,dpt (pre.map dq)=dd:=⟨_,rfl⟩
  rw [hq] at hl8 hmb hQ hok;rw [hdd] at hd8 hmb hN2 hok;obtain ⟨g,hgn⟩:∃ g,jw (.mk k n s kids keys)=g:=⟨_,rfl⟩
  have hgn2:bZ k n s kids.length keys=g:=hgn;rw [hgn2] at HIS;rw [hgn] at hok;have HOK:=aW hok;have HBAD:=aW hbad;obtain ⟨⟨c1,c2,c3⟩,f1,f2,f3⟩:=hmb.facts;have hm1:=hmb.setN ((q:Int)+1);have hkf1:KeepsFrom Wr.heap.size W (W.setCell ⟨w.heap.size+1+1,0,none⟩ (Zi Zq ((q:Int)+1))):=bu (KeepsFrom.below_ (Below.refl _ _)) hmb.2.1 0 _;have hkp1:KpC (MC w) w.heap.size W (W.setCell ⟨w.heap.size+1+1,0,none⟩ (Zi Zq ((q:Int)+1))):=(KpC.refl _ _ W).set (show MC w (w.heap.size+1+1) from .inr (.inl rfl)) 0 _;have htb1:Blk (W.setCell ⟨w.heap.size+1+1,0,none⟩ (Zi Zq ((q:Int)+1))) tb 42 #[Zi Zq k,Zi Zq n,Zt ⟨s.toArray⟩,Zs A1 kids.length ca1,Zs B1 keys.length cb1]:=htb.far (by show tb≠w.heap.size+1+1;omega) _;obtain ⟨t1,t2,t3⟩:=htb.rules;have ht9:tb≠w.heap.size+1+1:=by omega
  have ht8:w.heap.size+1+1≠tb:=by omega
  obtain ⟨W1,hW1⟩:∃ W1,W.setCell ⟨w.heap.size+1+1,0,none⟩ (Zi Zq ((q:Int)+1))=W1:=⟨_,rfl⟩
  rw [hW1] at hm1 hkf1 hkp1 htb1;have HW1:=aW hW1;have HQ:=aW (show (((pre++[((lv,JV.mk k n s kids keys,#[Zi Zq k,Zi Zq n,Zt ⟨s.toArray⟩,Zs A1 kids.length ca1,Zs B1 keys.length cb1]):dQ)]).length:Nat):Int)=(q:Int)+1 by rw [hQ];omega);have HNN:=aW hN;clear hvx hpx hf hq hdd hN hQ hmb hW1 hmem hcx hok hbad hd hgn hgn2;cases hh:dG k with
  |true =>
   have hH:=λ W=>lc k W
   rw [hh] at hH;have HH:=aW hH;by_cases hmx:(dd:Int)<(lv:Int)+1
   ·skip
    have hdf:jJ dd (lv,JV.mk k n s kids keys)=lv+1:=by unfold jJ;rw [show dG (JV.mk k n s kids keys).kind=true from hh];show max dd (lv+1)=lv+1;omega
    rw [hdf] at hN2 HOK;have HN:=aW hN2;clear hN2 hdf hH hh;gi_wp2;rw [HW1.out];refine ⟨trivial,CallsIn.mono (CallsIn.inRound r (callsIn_wide.2 (HH.out _))) ?_⟩;rintro e w1 ⟨rfl,rfl⟩;clear c1 c2 c3 f1 f2 f3 t1 t2 t3 HW1;obtain ⟨⟨c1,c2,c3⟩,f1,f2,f3⟩:=hm1.facts;obtain ⟨t1,t2,t3⟩:=htb1.rules;have hm2:=hm1.setD ((lv:Int)+1);have hkf2:=bu hkf1 hm1.1 0 (Zi Zq ((lv:Int)+1));have hkp2:=hkp1.set (show MC w (w.heap.size+1) from .inl rfl) 0 (Zi Zq ((lv:Int)+1));have ht7:tb≠w.heap.size+1:=by omega
    have ht6:w.heap.size+1≠tb:=by omega
    have HM2:=aW hm2;have HKF2:=aW hkf2;have HKP2:=aW hkp2;clear hm2 hkf2 hkp2;by_cases hq8:(q:Int)+1<=256
    ·by_cases hd9:(lv:Int)+1<=8
     ·gi_wp2;refine ⟨trivial,CallsIn.mono (CallsIn.inRound r (callsIn_wide.2 (HIS.out _ HM2.out.2.2.2.1))) ?_⟩;rintro e w3 ⟨rfl,hb3⟩;have hm3:=HM2.out.keep hb3;have hkf3:KeepsFrom Wr.heap.size W w3:=HKF2.out.trans (KeepsFrom.below_ hb3);have hkp3:=HKP2.out.trans (KpC.of_below hb3);clear c1 c2 c3 f1 f2 f3;obtain ⟨⟨c1,c2,c3⟩,f1,f2,f3⟩:=hm3.facts;cases g with
      |false =>
       have hkf4:=bu hkf3 hm3.2.2.1 0 (.bool false);have hkp4:=hkp3.set (show MC w (w.heap.size+1+1+1) from .inr (.inr rfl)) 0 (.bool false);have hm4:=hm3.setO false;have hgf:dg v0=false:=HBAD.out (by rw [HOK.out];intro h;exact absurd h.2.2 (by decide));have HF:=aW (And.intro hkf4 (And.intro hkp4 (And.intro hgf hm4)));clear hkf4 hkp4 hm4 hgf;clear hkf3 hkp3 hb3 HM2 HKF2 HKP2;gi_wp2;exact ⟨HF.out.1,HF.out.2.1,rfl,HF.out.2.2.1,_,_,HF.out.2.2.2⟩
      |true =>
       have hkf4:=bu hkf3 hm3.2.2.1 0 (.bool true);have hkp4:=hkp3.set (show MC w (w.heap.size+1+1+1) from .inr (.inr rfl)) 0 (.bool true);have hm4:=hm3.setO true;have HF:=aW (And.intro hkf4 (And.intro hkp4 hm4));have HGO:=aW (HOK.out.2 ⟨by omega,by omega,rfl⟩);clear hkf4 hkp4 hm4 hkf3 hkp3 hb3 HM2 HKF2 HKP2;gi_wp2;exact ⟨HF.out.1,HF.out.2.1,by rw [HNN.out];exact HGO.out,by rw [HN.out,HQ.out];exact HF.out.2.2⟩
     ·have hkf4:=bu HKF2.out HM2.out.2.2.1 0 (.bool false);have hkp4:=HKP2.out.set (show MC w (w.heap.size+1+1+1) from .inr (.inr rfl)) 0 (.bool false);have hm4:=HM2.out.setO false;have hgf:dg v0=false:=HBAD.out (by rw [HOK.out];omega);have HF:=aW (And.intro hkf4 (And.intro hkp4 (And.intro hgf hm4)));clear hkf4 hkp4 hm4 hgf;gi_wp2;refine ⟨trivial,?_⟩;gi_wp2;exact ⟨HF.out.1,HF.out.2.1,rfl,HF.out.2.2.1,_,_,HF.out.2.2.2⟩
    ·have hkf4:=bu HKF2.out HM2.out.2.2.1 0 (.bool false);have hkp4:=HKP2.out.set (show MC w (w.heap.size+1+1+1) from .inr (.inr rfl)) 0 (.bool false);have hm4:=HM2.out.setO false;have hgf:dg v0=false:=HBAD.out (by rw [HOK.out];omega);have HF:=aW (And.intro hkf4 (And.intro hkp4 (And.intro hgf hm4)));clear hkf4 hkp4 hm4 hgf;gi_wp2;refine ⟨trivial,?_⟩;gi_wp2;exact ⟨HF.out.1,HF.out.2.1,rfl,HF.out.2.2.1,_,_,HF.out.2.2.2⟩
   ·skip
    have hdf:jJ dd (lv,JV.mk k n s kids keys)=dd:=by unfold jJ;rw [show dG (JV.mk k n s kids keys).kind=true from hh];show max dd (lv+1)=dd;omega
    rw [hdf] at hN2 HOK;have HN:=aW hN2;clear hN2 hdf hH hh;gi_wp2;rw [HW1.out];refine ⟨trivial,CallsIn.mono (CallsIn.inRound r (callsIn_wide.2 (HH.out _))) ?_⟩;rintro e w1 ⟨rfl,rfl⟩;clear c1 c2 c3 f1 f2 f3 t1 t2 t3 HW1;obtain ⟨⟨c1,c2,c3⟩,f1,f2,f3⟩:=hm1.facts;obtain ⟨t1,t2,t3⟩:=htb1.rules;have hm2:=hm1.setD (dd:Int);have hkf2:=bu hkf1 hm1.1 0 (Zi Zq (dd:Int));have hkp2:=hkp1.set (show MC w (w.heap.size+1) from .inl rfl) 0 (Zi Zq (dd:Int));have ht7:tb≠w.heap.size+1:=by omega
    have ht6:w.heap.size+1≠tb:=by omega
    have HM2:=aW hm2;have HKF2:=aW hkf2;have HKP2:=aW hkp2;clear hm2 hkf2 hkp2;by_cases hq8:(q:Int)+1<=256
    ·by_cases hd9:(dd:Int)<=8
     ·gi_wp2;refine ⟨trivial,CallsIn.mono (CallsIn.inRound r (callsIn_wide.2 (HIS.out _ HM2.out.2.2.2.1))) ?_⟩;rintro e w3 ⟨rfl,hb3⟩;have hm3:=HM2.out.keep hb3;have hkf3:KeepsFrom Wr.heap.size W w3:=HKF2.out.trans (KeepsFrom.below_ hb3);have hkp3:=HKP2.out.trans (KpC.of_below hb3);clear c1 c2 c3 f1 f2 f3;obtain ⟨⟨c1,c2,c3⟩,f1,f2,f3⟩:=hm3.facts;cases g with
      |false =>
       have hkf4:=bu hkf3 hm3.2.2.1 0 (.bool false);have hkp4:=hkp3.set (show MC w (w.heap.size+1+1+1) from .inr (.inr rfl)) 0 (.bool false);have hm4:=hm3.setO false;have hgf:dg v0=false:=HBAD.out (by rw [HOK.out];intro h;exact absurd h.2.2 (by decide));have HF:=aW (And.intro hkf4 (And.intro hkp4 (And.intro hgf hm4)));clear hkf4 hkp4 hm4 hgf;clear hkf3 hkp3 hb3 HM2 HKF2 HKP2;gi_wp2;exact ⟨HF.out.1,HF.out.2.1,rfl,HF.out.2.2.1,_,_,HF.out.2.2.2⟩
      |true =>
       have hkf4:=bu hkf3 hm3.2.2.1 0 (.bool true);have hkp4:=hkp3.set (show MC w (w.heap.size+1+1+1) from .inr (.inr rfl)) 0 (.bool true);have hm4:=hm3.setO true;have HF:=aW (And.intro hkf4 (And.intro hkp4 hm4));have HGO:=aW (HOK.out.2 ⟨by omega,by omega,rfl⟩);clear hkf4 hkp4 hm4 hkf3 hkp3 hb3 HM2 HKF2 HKP2;gi_wp2;exact ⟨HF.out.1,HF.out.2.1,by rw [HNN.out];exact HGO.out,by rw [HN.out,HQ.out];exact HF.out.2.2⟩
     ·exfalso;omega
    ·have hkf4:=bu HKF2.out HM2.out.2.2.1 0 (.bool false);have hkp4:=HKP2.out.set (show MC w (w.heap.size+1+1+1) from .inr (.inr rfl)) 0 (.bool false);have hm4:=HM2.out.setO false;have hgf:dg v0=false:=HBAD.out (by rw [HOK.out];omega);have HF:=aW (And.intro hkf4 (And.intro hkp4 (And.intro hgf hm4)));clear hkf4 hkp4 hm4 hgf;gi_wp2;refine ⟨trivial,?_⟩;gi_wp2;exact ⟨HF.out.1,HF.out.2.1,rfl,HF.out.2.2.1,_,_,HF.out.2.2.2⟩
  |false =>
   have hH:=λ W=>lc k W
   rw [hh] at hH;have HH:=aW hH
   ·skip
    have hdf:jJ dd (lv,JV.mk k n s kids keys)=dd:=by unfold jJ;rw [show dG (JV.mk k n s kids keys).kind=false from hh];rfl
    rw [hdf] at hN2 HOK;have HN:=aW hN2;clear hN2 hdf hH hh;gi_wp2;rw [HW1.out];refine ⟨trivial,CallsIn.mono (CallsIn.inRound r (callsIn_wide.2 (HH.out _))) ?_⟩;rintro e w1 ⟨rfl,rfl⟩;clear c1 c2 c3 f1 f2 f3 t1 t2 t3 HW1;obtain ⟨⟨c1,c2,c3⟩,f1,f2,f3⟩:=hm1.facts;obtain ⟨t1,t2,t3⟩:=htb1.rules;have HM2:=aW hm1;have HKF2:=aW hkf1;have HKP2:=aW hkp1;clear hm1 hkf1 hkp1;by_cases hq8:(q:Int)+1<=256
    ·by_cases hd9:(dd:Int)<=8
     ·gi_wp2;refine ⟨trivial,CallsIn.mono (CallsIn.inRound r (callsIn_wide.2 (HIS.out _ HM2.out.2.2.2.1))) ?_⟩;rintro e w3 ⟨rfl,hb3⟩;have hm3:=HM2.out.keep hb3;have hkf3:KeepsFrom Wr.heap.size W w3:=HKF2.out.trans (KeepsFrom.below_ hb3);have hkp3:=HKP2.out.trans (KpC.of_below hb3);clear c1 c2 c3 f1 f2 f3;obtain ⟨⟨c1,c2,c3⟩,f1,f2,f3⟩:=hm3.facts;cases g with
      |false =>
       have hkf4:=bu hkf3 hm3.2.2.1 0 (.bool false);have hkp4:=hkp3.set (show MC w (w.heap.size+1+1+1) from .inr (.inr rfl)) 0 (.bool false);have hm4:=hm3.setO false;have hgf:dg v0=false:=HBAD.out (by rw [HOK.out];intro h;exact absurd h.2.2 (by decide));have HF:=aW (And.intro hkf4 (And.intro hkp4 (And.intro hgf hm4)));clear hkf4 hkp4 hm4 hgf;clear hkf3 hkp3 hb3 HM2 HKF2 HKP2;gi_wp2;exact ⟨HF.out.1,HF.out.2.1,rfl,HF.out.2.2.1,_,_,HF.out.2.2.2⟩
      |true =>
       have hkf4:=bu hkf3 hm3.2.2.1 0 (.bool true);have hkp4:=hkp3.set (show MC w (w.heap.size+1+1+1) from .inr (.inr rfl)) 0 (.bool true);have hm4:=hm3.setO true;have HF:=aW (And.intro hkf4 (And.intro hkp4 hm4));have HGO:=aW (HOK.out.2 ⟨by omega,by omega,rfl⟩);clear hkf4 hkp4 hm4 hkf3 hkp3 hb3 HM2 HKF2 HKP2;gi_wp2;exact ⟨HF.out.1,HF.out.2.1,by rw [HNN.out];exact HGO.out,by rw [HN.out,HQ.out];exact HF.out.2.2⟩
     ·exfalso;omega
    ·have hkf4:=bu HKF2.out HM2.out.2.2.1 0 (.bool false);have hkp4:=HKP2.out.set (show MC w (w.heap.size+1+1+1) from .inr (.inr rfl)) 0 (.bool false);have hm4:=HM2.out.setO false;have hgf:dg v0=false:=HBAD.out (by rw [HOK.out];omega);have HF:=aW (And.intro hkf4 (And.intro hkp4 (And.intro hgf hm4)));clear hkf4 hkp4 hm4 hgf;gi_wp2;refine ⟨trivial,?_⟩;gi_wp2;exact ⟨HF.out.1,HF.out.2.1,rfl,HF.out.2.2.1,_,_,HF.out.2.2.2⟩
 case done =>
  rintro D xs W hD hxs ⟨hd,hmb⟩ hK;rw [hxs] at hd;have hgt:dg v0=true:=(lJ v0).2 hd;have hlen:xs.length=aN v0:=by rw [← ja 0 v0,← hxs,List.length_map]
  rw [hxs,hlen] at hmb;obtain ⟨⟨c1,c2,c3⟩,f1,f2,f3⟩:=hmb.facts;obtain ⟨dd,hdd⟩:∃ dd:Nat,dpt (cQ 0 v0)=dd:=⟨_,rfl⟩
  obtain ⟨nn,hnn⟩:∃ nn:Nat,aN v0=nn:=⟨_,rfl⟩
  have HMP:=aW (show ∀ W',Below w.heap.size w W'->fF v0 w (.returned (.tuple #[Zi Zq dd,Zi Zq nn,.bool true])) W' from λ W' h=>by unfold fF;rw [hgt];exact ⟨⟨_,_,rfl⟩,h⟩);rw [hdd,hnn] at hmb;rw [hdd] at c1;rw [hnn] at c2;have HM:=aW hmb;clear hd hmb hdd hnn hxs hlen hgt;go_wp2;clear c1 c2 c3 f1 f2 f3;refine wp_region_noPanic ?_;refine wp_region_held_drew (S:=MB w dd nn true) (by kernel_rfl) (by exact HM.out.drew) (λ hHeld=>?_);refine aY 0 32 (Zi Zq dd) rfl ?_ ?_
  ·intro w' hSw;obtain ⟨⟨c1,c2,c3⟩,f1,f2,f3⟩:=hSw.facts;go_simp
  refine aY 1 33 (Zi Zq nn) rfl ?_ ?_
  ·intro w' hSw;obtain ⟨⟨c1,c2,c3⟩,f1,f2,f3⟩:=hSw.facts;go_simp
  refine aY 2 34 (.bool true) rfl ?_ ?_
  ·intro w' hSw;obtain ⟨⟨c1,c2,c3⟩,f1,f2,f3⟩:=hSw.facts;go_simp
  obtain ⟨⟨c1,c2,c3⟩,f1,f2,f3⟩:=HM.out.facts;refine aU 3 rfl (λ K hK=>?_);go_simp;have hm1:MB w dd nn true _:=(HM.out.setD (dd:Int))
  refine hK.out _ _ (by first | exact hm1 | exact hm1.drew) (λ hHeld2=>?_);clear hK K hHeld;obtain ⟨⟨c1,c2,c3⟩,f1,f2,f3⟩:=hm1.facts
  try simp only [pU]
  refine aU 4 rfl (λ K hK=>?_);go_simp;have hm2:MB w dd nn true _:=(hm1.setN (nn:Int))
  refine hK.out _ _ (by first | exact hm2 | exact hm2.drew) (λ hHeld2=>?_);clear hK K ;obtain ⟨⟨c1,c2,c3⟩,f1,f2,f3⟩:=hm2.facts
  try simp only [pU]
  refine aU 5 rfl (λ K hK=>?_);go_simp;have hm3:MB w dd nn true _:=(hm2.setO true)
  refine hK.out _ _ (by first | exact hm3 | exact hm3.drew) (λ hHeld2=>?_);clear hK K ;obtain ⟨⟨c1,c2,c3⟩,f1,f2,f3⟩:=hm3.facts
  try simp only [pU]
  refine aX ?_;refine NoPanic.normal ?_;go_wp2;have hK1:((((W.setCell ⟨w.heap.size+1,0,none⟩ (Zi Zq dd)).setCell ⟨w.heap.size+1+1,0,none⟩ (Zi Zq nn)).setCell ⟨w.heap.size+1+1+1,0,none⟩ (.bool true)).drew).heap[D]? = some (.deferred (some [])) :=
   (Below.heap_setCell _ ⟨w.heap.size+1+1+1,0,none⟩ _ D (by show D≠w.heap.size+1+1+1;omega)).trans ((Below.heap_setCell _ ⟨w.heap.size+1+1,0,none⟩ _ D (by show D≠w.heap.size+1+1;omega)).trans ((Below.heap_setCell _ ⟨w.heap.size+1,0,none⟩ _ D (by show D≠w.heap.size+1;omega)).trans hK))
  have hm4:=hm3.drew.putObj (k:=D) (.deferred none) (by omega) hK1 rfl;clear c1 c2 c3 f1 f2 f3;obtain ⟨⟨c1,c2,c3⟩,f1,f2,f3⟩:=hm4.facts;rw [Exit.noGoto_ret];refine ⟨by simp,.inl ⟨_,_,rfl,run_takeDeferred hK1,?_⟩⟩;refine ⟨.tuple #[Zi Zq dd,Zi Zq nn,.bool true],by simp only [results,Tryz.results203];go_simp,?_⟩;exact HMP.out _ (aT hm3.drew.2.2.2.1 D _ (by omega))
 case stop =>
  rintro D c pre W hD _ ⟨rfl,hgf,dd,nn,hmb⟩ hK;obtain ⟨⟨c1,c2,c3⟩,f1,f2,f3⟩:=hmb.facts;have HMP:=aW (show ∀ W',Below w.heap.size w W'->fF v0 w (.returned (.tuple #[Zi Zq dd,Zi Zq nn,.bool false])) W' from λ W' h=>by unfold fF;rw [hgf];exact ⟨⟨_,_,rfl⟩,h⟩);have HM:=aW hmb;clear hmb hgf;refine wpIn_wide.2 ?_;go_wp2;clear c1 c2 c3 f1 f2 f3;refine wp_region_noPanic ?_;refine wp_region_held_drew (S:=MB w dd nn false) (by kernel_rfl) (by exact HM.out.drew) (λ hHeld=>?_);refine aY 0 32 (Zi Zq dd) rfl ?_ ?_
  ·intro w' hSw;obtain ⟨⟨c1,c2,c3⟩,f1,f2,f3⟩:=hSw.facts;go_simp
  refine aY 1 33 (Zi Zq nn) rfl ?_ ?_
  ·intro w' hSw;obtain ⟨⟨c1,c2,c3⟩,f1,f2,f3⟩:=hSw.facts;go_simp
  refine aY 2 34 (.bool false) rfl ?_ ?_
  ·intro w' hSw;obtain ⟨⟨c1,c2,c3⟩,f1,f2,f3⟩:=hSw.facts;go_simp
  obtain ⟨⟨c1,c2,c3⟩,f1,f2,f3⟩:=HM.out.facts;refine aU 3 rfl (λ K hK=>?_);go_simp;have hm1:MB w dd nn false _:=(HM.out.setD dd)
  refine hK.out _ _ (by first | exact hm1 | exact hm1.drew) (λ hHeld2=>?_);clear hK K hHeld;obtain ⟨⟨c1,c2,c3⟩,f1,f2,f3⟩:=hm1.facts
  try simp only [pU]
  refine aU 4 rfl (λ K hK=>?_);go_simp;have hm2:MB w dd nn false _:=(hm1.setN nn)
  refine hK.out _ _ (by first | exact hm2 | exact hm2.drew) (λ hHeld2=>?_);clear hK K ;obtain ⟨⟨c1,c2,c3⟩,f1,f2,f3⟩:=hm2.facts
  try simp only [pU]
  refine aU 5 rfl (λ K hK=>?_);go_simp;have hm3:MB w dd nn false _:=(hm2.setO false)
  refine hK.out _ _ (by first | exact hm3 | exact hm3.drew) (λ hHeld2=>?_);clear hK K ;obtain ⟨⟨c1,c2,c3⟩,f1,f2,f3⟩:=hm3.facts
  try simp only [pU]
  refine aX ?_;refine NoPanic.normal ?_;go_wp2;have hK1:((((W.setCell ⟨w.heap.size+1,0,none⟩ (Zi Zq dd)).setCell ⟨w.heap.size+1+1,0,none⟩ (Zi Zq nn)).setCell ⟨w.heap.size+1+1+1,0,none⟩ (.bool false)).drew).heap[D]? = some (.deferred (some [])) :=
   (Below.heap_setCell _ ⟨w.heap.size+1+1+1,0,none⟩ _ D (by show D≠w.heap.size+1+1+1;omega)).trans ((Below.heap_setCell _ ⟨w.heap.size+1+1,0,none⟩ _ D (by show D≠w.heap.size+1+1;omega)).trans ((Below.heap_setCell _ ⟨w.heap.size+1,0,none⟩ _ D (by show D≠w.heap.size+1;omega)).trans hK))
  have hm4:=hm3.drew.putObj (k:=D) (.deferred none) (by omega) hK1 rfl;clear c1 c2 c3 f1 f2 f3;obtain ⟨⟨c1,c2,c3⟩,f1,f2,f3⟩:=hm4.facts;rw [Exit.noGoto_ret];refine ⟨by simp,.inl ⟨_,_,rfl,run_takeDeferred hK1,?_⟩⟩;refine ⟨.tuple #[Zi Zq dd,Zi Zq nn,.bool false],by simp only [results,Tryz.results203];go_simp,?_⟩;exact HMP.out _ (aT hm3.drew.2.2.2.1 D _ (by omega))
theorem vq (v0:JV) (cs:List Value) (F:Nat->Prop) (w:World) (hG:GOK w) (hv:VR w F cs v0) (hc:cN v0):Calls Tryz.prog 189 #[.agg cs.toArray] w (cP (dg v0) w):=by
 have HM:=aW (λ W (h:Below w.heap.size w W)=>tc v0 cs F W (hG.keep h) (hv.bel h) hc);obtain ⟨k0,n0,s0,A0,na0,ca0,B0,nb0,cb0,rfl⟩:=hv.form;have HB:=aW ((Below.refl w.heap.size w).alloc (Nat.le_refl _) (.cells #[Zi Zq k0,Zi Zq n0,Zt s0,Zs A0 na0 ca0,Zs B0 nb0 cb0] 42));clear hG hv hc;go_enter Tryz.func189,Tryz.ntmps189;go_wp2_with fail;refine (HM.out _ HB.out).mono ?_;rintro e w1 ⟨⟨d,n,rfl⟩,hb1⟩;have HB1:=aW (HB.out.trans (hb1.mono HB.out.size));clear hb1;go_wp2;go_ret;exact ⟨rfl,HB1.out⟩
def sc (v:JV):Int:=if dg v=true then 0 else 140
theorem vl (v0:JV) (cs:List Value) (F:Nat->Prop) (w:World) (hG:GOK w) (hv:VR w F cs v0) (hc:cN v0):Calls Tryz.prog 162 #[.agg cs.toArray] w λ e w'=>e=.returned (Zi Zq (sc v0))/\Below w.heap.size w w':=by
 have HM:=aW (λ W (h:Below w.heap.size w W)=>vq v0 cs F W (hG.keep h) (hv.bel h) hc);obtain ⟨k0,n0,s0,A0,na0,ca0,B0,nb0,cb0,rfl⟩:=hv.form;have HB:=aW ((Below.refl w.heap.size w).alloc (Nat.le_refl _) (.cells #[Zi Zq k0,Zi Zq n0,Zt s0,Zs A0 na0 ca0,Zs B0 nb0 cb0] 42));obtain ⟨g,hg⟩:∃ g,dg v0=g:=⟨_,rfl⟩
 unfold sc;rw [hg] at HM ⊢;clear hG hv hc hg;cases g with
 |false =>
  go_enter Tryz.func162,Tryz.ntmps162;go_wp2_with fail;refine (HM.out _ HB.out).mono ?_;rintro e w1 ⟨rfl,hb1⟩;have HB1:=aW (HB.out.trans (hb1.mono HB.out.size));clear hb1;go_wp2;go_ret;exact ⟨rfl,HB1.out⟩
 |true =>
  go_enter Tryz.func162,Tryz.ntmps162;go_wp2_with fail;refine (HM.out _ HB.out).mono ?_;rintro e w1 ⟨rfl,hb1⟩;have HB1:=aW (HB.out.trans (hb1.mono HB.out.size));clear hb1;go_wp2;go_ret;exact ⟨rfl,HB1.out⟩
end
end Go.Proofs.YtgmnmnnoahdjnaaGreatDoor
