import Derived.Test.YtgmnmnnoahdjnaaGreatDoorH09
import Derived.Test.YtgmnmnnoahdjnaaGreatDoorH05
open Go.Value renaming int → Zi, slice → Zs, string → Zt, pointer → Zp
open Go.IntKind renaming i64 → Zq
set_option maxRecDepth 100000
set_option maxHeartbeats 16000000
set_option linter.unusedVariables false
set_option linter.unusedSimpArgs false
namespace Go.Proofs.YtgmnmnnoahdjnaaGreatDoor
section
open Go.RowKit
def RdF (W:World) (F:Nat->Prop) (A:Option Addr) (xs:List Value):Prop :=
 xs≠[]->∃ b o,A=some ⟨b,o,none⟩/\b<W.heap.size/\F b/\∀ i (h:i<xs.length),W.cell? ⟨b,o+i,none⟩=some xs[i]
def aj (F:Nat->Prop) (W W':World):Prop:=W.heap.size<=W'.heap.size/\∀ b,F b->b<W.heap.size->W'.heap[b]? = W.heap[b]?
section
variable {W W':World} {F F':Nat->Prop} {A:Option Addr} {xs:List Value}
theorem RdF.rd (h:RdF W F A xs):Rd W A xs:=λ hn=>by
 obtain ⟨b,o,e,hb,_,hx⟩:=h hn;exact ⟨b,o,e,hb,hx⟩
theorem RdF.nil:RdF W F A []:=λ h=>(h rfl).elim
theorem RdF.keep (h:RdF W F A xs) (hk:aj F W W'):RdF W' F A xs:=λ hn=>by
 obtain ⟨b,o,e,hb,hf,hx⟩:=h hn;refine ⟨b,o,e,Nat.lt_of_lt_of_le hb hk.1,hf,λ i hi=>?_⟩;rw [← hx i hi];exact World.cell?_of_block (hk.2 b hf hb)
theorem RdF.mono (h:RdF W F A xs) (hm:∀ b,b<W.heap.size->F b->F' b):RdF W F' A xs:=λ hn=>by
 obtain ⟨b,o,e,hb,hf,hx⟩:=h hn;exact ⟨b,o,e,hb,hm b hb hf,hx⟩
theorem aj.of_below (h:Below W.heap.size W W'):aj F W W':=⟨h.size,λ b _ hb=>h.block b hb⟩
theorem aj.of_grown {g:Option Nat} (h:W.grownBy W' g) (hg:∀ b,F b->some b≠g):aj F W W':=⟨h.size,λ b hf hb=>h.block b hb (hg b hf)⟩
theorem aj.refl:aj F W W:=⟨Nat.le_refl _,λ _ _ _=>rfl⟩
theorem aj.trans {W'':World} (h:aj F W W') (h':aj F W' W''):aj F W W'' :=
 ⟨Nat.le_trans h.1 h'.1,λ b hf hb=>(h'.2 b hf (Nat.lt_of_lt_of_le hb h.1)).trans (h.2 b hf hb)⟩
end
theorem aj.set {W W':World} {F:Nat->Prop} (h:aj F W W') {k:Nat} (hk:∀ b,F b->b≠k) (i:Nat) (u:Value):aj F W (W'.setCell ⟨k,i,none⟩ u) :=
 ⟨by simpa using h.1,λ b hf hb=>(Below.heap_setCell W' ⟨k,i,none⟩ u b (hk b hf)).trans (h.2 b hf hb)⟩
theorem aj.bel {W W' W'':World} {F:Nat->Prop} (h:aj F W W') (hb:Below W'.heap.size W' W''):aj F W W'':=h.trans (aj.of_below hb)
theorem aj.alloc {W W':World} {F:Nat->Prop} (h:aj F W W') (o:Obj):aj F W (W'.alloc o):=h.bel ((Below.refl _ _).alloc (Nat.le_refl _) o)
def ar (ks:List (List UInt8)):List Value:=ks.map λ s=>Zt ⟨s.toArray⟩
theorem av (ks:List (List UInt8)):(ar ks).length=ks.length:=by simp [ar]
inductive VR (W:World) (F:Nat->Prop):List Value->JV->Prop where
 | mk {k n:Int} {s:List UInt8} {kids:List JV} {keys:List (List UInt8)} {A B:Option Addr} {ca cb:Nat} {css:List (List Value)} :
   css.length=kids.length->kids.length<=ca->keys.length<=cb->(A=none->ca=0)->(B=none->cb=0)->RdF W F A css.flatten->RdF W F B (ar keys) ->
   (∀ (i:Nat) c x,css[i]? = some c->kids[i]? = some x->VR W F c x) ->
   VR W F [Zi Zq k,Zi Zq n,Zt ⟨s.toArray⟩,Zs A kids.length ca,Zs B keys.length cb] (.mk k n s kids keys)
section
variable {W W':World} {F F':Nat->Prop} {cs:List Value} {v:JV}
theorem VR.keep (h:VR W F cs v) (hk:aj F W W'):VR W' F cs v:=by
 induction h with
 | mk h1 h2 h3 hA hB h4 h5 _ ih=>exact .mk h1 h2 h3 hA hB (h4.keep hk) (h5.keep hk) ih
theorem VR.mono (h:VR W F cs v) (hm:∀ b,b<W.heap.size->F b->F' b):VR W F' cs v:=by
 induction h with
 | mk h1 h2 h3 hA hB h4 h5 _ ih=>exact .mk h1 h2 h3 hA hB (h4.mono hm) (h5.mono hm) ih
theorem VR.bel (h:VR W F cs v) (hb:Below W.heap.size W W'):VR W' F cs v:=h.keep (aj.of_below hb)
theorem VR.form (h:VR W F cs v):∃ (k n:Int) (s:ByteArray) (A:Option Addr) (na ca:Nat) (B:Option Addr) (nb cb:Nat),cs=[Zi Zq k,Zi Zq n,Zt s,Zs A na ca,Zs B nb cb]:=by
 cases h;exact ⟨_,_,_,_,_,_,_,_,_,rfl⟩
theorem VR.len (h:VR W F cs v):cs.length=5:=by cases h;rfl
theorem VR.one (h:VR W F cs v):∀ u ∈ cs,u.oneCell'=true:=by
 cases h
 intro u hu;simp only [List.mem_cons,List.not_mem_nil,or_false] at hu;rcases hu with rfl | rfl | rfl | rfl | rfl<;>rfl
theorem VR.atom (k n:Int) (s:List UInt8):VR W F [Zi Zq k,Zi Zq n,Zt ⟨s.toArray⟩,Zs none 0 0,Zs none 0 0] (.mk k n s [] []) :=
 VR.mk (kids:=[]) (keys:=[]) (css:=[]) (ca:=0) (cb:=0) rfl (Nat.le_refl _) (Nat.le_refl _) (λ _=>rfl) (λ _=>rfl) RdF.nil RdF.nil (λ i c x h=>by simp at h)
theorem VR.zero:VR W F [Zi Zq 0,Zi Zq 0,Zt ⟨#[]⟩,Zs none 0 0,Zs none 0 0] cJ:=VR.atom 0 0 []
end
def VRs (W:World) (F:Nat->Prop) (css:List (List Value)) (xs:List JV):Prop:=css.length=xs.length/\∀ (i:Nat) c x,css[i]? = some c->xs[i]? = some x->VR W F c x
section
variable {W W':World} {F F':Nat->Prop} {css:List (List Value)} {xs:List JV}
theorem VRs.keep (h:VRs W F css xs) (hk:aj F W W'):VRs W' F css xs:=⟨h.1,λ i c x h1 h2=>(h.2 i c x h1 h2).keep hk⟩
theorem VRs.mono (h:VRs W F css xs) (hm:∀ b,b<W.heap.size->F b->F' b):VRs W F' css xs:=⟨h.1,λ i c x h1 h2=>(h.2 i c x h1 h2).mono hm⟩
theorem VRs.below (h:VRs W F css xs) (hb:Below W.heap.size W W'):VRs W' F css xs:=h.keep (aj.of_below hb)
theorem VRs.nil:VRs W F [] []:=⟨rfl,λ i c x h=>by simp at h⟩
theorem gt:∀ {css:List (List Value)},(∀ c ∈ css,c.length=5)->css.flatten.length=css.length*5
 | [],_=>rfl
 |c::r,h=>by
  rw [List.flatten_cons,List.length_append,h c List.mem_cons_self,gt (λ c hc=>h c (List.mem_cons_of_mem _ hc)),List.length_cons];omega
theorem iZ:∀ {css:List (List Value)} (_:∀ c ∈ css,c.length=5) {i:Nat} {c:List Value} (_:css[i]? = some c) {j:Nat} (_:j<5),css.flatten[i*5+j]? = c[j]?
 | [],_,i,c,h,_,_=>by simp at h
 |c'::r,h5,0,c,h,j,hj=>by
  have:c'=c:=by simpa using h
  subst this;rw [List.flatten_cons,Nat.zero_mul,Nat.zero_add,List.getElem?_append_left (by rw [h5 c' List.mem_cons_self];exact hj)]
 |c'::r,h5,i+1,c,h,j,hj=>by
  have h':r[i]? = some c:=by simpa using h
  have hl:=h5 c' List.mem_cons_self;rw [List.flatten_cons,List.getElem?_append_right (by omega),← iZ (λ c hc=>h5 c (List.mem_cons_of_mem _ hc)) h' hj];congr 1;omega
theorem VRs.five (h:VRs W F css xs):∀ c ∈ css,c.length=5:=λ c hc=>by
 obtain ⟨i,hi,rfl⟩:=List.getElem_of_mem hc;have hx:i<xs.length:=by rw [← h.1];exact hi
 exact (h.2 i _ _ (List.getElem?_eq_getElem hi) (List.getElem?_eq_getElem hx)).len
theorem VRs.one (h:VRs W F css xs):∀ u ∈ css.flatten,u.oneCell'=true:=λ u hu=>by
 obtain ⟨c,hc,hu⟩:=List.mem_flatten.1 hu;obtain ⟨i,hi,rfl⟩:=List.getElem_of_mem hc;have hx:i<xs.length:=by rw [← h.1];exact hi
 exact (h.2 i _ _ (List.getElem?_eq_getElem hi) (List.getElem?_eq_getElem hx)).one u hu
theorem VRs.snoc {c:List Value} {x:JV} (h:VRs W F css xs) (hx:VR W F c x):VRs W F (css++[c]) (xs++[x]):=by
 refine ⟨by simp [h.1],λ i c' x' h1 h2=>?_⟩;rcases Nat.lt_or_ge i css.length with hi | hi
 ·rw [List.getElem?_append_left hi] at h1;rw [List.getElem?_append_left (by rw [← h.1];exact hi)] at h2;exact h.2 i c' x' h1 h2
 ·rw [List.getElem?_append_right hi] at h1;rw [List.getElem?_append_right (by rw [← h.1];exact hi)] at h2;have:i-css.length=0:=by
   rcases Nat.eq_zero_or_pos (i-css.length) with h0 | h0
   ·exact h0
   ·rw [List.getElem?_eq_none (by simp;omega)] at h1;cases h1
  rw [this] at h1;rw [← h.1,this] at h2;obtain rfl:c=c':=by simpa using h1
  obtain rfl:x=x':=by simpa using h2
  exact hx
theorem VRs.get_ {i:Nat} {x:JV} (h:VRs W F css xs) (hx:xs[i]? = some x):∃ c,css[i]? = some c/\VR W F c x:=by
 have hi:i<css.length:=by rw [h.1];exact (List.getElem?_eq_some_iff.1 hx).1
 exact ⟨_,List.getElem?_eq_getElem hi,h.2 i _ x (List.getElem?_eq_getElem hi) hx⟩
theorem VRs.take (h:VRs W F css xs) (n:Nat):VRs W F (css.take n) (xs.take n):=by
 refine ⟨by simp [h.1],λ i c x h1 h2=>?_⟩;rw [List.getElem?_take] at h1 h2;split at h1
 ·rename_i hi;rw [if_pos hi] at h2;exact h.2 i c x h1 h2
 ·cases h1
theorem VRs.drop (h:VRs W F css xs) (n:Nat):VRs W F (css.drop n) (xs.drop n):=by
 refine ⟨by simp [h.1],λ i c x h1 h2=>?_⟩;rw [List.getElem?_drop] at h1 h2;exact h.2 _ c x h1 h2
theorem VRs.append {css':List (List Value)} {xs':List JV} (h:VRs W F css xs) (h':VRs W F css' xs'):VRs W F (css++css') (xs++xs'):=by
 refine ⟨by simp [h.1,h'.1],λ i c x h1 h2=>?_⟩;rcases Nat.lt_or_ge i css.length with hi | hi
 ·rw [List.getElem?_append_left hi] at h1;rw [List.getElem?_append_left (by rw [← h.1];exact hi)] at h2;exact h.2 i c x h1 h2
 ·rw [List.getElem?_append_right hi] at h1;rw [List.getElem?_append_right (by rw [← h.1];exact hi),← h.1] at h2;exact h'.2 _ c x h1 h2
end
theorem VR.out {W:World} {F:Nat->Prop} {cs:List Value} {k n:Int} {s:List UInt8} {kids:List JV} {keys:List (List UInt8)} (h:VR W F cs (.mk k n s kids keys)) :
  ∃ A B ca cb css,cs=[Zi Zq k,Zi Zq n,Zt ⟨s.toArray⟩,Zs A kids.length ca,Zs B keys.length cb]/\VRs W F css kids/\kids.length<=ca/\keys.length<=cb/\(A=none->ca=0)/\(B=none->cb=0)/\RdF W F A css.flatten/\RdF W F B (ar keys):=by
 cases h with
 | mk h1 h2 h3 hA hB h4 h5 h6=>exact ⟨_,_,_,_,_,rfl,⟨h1,h6⟩,h2,h3,hA,hB,h4,h5⟩
theorem VR.into {W:World} {F:Nat->Prop} {A B:Option Addr} {ca cb:Nat} {css:List (List Value)} (k n:Int) (s:List UInt8) {kids:List JV} {keys:List (List UInt8)} (h:VRs W F css kids) (h2:kids.length<=ca) (h3:keys.length<=cb) (hA:A=none->ca=0) (hB:B=none->cb=0)
  (h4:RdF W F A css.flatten) (h5:RdF W F B (ar keys)) {na nb:Nat} (hna:na=kids.length) (hnb:nb=keys.length):VR W F [Zi Zq k,Zi Zq n,Zt ⟨s.toArray⟩,Zs A na ca,Zs B nb cb] (.mk k n s kids keys):=by
 subst hna hnb;exact .mk h.1 h2 h3 hA hB h4 h5 h.2
theorem aw {w w':World} (h:Below w.heap.size w w') (row:Option Nat):w.grownBy w' row:=⟨h.os,h.tape,h.output,h.size,λ k hk _=>h.block k hk⟩
theorem py {w w':World} {base:Nat} {e:TypeId} {size n:Nat} {v:Value} {xs:List Value} (h:w.ownsRow base e size v n xs) (hb:Below w.heap.size w w'):w'.ownsRow base e size v n xs :=
 h.kept (aw hb none) (by cases v.ownBlock<;>simp)
end
section
open Go.RowKit
attribute [local go_sem] ab ae af ac
/-- slices.Equal over texts -/
theorem iM (A1 A2:Option Addr) (n1 n2 c1 c2:Nat) (k1 k2:List (List UInt8)) (w:World) (hn1:k1.length=n1) (hn2:k2.length=n2) (h1:Rd w A1 (ar k1)) (h2:Rd w A2 (ar k2)) (hc1:n1<=c1) (hc2:n2<=c2) (hl1:n1<=4194304) (hl2:n2<=4194304) :
  Calls Tryz.prog 31 #[Zs A1 n1 c1,Zs A2 n2 c2] w λ e w'=>e=.returned (.bool (decide (k1=k2)))/\∃ q,w.drewN q=w':=by
 by_cases hlen:n1=n2
 ·subst hlen;have HN1:=aW hn1;have HN2:=aW hn2;clear hn1 hn2;go_enter Tryz.func31,Tryz.ntmps31;go_wp2;go_loopg [13] n1 (λ gk i wr => ∃ k q:Nat,k<=n1/\gk=n1-k/\i=Zi Zq k/\wr=w.drewN q/\Hid (k1.take k=k2.take k))
  case atStart=>exact ⟨0,0,Nat.zero_le _,rfl,rfl,rfl,aW rfl⟩
  case round =>
   obtain ⟨k,q,hk,hgk,rfl,rfl,HE⟩:=hrel;have HG:=aW hgk;clear hgk;by_cases hlt:k<n1
   ·obtain ⟨a,ha⟩:∃ x,k1[k]? = some x:=⟨_,List.getElem?_eq_getElem (by rw [HN1.out];exact hlt)⟩
    obtain ⟨b,hb⟩:∃ x,k2[k]? = some x:=⟨_,List.getElem?_eq_getElem (by rw [HN2.out];exact hlt)⟩
    have key:∀ (A:Option Addr) (ks:List (List UInt8)) (x:List UInt8),Rd w A (ar ks)->ks[k]? = some x->∃ b o,A=some ⟨b,o,none⟩/\w.cell? ⟨b,o+k,none⟩=some (Zt ⟨x.toArray⟩):=λ A ks x hr hx=>by
     have hkl:=(List.getElem?_eq_some_iff.1 hx)
     obtain ⟨b,o,rfl,_,hc⟩:=hr (by intro e;have h:=av ks;rw [e] at h;have:=hkl.1;simp at h;omega);refine ⟨b,o,rfl,?_⟩;rw [hc k (by rw [av];exact hkl.1)];simp [ar,hkl.2]
    obtain ⟨b1,o1,rfl,x1⟩:=key A1 k1 a h1 ha;obtain ⟨b2,o2,rfl,x2⟩:=key A2 k2 b h2 hb;have HA:=aW ha;have HB:=aW hb;clear ha hb key;by_cases hab:a=b
    ·subst hab;go_wp2;go_quiet (fail);go_wp2;go_roundg (n1-(k+1))
     case measure=>rw [HG.out];omega
     case rel=>exact ⟨k+1,q+nq,hlt,rfl,by go_num,rfl,aW (by rw [List.take_add_one,List.take_add_one,HE.out,HA.out,HB.out])⟩
    ·have hbe:(a == b)=false:=by simpa using hab
     have hbe2:(a != b)=true:=by simpa using hab
     have HF:=aW (show k1≠k2 from λ e=>hab (by have h:=HA.out;rw [e,HB.out] at h;injection h with h;exact h.symm));clear hab;go_wp2;go_quiet (fail);go_wp2;go_ret;exact ⟨ak (by rw [decide_eq_false HF.out]),q+nq,(World.drewN_drewN _ _ _).symm⟩
   ·obtain rfl:k=n1:=by omega
    go_wp2;go_ret;refine ⟨ak ?_,q,rfl⟩;have h:=HE.out;rw [List.take_of_length_le (by rw [HN1.out];exact Nat.le_refl _),List.take_of_length_le (by rw [HN2.out];exact Nat.le_refl _)] at h;simp [h]
 ·have hne:((n1:Int) != (n2:Int))=true:=by simp;omega
  have HF:=aW (show k1≠k2 from λ e=>hlen (by rw [← hn1,← hn2,e]));clear hlen;go_enter Tryz.func31,Tryz.ntmps31;go_wp2;go_ret;exact ⟨ak (by rw [decide_eq_false HF.out]),0,rfl⟩
theorem VRs.cell {W:World} {F:Nat->Prop} {css:List (List Value)} {xs:List JV} {A:Option Addr} (h:VRs W F css xs) (hr:RdF W F A css.flatten) {i:Nat} {x:JV} (hx:xs[i]? = some x) :
  ∃ b o c,A=some ⟨b,o,none⟩/\b<W.heap.size/\F b/\VR W F c x/\∀ (j:Nat) (u:Value),j<5->c[j]? = some u->W.cell? ⟨b,o+(i*5+j),none⟩=some u:=by
 obtain ⟨c,hc,hv⟩:=h.get_ hx;have hl:css.flatten≠[]:=by
  have h3:=gt h.five;have h4:=(List.getElem?_eq_some_iff.1 hc).1;intro e;rw [e] at h3;simp at h3;omega
 obtain ⟨b,o,rfl,hb,hf,hx⟩:=hr hl;refine ⟨b,o,c,rfl,hb,hf,hv,λ j u hj hu=>?_⟩;have h1:=iZ h.five hc hj;rw [hu] at h1;obtain ⟨hlt,e⟩:=List.getElem?_eq_some_iff.1 h1;rw [hx _ hlt,e]
end
end Go.Proofs.YtgmnmnnoahdjnaaGreatDoor
