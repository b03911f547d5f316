import Derived.Test.YtgmnmnnoahdjnaaGreatDoorH13
open Go.Value renaming int → Zi, slice → Zs, string → Zt, pointer → Zp
open Go.IntKind renaming i64 → Zq
set_option maxRecDepth 100000
set_option maxHeartbeats 16000000
set_option linter.unusedVariables false
set_option linter.unusedSimpArgs false
namespace Go.Proofs.YtgmnmnnoahdjnaaGreatDoor
section
open Go.RowKit Go.Shelf
def pE (P:Program) (l:Nat) (R:Ending->World->Prop):Exit->Act->World->Prop
 | .normal,_,w => ∃ v w',(Instr.endRound l none).run P w=.ok v w'/\R (.returned v) w'
 | .ret,_,w => ∃ v w',(Instr.endRound l (some .ret)).run P w=.ok v w'/\R (.returned v) w'
 | .exit id,_,w => ∃ v w',(Instr.endRound l (some (.exit id))).run P w=.ok v w'/\R (.returned v) w'
 | .goto t,_,w => ∃ v w',(Instr.endRound l (some (.goto t))).run P w=.ok v w'/\R (.returned v) w'
 | .panic ch,a,w=>a.defers=[]/\R (.panicked ch) w
 | .outgrown,_,_=>False
theorem jk {F:Fence} {n:Nat} {P:Program} {l:Nat} {f:FuncId} {fn:Func} {tmps:Array Value} {assign body:Code} {w:World} {R:Ending->World->Prop} (hF:F.fn f) (hfn:P.funcs[f]? = some fn)
  (h:assign.wpIn (F.inRound l) n P (Exit.then (λ a₁ w₁ => ∃ w₂,(Instr.beginRound l).run P w₁=.ok () w₂/\body.wpIn (F.inRound l) n P (pE P l R) a₁ w₂) (λ _ _ _=>False))
   { tmps:=tmps,defers:=[] } w) :
  RoundIn F n P l f tmps assign body w R:=by
 refine ⟨hF,λ c cs hr=>?_⟩
 let b:Frame:={ (default:Frame) with fn:=f,kind:=.normal,roundOf:=some l }
 have hb0:Frame.round l f tmps assign body .normal=b.atR { tmps:=tmps,defers:=[] } [.code assign,.beginRound,.code body]:=by
  simp [Frame.round,Frame.atR,b]
 have hr':(F.inRound l).room ((c::cs).length+1+n):=hr;have hF':(F.inRound l).fn b.fn:=hF;obtain ⟨e,a₁,w₁,hq,harr⟩:=h b [.beginRound,.code body] (c::cs) rfl hF' hr';rw [← hb0] at harr;cases e with
 |normal =>
  obtain ⟨w₂,hbr,hbody⟩:=hq;have s1:StepsIn (Machine.fenced P (F.inRound l)) P (lone (b.atR a₁ [.beginRound,.code body]) (c::cs) w₁) (lone (b.atR a₁ [.code body]) (c::cs) w₂) :=
   .one (fenced_calm (fr:=b.atR a₁ [.beginRound,.code body]) hF' hr' rfl) (stepR_beginRound rfl hbr)
  obtain ⟨e₂,a₂,w₃,hq₂,harr₂⟩:=hbody b [] (c::cs) rfl hF' hr';cases e₂ with
  |normal =>
   obtain ⟨v,w₄,hend,hR⟩:=hq₂;exact ⟨.returned v,w₄,hR,(StepsIn.trans harr s1).trans (StepsIn.trans harr₂ (.one (fenced_calm (fr:=b.atR a₂ []) hF' hr' rfl) (stepR_round_end rfl rfl hend)))⟩
  |ret =>
   obtain ⟨v,w₄,hend,hR⟩:=hq₂;obtain ⟨k₁,hs⟩:=harr₂.2 rfl;exact ⟨.returned v,w₄,hR,(StepsIn.trans harr s1).trans (StepsIn.trans hs (.one (fenced_calm (fr:=b.atR a₂ (.code .ret::k₁)) hF' hr' rfl) (stepR_round_ret rfl rfl hend)))⟩
  |exit id =>
   obtain ⟨v,w₄,hend,hR⟩:=hq₂;obtain ⟨k₁,hk,hs⟩:=harr₂.2 rfl rfl;exact ⟨.returned v,w₄,hR,(StepsIn.trans harr s1).trans (StepsIn.trans hs (.one (fenced_calm (fr:=b.atR a₂ (.code (.exit id)::k₁)) hF' hr' rfl) (stepR_round_exit rfl rfl hk hend)))⟩
  |goto t =>
   obtain ⟨v,w₄,hend,hR⟩:=hq₂;obtain ⟨k₁,hk,hs⟩:=harr₂.2 rfl rfl;exact ⟨.returned v,w₄,hR,(StepsIn.trans harr s1).trans (StepsIn.trans hs (.one (fenced_calm (fr:=b.atR a₂ (.code (.goto t)::k₁)) hF' hr' rfl) (stepR_round_goto rfl rfl hk hend)))⟩
  |panic ch =>
   obtain ⟨hd,hR⟩:=hq₂;obtain ⟨todo,hs⟩:=harr₂;have hl:({ b.atR a₂ todo with mode:=.panicking ch }:Frame).leaving P w₃ (.panicked ch):=⟨rfl,hd,fn,hfn⟩
   exact ⟨.panicked ch,w₃,hR,(StepsIn.trans harr s1).trans (StepsIn.trans hs (.one (fenced_leaving hF' hr' hl) (step_leave_panicked hl)))⟩
  | outgrown=>exact hq₂.elim
 | exit id=>exact hq.elim
 | goto t=>exact hq.elim
 | ret=>exact hq.elim
 | panic chain=>exact hq.elim
 | outgrown=>exact hq.elim
def vz {α:Type} (F:Fence) (n:Nat) (P:Program) (g:Nat) (lb:Array Value) (encs:α->Array Value) (St Kp:World->World->Prop) (Adm:List α->α->Prop)
  (Done dC:List α->World->Prop) (w:World):Prop :=
 ∀ (l:Nat) (J Jx:List α->World->Prop) (Jp:List PanicEntry->World->Prop) (W:World),Below w.heap.size w W->(∀ s A B,St A B->J s A->J s B)->(∀ s A B,St A B->Jx s A->Jx s B) ->
  (∀ pre x W1,J pre W1->Adm pre x->YieldAt F (n-1) P l (encs x) W1 λ e W' =>
   (e=.returned (.bool true)/\J (pre++[x]) W'/\Kp W1 W')∨(e=.returned (.bool false)/\Jx (pre++[x]) W'/\Kp W1 W')∨(∃ ch,e=.panicked ch/\Jp ch W')) ->
  J [] W ->
  CallsIn F n P g (#[.func (.yield l) #[] #[]]++lb) W λ e W'=>((∃ v,e=.returned v)/\((∃ xs,Done xs W'/\J xs W')∨(∃ pre,dC pre W'/\Jx pre W')))∨(∃ ch,e=.panicked ch/\Jp ch W')
def vc {α:Type} (B:Nat) (Kp:World->World->Prop) (I:List α->World->Prop) (Ix:Code->List α->World->Prop) (Ip:List PanicEntry->World->Prop) (xs:List α) (W:World):Exit->Act->World->Prop
 | .normal,_,W'=>KeepsFrom B W W'/\Kp W W'/\I xs W'
 | .ret,_,W'=>KeepsFrom B W W'/\Kp W W'/\Ix .ret xs W'
 | .exit id,_,W'=>KeepsFrom B W W'/\Kp W W'/\Ix (.exit id) xs W'
 | .goto t,_,W'=>KeepsFrom B W W'/\Kp W W'/\Ix (.goto t) xs W'
 | .panic ch,a,W'=>a.defers=[]/\KeepsFrom B W W'/\Ip ch W'
 | .outgrown,_,_=>False
variable {F:Fence} {n:Nat} {P:Program}
theorem t7 {α:Type} {g:Operand} {ps:Array Tmp} {assign body:Code} {Q:Exit->Act->World->Prop} {a:Act} {w:World}
  (hro:F.round=none) (h1:1<=n) {gf:Nat} {lb:Array Value} (hg:a.eval g=.func (.func gf) #[] lb) (hFg:F.fn gf) (eg:∀ args w,(callFunc gf args).run P w=.ok (.enter gf args) w)
  {encs:α->Array Value} {St Kp:World->World->Prop} {Adm:List α->α->Prop} {Done dC:List α->World->Prop} {w0:World} (hseq:vz F (n-1) P gf lb encs St Kp Adm Done dC w0)
  (hb0:Below w0.heap.size w0 w) (hps:∀ x,(encs x).size=ps.size)
  (hSk:∀ A B k o,St A B->w.heap.size<=k->A.heap[k]? = some o->o.isCells=false->B.heap[k]? = some o)
  (hKt:∀ {A B C:World},Kp A B->Kp B C->Kp A C) (hKb:∀ (W:World) (k:Nat) (o o':Obj),w.heap.size<=k->W.heap[k]? = some o->(∃ L,o=.loop L)->Kp W (W.putObj k o'))
  (hDp:∀ xs (W:World) (k:Nat) (o o':Obj),w.heap.size<=k->W.heap[k]? = some o->(∃ L,o=.loop L)->Done xs W->Done xs (W.putObj k o'))
  (hSp:∀ xs (W:World) (k:Nat) (o o':Obj),w.heap.size<=k->W.heap[k]? = some o->(∃ L,o=.loop L)->dC xs W->dC xs (W.putObj k o'))
  (I:List α->World->Prop) (Ix:Code->List α->World->Prop) (Ip:List PanicEntry->World->Prop) (hfun:∀ f,F.fn f->∃ fn,P.funcs[f]? = some fn)
  (hIS:∀ s A B,St A B->I s A->I s B) (hIxS:∀ c s A B,St A B->Ix c s A->Ix c s B)
  (hIp:∀ s (W:World) (k:Nat) (o o':Obj),w.heap.size<=k->W.heap[k]? = some o->(∃ L,o=.loop L)->I s W->I s (W.putObj k o'))
  (hIxp:∀ c s (W:World) (k:Nat) (o o':Obj),w.heap.size<=k->W.heap[k]? = some o->(∃ L,o=.loop L)->Ix c s W->Ix c s (W.putObj k o'))
  (h0:∀ o o',I [] ((w.alloc o).alloc o')) (a₁:α->Act)
  (hassign:∀ (l:Nat) (x:α) (W:World) (K:Act->World->Prop),K (a₁ x) W ->
   assign.wpIn (F.inRound l) (n-1-1) P (Exit.then K (λ _ _ _=>False)) { tmps:=(ps.zip (encs x)).foldl (λ t (p,v)=>t.setIfInBounds p v) a.tmps,defers:=[] } W)
  (hbody:∀ (l:Nat) (pre:List α) (x:α) (W:World),I pre W->Adm pre x->body.wpIn (F.inRound l) (n-1-1) P (vc w.heap.size Kp I Ix Ip (pre++[x]) W) (a₁ x) W)
  (hdone:∀ (D:Nat) (xs:List α) (W:World),w.heap.size<=D->Done xs W->I xs W->W.heap[D]? = some (.deferred (some []))->Q .normal { a with defers:={ target:=.collected D,args:=#[] }::a.defers } W)
  (hpan:∀ (D:Nat) (ch:List PanicEntry) (W:World),w.heap.size<=D->Ip ch W->W.heap[D]? = some (.deferred (some []))->Q (.panic ch) { a with defers:={ target:=.collected D,args:=#[] }::a.defers } W)
  (hstop:∀ (D:Nat) (c:Code) (pre:List α) (W:World),w.heap.size<=D->dC pre W->Ix c pre W->W.heap[D]? = some (.deferred (some []))->c.wpIn F n P Q { a with defers:={ target:=.collected D,args:=#[] }::a.defers } W) :
  (Code.rangeFunc g ps assign body).wpIn F n P Q a w:=by
 refine wpIn_rangeFunc ?_;intro fn hfn;rw [hro];generalize hrec:(λ (st:LoopState) (pe:Option Code)=>({ state:=st,pending:=pe,fn,tmps:=a.tmps,params:=ps,assign,body,defers:=w.heap.size }:Loop))=rec;generalize hW1:(w.alloc (.deferred (some []))).alloc (.loop (rec .ready none))=W1;have hsz1:W1.heap.size=w.heap.size+2:=by rw [← hW1];simp
 have hL1:W1.heap[w.heap.size+1]? = some (.loop (rec .ready none)):=by
  rw [← hW1];have:=heap_alloc_new (w.alloc (.deferred (some []))) (.loop (rec .ready none));rwa [World.size_alloc] at this
 have hK1:W1.heap[w.heap.size]? = some (.deferred (some [])):=by
  rw [← hW1];exact (Below.heap_alloc _ _ _ (by simp)).trans (heap_alloc_new w _)
 have hI1:I [] W1:=by rw [← hW1];exact h0 _ _
 have hb1:Below w0.heap.size w0 W1:=by
  rw [← hW1];exact hb0.trans ((((Below.refl _ w).alloc (Nat.le_refl _) _).alloc (by simp) _).mono hb0.size)
 have hrp:∀ st pe,(rec st pe).params=ps:=λ st pe=>by rw [← hrec]
 have hrs:∀ st pe,(rec st pe).state=st:=λ st pe=>by rw [← hrec]
 have hrd:∀ st pe,(rec st pe).pending=pe:=λ st pe=>by rw [← hrec]
 refine ⟨w.heap.size+1,[{ target:=.collected w.heap.size,args:=#[] }],W1,{ target:=.fn (.func gf) lb,args:=#[.func (.yield (w.heap.size+1)) #[] #[]] },W1,gf,
  #[.func (.yield (w.heap.size+1)) #[] #[]]++lb,W1,?_,?_,?_,?_,λ _=>h1,?_⟩
 ·rw [← hW1,← hrec];exact run_enterLoop_outer _ _ _ _ _
 ·simp only [resolve,hg];simp [go_sem]
 ·intro f' hf';simp [Target.leads] at hf';subst hf';exact hFg
 ·simp [invoke,go_sem,eg]
 refine (hseq (w.heap.size+1)
  (λ pre W=>I pre W/\W.heap[w.heap.size+1]? = some (.loop (rec .ready none))/\W.heap[w.heap.size]? = some (.deferred (some [])))
  (λ pre W => ∃ c,Ix c pre W/\W.heap[w.heap.size+1]? = some (.loop (rec .done (some c)))/\W.heap[w.heap.size]? = some (.deferred (some [])))
  (λ ch W=>Ip ch W/\W.heap[w.heap.size]? = some (.deferred (some [])))
  W1 hb1
  (λ s A B hs h=>⟨hIS s A B hs h.1,hSk A B _ _ hs (by omega) h.2.1 rfl,hSk A B _ _ hs (Nat.le_refl _) h.2.2 rfl⟩)
  (λ s A B hs h=>by obtain ⟨c,h1,h2,h3⟩:=h;exact ⟨c,hIxS c s A B hs h1,hSk A B _ _ hs (by omega) h2 rfl,hSk A B _ _ hs (Nat.le_refl _) h3 rfl⟩)
  ?_ ⟨hI1,hL1,hK1⟩).mono ?_
 ·rintro pre x W ⟨hi,hl,hk⟩ hadm;have hlt:w.heap.size+1<W.heap.size:=(Array.getElem?_eq_some_iff.1 hl).1;have hy:=run_yield (P:=P) (args:=encs x) hl (by rw [hrp];exact hps x);refine ⟨_,_,_,_,hy,?_⟩;have e1:(rec .ready none).fn=fn/\(rec .ready none).tmps=a.tmps/\(rec .ready none).assign=assign/\(rec .ready none).body=body:=by rw [← hrec];exact ⟨rfl,rfl,rfl,rfl⟩
  rw [e1.1,e1.2.1,e1.2.2.1,e1.2.2.2,hrp];have hbusy:({ rec .ready none with state:=.busy }:Loop)=rec .busy none:=by rw [← hrec]
  have hbr:=run_beginRound (P:=P) hl (hrs _ _);rw [hbusy] at hbr;obtain ⟨fn9,hfn9⟩:=hfun _ hfn;refine jk hfn hfn9 (hassign _ x W _ ⟨_,hbr,?_⟩);have hl2:(W.putObj (w.heap.size+1) (.loop (rec .busy none))).heap[w.heap.size+1]? = some (.loop (rec .busy none)):=World.putObj_heap_same hlt;have hk2:(W.putObj (w.heap.size+1) (.loop (rec .busy none))).heap[w.heap.size]? = some (.deferred (some [])):=(World.putObj_heap_other (by omega)).trans hk;have hw2:Kp W (W.putObj (w.heap.size+1) (.loop (rec .busy none))):=hKb _ _ _ _ (by omega) hl ⟨_,rfl⟩;refine wpIn_mono (hbody _ pre x _ (hIp _ _ _ _ _ (by omega) hl ⟨_,rfl⟩ hi) hadm) ?_;have fin:∀ (jump:Option Code) (W3:World),KeepsFrom w.heap.size (W.putObj (w.heap.size+1) (.loop (rec .busy none))) W3 ->
    (Instr.endRound (w.heap.size+1) jump).run P W3=.ok (.bool jump.isNone) (W3.putObj (w.heap.size+1) (.loop (rec (if jump.isNone then .ready else .done) jump))) /\
    W3.heap[w.heap.size+1]? = some (.loop (rec .busy none)) /\
    (W3.putObj (w.heap.size+1) (.loop (rec (if jump.isNone then .ready else .done) jump))).heap[w.heap.size+1]? = some (.loop (rec (if jump.isNone then .ready else .done) jump)) /\
    (W3.putObj (w.heap.size+1) (.loop (rec (if jump.isNone then .ready else .done) jump))).heap[w.heap.size]? = some (.deferred (some [])):=λ jump W3 hk3=>by
   have hl3:=hk3.same _ _ (by omega) hl2 rfl;have:=run_endRound (P:=P) jump hl3;rw [← hrec] at this hl3 ⊢;exact ⟨this,hl3,World.putObj_heap_same (Array.getElem?_eq_some_iff.1 hl3).1,(World.putObj_heap_other (by omega)).trans (hk3.same _ _ (Nat.le_refl _) hk2 rfl)⟩
  rintro e a3 W3 hp;cases e with
  |normal =>
   obtain ⟨hk3,hkp3,hi3⟩:=hp;obtain ⟨hr,hl3,hl4,hk4⟩:=fin none W3 hk3;exact ⟨_,_,hr,.inl ⟨rfl,⟨hIp _ _ _ _ _ (by omega) hl3 ⟨_,rfl⟩ hi3,hl4,hk4⟩,hKt (hKt hw2 hkp3) (hKb _ _ _ _ (by omega) hl3 ⟨_,rfl⟩)⟩⟩
  |ret =>
   obtain ⟨hk3,hkp3,hi3⟩:=hp;obtain ⟨hr,hl3,hl4,hk4⟩:=fin (some .ret) W3 hk3;exact ⟨_,_,hr,.inr (.inl ⟨rfl,⟨.ret,hIxp _ _ _ _ _ _ (by omega) hl3 ⟨_,rfl⟩ hi3,hl4,hk4⟩,hKt (hKt hw2 hkp3) (hKb _ _ _ _ (by omega) hl3 ⟨_,rfl⟩)⟩)⟩
  |exit id =>
   obtain ⟨hk3,hkp3,hi3⟩:=hp;obtain ⟨hr,hl3,hl4,hk4⟩:=fin (some (.exit id)) W3 hk3;exact ⟨_,_,hr,.inr (.inl ⟨rfl,⟨.exit id,hIxp _ _ _ _ _ _ (by omega) hl3 ⟨_,rfl⟩ hi3,hl4,hk4⟩,hKt (hKt hw2 hkp3) (hKb _ _ _ _ (by omega) hl3 ⟨_,rfl⟩)⟩)⟩
  |goto t =>
   obtain ⟨hk3,hkp3,hi3⟩:=hp;obtain ⟨hr,hl3,hl4,hk4⟩:=fin (some (.goto t)) W3 hk3;exact ⟨_,_,hr,.inr (.inl ⟨rfl,⟨.goto t,hIxp _ _ _ _ _ _ (by omega) hl3 ⟨_,rfl⟩ hi3,hl4,hk4⟩,hKt (hKt hw2 hkp3) (hKb _ _ _ _ (by omega) hl3 ⟨_,rfl⟩)⟩)⟩
  |panic ch =>
   obtain ⟨hd3,hk3,hi3⟩:=hp;exact ⟨hd3,.inr (.inr ⟨ch,rfl,hi3,hk3.same _ _ (Nat.le_refl _) hk2 rfl⟩)⟩
  | outgrown=>exact hp.elim
 ·rintro e W2 (⟨⟨v,rfl⟩,(⟨xs,hD,hi,hl,hk⟩ | ⟨pre,hS,c,hi,hl,hk⟩)⟩ | ⟨ch,rfl,hi,hk⟩)
  ·refine ⟨none,_,by have:=run_endLoop (P:=P) hl (by rw [hrs];simp);rw [hrd] at this;exact this,?_⟩;exact hdone _ xs _ (Nat.le_refl _) (hDp _ _ _ _ _ (by omega) hl ⟨_,rfl⟩ hD) (hIp _ _ _ _ _ (by omega) hl ⟨_,rfl⟩ hi) ((World.putObj_heap_other (by omega)).trans hk)
  ·refine ⟨some c,_,by have:=run_endLoop (P:=P) hl (by rw [hrs];simp);rw [hrd] at this;exact this,?_⟩;exact hstop _ c pre _ (Nat.le_refl _) (hSp _ _ _ _ _ (by omega) hl ⟨_,rfl⟩ hS) (hIxp _ _ _ _ _ _ (by omega) hl ⟨_,rfl⟩ hi) ((World.putObj_heap_other (by omega)).trans hk)
  ·exact hpan _ ch _ (Nat.le_refl _) hi hk
end
section
open Go.RowKit Go.Shelf
attribute [local go_sem] ab ae af ac Oper.semAt_some
mutual
def cQ:Nat->JV->List (Nat × JV) | lv,.mk k n s kids keys=>(lv,.mk k n s kids keys)::bz (lv+1) kids
def bz:Nat->List JV->List (Nat × JV) | _,[]=>[] | lv,x::r=>cQ lv x++bz lv r
end
theorem jb (lv:Nat):∀ xs ys:List JV,bz lv (xs++ys)=bz lv xs++bz lv ys
 | [],ys=>by simp [bz]
 | x::r,ys=>by rw [List.cons_append,bz,bz,jb lv r ys,List.append_assoc]
mutual
theorem ja:∀ (lv:Nat) (v:JV),(cQ lv v).length=aN v
 | lv,.mk k n s kids keys=>by rw [cQ,aN,List.length_cons,lH (lv+1) kids];omega
theorem lH:∀ (lv:Nat) (xs:List JV),(bz lv xs).length=aP xs
 | lv,[]=>by rw [bz,aP];rfl
 | lv,x::r=>by rw [bz,aP,List.length_append,ja lv x,lH lv r]
end
theorem sE {lv:Nat} {xs:List JV} {i:Nat} {x:JV} (h:xs[i]? = some x):bz lv (xs.take (i+1))=bz lv (xs.take i)++cQ lv x/\bz lv xs=bz lv (xs.take i)++(cQ lv x++bz lv (xs.drop (i+1))):=by
 have e:bz lv (xs.take (i+1))=bz lv (xs.take i)++cQ lv x:=by rw [List.take_add_one,h,jb];show _++bz lv [x]=_;rw [bz,bz,List.append_nil]
 refine ⟨e,?_⟩;have h2:=jb lv (xs.take (i+1)) (xs.drop (i+1));rw [List.take_append_drop,e,List.append_assoc] at h2;exact h2
abbrev dQ:=Nat × JV × Array Value
def dq (x:dQ):Nat × JV:=(x.1,x.2.1)
def uz (x:dQ):Array Value:=#[Zi Zq x.1,.agg x.2.2]
def gQ:Nat->Prop:=λ _=>True
def KpC (C:Nat->Prop) (N:Nat) (A B:World):Prop:=A.heap.size<=B.heap.size/\∀ k,k<A.heap.size->¬ C k->(k<N∨∃ t cs,Blk A k t cs)->B.heap[k]? = A.heap[k]?
theorem KpC.trans {C:Nat->Prop} {N:Nat} {A B D:World} (h:KpC C N A B) (k:KpC C N B D):KpC C N A D:=by
 refine ⟨Nat.le_trans h.1 k.1,λ j hj hc hb=>?_⟩;have h1:=h.2 j hj hc hb;refine (k.2 j (Nat.lt_of_lt_of_le hj h.1) hc ?_).trans h1;rcases hb with hb | ⟨t,cs,hb⟩
 ·exact .inl hb
 ·exact .inr ⟨t,cs,h1.trans hb⟩
theorem KpC.of_below {C:Nat->Prop} {N:Nat} {A B:World} (h:Below A.heap.size A B):KpC C N A B:=⟨h.size,λ k hk _ _=>h.block k hk⟩
theorem KpC.refl (C:Nat->Prop) (N:Nat) (A:World):KpC C N A A:=⟨Nat.le_refl _,λ _ _ _ _=>rfl⟩
theorem KpC.blk {C:Nat->Prop} {N:Nat} {A B:World} {g:Nat} {t:TypeId} {cs:Array Value} (h:KpC C N A B) (hb:Blk A g t cs) (hg:¬ C g):Blk B g t cs:=(h.2 g hb.lt hg (.inr ⟨t,cs,hb⟩)).trans hb
theorem KpC.keepF {C:Nat->Prop} {w0 A B:World} (h:KpC C w0.heap.size A B) (hk:aj gQ w0 A) (hC:∀ k,C k->w0.heap.size<=k):aj gQ w0 B :=
 ⟨Nat.le_trans hk.1 h.1,λ b _ hb=>(h.2 b (Nat.lt_of_lt_of_le hb hk.1) (λ hc=>by have:=hC b hc;omega) (.inl hb)).trans (hk.2 b trivial hb)⟩
theorem KpC.set {C:Nat->Prop} {N:Nat} {A B:World} (h:KpC C N A B) {k:Nat} (hk:C k) (i:Nat) (u:Value):KpC C N A (B.setCell ⟨k,i,none⟩ u) :=
 ⟨by simpa using h.1,λ b hb hc hx=>(Below.heap_setCell B ⟨k,i,none⟩ u b (λ e=>hc (by have e:b=k:=e;rw [e];exact hk))).trans (h.2 b hb hc hx)⟩
theorem pj {W:World} {css:List (List Value)} {xs:List JV} {A:Option Addr} (h:VRs W gQ css xs) (hr:RdF W gQ A css.flatten) {i:Nat} {x:JV} (hx:xs[i]? = some x) :
  ∃ (b o:Nat) (k n:Int) (s:ByteArray) (A':Option Addr) (na ca:Nat) (B':Option Addr) (nb cb:Nat),A=some ⟨b,o,none⟩/\b<W.heap.size/\VR W gQ [Zi Zq k,Zi Zq n,Zt s,Zs A' na ca,Zs B' nb cb] x /\
   ∀ W',aj gQ W W'->W'.cell? ⟨b,o+i*5,none⟩=some (Zi Zq k)/\W'.cell? ⟨b,o+i*5+1,none⟩=some (Zi Zq n)/\W'.cell? ⟨b,o+i*5+2,none⟩=some (Zt s)/\W'.cell? ⟨b,o+i*5+3,none⟩=some (Zs A' na ca)/\W'.cell? ⟨b,o+i*5+4,none⟩=some (Zs B' nb cb):=by
 obtain ⟨b,o,c,rfl,hb,_,hv,hc⟩:=h.cell hr hx;obtain ⟨k,n,s,A',na,ca,B',nb,cb,rfl⟩:=hv.form;refine ⟨b,o,k,n,s,A',na,ca,B',nb,cb,rfl,hb,hv,λ W' hW=>?_⟩;have z:=λ (j:Nat) u (hj:j<5) hu=>(World.cell?_of_block (w:=W) (a:=⟨b,o+(i*5+j),none⟩) (hW.2 b trivial hb)).trans (hc j u hj hu)
 exact ⟨z 0 _ (by decide) rfl,z 1 _ (by decide) rfl,z 2 _ (by decide) rfl,z 3 _ (by decide) rfl,z 4 _ (by decide) rfl⟩
def xk (w0:World) (v0:JV) (pre:List dQ) (x:dQ):Prop:=VR w0 gQ x.2.2.toList x.2.1/\(pre++[x]).map dq <+: cQ 0 v0
def YN (l:Nat) (w0:World) (C:Nat->Prop) (v0:JV) (J Jx:List dQ->World->Prop):Prop:=∀ pre x W1,J pre W1->xk w0 v0 pre x->YieldAt Fence.wide 1 Tryz.prog l (uz x) W1 λ e W' =>
 (e=.returned (.bool true)/\J (pre++[x]) W'/\KpC C w0.heap.size W1 W')∨(e=.returned (.bool false)/\Jx (pre++[x]) W'/\KpC C w0.heap.size W1 W')
def rU (w0:World) (C:Nat->Prop) (J Jx:List dQ->World->Prop) (lv:Nat) (v:JV) (pre:List dQ) (W:World) (e:Ending) (W':World):Prop :=
 (e=.returned (.bool true)/\∃ ys,ys.map dq=cQ lv v/\J (pre++ys) W'/\KpC C w0.heap.size W W')∨(e=.returned (.bool false)/\∃ ys,Jx ys W')
abbrev sQ (yb ib:Nat):Value:=.func (.func 228) #[] #[Zp (some ⟨yb,0,none⟩),Zp (some ⟨ib,0,none⟩)]
theorem nQ (l:Nat) (w0:World) (C:Nat->Prop) (NC:Nat) (v0:JV) (J Jx:List dQ->World->Prop) (yb ib:Nat) (hC0:∀ k,C k->w0.heap.size<=k) (hCN:∀ k,C k->k<NC) (hyC:¬ C yb) (hiC:¬ C ib)
  (hJ:∀ s A B,Below A.heap.size A B->J s A->J s B) (hY:YN l w0 C v0 J Jx):∀ (M:Nat) (v:JV),aN v<=M->∀ (lv:Nat) (pre:List dQ) (rest:List (Nat × JV)) (cs:List Value) (W:World),
  VR w0 gQ cs v->aj gQ w0 W->J pre W->Blk W yb 274 #[.func (.yield l) #[] #[]]->Blk W ib 274 #[sQ yb ib]->cQ 0 v0=pre.map dq++(cQ lv v++rest)->lv+aN v<=4194304->NC<=W.heap.size ->
  Calls Tryz.prog 228 #[Zi Zq lv,.agg cs.toArray,Zp (some ⟨yb,0,none⟩),Zp (some ⟨ib,0,none⟩)] W (rU w0 C J Jx lv v pre W)
 | 0,v,h,_,_,_,_,_,_,_,_,_,_,_,_,_=>by have:=dK v;omega
 |M+1,.mk k n s kids keys,hM,lv,pre,rest,cs,W,hv,hK,hJ0,hyb,hib,hfl,hlv,hNC=>by
  have ih:=nQ l w0 C NC v0 J Jx yb ib hC0 hCN hyC hiC hJ hY M;obtain ⟨A,B,ca,cb,css,rfl,h1,h2,h3,h4,h5,h6,h7⟩:=hv.out;have HIH:=aW (λ (i:Nat) (x:JV) (hx:kids[i]? = some x)=>pj h1 h6 hx);unfold aN at hM hlv;have hkl:=kD kids;have hfl2:cQ 0 v0=pre.map dq++((lv,JV.mk k n s kids keys)::bz (lv+1) kids++rest):=hfl;obtain ⟨nk,hnk⟩:∃ nk,kids.length=nk:=⟨_,rfl⟩
  obtain ⟨ny,hny⟩:∃ ny,keys.length=ny:=⟨_,rfl⟩
  rw [hnk] at h2 hkl hv;rw [hny] at h3 hv;rw [hnk,hny];have hb1:=(Below.refl W.heap.size W).alloc (Nat.le_refl _) (.cells #[Zi Zq k,Zi Zq n,Zt ⟨s.toArray⟩,Zs A nk ca,Zs B ny cb] 42);obtain ⟨fn,tmps,assign,body,hy,hR⟩:=hY pre (lv,.mk k n s kids keys,#[Zi Zq k,Zi Zq n,Zt ⟨s.toArray⟩,Zs A nk ca,Zs B ny cb]) _ (hJ _ _ _ hb1 hJ0)
   ⟨hv,by rw [hfl2,List.map_append];exact ⟨bz (lv+1) kids++rest,by simp [dq]⟩⟩
  unfold uz at hy;simp only at hy;have hbk:=Blk.new W 42 #[Zi Zq k,Zi Zq n,Zt ⟨s.toArray⟩,Zs A nk ca,Zs B ny cb];have hgC:¬ C W.heap.size:=λ h=>by have:=hCN _ h;omega
  have HKB:=aW hb1;have HBK:=aW hbk;have HI:=aW ih;have HJ:=aW hJ;have HK:=aW hK;have HYB:=aW hyb;have HIB:=aW hib;have HFL:=aW hfl2;have HNK:=aW hnk;have HC0:=aW hC0;obtain ⟨a1,b1,d1⟩:=(hyb.alloc (.cells #[Zi Zq k,Zi Zq n,Zt ⟨s.toArray⟩,Zs A nk ca,Zs B ny cb] 42)).rules;clear hv hK hyb hib hfl hfl2 h1 h4 h5 h6 h7 hbk hb1 ih hJ hY hJ0 hnk hny hC0 hCN;refine (callsIn_wide (n:=2)).1 ?_;refine callsIn_of_wp Tryz.func228 rfl trivial ?_ rfl;simp only [Tryz.ntmps228,List.size_toArray,List.length_cons,List.length_nil,Nat.reduceAdd,Nat.reduceSub,Array.replicate_succ,Array.replicate_zero,List.push_toArray,List.append_toArray,List.nil_append,List.cons_append];gi_wp2;refine hR.mono ?_;rintro e W3 (⟨rfl,hJ3,hk3⟩ | ⟨rfl,hJx3,hk3⟩)
  ·have hk1:KpC C w0.heap.size W W3:=(KpC.of_below HKB.out).trans hk3;obtain ⟨c1,f1,l1⟩:=(hk3.blk HBK.out hgC).rules;have z3:=c1 3;simp at z3;have HK1:=aW hk1;have HJ3:=aW hJ3;clear hk1 hk3 hJ3 hR hy a1 b1 d1;gi_wp2;clear c1 f1 l1 z3
   gi_loopg [17] nk (λ gk s17 wr => ∃ (i:Nat) (ys:List dQ),i<=nk/\gk=nk-i/\s17=Zi Zq i/\Hid (ys.map dq=(lv,.mk k n s kids keys)::bz (lv+1) (kids.take i))/\Hid (J (pre++ys) wr)/\Hid (KpC C w0.heap.size W wr))
   case atStart=>exact ⟨0,[(lv,.mk k n s kids keys,#[Zi Zq k,Zi Zq n,Zt ⟨s.toArray⟩,Zs A nk ca,Zs B ny cb])],Nat.zero_le _,rfl,by go_num,aW (by simp [dq,bz]),HJ3,HK1⟩
   case round =>
    obtain ⟨i,ys,hi,hgk,rfl,HYS,HJw,HKw⟩:=hrel;have HG:=aW hgk;clear hgk HK1 HJ3;by_cases hlt:i<nk
    ·obtain ⟨x,hx⟩:∃ x,kids[i]? = some x:=⟨_,List.getElem?_eq_getElem (by rw [HNK.out];exact hlt)⟩
     obtain ⟨b,o,k',n',s',A',na,ca',B',nb,cb',rfl,hb,hvx,hz⟩:=HIH.out i x hx;have hKF:=HKw.out.keepF HK.out HC0.out;obtain ⟨q0,q1,q2,q3,q4⟩:=hz _ hKF;have hyw:=HKw.out.blk HYB.out hyC;have hiw:=HKw.out.blk HIB.out hiC;obtain ⟨hf1,hf2⟩:=sE (lv:=lv+1) hx;obtain ⟨hn1,hn2⟩:=jj hx;have hbA:=(Below.refl wr.heap.size wr).alloc (Nat.le_refl _) (.cells #[Zi Zq k',Zi Zq n',Zt s',Zs A' na ca',Zs B' nb cb'] 42);have hcl:=HI.out x (by omega) (lv+1) (pre++ys) (bz (lv+1) (kids.drop (i+1))++rest) _ _ hvx (hKF.bel hbA) (HJ.out _ _ _ hbA HJw.out) (hyw.alloc _) (hiw.alloc _)
      (by rw [HFL.out,List.map_append,HYS.out,hf2];simp) (by omega) (by have:=HKw.out.1;simp;omega)
     rw [show ((lv+1:Nat):Int)=(lv:Int)+1 by omega] at hcl;have HCL:=aW hcl;have HF1:=aW hf1;have HKA:=aW (HKw.out.trans (KpC.of_below hbA));obtain ⟨d1,d2,d3⟩:=(hyw.alloc (.cells #[Zi Zq k',Zi Zq n',Zt s',Zs A' na ca',Zs B' nb cb'] 42)).rules;obtain ⟨e1,e2,e3⟩:=(hiw.alloc (.cells #[Zi Zq k',Zi Zq n',Zt s',Zs A' na ca',Zs B' nb cb'] 42)).rules;clear hcl hf1 hf2 hn1 hn2 hbA hz hvx hx hKF hyw hiw;gi_wp2;refine ⟨trivial,CallsIn.mono (callsIn_wide.2 HCL.out) ?_⟩;rintro e W5 (⟨rfl,zs,hzs,hJ5,hk5⟩ | ⟨rfl,zs,hJx5⟩)
     ·have HJ5:=aW hJ5;have HK5:=aW (HKA.out.trans hk5);have HZ:=aW hzs;clear hJ5 hk5 hzs;gi_wp2
      gi_roundg (nk-(i+1))
      case measure=>rw [HG.out];omega
      case rel=>exact ⟨i+1,ys++zs,hlt,rfl,by go_num,aW (by rw [List.map_append,HYS.out,HZ.out,HF1.out];simp),aW (by rw [← List.append_assoc];exact HJ5.out),HK5⟩
     ·gi_wp2;go_ret;exact .inr ⟨rfl,zs,hJx5⟩
    ·obtain rfl:i=nk:=by omega
     gi_wp2;go_ret;refine .inl ⟨rfl,ys,?_,HJw.out,HKw.out⟩;have h:=HYS.out;rw [List.take_of_length_le (by rw [HNK.out];exact Nat.le_refl _)] at h;exact h
  ·have HJX:=aW hJx3;clear hJx3 hk3 hR hy a1 b1 d1;gi_wp2;go_ret;exact .inr ⟨rfl,_,HJX.out⟩
theorem ug (k n:Int) (s:ByteArray) (A B:Option Addr) (nk ca ny cb:Nat) (w:World) :
  Calls Tryz.prog 215 #[.agg #[Zi Zq k,Zi Zq n,Zt s,Zs A nk ca,Zs B ny cb]] w λ e w'=>e=.returned (.func (.func 227) #[] #[Zp (some ⟨w.heap.size,0,none⟩)])/\w.alloc (.cells #[Zi Zq k,Zi Zq n,Zt s,Zs A nk ca,Zs B ny cb] 42)=w':=by
 have hmf:∀ (fn:Fn) (first cap:Array Value) (w:World),(Instr.makeFunc fn first cap).run Tryz.prog w=.ok (.func fn first cap) w:=λ _ _ _ _=>rfl
 go_enter Tryz.func215,Tryz.ntmps215;go_wp2;go_ret;exact ⟨rfl,rfl⟩
theorem r3 (l:Nat) (w0:World) (C:Nat->Prop) (NC:Nat) (v0:JV) (J Jx:List dQ->World->Prop) (hC0:∀ k,C k->w0.heap.size<=k) (hCN:∀ k,C k->k<NC)
  (hJ:∀ s A B,Below A.heap.size A B->J s A->J s B) (hY:YN l w0 C v0 J Jx) (vb:Nat) (cs:List Value) (W:World) (hv:VR w0 gQ cs v0) (hK:aj gQ w0 W) (hvb:Blk W vb 42 cs.toArray) (hJ0:J [] W) (hn:aN v0<=4194304) (hNC:NC<=W.heap.size) :
  CallsIn Fence.wide 2 Tryz.prog 227 #[.func (.yield l) #[] #[],Zp (some ⟨vb,0,none⟩)] W λ e W'=>(∃ v,e=.returned v)/\((∃ xs,xs.map dq=cQ 0 v0/\J xs W')∨(∃ pre,True/\Jx pre W')):=by
 have hmf:∀ (fn:Fn) (first cap:Array Value) (w:World),(Instr.makeFunc fn first cap).run Tryz.prog w=.ok (.func fn first cap) w:=λ _ _ _ _=>rfl
 have hb2:Below W.heap.size W ((W.alloc (.cells #[.func (.yield l) #[] #[]] 274)).alloc (.cells #[sQ W.heap.size (W.heap.size+1)] 274)):=((Below.refl _ W).alloc (Nat.le_refl _) _).alloc (by simp) _;have hib:=Blk.new (W.alloc (.cells #[.func (.yield l) #[] #[]] 274)) 274 #[sQ W.heap.size (W.heap.size+1)];rw [World.size_alloc] at hib;have hcl:=nQ l w0 C NC v0 J Jx W.heap.size (W.heap.size+1) hC0 hCN (λ h=>by have:=hCN _ h;omega) (λ h=>by have:=hCN _ h;omega) hJ hY _ v0 (Nat.le_refl _) 0 [] [] cs _ hv (hK.bel hb2) (hJ _ _ _ hb2 hJ0)
  ((Blk.new W 274 #[.func (.yield l) #[] #[]]).alloc _) hib (by simp) (by omega) (by simp;omega)
 rw [show ((0:Nat):Int)=0 from rfl] at hcl;obtain ⟨k,n,s,A,na,ca,B,nb,cb,rfl⟩:=hv.form;have HCL:=aW hcl;obtain ⟨c1,f1,l1⟩:=(hvb.keep hb2).rules;obtain ⟨d1,d2,d3⟩:=hvb.rules;clear hcl hib hb2 hvb hY hJ hK hv hJ0;refine callsIn_of_wp Tryz.func227 rfl trivial ?_ rfl;simp only [Tryz.ntmps227,List.size_toArray,List.length_cons,List.length_nil,Nat.reduceAdd,Nat.reduceSub,Array.replicate_succ,Array.replicate_zero,List.push_toArray,List.append_toArray,List.nil_append,List.cons_append];gi_wp2;refine ⟨trivial,CallsIn.mono (callsIn_wide.2 HCL.out) ?_⟩;rintro e W5 (⟨rfl,ys,hys,hJ5,_⟩ | ⟨rfl,ys,hJx⟩)
 ·gi_wp2;go_end0;exact ⟨⟨_,rfl⟩,.inl ⟨ys,hys,hJ5⟩⟩
 ·gi_wp2;go_end0;exact ⟨⟨_,rfl⟩,.inr ⟨ys,trivial,hJx⟩⟩
end
end Go.Proofs.YtgmnmnnoahdjnaaGreatDoor
