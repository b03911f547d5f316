/- VcheckTells holds: in every world that a call may begin in, at every argument of the bulk that the row asks, the call returns true and what it was given reads as before; the variable utf.none holds what its text lays. -/
import Derived.Test.YtgmnmnnoahdjnaaGreatDoorCards
import Derived.Test.YtgmnmnnoahdjnaaGreatDoorTie
import Derived.ShutString
import Derived.Deep.DeepHandedRow
import Derived.Lib.LaidTab
import Derived.Test.YtgmnmnnoahdjnaaGreatDoorH45
open Go.Value renaming int → Zi, slice → Zs, string → Zt, pointer → Zp
open Go.IntKind renaming i64 → Zq
set_option maxRecDepth 100000
set_option maxHeartbeats 16000000
set_option linter.unusedVariables false
set_option linter.unusedSimpArgs false
namespace Go.Proofs.YtgmnmnnoahdjnaaGreatDoor.lawVcheckTells
section
open Go.ChangeShapes Go.WideShapes Go.ChangeAt Go.RowKit
open Go.ChangeMaps (open_string shut_string)
theorem own:ownKnob Tryz.prog.godebug=none:=by kernel_rfl
theorem uJ:laidOutB Tryz.prog=true:=by kernel_rfl
theorem sI:Tryz.prog.globalNamed "davenport/utf.none" = some 1:=by kernel_rfl
theorem qW:(Tryz.prog.globals[1]?).map (·.type)=some 271:=by kernel_rfl
theorem gok {W:World} (h:laidMetH Tryz.prog Rows.vcheckTellsRow.laid W):GOK W:=by
 rw [MakeChecks.laidMetH_plain _ _ _ (by kernel_rfl)] at h;obtain ⟨ps,⟨g',t',cs,fuel,p,q,hg',ht',hvar,hd,_,_⟩,_⟩:=h;obtain rfl:=Option.some.inj (sI.symm.trans hg');obtain rfl:=Option.some.inj (qW.symm.trans ht');obtain ⟨y0,y1,n,hx,hl,h0,h1⟩:=trod_struct2 Tryz.underlying271 hd;have c3:Tryz.prog.cellsOf 3=1:=by kernel_rfl
 have cf:Tryz.prog.cellsOf 271=2:=by kernel_rfl
 rw [cf] at hl;simp only [Rows.laid_davenport_utf_none,Prod.mk.injEq,DataW.agg.injEq,List.cons.injEq,and_true] at hx;obtain ⟨l⟩:=cs
 match l,hl with
 |[a,b],_ =>
  have q0:=World.var?_cell sI hvar 0;have q1:=World.var?_cell sI hvar 1;simp at q0 q1;obtain ⟨k0,e0,x0,_⟩:=DataW.trod_int Tryz.underlying3 h0;obtain ⟨k1,e1,x1,_⟩:=DataW.trod_int Tryz.underlying3 h1;simp [c3] at e0 e1;rw [x0,x1] at hx;simp at hx;obtain ⟨⟨rfl,rfl⟩,_⟩:=hx;refine ⟨?_,by rw [q0,e0],by rw [q1,e1]⟩;have:W.cell? ⟨1,0,none⟩≠none:=by rw [q0];simp
  rcases Nat.lt_or_ge 1 W.heap.size with hlt | hge
  ·exact hlt
  ·exact absurd (by unfold World.cell?;simp [Array.getElem?_eq_none hge]) this
theorem mC:Tryz.prog.globalNamed "davenport/vparse.none" = some 0:=by kernel_rfl
theorem pf:(Tryz.prog.globals[0]?).map (·.type)=some 154:=by kernel_rfl
theorem goe {W:World} (h:laidMetH Tryz.prog Rows.vcheckTellsRow.laid W):GOE W:=by
 have hgok:=gok h;rw [MakeChecks.laidMetH_plain _ _ _ (by kernel_rfl)] at h;obtain ⟨ps,⟨_,_,_,_,_,q1,_,_,_,_,⟨g',t',cs,fuel,p,q,hg',ht',hvar,hd,_,_⟩,_⟩,_⟩:=h;obtain rfl:=Option.some.inj (mC.symm.trans hg');obtain rfl:=Option.some.inj (pf.symm.trans ht');obtain ⟨y0,y1,y2,n,hx,hl,h0,h1,h2⟩:=Go.Deep.trod_struct3 Tryz.underlying154 hd;have c3:Tryz.prog.cellsOf 3=1:=by kernel_rfl
 have cs3:Tryz.prog.cellsOf 9=1:=by kernel_rfl
 have cf:Tryz.prog.cellsOf 154=3:=by kernel_rfl
 rw [cf] at hl;simp only [Rows.laid_davenport_vparse_none,Prod.mk.injEq,DataW.agg.injEq,List.cons.injEq,and_true] at hx;obtain ⟨l⟩:=cs
 match l,hl with
 |[a,b,c],_ =>
  have q0:=World.var?_cell mC hvar 0;have q1:=World.var?_cell mC hvar 1;have q2:=World.var?_cell mC hvar 2;simp at q0 q1 q2;obtain ⟨k0,e0,x0,_⟩:=DataW.trod_string Tryz.underlying9 h0;obtain ⟨k1,e1,x1,_⟩:=DataW.trod_int Tryz.underlying3 h1;obtain ⟨k2,e2,x2,_⟩:=DataW.trod_int Tryz.underlying3 h2;simp [c3,cs3] at e0 e1 e2;rw [x0,x1,x2] at hx;obtain ⟨z⟩:=k0;obtain ⟨z⟩:=z;simp at hx;obtain ⟨⟨rfl,rfl,rfl⟩,_⟩:=hx;refine ⟨hgok,?_,by rw [q0,e0],by rw [q1,e1],by rw [q2,e2]⟩;have:W.cell? ⟨0,0,none⟩≠none:=by rw [q0];simp
  rcases Nat.lt_or_ge 0 W.heap.size with hlt | hge
  ·exact hlt
  ·exact absurd (by unfold World.cell?;simp [Array.getElem?_eq_none hge]) this
noncomputable def je (os:Os):World:=World.holding Tryz.prog os ⟨#[],#[],[]⟩
theorem sU (os:Os):laidMet Tryz.prog Rows.vcheckTellsRow.laid ((je os).forCall (λ _ _=>0) ⟨#[],#[.agg #[Zs none 0 0]],[]⟩).memory :=
 laidMet_of_run' 8 (by kernel_rfl) (by kernel_rfl)
theorem xR (os:Os) {H:Type} (enc:TypeId × Value->H):∃ places,DataW.whole enc Tryz.prog ((je os).forCall (λ _ _=>0) ⟨#[],#[.agg #[Zs none 0 0]],[]⟩).memory Tryz.f9.params.toList Rows.vcheckTellsSpec.vars false #[(.agg #[Value.slice none 0 0])].toList 8=some ([.agg [.nil]],[],places) :=
 ⟨[],by kernel_rfl⟩
theorem sh (H:Type) (enc:TypeId × Value->H) (W:World) (base:Nat) (args:Array Value) (ds gs:List (DataW H)) (before:List MemPlace)
  (hval:∀ (j:Nat) t v,Tryz.f9.params[j]? = some t->args[j]? = some v->Value.okWide Tryz.prog W .any base t v)
  (hW:DataW.Whole enc Tryz.prog Tryz.f9.params.toList Rows.vcheckTellsSpec.vars false W args.toList ds gs before) (hL:laidMetH Tryz.prog Rows.vcheckTellsRow.laid W) (hk:Rows.uptoSmall H (ds++gs)=true) :
  Calls Tryz.prog 9 args W λ e W' => ∃ v,e=.returned v/\Rows.vcheckTellsSpec.post enc Tryz.prog Tryz.f9 false true false false W args v W':=by
 have hW':=hW;have hG:=goe hL;obtain ⟨p,q,hA0,hV,rfl,hfz,hnd⟩:=hW;have hA:DataW.TrodAll enc Tryz.prog W 0 (λ _=>true) true Tryz.f9.params.toList args.toList ds p:=hA0;rw [Tryz.params9] at hA hval;obtain ⟨v0,vs0,d0,ds0,p0,q0,hargs,rfl,rfl,h0,r0⟩:=trodAll_cons hA;obtain ⟨rfl,rfl,rfl⟩:=trodAll_nil r0;obtain rfl:args=#[v0]:=by cases args;simp_all
 obtain ⟨rfl,rfl⟩:=trodVars_none hV;have k0:=h0;have lt0:∀ x ∈ p0,x.block<W.heap.size:=by obtain ⟨m,hm⟩:=k0;exact DataW.trod_lt m _ _ _ hm
 obtain ⟨cs0,rfl,_⟩:=okWide_struct Tryz.underlying24 (hval 0 24 v0 rfl rfl);obtain ⟨a0,cap0,l0,hcs0,w0,b0,n0,m0⟩:∃ A ca l,cs0.toList=[Zs A l.length ca]/\vP W A ca l/\(∀ v ∈ l,gW (Rows.uptoBulk d0) v)/\l.length<=Rows.uptoBulk d0/\ap l<=Rows.uptoBulk d0:=by
  obtain ⟨fuel,hf⟩:=h0;obtain ⟨A,ca,css,l,hcs,g1,g2,g3,g4,g5,g6,g7⟩:=rf hf;exact ⟨A,ca,l,by simpa [Value.cells] using hcs,⟨css,g1,g2,g3,g4⟩,g5,g6,g7⟩
 obtain rfl:cs0=#[Zs a0 l0.length cap0]:=by obtain ⟨q⟩:=cs0;simp at hcs0;rw [hcs0]
 have bulk9:=hk;unfold Rows.uptoSmall at bulk9;have bulk9:=of_decide_eq_true bulk9;simp only [List.append_nil,List.cons_append,List.nil_append,Rows.uptoBulkAll] at bulk9;clear hA0;refine (jP a0 cap0 l0 W hG w0 (λ v hv=>el (by omega) _ (b0 v hv)) (by omega) (by omega)).mono λ e W' ⟨he,bel⟩=>?_
 subst he;exact ⟨_,rfl,_,_,_,[],_,[],hW',trodAll_mk1 (shut_bool Tryz.underlying4 _),(trodAll_cons_mk (Below.trod uJ (by kernel_rfl) (of_decide_eq_true (by kernel_rfl)) k0 bel lt0) trodAll_mk0),rfl,bel.frame _,λ h=>by cases h⟩
theorem wz (os:Os) (started:os.Started) (H:Type) (enc:TypeId × Value->H) (F:Stop.Interp) :
  ReturnsInHanded {} Tryz.checked os 9 .any ((Rows.OpenSpec.upto Rows.vcheckTellsSpec).preRow enc Tryz.prog Tryz.f9 Rows.vcheckTellsUptoRow.domain false Rows.vcheckTellsUptoRow.laid) (((Rows.OpenSpec.upto Rows.vcheckTellsSpec).at F).post enc Tryz.prog Tryz.f9 false true false false):=by
 obtain ⟨places,hx⟩:=xR os enc;refine returnsInHanded_of_row (C:=Tryz.checked) (s:=Rows.OpenSpec.upto Rows.vcheckTellsSpec) own started (by kernel_rfl) Tryz.func9
  (witness_row_at (enc:=enc) (C:=Tryz.checked) false (je os) #[.agg #[Zs none 0 0]] rfl (by kernel_rfl) (by kernel_rfl) (by kernel_rfl)
   (OpenSpec.preRow_of_cond 8 hx (by kernel_rfl) (λ k hk=>by cases hk;kernel_rfl) (by kernel_rfl) (sU os))) ?_
 intro W base args ds gs before hval hW _ hcond _ hL _ _;exact sh H enc W base args ds gs before hval hW hL (hcond _ rfl)
theorem uq:joinedFacts Tryz.pinned.checked.prog 9 Tryz.f9 (Rows.OpenSpec.upto Rows.vcheckTellsSpec).bare Rows.vcheckTellsUptoRow=true:=by
 unfold joinedFacts;simp only [Bool.and_eq_true]
 (repeat' refine And.intro ?_ ?_)<;>(as_aux_lemma=>kernel_rfl)
theorem ym:Rows.VcheckTellsUptoSaid :=
 OpenClaim.holds_of_cond 9 Tryz.f9 rfl rfl rfl rfl rfl rfl rfl ⟨rfl,rfl,rfl,rfl,rfl⟩ rfl rfl rfl rfl rfl (by kernel_rfl) Tryz.func9 uq
  (of_decide_eq_true (by kernel_rfl)) (by unfold Func.isWrapper;rw [if_neg (of_decide_eq_false (by kernel_rfl))];exact ⟨rfl,rfl⟩)
  (λ os started H enc _ F=>by rw [OpenClaim.pre_eq_preRow];exact wz os started H enc F)
theorem xN (f:FuncId) (fn:Func) (hf:Tryz.pinned.checked.prog.funcNamed "davenport/davenportlaw24.VcheckTells" = some f) (hfn:Tryz.pinned.checked.prog.funcs[f]? = some fn) :
  Rows.vcheckTellsUptoCard.stood.looks=Tryz.pinned.checked.prog.looks []/\∀ (j:Nat) t,fn.params[j]? = some t->Tryz.pinned.checked.prog.wantsStandIn t=false:=by
 obtain rfl:f=9:=Option.some.inj ((show Tryz.prog.funcNamed "davenport/davenportlaw24.VcheckTells" = some 9 by kernel_rfl).symm.trans hf) |>.symm;obtain rfl:fn=Tryz.f9:=(Option.some.inj (Tryz.func9.symm.trans hfn)).symm;refine ⟨by kernel_rfl,λ j t ht=>?_⟩;rw [Tryz.params9] at ht;have hm:t ∈ [24]:=by simpa using Array.mem_of_getElem? ht
 have hall:([24].all λ u=>!Tryz.prog.wantsStandIn u)=true:=by kernel_rfl
 exact (show Tryz.prog.wantsStandIn t=false by simpa using List.all_eq_true.1 hall t hm)
/-- the card -/
theorem card:Rows.VcheckTellsUptoCardSaid :=
 Claim7.holds_tied_plain_at .later [] _ _ _ _ ym (λ _ h=>by cases h) (by kernel_rfl) (λ _ h=>by cases h) vcheckTellsUpto_row_tie rfl ⟨rfl,rfl⟩ (by kernel_rfl) rfl xN (by kernel_rfl)
end
end Go.Proofs.YtgmnmnnoahdjnaaGreatDoor.lawVcheckTells
