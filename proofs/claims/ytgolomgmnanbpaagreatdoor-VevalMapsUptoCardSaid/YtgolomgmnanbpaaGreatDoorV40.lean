/- VevalMaps holds: in every world that a call may begin in, at every argument of the bulk that the row asks, the call returns true and what it was given reads as before; the variables utf.none and vparse.none hold what their texts lay. -/
import Derived.Test.YtgolomgmnanbpaaGreatDoorCards
import Derived.Test.YtgolomgmnanbpaaGreatDoorTie
import Derived.ShutString
import Derived.Deep.DeepHandedRow
import Derived.Lib.LaidTab
import Derived.Test.YtgolomgmnanbpaaGreatDoorV39
set_option maxRecDepth 100000
set_option maxHeartbeats 16000000
set_option linter.unusedVariables false
set_option linter.unusedSimpArgs false
namespace Go.Proofs.YtgolomgmnanbpaaGreatDoor.lawVevalMaps
section
open Go.ChangeShapes Go.WideShapes Go.ChangeAt Go.RowKit
open Go.ChangeMaps (open_string shut_string)
theorem own:ownKnob Tryz.prog.godebug=none:=by kernel_rfl
theorem pZ:laidOutB Tryz.prog=true:=by kernel_rfl
theorem rV:Tryz.prog.globalNamed "davenport/utf.none" = some 2:=by kernel_rfl
theorem qm:(Tryz.prog.globals[2]?).map (·.type)=some 225:=by kernel_rfl
theorem gok {W:World} (h:laidMetH Tryz.prog Rows.vevalMapsRow.laid W):GOK W:=by
 rw [MakeChecks.laidMetH_plain _ _ _ (by kernel_rfl)] at h;obtain ⟨ps,⟨g',t',cs,fuel,p,q,hg',ht',hvar,hd,_,_⟩,_⟩:=h;obtain rfl:=Option.some.inj (rV.symm.trans hg');obtain rfl:=Option.some.inj (qm.symm.trans ht');obtain ⟨y0,y1,n,hx,hl,h0,h1⟩:=trod_struct2 Tryz.underlying225 hd;have c3:Tryz.prog.cellsOf 3=1:=by kernel_rfl
 have cf:Tryz.prog.cellsOf 225=2:=by kernel_rfl
 rw [cf] at hl;simp only [Rows.laid_davenport_utf_none,Prod.mk.injEq,DataW.agg.injEq,List.cons.injEq,and_true] at hx;obtain ⟨l⟩:=cs
 match l,hl with
 |[a,b],_ =>
  have q0:=World.var?_cell rV hvar 0;have q1:=World.var?_cell rV hvar 1;simp at q0 q1;obtain ⟨k0,e0,x0,_⟩:=DataW.trod_int Tryz.underlying3 h0;obtain ⟨k1,e1,x1,_⟩:=DataW.trod_int Tryz.underlying3 h1;simp [c3] at e0 e1;rw [x0,x1] at hx;simp at hx;obtain ⟨⟨rfl,rfl⟩,_⟩:=hx;refine ⟨?_,by rw [q0,e0],by rw [q1,e1]⟩;have:W.cell? ⟨2,0,none⟩≠none:=by rw [q0];simp
  rcases Nat.lt_or_ge 2 W.heap.size with hlt | hge
  ·exact hlt
  ·exact absurd (by unfold World.cell?;simp [Array.getElem?_eq_none hge]) this
theorem mo:Tryz.prog.globalNamed "davenport/vparse.none" = some 0:=by kernel_rfl
theorem oG:(Tryz.prog.globals[0]?).map (·.type)=some 183:=by kernel_rfl
theorem goe {W:World} (h:laidMetH Tryz.prog Rows.vevalMapsRow.laid W):GOE W:=by
 have hgok:=gok h;rw [MakeChecks.laidMetH_plain _ _ _ (by kernel_rfl)] at h;obtain ⟨ps,⟨_,_,_,_,_,q1,_,_,_,_,⟨g',t',cs,fuel,p,q,hg',ht',hvar,hd,_,_⟩,_⟩,_⟩:=h;obtain rfl:=Option.some.inj (mo.symm.trans hg');obtain rfl:=Option.some.inj (oG.symm.trans ht');obtain ⟨y0,y1,y2,n,hx,hl,h0,h1,h2⟩:=Go.Deep.trod_struct3 Tryz.underlying183 hd;have c3:Tryz.prog.cellsOf 3=1:=by kernel_rfl
 have cs3:Tryz.prog.cellsOf 9=1:=by kernel_rfl
 have cf:Tryz.prog.cellsOf 183=3:=by kernel_rfl
 rw [cf] at hl;simp only [Rows.laid_davenport_vparse_none,Prod.mk.injEq,DataW.agg.injEq,List.cons.injEq,and_true] at hx;obtain ⟨l⟩:=cs
 match l,hl with
 |[a,b,c],_ =>
  have q0:=World.var?_cell mo hvar 0;have q1:=World.var?_cell mo hvar 1;have q2:=World.var?_cell mo hvar 2;simp at q0 q1 q2;obtain ⟨k0,e0,x0,_⟩:=DataW.trod_string Tryz.underlying9 h0;obtain ⟨k1,e1,x1,_⟩:=DataW.trod_int Tryz.underlying3 h1;obtain ⟨k2,e2,x2,_⟩:=DataW.trod_int Tryz.underlying3 h2;simp [c3,cs3] at e0 e1 e2;rw [x0,x1,x2] at hx;obtain ⟨z⟩:=k0;obtain ⟨z⟩:=z;simp at hx;obtain ⟨⟨rfl,rfl,rfl⟩,_⟩:=hx;refine ⟨hgok,?_,by rw [q0,e0],by rw [q1,e1],by rw [q2,e2]⟩;have:W.cell? ⟨0,0,none⟩≠none:=by rw [q0];simp
  rcases Nat.lt_or_ge 0 W.heap.size with hlt | hge
  ·exact hlt
  ·exact absurd (by unfold World.cell?;simp [Array.getElem?_eq_none hge]) this
noncomputable def gX (os:Os):World:=World.holding Tryz.prog os ⟨#[],#[],[]⟩
theorem sn (os:Os):laidMet Tryz.prog Rows.vevalMapsRow.laid ((gX os).forCall (λ _ _=>0) ⟨#[],#[.agg #[.slice none 0 0],.string ⟨#[]⟩,.agg #[.int .i64 0,.int .i64 0,.string ⟨#[]⟩,.slice none 0 0,.slice none 0 0]],[]⟩).memory :=
 laidMet_of_run' 8 (by kernel_rfl) (by kernel_rfl)
theorem vY (os:Os) {H:Type} (enc:TypeId × Value->H):∃ places,DataW.whole enc Tryz.prog ((gX os).forCall (λ _ _=>0) ⟨#[],#[.agg #[.slice none 0 0],.string ⟨#[]⟩,.agg #[.int .i64 0,.int .i64 0,.string ⟨#[]⟩,.slice none 0 0,.slice none 0 0]],[]⟩).memory Tryz.f4.params.toList Rows.vevalMapsSpec.vars false #[(.agg #[Value.slice none 0 0]),(Value.string ⟨#[]⟩),(.agg #[Value.int .i64 0,Value.int .i64 0,Value.string ⟨#[]⟩,Value.slice none 0 0,Value.slice none 0 0])].toList 8=some ([.agg [.nil],.lit (.string []),.agg [.lit (.int .i64 0),.lit (.int .i64 0),.lit (.string []),.nil,.nil]],[],places) :=
 ⟨[],by kernel_rfl⟩
theorem sD (H:Type) (enc:TypeId × Value->H) (W:World) (base:Nat) (args:Array Value) (ds gs:List (DataW H)) (before:List MemPlace)
  (hval:∀ (j:Nat) t v,Tryz.f4.params[j]? = some t->args[j]? = some v->Value.okWide Tryz.prog W .any base t v)
  (hW:DataW.Whole enc Tryz.prog Tryz.f4.params.toList Rows.vevalMapsSpec.vars false W args.toList ds gs before) (hL:laidMetH Tryz.prog Rows.vevalMapsRow.laid W) (hk:Rows.uptoSmall H (ds++gs)=true) :
  Calls Tryz.prog 4 args W λ e W' => ∃ v,e=.returned v/\Rows.vevalMapsSpec.post enc Tryz.prog Tryz.f4 false true false false W args v W':=by
 have hW':=hW;have hG:=goe hL;obtain ⟨p,q,hA0,hV,rfl,hfz,hnd⟩:=hW;have hA:DataW.TrodAll enc Tryz.prog W 0 (λ _=>true) true Tryz.f4.params.toList args.toList ds p:=hA0;rw [Tryz.params4] at hA hval;obtain ⟨v0,vs0,d0,ds0,p0,q0,hargs,rfl,rfl,h0,r0⟩:=trodAll_cons hA;obtain ⟨v1,vs1,d1,ds1,p1,q1,rfl,rfl,rfl,h1,r1⟩:=trodAll_cons r0;obtain ⟨v2,vs2,d2,ds2,p2,q2,rfl,rfl,rfl,h2,r2⟩:=trodAll_cons r1;obtain ⟨rfl,rfl,rfl⟩:=trodAll_nil r2;obtain rfl:args=#[v0,v1,v2]:=by cases args;simp_all
 obtain ⟨rfl,rfl⟩:=trodVars_none hV;have k0:=h0;have lt0:∀ x ∈ p0,x.block<W.heap.size:=by obtain ⟨m,hm⟩:=k0;exact DataW.trod_lt m _ _ _ hm
 obtain ⟨cs0,rfl,_⟩:=okWide_struct Tryz.underlying46 (hval 0 46 v0 rfl rfl);obtain ⟨a0,cap0,l0,hcs0,w0,b0,n0⟩:∃ A ca l,cs0.toList=[.slice A l.length ca]/\wG W A ca l/\(∀ v ∈ l,eV (Rows.uptoBulk d0) v)/\l.length<=Rows.uptoBulk d0:=by
  obtain ⟨fuel,hf⟩:=h0;obtain ⟨A,ca,css,l,hcs,g1,g2,g3,g4,g5,g6⟩:=qN hf;exact ⟨A,ca,l,by simpa [Value.cells] using hcs,⟨css,g1,g2,g3,g4⟩,g5,g6⟩
 obtain rfl:cs0=#[.slice a0 l0.length cap0]:=by obtain ⟨q⟩:=cs0;simp at hcs0;rw [hcs0]
 obtain ⟨s1,rfl,rfl,rfl,w1⟩:=open_string Tryz.underlying9 (hval 1 9 v1 rfl rfl) h1;have k2:=h2;have lt2:∀ x ∈ p2,x.block<W.heap.size:=by obtain ⟨m,hm⟩:=k2;exact DataW.trod_lt m _ _ _ hm
 obtain ⟨cs2,rfl,_⟩:=okWide_struct Tryz.underlying25 (hval 2 25 v2 rfl rfl);obtain ⟨x2,w2,i2,b2⟩:∃ x,VR W TT cs2.toList x/\inJ x/\cr x<=Rows.uptoBulk d2:=by
  obtain ⟨fuel,hf⟩:=h2;obtain ⟨x,h1,h2,h3⟩:=kD fuel _ _ hf;exact ⟨x,by simpa [Value.cells] using h1,h2,h3⟩
 have bulk9:=hk;unfold Rows.uptoSmall at bulk9;have bulk9:=of_decide_eq_true bulk9;simp only [List.append_nil,List.cons_append,List.nil_append,Rows.uptoBulkAll] at bulk9;clear hA0;refine (kM a0 cap0 l0 s1 cs2 x2 W hG w0 (λ v hv=>de (by omega) _ (b0 v hv)) (by omega) w1 w2 (au.of i2 (by omega))).mono λ e W' ⟨he,bel⟩=>?_
 subst he;exact ⟨_,rfl,_,_,_,[],_,[],hW',trodAll_mk1 (shut_bool Tryz.underlying4 _),(trodAll_cons_mk (Below.trod pZ (by kernel_rfl) (of_decide_eq_true (by kernel_rfl)) k0 bel lt0) (trodAll_cons_mk (shut_string Tryz.underlying9 w1) (trodAll_cons_mk (Below.trod pZ (by kernel_rfl) (of_decide_eq_true (by kernel_rfl)) k2 bel lt2) trodAll_mk0))),rfl,bel.frame _,λ h=>by cases h⟩
theorem uv (os:Os) (started:os.Started) (H:Type) (enc:TypeId × Value->H) (F:Stop.Interp) :
  ReturnsInHanded {} Tryz.checked os 4 .any ((Rows.OpenSpec.upto Rows.vevalMapsSpec).preRow enc Tryz.prog Tryz.f4 Rows.vevalMapsUptoRow.domain false Rows.vevalMapsUptoRow.laid) (((Rows.OpenSpec.upto Rows.vevalMapsSpec).at F).post enc Tryz.prog Tryz.f4 false true false false):=by
 obtain ⟨places,hx⟩:=vY os enc;refine returnsInHanded_of_row (C:=Tryz.checked) (s:=Rows.OpenSpec.upto Rows.vevalMapsSpec) own started (by kernel_rfl) Tryz.func4
  (witness_row_at (enc:=enc) (C:=Tryz.checked) false (gX os) #[.agg #[.slice none 0 0],.string ⟨#[]⟩,.agg #[.int .i64 0,.int .i64 0,.string ⟨#[]⟩,.slice none 0 0,.slice none 0 0]] rfl (by kernel_rfl) (by kernel_rfl) (by kernel_rfl)
   (OpenSpec.preRow_of_cond 8 hx (by kernel_rfl) (λ k hk=>by cases hk;kernel_rfl) (by kernel_rfl) (sn os))) ?_
 intro W base args ds gs before hval hW _ hcond _ hL _ _;exact sD H enc W base args ds gs before hval hW hL (hcond _ rfl)
theorem yj:Rows.VevalMapsUptoSaid :=
 OpenClaim.holds_of_cond 4 Tryz.f4 rfl rfl rfl rfl rfl rfl rfl ⟨rfl,rfl,rfl,rfl,rfl⟩ rfl rfl rfl rfl rfl (by kernel_rfl) Tryz.func4 (by kernel_rfl)
  (of_decide_eq_true (by kernel_rfl)) (by unfold Func.isWrapper;rw [if_neg (of_decide_eq_false (by kernel_rfl))];exact ⟨rfl,rfl⟩)
  (λ os started H enc _ F=>by rw [OpenClaim.pre_eq_preRow];exact uv os started H enc F)
theorem wU (f:FuncId) (fn:Func) (hf:Tryz.pinned.checked.prog.funcNamed "davenport/davenportlaw25.VevalMaps" = some f) (hfn:Tryz.pinned.checked.prog.funcs[f]? = some fn) :
  Rows.vevalMapsUptoCard.stood.looks=Tryz.pinned.checked.prog.looks []/\∀ (j:Nat) t,fn.params[j]? = some t->Tryz.pinned.checked.prog.wantsStandIn t=false:=by
 obtain rfl:f=4:=Option.some.inj ((show Tryz.prog.funcNamed "davenport/davenportlaw25.VevalMaps" = some 4 by kernel_rfl).symm.trans hf) |>.symm;obtain rfl:fn=Tryz.f4:=(Option.some.inj (Tryz.func4.symm.trans hfn)).symm;refine ⟨by kernel_rfl,λ j t ht=>?_⟩;rw [Tryz.params4] at ht;have hm:t ∈ [46,9,25]:=by simpa using Array.mem_of_getElem? ht
 have hall:([46,9,25].all λ u=>!Tryz.prog.wantsStandIn u)=true:=by kernel_rfl
 exact (show Tryz.prog.wantsStandIn t=false by simpa using List.all_eq_true.1 hall t hm)
/-- the card -/
theorem card:Rows.VevalMapsUptoCardSaid :=
 Claim7.holds_tied_plain_at .later [] _ _ _ _ yj (λ _ h=>by cases h) (by kernel_rfl) (λ _ h=>by cases h) vevalMapsUpto_row_tie rfl ⟨rfl,rfl⟩ (by kernel_rfl) rfl wU (by kernel_rfl)
end
end Go.Proofs.YtgolomgmnanbpaaGreatDoor.lawVevalMaps
