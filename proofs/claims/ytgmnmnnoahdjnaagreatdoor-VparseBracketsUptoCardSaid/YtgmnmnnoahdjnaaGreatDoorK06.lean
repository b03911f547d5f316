/- VparseBrackets holds: in every world that a call may begin in, at every argument of the bulk that the row asks, the call returns true and what it was given reads as before; the variable utf.none holds what its text lays. -/
import Derived.Test.YtgmnmnnoahdjnaaGreatDoorCards
import Derived.Test.YtgmnmnnoahdjnaaGreatDoorTie
import Derived.ShutString
import Derived.Deep.DeepHandedRow
import Derived.Lib.LaidTab
import Derived.Test.YtgmnmnnoahdjnaaGreatDoorK05
set_option maxRecDepth 100000
set_option maxHeartbeats 16000000
set_option linter.unusedVariables false
set_option linter.unusedSimpArgs false
namespace Go.Proofs.YtgmnmnnoahdjnaaGreatDoor.lawVparseBrackets
section
open Go.ChangeShapes Go.WideShapes Go.ChangeAt Go.RowKit
open Go.ChangeMaps (open_string shut_string)
theorem own:ownKnob Tryz.prog.godebug=none:=by kernel_rfl
theorem vK:laidOutB Tryz.prog=true:=by kernel_rfl
theorem tQ:Tryz.prog.globalNamed "davenport/utf.none" = some 1:=by kernel_rfl
theorem sh:(Tryz.prog.globals[1]?).map (·.type)=some 271:=by kernel_rfl
theorem gok {W:World} (h:laidMetH Tryz.prog Rows.vparseBracketsRow.laid W):GOK W:=by
 rw [MakeChecks.laidMetH_plain _ _ _ (by kernel_rfl)] at h;obtain ⟨ps,⟨g',t',cs,fuel,p,q,hg',ht',hvar,hd,_,_⟩,_⟩:=h;obtain rfl:=Option.some.inj (tQ.symm.trans hg');obtain rfl:=Option.some.inj (sh.symm.trans ht');obtain ⟨y0,y1,n,hx,hl,h0,h1⟩:=trod_struct2 Tryz.underlying271 hd;have c3:Tryz.prog.cellsOf 3=1:=by kernel_rfl
 have cf:Tryz.prog.cellsOf 271=2:=by kernel_rfl
 rw [cf] at hl;simp only [Rows.laid_davenport_utf_none,Prod.mk.injEq,DataW.agg.injEq,List.cons.injEq,and_true] at hx;obtain ⟨l⟩:=cs
 match l,hl with
 |[a,b],_ =>
  have q0:=World.var?_cell tQ hvar 0;have q1:=World.var?_cell tQ hvar 1;simp at q0 q1;obtain ⟨k0,e0,x0,_⟩:=DataW.trod_int Tryz.underlying3 h0;obtain ⟨k1,e1,x1,_⟩:=DataW.trod_int Tryz.underlying3 h1;simp [c3] at e0 e1;rw [x0,x1] at hx;simp at hx;obtain ⟨⟨rfl,rfl⟩,_⟩:=hx;refine ⟨?_,by rw [q0,e0],by rw [q1,e1]⟩;have:W.cell? ⟨1,0,none⟩≠none:=by rw [q0];simp
  rcases Nat.lt_or_ge 1 W.heap.size with hlt | hge
  ·exact hlt
  ·exact absurd (by unfold World.cell?;simp [Array.getElem?_eq_none hge]) this
theorem nX:Tryz.prog.globalNamed "davenport/vparse.none" = some 0:=by kernel_rfl
theorem qz:(Tryz.prog.globals[0]?).map (·.type)=some 154:=by kernel_rfl
theorem goe {W:World} (h:laidMetH Tryz.prog Rows.vparseBracketsRow.laid W):GOE W:=by
 have hgok:=gok h;rw [MakeChecks.laidMetH_plain _ _ _ (by kernel_rfl)] at h;obtain ⟨ps,⟨_,_,_,_,_,q1,_,_,_,_,⟨g',t',cs,fuel,p,q,hg',ht',hvar,hd,_,_⟩,_⟩,_⟩:=h;obtain rfl:=Option.some.inj (nX.symm.trans hg');obtain rfl:=Option.some.inj (qz.symm.trans ht');obtain ⟨y0,y1,y2,n,hx,hl,h0,h1,h2⟩:=Go.Deep.trod_struct3 Tryz.underlying154 hd;have c3:Tryz.prog.cellsOf 3=1:=by kernel_rfl
 have cs3:Tryz.prog.cellsOf 9=1:=by kernel_rfl
 have cf:Tryz.prog.cellsOf 154=3:=by kernel_rfl
 rw [cf] at hl;simp only [Rows.laid_davenport_vparse_none,Prod.mk.injEq,DataW.agg.injEq,List.cons.injEq,and_true] at hx;obtain ⟨l⟩:=cs
 match l,hl with
 |[a,b,c],_ =>
  have q0:=World.var?_cell nX hvar 0;have q1:=World.var?_cell nX hvar 1;have q2:=World.var?_cell nX hvar 2;simp at q0 q1 q2;obtain ⟨k0,e0,x0,_⟩:=DataW.trod_string Tryz.underlying9 h0;obtain ⟨k1,e1,x1,_⟩:=DataW.trod_int Tryz.underlying3 h1;obtain ⟨k2,e2,x2,_⟩:=DataW.trod_int Tryz.underlying3 h2;simp [c3,cs3] at e0 e1 e2;rw [x0,x1,x2] at hx;obtain ⟨z⟩:=k0;obtain ⟨z⟩:=z;simp at hx;obtain ⟨⟨rfl,rfl,rfl⟩,_⟩:=hx;refine ⟨hgok,?_,by rw [q0,e0],by rw [q1,e1],by rw [q2,e2]⟩;have:W.cell? ⟨0,0,none⟩≠none:=by rw [q0];simp
  rcases Nat.lt_or_ge 0 W.heap.size with hlt | hge
  ·exact hlt
  ·exact absurd (by unfold World.cell?;simp [Array.getElem?_eq_none hge]) this
noncomputable def j0 (os:Os):World:=World.holding Tryz.prog os ⟨#[],#[],[]⟩
theorem ua (os:Os):laidMet Tryz.prog Rows.vparseBracketsRow.laid ((j0 os).forCall (fun _ _=>0) ⟨#[],#[.agg #[.int .i64 0,.int .i64 0,.int .i64 0,.string ⟨#[]⟩,.slice none 0 0,.slice none 0 0,.string ⟨#[]⟩,.slice none 0 0],.int .i64 0],[]⟩).memory :=
 laidMet_of_run' 8 (by kernel_rfl) (by kernel_rfl)
theorem yP (os:Os) {H:Type} (enc:TypeId × Value→H):∃ places,DataW.whole enc Tryz.prog ((j0 os).forCall (fun _ _=>0) ⟨#[],#[.agg #[.int .i64 0,.int .i64 0,.int .i64 0,.string ⟨#[]⟩,.slice none 0 0,.slice none 0 0,.string ⟨#[]⟩,.slice none 0 0],.int .i64 0],[]⟩).memory Tryz.f8.params.toList Rows.vparseBracketsSpec.vars false #[(.agg #[Value.int .i64 0,Value.int .i64 0,Value.int .i64 0,Value.string ⟨#[]⟩,Value.slice none 0 0,Value.slice none 0 0,Value.string ⟨#[]⟩,Value.slice none 0 0]),(Value.int .i64 0)].toList 8=some ([.agg [.lit (.int .i64 0),.agg [.lit (.int .i64 0),.lit (.int .i64 0),.lit (.string []),.nil,.nil],.lit (.string []),.nil],.lit (.int .i64 0)],[],places) :=
 ⟨[],by kernel_rfl⟩
theorem tF (H:Type) (enc:TypeId × Value→H) (W:World) (base:Nat) (args:Array Value) (ds gs:List (DataW H)) (before:List MemPlace)
  (hval:∀ (j:Nat) t v,Tryz.f8.params[j]? = some t→args[j]? = some v→Value.okWide Tryz.prog W .any base t v)
  (hW:DataW.Whole enc Tryz.prog Tryz.f8.params.toList Rows.vparseBracketsSpec.vars false W args.toList ds gs before) (hL:laidMetH Tryz.prog Rows.vparseBracketsRow.laid W) (hk:Rows.uptoSmall H (ds++gs)=true) :
  Calls Tryz.prog 8 args W fun e W' => ∃ v,e=.returned v∧Rows.vparseBracketsSpec.post enc Tryz.prog Tryz.f8 false true false false W args v W':=by
 have hW':=hW;have hG:=goe hL;obtain ⟨p,q,hA0,hV,rfl,hfz,hnd⟩:=hW;have hA:DataW.TrodAll enc Tryz.prog W 0 (fun _=>true) true Tryz.f8.params.toList args.toList ds p:=hA0;rw [Tryz.params8] at hA hval;obtain ⟨v0,vs0,d0,ds0,p0,q0,hargs,rfl,rfl,h0,r0⟩:=trodAll_cons hA;obtain ⟨v1,vs1,d1,ds1,p1,q1,rfl,rfl,rfl,h1,r1⟩:=trodAll_cons r0;obtain ⟨rfl,rfl,rfl⟩:=trodAll_nil r1;obtain rfl:args=#[v0,v1]:=by cases args;simp_all
 obtain ⟨rfl,rfl⟩:=trodVars_none hV;have k0:=h0;have lt0:∀ x ∈ p0,x.block<W.heap.size:=by obtain ⟨m,hm⟩:=k0;exact DataW.trod_lt m _ _ _ hm
 obtain ⟨cs0,rfl,_⟩:=okWide_struct Tryz.underlying45 (hval 0 45 v0 rfl rfl);obtain ⟨x0,w0,b0,m0⟩:∃ x,ER W TT cs0.toList x∧j2 (Rows.uptoBulk d0) x∧ff x≤Rows.uptoBulk d0:=by
  obtain ⟨fuel,hf⟩:=h0;obtain ⟨x,h1,h2,h3⟩:=m7 fuel _ _ hf;exact ⟨x,by simpa [Value.cells] using h1,h2,h3⟩
 obtain ⟨s1,rfl,rfl,rfl,w1⟩:=open_int Tryz.underlying3 (hval 1 3 v1 rfl rfl) h1;have bulk9:=hk;unfold Rows.uptoSmall at bulk9;have bulk9:=of_decide_eq_true bulk9;simp only [List.append_nil,List.cons_append,List.nil_append,Rows.uptoBulkAll] at bulk9;clear hA0;refine (zp cs0 x0 s1 W hG w0 (ed (by omega) _ b0) (by omega) w1).mono fun e W' ⟨he,bel⟩=>?_
 subst he;exact ⟨_,rfl,_,_,_,[],_,[],hW',trodAll_mk1 (shut_bool Tryz.underlying4 _),(trodAll_cons_mk (Below.trod vK (by kernel_rfl) (of_decide_eq_true (by kernel_rfl)) k0 bel lt0) (trodAll_cons_mk (shut_int Tryz.underlying3 w1) trodAll_mk0)),rfl,bel.frame _,fun h=>by cases h⟩
theorem xw (os:Os) (started:os.Started) (H:Type) (enc:TypeId × Value→H) (F:Stop.Interp) :
  ReturnsInHanded {} Tryz.checked os 8 .any ((Rows.OpenSpec.upto Rows.vparseBracketsSpec).preRow enc Tryz.prog Tryz.f8 Rows.vparseBracketsUptoRow.domain false Rows.vparseBracketsUptoRow.laid) (((Rows.OpenSpec.upto Rows.vparseBracketsSpec).at F).post enc Tryz.prog Tryz.f8 false true false false):=by
 obtain ⟨places,hx⟩:=yP os enc;refine returnsInHanded_of_row (C:=Tryz.checked) (s:=Rows.OpenSpec.upto Rows.vparseBracketsSpec) own started (by kernel_rfl) Tryz.func8
  (witness_row_at (enc:=enc) (C:=Tryz.checked) false (j0 os) #[.agg #[.int .i64 0,.int .i64 0,.int .i64 0,.string ⟨#[]⟩,.slice none 0 0,.slice none 0 0,.string ⟨#[]⟩,.slice none 0 0],.int .i64 0] rfl (by kernel_rfl) (by kernel_rfl) (by kernel_rfl)
   (OpenSpec.preRow_of_cond 8 hx (by kernel_rfl) (fun k hk=>by cases hk;kernel_rfl) (by kernel_rfl) (ua os))) ?_
 intro W base args ds gs before hval hW _ hcond _ hL _ _;exact tF H enc W base args ds gs before hval hW hL (hcond _ rfl)
theorem zm:Rows.VparseBracketsUptoSaid :=
 OpenClaim.holds_of_cond 8 Tryz.f8 rfl rfl rfl rfl rfl rfl rfl ⟨rfl,rfl,rfl,rfl,rfl⟩ rfl rfl rfl rfl rfl (by kernel_rfl) Tryz.func8 (by kernel_rfl)
  (of_decide_eq_true (by kernel_rfl)) (by unfold Func.isWrapper;rw [if_neg (of_decide_eq_false (by kernel_rfl))];exact ⟨rfl,rfl⟩)
  (fun os started H enc _ F=>by rw [OpenClaim.pre_eq_preRow];exact xw os started H enc F)
theorem yM (f:FuncId) (fn:Func) (hf:Tryz.pinned.checked.prog.funcNamed "davenport/davenportlaw23.VparseBrackets" = some f) (hfn:Tryz.pinned.checked.prog.funcs[f]? = some fn) :
  Rows.vparseBracketsUptoCard.stood.looks=Tryz.pinned.checked.prog.looks []∧∀ (j:Nat) t,fn.params[j]? = some t→Tryz.pinned.checked.prog.wantsStandIn t=false:=by
 obtain rfl:f=8:=Option.some.inj ((show Tryz.prog.funcNamed "davenport/davenportlaw23.VparseBrackets" = some 8 by kernel_rfl).symm.trans hf) |>.symm;obtain rfl:fn=Tryz.f8:=(Option.some.inj (Tryz.func8.symm.trans hfn)).symm;refine ⟨by kernel_rfl,fun j t ht=>?_⟩;rw [Tryz.params8] at ht;have hm:t ∈ [45,3]:=by simpa using Array.mem_of_getElem? ht
 have hall:([45,3].all fun u=>!Tryz.prog.wantsStandIn u)=true:=by kernel_rfl
 exact (show Tryz.prog.wantsStandIn t=false by simpa using List.all_eq_true.1 hall t hm)
/-- the card -/
theorem card:Rows.VparseBracketsUptoCardSaid :=
 Claim7.holds_tied_plain_at .later [] _ _ _ _ zm (fun _ h=>by cases h) (by kernel_rfl) (fun _ h=>by cases h) vparseBracketsUpto_row_tie rfl ⟨rfl,rfl⟩ (by kernel_rfl) rfl yM (by kernel_rfl)
end
end Go.Proofs.YtgmnmnnoahdjnaaGreatDoor.lawVparseBrackets
