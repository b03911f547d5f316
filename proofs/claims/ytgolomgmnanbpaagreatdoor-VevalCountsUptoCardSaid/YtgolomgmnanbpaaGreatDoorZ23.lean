import Derived.Test.YtgolomgmnanbpaaGreatDoorZ22
namespace Go.Proofs.YtgolomgmnanbpaaGreatDoor
set_option linter.unusedVariables false
set_option linter.unusedSimpArgs false
open Go.RowKit
attribute [local go_sem] run_index_arr run_part_agg run_part_one run_field_agg
set_option maxRecDepth 100000 in
set_option maxHeartbeats 4000000 in
theorem lAsk (x : EJ) (cs : List Value) (env : List (List UInt8 × JV)) (ecs : List (List Value)) (EA : Option Addr) (n ec vb : Nat) (w : World) (hG : GOE w) (hx : ER w TT cs x) (hE : BnRs w TT ecs env) (hn : env.length = n) (hnc : n ≤ ec) (hR : RdF w TT EA ecs.flatten) (hl : n ≤ 4194304) (hcx : camE x) (hsx : smlE x) (hce : ∀ b ∈ env, Came b.2) (hvb : Blk w vb 29 #[.slice EA n ec]) :
    Calls Tryz.prog 27 #[.agg cs.toArray, .pointer (some ⟨vb, 0, none⟩)] w (BoP (isB (evalJ x env)) w) := by
  have HEV := Lib.hid (fun (W : World) (h : Below w.heap.size w W) => vEval x cs env ecs EA n ec W (hG.keep h) (hx.bel h) (RR.imp hE fun c y hc => hc.keep (KeepF.of_below h)) hn hnc (hR.keep (KeepF.of_below h)) hl hcx hsx hce)
  obtain ⟨k, k1, n1, s1, A1, na1, ca1, B1, nb1, cb1, s, A, nr, ca, rfl⟩ := hx.form
  have HH0 := Lib.hid ((Held.nil w).push 28 #[.int .i64 k, .int .i64 k1, .int .i64 n1, .string s1, .slice A1 na1 ca1, .slice B1 nb1 cb1, .string s, .slice A nr ca] (g := w.heap.size) rfl)
  have HVB := Lib.hid hvb
  obtain ⟨o, ho⟩ : ∃ o, evalJ x env = o := ⟨_, rfl⟩
  rw [ho] at HEV ⊢
  clear hG hx hE hn hR hcx hsx hce ho hvb
  obtain ⟨c0, f0, l0⟩ := HVB.out.rules
  go_enter Tryz.func27, Tryz.ntmps27
  go_wp2_with fail
  refine (HEV.out _ HH0.out.1).mono ?_
  rintro e w1 ⟨cs1, v, b, rfl, hv, hc, ho, hg, _, hb1⟩
  obtain ⟨vk, vn, vs, vkids, vkeys⟩ := v
  obtain ⟨VA, VB, va, vb2, vcss, rfl, _⟩ := hv.out
  have HH1 := Lib.hid ((HH0.out.keep hb1).push 25 #[.int .i64 vk, .int .i64 vn, .string ⟨vs.toArray⟩, .slice VA vkids.length va, .slice VB vkeys.length vb2] (g := w1.heap.size) rfl)
  have HO := Lib.hid ho
  clear hb1 c0 f0 l0 hv hc hg ho HEV
  obtain ⟨c1, f1, l1⟩ := HH1.out.b0.rules
  cases b
  · go_wp2
    go_quiet (fail)
    go_wp2
    go_ret2
    exact ⟨_, false, rfl, by rw [HO.out]; rfl, (HH1.out.drewN _).1⟩
  · by_cases h2 : vk = 2
    · have e2 : (vk == 2) = true := by simp [h2]
      have H2 := Lib.hid h2
      clear h2
      go_wp2
      go_quiet (fail)
      go_wp2
      go_ret2
      refine ⟨_, true, rfl, ?_, (HH1.out.drewN _).1⟩
      rw [HO.out]
      show (if vk = 2 then some (decide (vn = 1)) else none) = some (vn == 1)
      rw [if_pos H2.out]; rfl
    · have e2 : (vk == 2) = false := by simp [h2]
      have H2 := Lib.hid h2
      clear h2
      go_wp2
      go_quiet (fail)
      go_wp2
      go_ret2
      refine ⟨_, false, rfl, ?_, (HH1.out.drewN _).1⟩
      rw [HO.out]
      show (if vk = 2 then some (decide (vn = 1)) else none) = none
      rw [if_neg H2.out]
def aT : List UInt8 := [97]
def bT : List UInt8 := [98]
def env2 (v u : JV) : List (List UInt8 × JV) := [(aT, v), (bT, u)]
def xAB (k : Int) : EJ := xOf k [xName aT, xName bT]
def xBA (k : Int) : EJ := xOf k [xName bT, xName aT]
theorem eval_bad {x : EJ} {v u : JV} (h : ¬ (good v = true ∧ good u = true)) : evalJ x (env2 v u) = none := by
  unfold evalJ
  rw [if_neg]
  rintro ⟨_, h2⟩
  unfold env2 at h2
  simp only [List.all_cons, List.all_nil, Bool.and_true, Bool.and_eq_true] at h2
  exact h h2
theorem eval_ok {x : EJ} {v u : JV} (hv : good v = true) (hu : good u = true) (hf : fitE x) : evalJ x (env2 v u) = evE (env2 v u) x := by
  unfold evalJ
  rw [if_pos ⟨hf, by unfold env2; simp [hv, hu]⟩]
theorem ask_ab {v u : JV} (hv : good v = true) (hu : good u = true) : isB (evalJ (xAB 12) (env2 v u)) = some (decide (cmpJ v u < 0)) ∧ isB (evalJ (xAB 11) (env2 v u)) = some (decide (cmpJ v u = 0)) ∧ isB (evalJ (xAB 13) (env2 v u)) = some (decide (cmpJ v u ≤ 0)) ∧ isB (evalJ (xBA 12) (env2 v u)) = some (decide (cmpJ u v < 0)) := by
  rw [eval_ok hv hu (by decide), eval_ok hv hu (by decide), eval_ok hv hu (by decide), eval_ok hv hu (by decide)]
  have key : ∀ b : Bool, isB (some (jBool b)) = some b := fun b => by cases b <;> rfl
  refine ⟨?_, ?_, ?_, ?_⟩
  · exact key (decide (cmpJ v u < 0))
  · exact key (decide (cmpJ v u = 0))
  · exact key (decide (cmpJ v u ≤ 0))
  · exact key (decide (cmpJ u v < 0))
theorem ask_or {v u : JV} (hv : good v = true) (hu : good u = true) : isB (evalJ (xOf 15 [xAB 12, xAB 11]) (env2 v u)) = some (decide (cmpJ v u < 0) || decide (cmpJ v u = 0)) := by
  rw [eval_ok hv hu (by decide)]
  show isB (match isB (some (jBool (decide (cmpJ v u < 0)))) with | none => none | some t => if t = decide ((15 : Int) = 15) then some (jBool t) else (isB (some (jBool (decide (cmpJ v u = 0))))).map jBool) = _
  cases decide (cmpJ v u < 0) <;> cases decide (cmpJ v u = 0) <;> rfl
theorem ask_and {v u : JV} (hv : good v = true) (hu : good u = true) : isB (evalJ (xOf 14 [xAB 12, xAB 11]) (env2 v u)) = some (decide (cmpJ v u < 0) && decide (cmpJ v u = 0)) := by
  rw [eval_ok hv hu (by decide)]
  show isB (match isB (some (jBool (decide (cmpJ v u < 0)))) with | none => none | some t => if t = decide ((14 : Int) = 15) then some (jBool t) else (isB (some (jBool (decide (cmpJ v u = 0))))).map jBool) = _
  cases decide (cmpJ v u < 0) <;> cases decide (cmpJ v u = 0) <;> rfl
theorem ask_not {v u : JV} (hv : good v = true) (hu : good u = true) : isB (evalJ (xOf 5 [xBA 12]) (env2 v u)) = some (!decide (cmpJ u v < 0)) := by
  rw [eval_ok hv hu (by decide)]
  show isB ((isB (some (jBool (decide (cmpJ u v < 0))))).map fun b => jBool (!b)) = _
  cases decide (cmpJ u v < 0) <;> rfl
theorem three {v u : JV} (hv : good v = true) (hu : good u = true) : (cmpJ v u < 0 ∧ ¬ cmpJ u v < 0 ∧ ¬ cmpJ v u = 0 ∧ cmpJ v u ≤ 0) ∨ (¬ cmpJ v u < 0 ∧ cmpJ u v < 0 ∧ ¬ cmpJ v u = 0 ∧ ¬ cmpJ v u ≤ 0) ∨ (¬ cmpJ v u < 0 ∧ ¬ cmpJ u v < 0 ∧ cmpJ v u = 0 ∧ cmpJ v u ≤ 0) := by
  have h := cmpJ_anti (good_J hv).1 (good_J hu).1
  omega
theorem BoP.some_ {t : Bool} {w w' : World} {e : Ending} (h : BoP (some t) w e w') : e = .returned (.tuple #[.bool t, .bool true]) ∧ Below w.heap.size w w' := by
  obtain ⟨t', b, rfl, h1, h2⟩ := h
  cases b with
  | false => cases h1
  | true => rw [if_pos rfl] at h1; obtain rfl := Option.some.inj h1; exact ⟨rfl, h2⟩
theorem BoP.none__ {w w' : World} {e : Ending} (h : BoP none w e w') : ∃ t : Bool, e = .returned (.tuple #[.bool t, .bool false]) ∧ Below w.heap.size w w' := by
  obtain ⟨t', b, rfl, h1, h2⟩ := h
  cases b with
  | true => cases h1
  | false => exact ⟨t', rfl, h2⟩
end Go.Proofs.YtgolomgmnanbpaaGreatDoor
