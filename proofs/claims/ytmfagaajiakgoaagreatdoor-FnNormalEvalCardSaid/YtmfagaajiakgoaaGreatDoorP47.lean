/- PROVED: 'FnNormalEvalCardSaid': whatever the arguments, 'laws.FnNormalEval' returns true, and the arguments read behind the call as they read before. No conditions. -/
import Derived.Test.YtmfagaajiakgoaaGreatDoorG16
import Derived.Test.YtmfagaajiakgoaaGreatDoorTie
import Derived.Test.YtmfagaajiakgoaaGreatDoorCards
import Derived.ProofKit
import Derived.LaidMore
import Derived.OpenShut
import Derived.Stop.Joined
import Derived.SevenTiedAt

namespace Go.Proofs.YtmfagaajiakgoaaGreatDoor.fnNormalEval
open Go.ChangeShapes Go.WideShapes Go.ChangeAt Go.RowKit Go.ChangeMaps
set_option maxRecDepth 100000
set_option linter.unusedVariables false

theorem contract (H : Type) (enc : TypeId × Value → H) (W : World) (base : Nat) (args : Array Value) (ds gs : List (DataW H)) (before : List MemPlace)
    (hval : ∀ (j : Nat) t v, (Tryz.f9).params[j]? = some t → args[j]? = some v → Value.okWide Tryz.prog W .any base t v)
    (hX : laidMetH Tryz.prog Rows.fnNormalEvalRow.laid W)
    (hW : DataW.Whole enc Tryz.prog (Tryz.f9).params.toList Rows.fnNormalEvalSpec.vars false W args.toList ds gs before) :
    Calls Tryz.prog 9 args W fun e W' => ∃ v, e = .returned v ∧ Rows.fnNormalEvalSpec.post enc Tryz.prog Tryz.f9 false true false false W args v W' := by
  have hW' := hW
  obtain ⟨p, q, hA0, hV, rfl, _, _⟩ := hW
  have hA : DataW.TrodAll enc Tryz.prog W 0 (fun _ => true) true (Tryz.f9).params.toList args.toList ds p := hA0
  rw [Tryz.params9] at hA hval; obtain ⟨v0, vs0, d0, ds0, p0, q0, hargs, rfl, rfl, h0, r0⟩ := trodAll_cons hA; obtain ⟨rfl, rfl, rfl⟩ := trodAll_nil r0; obtain rfl : args = #[v0] := by cases args; simp_all
  obtain ⟨rfl, rfl⟩ := trodVars_none hV; obtain ⟨oa0, l0, c0, rfl, k0⟩ := Acs Tryz.underlying22 Tryz.underlying5 Af (hval 0 22 v0 rfl rfl) h0
  clear hA0
  exact Aa3 Ya hW' rfl rfl (tb := 4) Af Tryz.underlying4 (of_decide_eq_true Af) (Qm (Agz hX Af Af) k0 [])

theorem door_met (os : Os) (args : Array Value) : laidMetH Tryz.prog Rows.fnNormalEvalRow.laid ((World.doorLaid Tryz.prog 65 os).forCall (fun _ _ => 0) ⟨#[], args, []⟩).memory :=
  laidMetH_of_parts3 (fuel := 8) (laidMet_of_run' 8 Af Af) Af Af
set_option maxRecDepth 100000 in
theorem lifted (os : Os) (started : os.Started) (H : Type) (enc : TypeId × Value → H) :
    ReturnsInHanded {} Tryz.checked os 9 .any (fun w args => (Rows.fnNormalEvalSpec.pre enc Tryz.prog Tryz.f9 [] false w args ∧ laidMetH Tryz.prog Rows.fnNormalEvalRow.laid w) ∧ sizedMet enc Tryz.prog Tryz.f9 (OpenSpec.ofChange Rows.fnNormalEvalSpec) false w args)
      (Rows.fnNormalEvalSpec.post enc Tryz.prog Tryz.f9 false true false false) := by
  refine returnsInHanded_of_change_and (C := Tryz.checked) (X := fun w _ => laidMetH Tryz.prog Rows.fnNormalEvalRow.laid w) (fun _ _ _ hh h => h.of_heap hh) Af started Af Tryz.func9
    (ChangeSpec.witness_shaped (enc := enc) (C := Tryz.checked) (os := os) (X := fun w _ => laidMetH Tryz.prog Rows.fnNormalEvalRow.laid w) false (World.doorLaid Tryz.prog 65 os) #[.slice none 0 0] 8 rfl (World.shaped_of_RefB Af Af) Af Af Af (door_met os _)) ?_
  intro W base args ds gs before hval hW _ _ hX _
  exact contract H enc W base args ds gs before hval hX hW

theorem row : Rows.FnNormalEvalSaid :=
  OpenClaim.holds_of_wide 9 Tryz.f9 rfl rfl rfl rfl rfl rfl rfl ⟨rfl, rfl, rfl, rfl, rfl⟩ rfl rfl rfl rfl rfl Af Tryz.func9 Af
    (of_decide_eq_true Af) (by unfold Func.isWrapper; first | (rw [if_pos (by decide +kernel)]; kernel_rfl) | (rw [if_neg (by decide +kernel)]; exact ⟨rfl, rfl⟩))
    (fun os started H enc _ => lifted os started H enc)

theorem proved : Rows.FnNormalEvalCardSaid :=
  Claim7.holds_tied_plain_at .later [] Rows.fnNormalEvalCard.laidKinds true Rows.fnNormalEvalCard.stood.harness Rows.fnNormalEvalCard.stood.looks
    row (fun _ h => by cases h) Af (fun _ h => by cases h) fnNormalEval_row_tie rfl ⟨rfl, rfl⟩ Af rfl
    (fun f fn hf hfn => by
      obtain rfl : f = 9 := Option.some.inj ((show Tryz.prog.funcNamed "loop.example/typedassembly/laws.FnNormalEval" = some 9 by kernel_rfl).symm.trans hf) |>.symm
      obtain rfl : fn = Tryz.f9 := (Option.some.inj ((Tryz.func9).symm.trans hfn)).symm
      exact ⟨by kernel_rfl, fun j t ht => by
        rw [Tryz.params9] at ht
        have hall : ((Tryz.f9).params.toList.all fun u => !Tryz.prog.wantsStandIn u) = true := by kernel_rfl
        rw [Tryz.params9] at hall
        exact (show Tryz.prog.wantsStandIn t = false by simpa using List.all_eq_true.1 hall t (by simpa using Array.mem_of_getElem? ht))⟩)
    Af

#print axioms proved
end Go.Proofs.YtmfagaajiakgoaaGreatDoor.fnNormalEval
