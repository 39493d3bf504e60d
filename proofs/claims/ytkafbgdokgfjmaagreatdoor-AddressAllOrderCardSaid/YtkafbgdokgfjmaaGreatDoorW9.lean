/- The law AddressAllOrder returns true for every input, package variables starting as the program's text lays them. -/
import Derived.Test.YtkafbgdokgfjmaaGreatDoorRows
import Derived.Test.YtkafbgdokgfjmaaGreatDoorCards
import Derived.Test.YtkafbgdokgfjmaaGreatDoorTie
import Derived.Test.YtkafbgdokgfjmaaGreatDoorB4
import Derived.Test.YtkafbgdokgfjmaaGreatDoorZ16
import Derived.Test.YtkafbgdokgfjmaaGreatDoorZ23
import Derived.ProofKit
import Derived.OpenShut
import Derived.LaidMore
import Derived.Lay
import Derived.SevenTiedAt
import Derived.Stop.Joined
namespace Go.Proofs.YtkafbgdokgfjmaaGreatDoor.addressAllOrder
open Go.ChangeShapes Go.WideShapes Go.ChangeAt Go.RowKit
set_option linter.unusedVariables false

theorem own : ownKnob Tryz.prog.godebug = none := by kernel_rfl
theorem laidOut : laidOutB Tryz.prog = true := by kernel_rfl
theorem typesOk : ([34, 3, 3].all fun t => decide (t < Tryz.prog.types.size) && Tryz.prog.readableRec t) = true := by kernel_rfl
theorem typeOk : ∀ t ∈ ([34, 3, 3] : List TypeId), t < Tryz.prog.types.size ∧ Tryz.prog.readableRec t = true := fun t ht => by
  have := List.all_eq_true.1 typesOk t ht
  simpa using this

set_option maxHeartbeats 1000000 in
set_option maxRecDepth 100000 in
theorem lifted (os : Os) (started : os.Started) (H : Type) (enc : TypeId × Value → H) :
    ReturnsInHanded {} Tryz.checked os 9 .any (fun w args => (Rows.addressAllOrderSpec.pre enc Tryz.prog Tryz.f9 Rows.addressAllOrderRow.domain false w args ∧ laidMetH Tryz.prog laidL w) ∧ sizedMet enc Tryz.prog Tryz.f9 (OpenSpec.ofChange Rows.addressAllOrderSpec) false w args)
      (Rows.addressAllOrderSpec.post enc Tryz.prog Tryz.f9 false true false false) := by
  refine change_both (C := Tryz.checked) (X := fun w _ => laidMetH Tryz.prog laidL w) (fun _ _ _ hh h => h.of_heap hh) own started (by kernel_rfl) Tryz.func9
    (ChangeSpec.witness_shaped (enc := enc) (C := Tryz.checked) (os := os) (X := fun w _ => laidMetH Tryz.prog laidL w) false (World.laidAll Tryz.prog os laidL) #[.slice none 0 0, .int .i64 0, .int .i64 0] 8 (World.laidAll_os _ _ _)
      (laid_shaped os _) (by kernel_rfl) (by kernel_rfl) (by kernel_rfl) (laid_met os _)) ?_
  intro W base args ds gs before hval0 hW hL hsh
  have hval : ∀ (j : Nat) t v, Tryz.f9.params[j]? = some t → args[j]? = some v → Value.okWide Tryz.prog W .any base t v := hval0
  have hW' := hW
  obtain ⟨p, q, hA0, hV, rfl, hfz, hnd⟩ := hW
  have hA : DataW.TrodAll enc Tryz.prog W 0 (fun _ => true) true Tryz.f9.params.toList args.toList ds p := hA0
  rw [Tryz.params9] at hA hval
  obtain ⟨xs, hxs, hr⟩ := opn_args laidOut (fun t ht => (typeOk t ht).1) (fun j t v h1 h2 => hval j t v (by simpa using h1) (by simpa using h2)) hA
  obtain ⟨rfl, rfl⟩ := trodVars_none hV
  clear hA0 hval0
  have hc := bridge (lawA9 xs hxs) (sz_Sb W (gsOf hL hsh)) hr
  rw [Array.toArray_toList] at hc
  refine hc.mono fun e W' ⟨he, bel⟩ => ?_
  subst he
  obtain ⟨args⟩ := args
  have hB := shut_args laidOut bel typeOk hA
  have hlen : ds.length = 3 := args_len hA
  match ds, hlen, hB, hW' with
  | [d0, d1, d2], _, hB, hW' => exact ⟨_, rfl, _, _, _, [], _, [], hW', trodAll_mk1 (shut_bool Tryz.underlying4 _), hB, rfl, bel.frame _, fun h => by cases h⟩

theorem over : Rows.addressAllOrderRow.holds Tryz.pinned (OpenSpec.ofChange Rows.addressAllOrderSpec) :=
  OpenClaim.holds_of_wide 9 Tryz.f9 rfl rfl rfl rfl rfl rfl rfl ⟨rfl, rfl, rfl, rfl, rfl⟩ rfl rfl rfl rfl rfl (by kernel_rfl) Tryz.func9 (by kernel_rfl)
    (of_decide_eq_true (by kernel_rfl)) (by unfold Func.isWrapper; first | (rw [if_pos (by decide +kernel)]; kernel_rfl) | (rw [if_neg (by decide +kernel)]; exact ⟨rfl, rfl⟩))
    (fun os started H enc _ => lifted os started H enc)

theorem proved : Rows.AddressAllOrderCardSaid :=
  Claim7.holds_tied_plain_at .later [] [.data, .data, .data, .data, .sentinel, .sentinel, .pinned] true (true, "f162334dd48286d7735fc81a18d89f0e608178681e72d806cebf873503c62011") true over (fun _ h => by cases h) (by kernel_rfl) (fun _ h => by cases h) addressAllOrder_row_tie rfl ⟨rfl, rfl⟩ (by kernel_rfl) rfl
    (fun f fn hf hfn => by
      obtain rfl : f = 9 := Option.some.inj ((show Tryz.prog.funcNamed "copydesk/copydesklaw12.AddressAllOrder" = some 9 by kernel_rfl).symm.trans hf) |>.symm
      obtain rfl : fn = Tryz.f9 := (Option.some.inj (Tryz.func9.symm.trans hfn)).symm
      exact ⟨by kernel_rfl, fun j t ht => by
        rw [Tryz.params9] at ht
        have hm : t ∈ ([34, 3, 3] : List TypeId) := by simpa using Array.mem_of_getElem? ht
        have hall : (([34, 3, 3] : List TypeId).all fun u => !Tryz.prog.wantsStandIn u) = true := by kernel_rfl
        exact (show Tryz.prog.wantsStandIn t = false by simpa using List.all_eq_true.1 hall t hm)⟩)
    (by kernel_rfl)
end Go.Proofs.YtkafbgdokgfjmaaGreatDoor.addressAllOrder
