/- From a contract to a row that lists package variables. -/
import Derived.Test.YtkafbgdokgfjmaaGreatDoorM1
import Derived.Test.YtkafbgdokgfjmaaGreatDoorB4
import Derived.Test.YtkafbgdokgfjmaaGreatDoorRows
import Derived.ProofKit
import Derived.OpenShut
import Derived.LaidMore
import Derived.LaidLaws
import Derived.Lay
import Derived.Handed
import Derived.Shelf.Vars
import Derived.Stop.Joined
namespace Go.Proofs.YtkafbgdokgfjmaaGreatDoor
open Go.ChangeShapes Go.WideShapes Go.ChangeAt Go.RowKit
set_option linter.unusedVariables false
theorem change_both {H : Type} {enc : TypeId × Value → H} {a : Assume} {C : Checked} {os : Os} {f : FuncId} {fn : Func} {s : ChangeSpec} {conds : List PathCond} {apart fresh handsOn again : Bool} {X : World → Array Value → Prop}
    (hX : ∀ (w w' : World) (args : Array Value), w.heap = w'.heap → X w args → X w' args)
    (own : ownKnob C.prog.godebug = none) (started : os.Started) (noInit : C.prog.inits.idxOf? f = none) (hfn : C.prog.funcs[f]? = some fn)
    (witness : ∃ (w : World) (tape : Tape) (i : Input), w.os = os ∧ (w.forCall tape i).Shaped C.prog ∧ i.vars = [] ∧ Input.okWide C.prog (w.forCall tape i) .any w.heap.size f i ∧
      ((s.pre enc C.prog fn conds apart (w.forCall tape i).memory i.args ∧ X (w.forCall tape i).memory i.args) ∧ sizedMet enc C.prog fn (OpenSpec.ofChange s) apart (w.forCall tape i).memory i.args) ∧ a.holds C.prog (lone (Frame.enter C.prog f i.args .normal) [] (w.forCall tape i)))
    (contract : ∀ (W : World) (base : Nat) (args : Array Value) (ds gs : List (DataW H)) (before : List MemPlace),
      (∀ (j : Nat) t v, fn.params[j]? = some t → args[j]? = some v → Value.okWide C.prog W .any base t v) → DataW.Whole enc C.prog fn.params.toList s.vars apart W args.toList ds gs before → X W args → W.ShapedOpen C.prog →
      Calls C.prog f args W fun e W' => ∃ v, e = .returned v ∧ s.post enc C.prog fn apart fresh handsOn again W args v W') :
    ReturnsInHanded a C os f .any (fun w args => (s.pre enc C.prog fn conds apart w args ∧ X w args) ∧ sizedMet enc C.prog fn (OpenSpec.ofChange s) apart w args) (s.post enc C.prog fn apart fresh handsOn again) := by
  refine returnsInHanded_of_calls own started noInit witness fun w tape i _ hsh _ hok hpre _ => ?_
  obtain ⟨_, _, _, fn', hfn', _, _, _, _, hval⟩ := hok
  obtain rfl := Option.some.inj (hfn'.symm.trans hfn)
  obtain ⟨⟨⟨ds, gs, before, hw, _⟩, hx⟩, _⟩ := hpre
  exact (contract (w.forCall tape i) w.heap.size i.args ds gs before hval (DataW.Whole.of_heap (w' := w.forCall tape i) (by rfl) hw) (hX _ _ _ (by rfl) hx) hsh).mono fun e W' ⟨v, he, hp⟩ => by
    subst he
    exact ChangeSpec.post_blind hp
theorem cell_glob {w : World} {g : Nat} {v : Value} (h : w.cell? ⟨g, 0, none⟩ = some v) : 0 < Sb w g := (cell_Sb h).2
theorem gE0 : Tryz.prog.globalNamed "strconv.ErrSyntax" = some 0 := by kernel_rfl
theorem gE1 : Tryz.prog.globalNamed "strconv.ErrRange" = some 1 := by kernel_rfl
theorem err_cell {w : World} {n : String} {g g' t : Nat} {cs : Array Value} {fuel : Nat} {nm : String} {d : DataW Unit} {p : List MemPlace} {ms : Array (String × TypeId)} (hn : Tryz.prog.globalNamed n = some g') (hg : Tryz.prog.globalNamed n = some g) (ht : (Tryz.prog.globals[g]?).map (·.type) = some t) (hu : ∀ u, (Tryz.prog.globals[g']?).map (·.type) = some u → Tryz.prog.underlying u = some (.interface ms))
    (hv : w.var? Tryz.prog n = some cs) (hd : DataW.trod (fun _ => ()) Tryz.prog w 0 (fun _ => true) false fuel t cs.toList = some (.iface nm d, p)) : ∃ v, w.cell? ⟨g', 0, none⟩ = some v ∧ (v = .nilIface ∨ ∃ te pe, v = .iface te pe) := by
  obtain rfl := Option.some.inj (hn.symm.trans hg)
  obtain ⟨_, u, v, hcs, _, _⟩ := iface_of_trod (hu t ht) hd
  refine ⟨.iface u v, ?_, .inr ⟨u, v, rfl⟩⟩
  rw [World.var?_cell hg hv 0, ← Array.getElem?_toList, hcs]
  rfl
def laidL : List (String × DataW Unit) := Rows.addressFormatMatchesReferenceRow.laid
theorem gsOf {w : World} (h : laidMetH Tryz.prog laidL w) (hsh : w.ShapedOpen Tryz.prog) : Gs w (Sb w) := by
  rw [MakeChecks.laidMetH_plain _ _ _ (by kernel_rfl)] at h
  obtain ⟨ps, ⟨_, _, _, _, _, _, _, _, _, _, ⟨_, _, _, _, _, _, _, _, _, _, ⟨_, _, _, _, _, _, _, _, _, _, ⟨_, _, _, _, _, _, _, _, _, _, ⟨g5, t5, c5, n5, p5, q5, hg5, ht5, hv5, hd5, ⟨g6, t6, c6, n6, p6, q6, hg6, ht6, hv6, hd6, _, _⟩, _⟩, _⟩, _⟩, _⟩, _⟩, _, _⟩ := h
  have u1 : ∀ u, (Tryz.prog.globals[1]?).map (·.type) = some u → Tryz.prog.underlying u = some (.interface _) := fun u hu => by
    obtain rfl := Option.some.inj ((show (Tryz.prog.globals[1]?).map (·.type) = some 71 by kernel_rfl).symm.trans hu)
    exact Tryz.underlying71
  have u0 : ∀ u, (Tryz.prog.globals[0]?).map (·.type) = some u → Tryz.prog.underlying u = some (.interface _) := fun u hu => by
    obtain rfl := Option.some.inj ((show (Tryz.prog.globals[0]?).map (·.type) = some 71 by kernel_rfl).symm.trans hu)
    exact Tryz.underlying71
  obtain ⟨v1, hc1, hi1⟩ := err_cell gE1 hg5 ht5 u1 hv5 hd5
  obtain ⟨v0, hc0, hi0⟩ := err_cell gE0 hg6 ht6 u0 hv6 hd6
  obtain ⟨m, hm⟩ := cell_of_shapedOpen_int (P := Tryz.prog) (g := 2) (t := 3) (zero := #[.int .i64 0]) hsh (of_decide_eq_true (by kernel_rfl)) (by kernel_rfl) rfl (by kernel_rfl) (by kernel_rfl) Tryz.underlying3
  intro g hg
  change g ∈ [(0, _), (1, _), (2, _)] at hg
  simp only [List.mem_cons, List.not_mem_nil, or_false] at hg
  rcases hg with rfl | rfl | rfl
  · exact ⟨cell_glob hc0, _, hc0, hi0⟩
  · exact ⟨cell_glob hc1, _, hc1, hi1⟩
  · exact ⟨cell_glob hm, _, hm, _, rfl⟩
set_option maxRecDepth 100000 in
theorem laid_shaped (os : Os) (args : Array Value) : ((World.laidAll Tryz.prog os laidL).forCall (fun _ _ => 0) ⟨#[], args, []⟩).Shaped Tryz.prog :=
  World.shaped_of_ZipB (by kernel_rfl) (by kernel_rfl)
set_option maxRecDepth 100000 in
theorem laid_met (os : Os) (args : Array Value) : laidMetH Tryz.prog laidL ((World.laidAll Tryz.prog os laidL).forCall (fun _ _ => 0) ⟨#[], args, []⟩).memory := by
  rw [MakeChecks.laidMetH_plain _ _ _ (by kernel_rfl)]
  exact laidMet_laidAll _ (by kernel_rfl) (by kernel_rfl)
end Go.Proofs.YtkafbgdokgfjmaaGreatDoor
