/- newest. -/
import Derived.Test.YtgnclmmijijimaaT
import Derived.Test.YtgnclmmijijimaaA10
import Derived.Test.YtgnclmmijijimaaQ9
import Derived.Test.YtgnclmmijijimaaR4
import Derived.Test.YtgnclmmijijimaaS
namespace Go.Proofs.Ytgnclmmijijimaa
open Go.RowKit Go.Proofs
set_option linter.unusedSimpArgs false
set_option linter.unusedVariables false
set_option maxRecDepth 100000
set_option maxHeartbeats 4000000
open Go.Shelf
theorem cmpI_lt {x y : Int} : cmpI x y < 0 ↔ x < y := by unfold cmpI; split <;> (try split) <;> omega
theorem cmpI_eq {x y : Int} : cmpI x y = 0 ↔ x = y := by unfold cmpI; split <;> (try split) <;> omega
theorem cmpS_lt {s t : Sto} {a b : Int} : cmpS s a t b < 0 ↔ s.pu < t.pu ∨ s.pu = t.pu ∧ (s.id < t.id ∨ s.id = t.id ∧ a < b) := by
  unfold cmpS
  simp only [orI]
  split
  · rename_i h1
    have h1 := cmpI_eq.1 h1
    split
    · rename_i h2
      have h2 := cmpI_eq.1 h2
      split
      · rename_i h3
        have h3 := cmpI_eq.1 h3
        omega
      · have := @cmpI_lt a b; omega
    · rename_i h2
      have h2' : ¬ s.id = t.id := fun h => h2 (cmpI_eq.2 h)
      have := @cmpI_lt s.id t.id; omega
  · rename_i h1
    have h1' : ¬ s.pu = t.pu := fun h => h1 (cmpI_eq.2 h)
    have := @cmpI_lt s.pu t.pu; omega
/-- How stories are laid: the newest first. -/
def cmpP (x y : Sto × Nat) : Int := cmpS y.1 y.2 x.1 x.2
theorem cmpP_lt {x y : Sto × Nat} : cmpP x y < 0 ↔ y.1.pu < x.1.pu ∨ y.1.pu = x.1.pu ∧ (y.1.id < x.1.id ∨ y.1.id = x.1.id ∧ y.2 < x.2) := by
  unfold cmpP; rw [cmpS_lt]; omega
def insP : List (Sto × Nat) → Sto × Nat → List (Sto × Nat)
  | [], x => [x]
  | y :: r, x => if aheadB y.1 x.1 then x :: y :: r else y :: insP r x
theorem insP_map : ∀ (l : List (Sto × Nat)) (x : Sto × Nat), (insP l x).map (·.1) = insRev (l.map (·.1)) x.1
  | [], x => rfl
  | y :: r, x => by
    have := insP_map r x
    simp only [insP, List.map_cons, insRev]
    split
    · rfl
    · simp only [List.map_cons, this]
theorem insP_perm : ∀ (l : List (Sto × Nat)) (x : Sto × Nat), (insP l x).Perm (x :: l)
  | [], x => .refl _
  | y :: r, x => by
    have := insP_perm r x
    simp only [insP]
    split
    · exact .refl _
    · exact (this.cons y).trans (.swap x y r)
theorem insP_sorted : ∀ (l : List (Sto × Nat)) (x : Sto × Nat), (∀ y ∈ l, y.2 < x.2) → (l.Pairwise fun a b => cmpP a b < 0) → (insP l x).Pairwise fun a b => cmpP a b < 0
  | [], x, _, _ => by simp [insP]
  | y :: r, x, h, hp => by
    have hy := h y (by simp)
    rw [List.pairwise_cons] at hp
    simp only [insP]
    split
    · rename_i ha
      have hxy : cmpP x y < 0 := by
        rw [cmpP_lt]
        unfold aheadB at ha
        split at ha
        · simp at ha; omega
        · simp at ha; omega
      refine List.pairwise_cons.2 ⟨fun z hz => ?_, List.pairwise_cons.2 hp⟩
      rcases List.mem_cons.1 hz with rfl | hz
      · exact hxy
      · have h1 := hp.1 z hz
        rw [cmpP_lt] at hxy h1 ⊢
        omega
    · rename_i ha
      have hyx : cmpP y x < 0 := by
        rw [cmpP_lt]
        unfold aheadB at ha
        split at ha
        · simp at ha; omega
        · simp at ha; omega
      refine List.pairwise_cons.2 ⟨fun z hz => ?_, insP_sorted r x (fun y hy => h y (by simp [hy])) hp.2⟩
      rcases List.mem_cons.1 ((insP_perm r x).mem_iff.1 hz) with rfl | hz
      · exact hyx
      · exact hp.1 z hz
def newP (XS : List (Sto × Nat)) : List (Sto × Nat) := XS.foldl insP []
theorem foldP_perm : ∀ (XS acc : List (Sto × Nat)), (XS.foldl insP acc).Perm (XS ++ acc)
  | [], acc => .refl _
  | x :: XS, acc => by
    have h1 := foldP_perm XS (insP acc x)
    refine h1.trans (((insP_perm acc x).append_left XS).trans ?_)
    exact (List.perm_middle (a := x) (l₁ := XS) (l₂ := acc))
theorem foldP_sorted : ∀ (XS acc : List (Sto × Nat)), (∀ y ∈ acc, ∀ x ∈ XS, y.2 < x.2) → (XS.Pairwise fun a b => a.2 < b.2) → (acc.Pairwise fun a b => cmpP a b < 0) → (XS.foldl insP acc).Pairwise fun a b => cmpP a b < 0
  | [], acc, _, _, h => h
  | x :: XS, acc, h1, h2, h3 => by
    rw [List.pairwise_cons] at h2
    refine foldP_sorted XS _ (fun y hy z hz => ?_) h2.2 (insP_sorted acc x (fun y hy => h1 y hy x (by simp)) h3)
    rcases List.mem_cons.1 ((insP_perm acc x).mem_iff.1 hy) with rfl | hy
    · exact h2.1 z hz
    · exact h1 y hy z (by simp [hz])
theorem selF_ge {p : Sto → Int → Bool} : ∀ (L : List Sto) (i : Nat), ∀ x ∈ selF p i L, i ≤ x.2 ∧ x.1 ∈ L
  | [], i, x, h => by simp [selF] at h
  | s :: L, i, x, h => by
    have ih := selF_ge (p := p) L (i + 1) x
    unfold selF at h
    split at h
    · rcases List.mem_cons.1 h with rfl | h
      · exact ⟨Nat.le_refl _, by simp⟩
      · have := ih h; exact ⟨by omega, by simp [this.2]⟩
    · have := ih h; exact ⟨by omega, by simp [this.2]⟩
theorem selF_asc {p : Sto → Int → Bool} : ∀ (L : List Sto) (i : Nat), (selF p i L).Pairwise fun a b => a.2 < b.2
  | [], i => by simp [selF]
  | s :: L, i => by
    have ih := selF_asc (p := p) L (i + 1)
    unfold selF
    split
    · refine List.pairwise_cons.2 ⟨fun y hy => ?_, ih⟩
      have := (selF_ge L (i + 1) y hy).1
      show i < y.2
      omega
    · exact ih
theorem selF_len {p : Sto → Int → Bool} : ∀ (L : List Sto) (i : Nat), (selF p i L).length ≤ L.length
  | [], i => by simp [selF]
  | s :: L, i => by
    have ih := selF_len (p := p) L (i + 1)
    unfold selF
    split <;> simp <;> omega
theorem newP_len (XS : List (Sto × Nat)) : (newP XS).length = XS.length := by
  have := (foldP_perm XS []).length_eq
  simpa [newP] using this
/-- By index the same, so the same. -/
theorem asc_inj : ∀ {l : List (Sto × Nat)}, (l.Pairwise fun a b => a.2 < b.2) → ∀ x ∈ l, ∀ y ∈ l, x.2 = y.2 → x = y
  | [], _, x, hx, _, _, _ => by simp at hx
  | a :: l, hp, x, hx, y, hy, he => by
    rw [List.pairwise_cons] at hp
    rcases List.mem_cons.1 hx with h1 | h1 <;> rcases List.mem_cons.1 hy with h2 | h2
    · rw [h1, h2]
    · have := hp.1 y h2; rw [h1] at he; omega
    · have := hp.1 x h1; rw [h2] at he; omega
    · exact asc_inj hp.2 x h1 y h2 he
theorem asc_nodup {l : List (Sto × Nat)} (h : l.Pairwise fun a b => a.2 < b.2) : l.Nodup := h.imp fun {a b} h hab => by rw [hab] at h; omega
/-- newest's order is Oldest's from behind. -/
theorem foldP_map {v : List UInt8} : ∀ (L : List Sto) (i : Nat) (acc : List (Sto × Nat)), ((selF (fun s _ => hasB s v) i L).foldl insP acc).map (·.1) = L.foldl (newF v) (acc.map (·.1))
  | [], i, acc => rfl
  | s :: L, i, acc => by
    unfold selF
    simp only [List.foldl_cons, newF]
    by_cases h : (lstd s && hasB s v) = true
    · rw [if_pos h, if_pos h, List.foldl_cons, foldP_map L (i + 1), insP_map]
    · rw [if_neg h, if_neg h, foldP_map L (i + 1)]
theorem newP_map (v : List UInt8) (L : List Sto) : (newP (selF (fun s _ => hasB s v) 0 L)).map (·.1) = newL v L := foldP_map L 0 []
theorem sort60 (XS : List (Sto × Nat)) (hl : XS.length ≤ 1000000) (ha : XS.Pairwise fun a b => a.2 < b.2) : RCalls Try.prog 60 (.row 61 9 (XS.map qY)) [.raw (.func (.func 61) #[] #[])] (fun r y => r = .tup [] ∧ y = .row 61 9 ((newP XS).map qY)) := by
  refine sortFunc_list Try.laysSlF06_f60 9 (by decide) Try.isAgg61 Try.sizeOf61 ⟨_, _, Try.func60, rfl, by decide⟩ (enters_of Try.func61 (by kernel_rfl) rfl) XS (newP XS) qY cmpP (fun x _ => ⟨_, rfl, rfl⟩) hl ?_ ?_ ?_ (asc_nodup ha) ?_ ?_ ?_
  · intro x _; rw [cmpP_lt]; omega
  · intro x _ y _ z _ h1 h2
    rw [cmpP_lt] at h1 h2 ⊢
    omega
  · intro x hx y hy
    by_cases h1 : cmpP x y < 0
    · exact .inl h1
    by_cases h2 : cmpP y x < 0
    · exact .inr (.inr h2)
    refine .inr (.inl (asc_inj ha x hx y hy ?_))
    rw [cmpP_lt] at h1 h2
    omega
  · intro x _ y _
    exact newest61 x.1 y.1 x.2 y.2
  · have := foldP_perm XS []
    simpa [newP] using this
  · exact foldP_sorted XS [] (by simp) ha (by simp)
theorem newest32 (L : List Sto) (tm : List AV) (cs : List Cnd) (hl : L.length ≤ 1000000) (hs : ∀ s ∈ L, StOk s) (hcl : cs.length ≤ 1000000) (hc : ∀ c ∈ cs, CndOk c) : ACalls Try.prog 32 [stA L tm, .sl 1 (cs.map cloA)] (fun r => r = .own 61 9 ((newP (selF (holdsB cs) 0 L)).map qY)) := by
  simp only [stA]
  refine calls_short [(2,[100005],[]),(3,[5],[])] ttok hmix Try.func32 (by decide) (by decide +kernel) (by simp only [Try.f32, Option.bind_some, comp, cops, cguard, gslot, List.getElem?_toArray, List.getElem?_cons_succ, List.getElem?_cons_zero, vlook, tlook, cutAt_nil, cutAt, firstReg, isCut, mkSeq, Nat.reduceAdd, Nat.reduceEqDiff, reduceIte]; rfl) Try.ntmps32 Try.results32 ⟨_, rfl⟩ rfl ?_
  simp only [List.length_cons, List.length_nil, Nat.reduceAdd, Nat.reduceSub, List.replicate_succ, List.replicate_zero, List.cons_append, List.nil_append, num, str, tru]
  repeat' first | with_reducible refine asq_dmk (fun _ => ?_) (fun _ => ?_) | with_reducible refine asq_ndmk (fun _ => ?_) (fun _ => ?_) | with_reducible refine asq_nmk (fun _ => ?_) (fun _ => ?_) | with_reducible refine asq_mk (fun _ => ?_) (fun _ => ?_) | with_reducible refine asp_dmk (fun _ => ?_) (fun _ => ?_) | with_reducible refine asp_ndmk (fun _ => ?_) (fun _ => ?_) | with_reducible refine asp_nmk (fun _ => ?_) (fun _ => ?_) | with_reducible refine asp_mk (fun _ => ?_) (fun _ => ?_) | with_reducible refine And.intro (by first | omega | rfl | decide | with_unfolding_all rfl) ?_ | simp only [go_sem, Nat.reduceLT, Nat.reduceAdd, Nat.reduceSub, Nat.reduceMul, Nat.reduceLeDiff, ne_eq, Nat.reduceEqDiff, not_false_eq_true, Bool.and_true, Bool.true_and, Nat.succ_ne_self, and_true, Bool.not_true, Bool.not_false, Int.toNat_zero, Int.reduceToNat, Nat.mul_one, Int.toNat_one, decide_true, decide_false, Int.reduceEq, Int.cast_ofNat_Int, Bool.false_eq_true, Bool.not_true, Bool.not_false]
  refine ((each41 L tm cs).wk ?_).mono ?_
  · simp only [stA]
    repeat first | exact Wk.nil | exact Wk.refl _ | refine wk_agg ?_ ?_ | refine wk_ownsl ?_ | refine wk_nilsl ?_ | refine Wk.same ?_
  rintro r rfl
  simp only [stA]
  repeat' first | with_reducible refine asq_dmk (fun _ => ?_) (fun _ => ?_) | with_reducible refine asq_ndmk (fun _ => ?_) (fun _ => ?_) | with_reducible refine asq_nmk (fun _ => ?_) (fun _ => ?_) | with_reducible refine asq_mk (fun _ => ?_) (fun _ => ?_) | with_reducible refine asp_dmk (fun _ => ?_) (fun _ => ?_) | with_reducible refine asp_ndmk (fun _ => ?_) (fun _ => ?_) | with_reducible refine asp_nmk (fun _ => ?_) (fun _ => ?_) | with_reducible refine asp_mk (fun _ => ?_) (fun _ => ?_) | with_reducible refine And.intro (by first | omega | rfl | decide | with_unfolding_all rfl) ?_ | simp only [go_sem, Nat.reduceLT, Nat.reduceAdd, Nat.reduceSub, Nat.reduceMul, Nat.reduceLeDiff, ne_eq, Nat.reduceEqDiff, not_false_eq_true, Bool.and_true, Bool.true_and, Nat.succ_ne_self, and_true, Bool.not_true, Bool.not_false, Int.toNat_zero, Int.reduceToNat, Nat.mul_one, Int.toNat_one, decide_true, decide_false, Int.reduceEq, Int.cast_ofNat_Int, Bool.false_eq_true, Bool.not_true, Bool.not_false]
  refine (collect59 (selF (holdsB cs) 0 L) (by have := selF_len (p := holdsB cs) L 0; omega) (each64 L tm cs hl hs hcl hc)).mono ?_
  rintro r rfl
  repeat' first | with_reducible refine asq_dmk (fun _ => ?_) (fun _ => ?_) | with_reducible refine asq_ndmk (fun _ => ?_) (fun _ => ?_) | with_reducible refine asq_nmk (fun _ => ?_) (fun _ => ?_) | with_reducible refine asq_mk (fun _ => ?_) (fun _ => ?_) | with_reducible refine asp_dmk (fun _ => ?_) (fun _ => ?_) | with_reducible refine asp_ndmk (fun _ => ?_) (fun _ => ?_) | with_reducible refine asp_nmk (fun _ => ?_) (fun _ => ?_) | with_reducible refine asp_mk (fun _ => ?_) (fun _ => ?_) | with_reducible refine And.intro (by first | omega | rfl | decide | with_unfolding_all rfl) ?_ | simp only [go_sem, Nat.reduceLT, Nat.reduceAdd, Nat.reduceSub, Nat.reduceMul, Nat.reduceLeDiff, ne_eq, Nat.reduceEqDiff, not_false_eq_true, Bool.and_true, Bool.true_and, Nat.succ_ne_self, and_true, Bool.not_true, Bool.not_false, Int.toNat_zero, Int.reduceToNat, Nat.mul_one, Int.toNat_one, decide_true, decide_false, Int.reduceEq, Int.cast_ofNat_Int, Bool.false_eq_true, Bool.not_true, Bool.not_false]
  refine RCalls.mono (sort60 (selF (holdsB cs) 0 L) (by have := selF_len (p := holdsB cs) L 0; omega) (selF_asc L 0)) ?_
  rintro r y ⟨rfl, rfl⟩
  repeat' first | with_reducible refine asq_dmk (fun _ => ?_) (fun _ => ?_) | with_reducible refine asq_ndmk (fun _ => ?_) (fun _ => ?_) | with_reducible refine asq_nmk (fun _ => ?_) (fun _ => ?_) | with_reducible refine asq_mk (fun _ => ?_) (fun _ => ?_) | with_reducible refine asp_dmk (fun _ => ?_) (fun _ => ?_) | with_reducible refine asp_ndmk (fun _ => ?_) (fun _ => ?_) | with_reducible refine asp_nmk (fun _ => ?_) (fun _ => ?_) | with_reducible refine asp_mk (fun _ => ?_) (fun _ => ?_) | with_reducible refine And.intro (by first | omega | rfl | decide | with_unfolding_all rfl) ?_ | simp only [go_sem, Nat.reduceLT, Nat.reduceAdd, Nat.reduceSub, Nat.reduceMul, Nat.reduceLeDiff, ne_eq, Nat.reduceEqDiff, not_false_eq_true, Bool.and_true, Bool.true_and, Nat.succ_ne_self, and_true, Bool.not_true, Bool.not_false, Int.toNat_zero, Int.reduceToNat, Nat.mul_one, Int.toNat_one, decide_true, decide_false, Int.reduceEq, Int.cast_ofNat_Int, Bool.false_eq_true, Bool.not_true, Bool.not_false]
end Go.Proofs.Ytgnclmmijijimaa
