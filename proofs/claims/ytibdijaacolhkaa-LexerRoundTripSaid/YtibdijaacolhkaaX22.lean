/- Tags built out of pieces. -/
import Derived.Test.YtibdijaacolhkaaT
import Derived.Test.YtibdijaacolhkaaA10
import Derived.Test.YtibdijaacolhkaaX21
namespace Go.Proofs.Ytibdijaacolhkaa
open Go.RowKit Go.Proofs
set_option linter.unusedSimpArgs false
set_option linter.unusedVariables false
set_option maxRecDepth 100000
set_option maxHeartbeats 4000000
def SepC (last : Int) (c : UInt8) : Prop := (last = 2 → nmI (c.toNat : Int) = false) ∧ (last = 3 → digI (c.toNat : Int) = false) ∧ (last = 6 → lb c = false)
instance (l : Int) (c : UInt8) : Decidable (SepC l c) := by unfold SepC; infer_instance
def Sep (last : Int) (u : List UInt8) : Prop := ∀ c r, u = c :: r → SepC last c
theorem sep_nil (last : Int) : Sep last [] := fun c r h => by cases h
theorem sep_cons {last : Int} {c : UInt8} {r : List UInt8} (h : SepC last c) : Sep last (c :: r) := fun d r' e => by injection e with e1 _; exact e1 ▸ h
theorem sepC_wsp {last : Int} {c : UInt8} (h : wsp c = true) : SepC last c := by
  simp only [wsp, Bool.or_eq_true, decide_eq_true_eq] at h
  rcases h with h | h
  · refine ⟨fun _ => by rw [h]; decide, fun _ => by rw [h]; decide, fun _ => by rw [lb, h]; decide⟩
  · refine ⟨fun _ => by rw [h]; decide, fun _ => by rw [h]; decide, fun _ => by rw [lb, h]; decide⟩
theorem runI_app {p : Int → Bool} : ∀ (t rest : List UInt8), (∀ c ∈ t, p (c.toNat : Int) = true) → (∀ c r, rest = c :: r → p (c.toNat : Int) = false) → runI p (t ++ rest) = t.length
  | [], [], _, _ => rfl
  | [], c :: r, _, h => by simp [runI, h c r rfl]
  | d :: t, rest, h1, h2 => by
    have := runI_app t rest (fun c hc => h1 c (by simp [hc])) h2
    simp only [List.cons_append, runI, h1 d (by simp), if_true, this, List.length_cons]
/-- A piece of a tag: what stands in the source for the token (k, t). -/
def Piece (k : Int) (t p : List UInt8) : Prop := (∃ c r, p = c :: r ∧ (k = 2 ∨ k = 3 ∨ SepC 2 c) ∧ (k = 2 ∨ k = 3 ∨ SepC 3 c) ∧ SepC 6 c) ∧ ∀ (rest : List UInt8) (b x : Nat), Sep k rest → sc (p ++ rest) b (some x) = ⟨k, t, b⟩ :: sc rest (b + p.length) (some x)
theorem piece_of {k : Int} {t : List UInt8} {c : UInt8} {r : List UInt8} (h7 : ¬ k = 7) (hw : wsp c = false) (h6 : SepC 6 c) (h2 : k = 2 ∨ k = 3 ∨ SepC 2 c) (h3 : k = 2 ∨ k = 3 ∨ SepC 3 c)
    (h : ∀ rest, Sep k rest → partL (c :: r ++ rest) = some (k, t, (c :: r).length)) : Piece k t (c :: r) := by
  refine ⟨⟨c, r, rfl, h2, h3, h6⟩, fun rest b x hs => ?_⟩
  have := h rest hs
  rw [List.cons_append] at this ⊢
  rw [sc_tok hw this, if_neg h7, ← List.cons_append, List.drop_left]
theorem piece_name {w : List UInt8} (h : wordN w) : Piece 2 w w := by
  obtain ⟨b, rfl, hb, hl⟩ := h
  refine piece_of (by decide) (by decide) (by decide) (.inl rfl) (.inl rfl) fun rest hs => ?_
  have hr : runI nmI (110 :: b ++ rest) = (110 :: b).length := runI_app _ _ (fun c hc => by
    rcases List.mem_cons.1 hc with rfl | hc
    · decide
    · exact hb c hc) (fun c r e => (hs c r e).1 rfl)
  have h1 : ltrI ((110 : UInt8).toNat : Int) = true := by decide
  rw [List.cons_append] at hr ⊢
  simp only [partL, h1, if_true, hr]
  rw [if_neg (by simp; omega), ← List.cons_append, List.take_left]
theorem piece_num {w : List UInt8} (h : wordD w) : Piece 3 w w := by
  obtain ⟨b, rfl, hb, hl⟩ := h
  refine piece_of (by decide) (by decide) (by decide) (.inr (.inl rfl)) (.inr (.inl rfl)) fun rest hs => ?_
  have hr : runI digI (55 :: b ++ rest) = (55 :: b).length := runI_app _ _ (fun c hc => by
    rcases List.mem_cons.1 hc with rfl | hc
    · decide
    · exact hb c hc) (fun c r e => (hs c r e).2.1 rfl)
  have h1 : ltrI ((55 : UInt8).toNat : Int) = false := by decide
  have h2 : digI ((55 : UInt8).toNat : Int) = true := by decide
  have h3 : ¬ ((55 : UInt8).toNat : Int) = 48 := by decide
  rw [List.cons_append] at hr ⊢
  simp only [partL, h1, h2, if_true, Bool.false_eq_true, if_false, hr]
  rw [if_neg (by simp only [h3, and_false, or_false, List.length_cons]; omega), ← List.cons_append, List.take_left]
theorem piece_str {w : List UInt8} (h : wordS w) : Piece 4 w (34 :: (w ++ [34])) := by
  obtain ⟨hb, hl⟩ := h
  refine piece_of (by decide) (by decide) (by decide) (.inr (.inr (by decide))) (.inr (.inr (by decide))) fun rest hs => ?_
  have hr : runI stI (w ++ (34 :: rest)) = w.length := runI_app _ _ hb (fun c r e => by injection e with e1 _; subst e1; decide)
  have h1 : ltrI 34 = false := by decide
  have h2 : digI 34 = false := by decide
  have e : 34 :: (w ++ [34]) ++ rest = 34 :: (w ++ (34 :: rest)) := by simp
  rw [e]
  simp [partL, h1, h2, hr, List.drop_left, List.take_left]
theorem piece_pipe : Piece 5 [124] [124] := by
  refine piece_of (by decide) (by decide) (by decide) (.inr (.inr (by decide))) (.inr (.inr (by decide))) fun rest hs => ?_
  have h1 : ltrI 124 = false := by decide
  have h2 : digI 124 = false := by decide
  simp [partL, h1, h2]
theorem sc_gap : ∀ (g u : List UInt8) (a x : Nat), (∀ c ∈ g, wsp c = true) → sc (g ++ u) a (some x) = sc u (a + g.length) (some x)
  | [], u, a, x, _ => by simp
  | c :: g, u, a, x, h => by
    rw [List.cons_append, sc_ws (h c (by simp)), sc_gap g u (a + 1) x (fun d hd => h d (by simp [hd]))]
    congr 1; simp only [List.length_cons]; omega
/-- The beginning s of a tag that stands at a, with the tokens l, the last of the kind last. -/
def TagInv (a : Nat) (s : List UInt8) (l : List Tk) (last : Int) : Prop := ∀ rest, Sep last rest → opn (s ++ rest) = true ∧ sc (s ++ rest) a none = l ++ sc rest (a + s.length) (some a)
theorem tag_open (a : Nat) : TagInv a [123] [⟨6, [123], a⟩] 6 := fun rest hs => by
  have ho : opn ([123] ++ rest) = true := by
    cases rest with
    | nil => decide
    | cons c r =>
      have := (hs c r rfl).2.2 rfl
      simp only [List.cons_append, List.nil_append, opn, this]
      decide
  refine ⟨ho, ?_⟩
  rw [List.cons_append, List.nil_append] at ho ⊢
  rw [sc_opn ho]; rfl
theorem gap_sep {last : Int} {g u : List UInt8} (hg : ∀ c ∈ g, wsp c = true) (h : g = [] → Sep last u) : Sep last (g ++ u) := by
  cases g with
  | nil => exact h rfl
  | cons c g => exact sep_cons (sepC_wsp (hg c (by simp)))
theorem tag_step {a : Nat} {s g p t : List UInt8} {l : List Tk} {last k : Int} (h : TagInv a s l last) (hg : ∀ c ∈ g, wsp c = true) (hl : last = 2 ∨ last = 3 ∨ last = 4 ∨ last = 5 ∨ last = 6)
    (hsep : g = [] → ((last = 2 ∨ last = 3) ∧ (k = 2 ∨ k = 3)) → False) (hp : Piece k t p) : TagInv a (s ++ g ++ p) (l ++ [⟨k, t, a + (s ++ g).length⟩]) k := fun rest hs => by
  obtain ⟨⟨c, r, hc, q2, q3, q6⟩, hsc⟩ := hp
  have hsp : Sep last (g ++ (p ++ rest)) := gap_sep hg fun hg0 => by
    have hno := hsep hg0
    rw [hc]
    refine sep_cons ?_
    have z2 := q2
    have z3 := q3
    refine ⟨fun e => ?_, fun e => ?_, fun e => q6.2.2 rfl⟩
    · rcases q2 with q | q | q
      · exact absurd ⟨.inl e, .inl q⟩ hno
      · exact absurd ⟨.inl e, .inr q⟩ hno
      · exact q.1 rfl
    · rcases q3 with q | q | q
      · exact absurd ⟨.inr e, .inl q⟩ hno
      · exact absurd ⟨.inr e, .inr q⟩ hno
      · exact q.2.1 rfl
  obtain ⟨h1, h2⟩ := h _ hsp
  have e : s ++ g ++ p ++ rest = s ++ (g ++ (p ++ rest)) := by simp
  rw [e]
  refine ⟨h1, ?_⟩
  rw [h2, sc_gap g _ _ _ hg, hsc rest _ _ hs, List.append_assoc, List.cons_append, List.nil_append]
  congr 2
  · congr 1; simp; omega
  · congr 1; simp; omega
/-- A whole tag: its source, where it stands, its tokens. -/
def Tag (a : Nat) (s : List UInt8) (l : List Tk) : Prop := (∀ rest, opn (s ++ rest) = true ∧ sc (s ++ rest) a none = l ++ sc rest (a + s.length) none) ∧ (∀ x ∈ l, x.k ≠ 0) ∧ s.length ≤ 100 ∧ l.length ≤ 20 ∧ l ≠ []
theorem tag_end {a : Nat} {s g : List UInt8} {l : List Tk} {last : Int} (h : TagInv a s l last) (hg : ∀ c ∈ g, wsp c = true) (rest : List UInt8) :
    opn (s ++ g ++ [125] ++ rest) = true ∧ sc (s ++ g ++ [125] ++ rest) a none = (l ++ [⟨7, [125], a + (s ++ g).length⟩]) ++ sc rest (a + (s ++ g ++ [125]).length) none := by
  have hsp : Sep last (g ++ (125 :: rest)) := gap_sep hg fun _ => sep_cons ⟨fun _ => by decide, fun _ => by decide, fun _ => by decide⟩
  obtain ⟨h1, h2⟩ := h _ hsp
  have e : s ++ g ++ [125] ++ rest = s ++ (g ++ (125 :: rest)) := by simp
  rw [e]
  refine ⟨h1, ?_⟩
  have hp : partL (125 :: rest) = some (7, [125], 1) := by
    have h1 : ltrI 125 = false := by decide
    have h2 : digI 125 = false := by decide
    simp [partL, h1, h2]
  rw [h2, sc_gap g _ _ _ hg, sc_tok (by decide) hp, if_pos rfl, List.append_assoc, List.cons_append, List.nil_append, List.drop_succ_cons, List.drop_zero]
  congr 2
  · congr 1; simp; omega
  · congr 1; simp; omega
end Go.Proofs.Ytibdijaacolhkaa
