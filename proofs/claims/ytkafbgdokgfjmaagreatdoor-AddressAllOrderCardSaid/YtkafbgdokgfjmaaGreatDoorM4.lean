/- Addresses: what is valid, how they are written and read; no program in sight. isName: a range over a string. Valid, of the code. Format and Urgency, of the code. -/
import Derived.Test.YtkafbgdokgfjmaaGreatDoorL0
import Derived.Test.YtkafbgdokgfjmaaGreatDoorP1
import Derived.Test.YtkafbgdokgfjmaaGreatDoorProg
import Derived.WalkKit
import Derived.Below
import Derived.Laws.RangeAny
import Derived.Lib.OthersKept
import Derived.Deep.LoopGhost
import Derived.Test.YtkafbgdokgfjmaaGreatDoorT
import Derived.Test.YtkafbgdokgfjmaaGreatDoorA10
import Derived.Test.YtkafbgdokgfjmaaGreatDoorA11
import Derived.Test.YtkafbgdokgfjmaaGreatDoorM1
import Derived.Test.YtkafbgdokgfjmaaGreatDoorS2
import Derived.Test.YtkafbgdokgfjmaaGreatDoorL1
namespace Go.Proofs.YtkafbgdokgfjmaaGreatDoor
open Go.RowKit Go.Proofs
set_option linter.unusedSimpArgs false
set_option linter.unusedVariables false
set_option maxRecDepth 100000
structure Adr where
  kind : Int
  name : Str
  n : Int
  lang : Str
theorem Adr.ext' {a b : Adr} (h1 : a.kind = b.kind) (h2 : a.name = b.name) (h3 : a.n = b.n) (h4 : a.lang = b.lang) : a = b := by
  cases a; cases b; simp_all
def adrA (a : Adr) : AV := .agg [num a.kind, str a.name, num a.n, str a.lang]
def adr0 : Adr := ⟨0, [], 0, []⟩
def nameB (c : UInt8) : Bool := decide (97 ≤ c.toNat) && decide (c.toNat ≤ 122) || (decide (48 ≤ c.toNat) && decide (c.toNat ≤ 57) || decide (c.toNat = 45))
def nameL (s : Str) : Bool := decide (s ≠ []) && (decide (s.length ≤ 20) && s.all nameB)
def numB (n : Int) : Bool := decide (1 ≤ n) && decide (n ≤ 64)
def validL (a : Adr) : Bool :=
  if a.kind = 2 then numB a.n && (nameL a.lang && decide (a.name = []))
  else if a.kind = 3 then numB a.n && (nameL a.name && decide (a.lang = []))
  else if a.kind = 4 ∨ a.kind = 5 then nameL a.name && (decide (a.n = 0) && decide (a.lang = []))
  else if a.kind = 1 ∨ a.kind = 6 then decide (a.name = []) && (decide (a.n = 0) && decide (a.lang = []))
  else false
def wStory : Str := [115, 116, 111, 114, 121]
def wTopic : Str := [116, 111, 112, 105, 99]
def wBy : Str := [97, 117, 116, 104, 111, 114]
def wFeed : Str := [102, 101, 101, 100]
def wMap : Str := [109, 97, 112]
def dec (n : Int) : Str := Lib.decDigits n.toNat
def partsL (a : Adr) : List Str :=
  if a.kind = 2 then [wStory, dec a.n, a.lang]
  else if a.kind = 3 then [wTopic, a.name, dec a.n]
  else if a.kind = 4 then [wBy, a.name]
  else if a.kind = 5 then [wFeed, a.name]
  else if a.kind = 6 then [wMap]
  else []
def fmtL (a : Adr) : Str := 47 :: Lib.join (partsL a) [47]
def urgL (a : Adr) : Int := if a.kind = 2 then 0 else if a.kind = 1 then 1 else if a.kind = 5 then 2 else if a.kind = 3 then 3 else if a.kind = 4 then 4 else 5
def splL (s : Str) : List Str := Lib.splitK [47] 0 (min 5 (s.length + 1) - 1) s
/-- What Parse takes for the address, ahead of writing it again. -/
def cand (s : Str) : Adr :=
  if s = [47] then ⟨1, [], 0, []⟩
  else if s = 47 :: wMap then ⟨6, [], 0, []⟩
  else if (splL s).length = 4 ∧ (splL s).getD 1 [] = wStory then ⟨2, [], atoiV ((splL s).getD 2 []), (splL s).getD 3 []⟩
  else if (splL s).length = 4 ∧ (splL s).getD 1 [] = wTopic then ⟨3, (splL s).getD 2 [], atoiV ((splL s).getD 3 []), []⟩
  else if (splL s).length = 3 ∧ (splL s).getD 1 [] = wBy then ⟨4, (splL s).getD 2 [], 0, []⟩
  else if (splL s).length = 3 ∧ (splL s).getD 1 [] = wFeed then ⟨5, (splL s).getD 2 [], 0, []⟩
  else adr0
def parseL (s : Str) : Option Adr := if validL (cand s) = true ∧ fmtL (cand s) = s then some (cand s) else none

theorem numB_iff {n : Int} : numB n = true ↔ 1 ≤ n ∧ n ≤ 64 := by simp [numB]
theorem nameL_iff {s : Str} : nameL s = true ↔ s ≠ [] ∧ s.length ≤ 20 ∧ ∀ c ∈ s, nameB c = true := by simp [nameL]
theorem valid_cases {a : Adr} (h : validL a = true) :
    (a = ⟨1, [], 0, []⟩ ∨ a = ⟨6, [], 0, []⟩) ∨ (∃ n l, a = ⟨2, [], n, l⟩ ∧ 1 ≤ n ∧ n ≤ 64 ∧ nameL l = true) ∨ (∃ n l, a = ⟨3, l, n, []⟩ ∧ 1 ≤ n ∧ n ≤ 64 ∧ nameL l = true) ∨ (∃ l, a = ⟨4, l, 0, []⟩ ∧ nameL l = true) ∨ (∃ l, a = ⟨5, l, 0, []⟩ ∧ nameL l = true) := by
  obtain ⟨k, nm, n, lg⟩ := a
  unfold validL at h
  simp only at h
  split at h
  · rename_i hk
    simp only [Bool.and_eq_true, numB_iff, decide_eq_true_eq] at h
    exact .inr (.inl ⟨n, lg, Adr.ext' hk h.2.2 rfl rfl, h.1.1, h.1.2, h.2.1⟩)
  · split at h
    · rename_i hk
      simp only [Bool.and_eq_true, numB_iff, decide_eq_true_eq] at h
      exact .inr (.inr (.inl ⟨n, nm, Adr.ext' hk rfl rfl h.2.2, h.1.1, h.1.2, h.2.1⟩))
    · split at h
      · rename_i hk
        simp only [Bool.and_eq_true, decide_eq_true_eq] at h
        rcases hk with hk | hk
        · exact .inr (.inr (.inr (.inl ⟨nm, Adr.ext' hk rfl h.2.1 h.2.2, h.1⟩)))
        · exact .inr (.inr (.inr (.inr ⟨nm, Adr.ext' hk rfl h.2.1 h.2.2, h.1⟩)))
      · split at h
        · rename_i hk
          simp only [Bool.and_eq_true, decide_eq_true_eq] at h
          rcases hk with hk | hk
          · exact .inl (.inl (Adr.ext' hk h.1 h.2.1 h.2.2))
          · exact .inl (.inr (Adr.ext' hk h.1 h.2.1 h.2.2))
        · cases h

theorem dec_small {n : Nat} (h : n < 100) : Lib.decDigits n = if n < 10 then [UInt8.ofNat (48 + n)] else [UInt8.ofNat (48 + n / 10), UInt8.ofNat (48 + n % 10)] := by
  by_cases h1 : n < 10
  · rw [Lib.decDigits, dif_pos h1, if_pos h1]
  · rw [Lib.decDigits, dif_neg h1, if_neg h1, Lib.decDigits, dif_pos (by omega)]
    rfl
def decT (n : Nat) : Str := if n < 10 then [UInt8.ofNat (48 + n)] else [UInt8.ofNat (48 + n / 10), UInt8.ofNat (48 + n % 10)]
theorem dec_eq {n : Int} (h1 : 0 ≤ n) (h2 : n < 100) : dec n = decT n.toNat := dec_small (by omega)
theorem dec_all : ∀ n : Fin 100, atoiV (decT n.1) = (n.1 : Int) ∧ (∀ c ∈ decT n.1, c ≠ 47) ∧ decT n.1 ≠ [] ∧ (decT n.1).length ≤ 2 := by decide +kernel
theorem dec_inj : ∀ n m : Fin 100, decT n.1 = decT m.1 → n = m := by decide +kernel
theorem atoi_dec {n : Int} (h1 : 0 ≤ n) (h2 : n < 100) : atoiV (dec n) = n := by
  rw [dec_eq h1 h2]
  have := (dec_all ⟨n.toNat, by omega⟩).1
  rw [this]; exact Int.toNat_of_nonneg h1
theorem dec_no {n : Int} (h1 : 0 ≤ n) (h2 : n < 100) : ∀ c ∈ dec n, c ≠ 47 := by
  rw [dec_eq h1 h2]; exact (dec_all ⟨n.toNat, by omega⟩).2.1
theorem dec_ne {n : Int} (h1 : 0 ≤ n) (h2 : n < 100) : dec n ≠ [] := by
  rw [dec_eq h1 h2]; exact (dec_all ⟨n.toNat, by omega⟩).2.2.1
theorem dec_len {n : Int} (h1 : 0 ≤ n) (h2 : n < 100) : (dec n).length ≤ 2 := by
  rw [dec_eq h1 h2]; exact (dec_all ⟨n.toNat, by omega⟩).2.2.2
theorem nameB_ne {c : UInt8} (h : nameB c = true) : c ≠ 47 := by
  rintro rfl; revert h; decide
theorem name_no {s : Str} (h : nameL s = true) : ∀ c ∈ s, c ≠ 47 := fun c hc => nameB_ne ((nameL_iff.1 h).2.2 c hc)

theorem index47_app : ∀ (p : Str) (r : Str), (∀ c ∈ p, c ≠ 47) → Lib.indexByte (p ++ 47 :: r) 47 = (p.length : Int) := by
  intro p
  induction p with
  | nil => intro r _; simp [Lib.indexByte]
  | cons c p ih =>
    intro r h
    have hc := h c (by simp)
    have := ih r fun x hx => h x (by simp [hx])
    rw [List.cons_append, Lib.indexByte, this]
    simp [hc]
    try omega
theorem index47_none : ∀ (p : Str), (∀ c ∈ p, c ≠ 47) → Lib.indexByte p 47 = -1 := by
  intro p
  induction p with
  | nil => intro _; simp [Lib.indexByte]
  | cons c p ih =>
    intro h
    have hc := h c (by simp)
    have := ih fun x hx => h x (by simp [hx])
    rw [Lib.indexByte, this]
    simp [hc]
theorem join_two (p q : Str) (r : List Str) : Lib.join (p :: q :: r) [47] = p ++ 47 :: Lib.join (q :: r) [47] := by
  rw [Lib.join_cons, Lib.join_cons]
  simp [Lib.joinTail]
theorem split_join : ∀ (ps : List Str) (p : Str) (k : Nat), (∀ q ∈ p :: ps, ∀ c ∈ q, c ≠ 47) → ps.length ≤ k → Lib.splitK [47] 0 k (Lib.join (p :: ps) [47]) = p :: ps := by
  intro ps
  induction ps with
  | nil =>
    intro p k h _
    rw [Lib.join_one]
    cases k with
    | zero => rfl
    | succ k =>
      rw [Lib.splitK, Lib.index_one, index47_none p (h p (by simp))]
      simp
  | cons q r ih =>
    intro p k h hk
    obtain ⟨k, rfl⟩ : ∃ k', k = k' + 1 := ⟨k - 1, by simp only [List.length_cons] at hk; omega⟩
    have h1 := index47_app p (Lib.join (q :: r) [47]) (h p (by simp))
    rw [join_two, Lib.splitK, Lib.index_one, h1]
    have hne : ¬ ((p.length : Int) == -1) = true := by simp; try omega
    rw [if_neg hne]
    have := ih q k (fun x hx => h x (by simp only [List.mem_cons] at hx ⊢; exact .inr hx)) (by simp only [List.length_cons] at hk; omega)
    simp only [Int.toNat_natCast, Nat.add_zero, List.length_cons, List.length_nil, Nat.zero_add]
    rw [List.take_append_of_le_length (Nat.le_refl _), List.take_length]
    rw [show List.drop (p.length + 1) (p ++ 47 :: Lib.join (q :: r) [47]) = Lib.join (q :: r) [47] by rw [← List.drop_drop, List.drop_append_of_le_length (Nat.le_refl _), List.drop_length]; rfl]
    rw [this]
theorem spl_join (p : Str) (ps : List Str) (h : ∀ q ∈ p :: ps, ∀ c ∈ q, c ≠ 47) (hl : ps.length ≤ 3) : splL (47 :: Lib.join (p :: ps) [47]) = [] :: p :: ps := by
  have hj : (47 : UInt8) :: Lib.join (p :: ps) [47] = Lib.join ([] :: p :: ps) [47] := by rw [join_two]; rfl
  have hlen : ∀ (ps : List Str) (p : Str), ps.length ≤ (Lib.join (p :: ps) [47]).length := by
    intro ps
    induction ps with
    | nil => intro p; simp
    | cons q r ih =>
      intro p
      have := ih q
      rw [join_two]
      simp only [List.length_append, List.length_cons]
      omega
  unfold splL
  have := hlen (p :: ps) []
  rw [← hj] at this
  rw [hj]
  refine split_join (p :: ps) [] _ (fun q hq => ?_) ?_
  · rw [List.mem_cons] at hq
    rcases hq with rfl | hq
    · simp
    · exact h q hq
  · rw [← hj]
    simp only [List.length_cons] at this ⊢
    omega
theorem wS_no : ∀ c ∈ wStory, c ≠ 47 := by decide
theorem wT_no : ∀ c ∈ wTopic, c ≠ 47 := by decide
theorem wB_no : ∀ c ∈ wBy, c ≠ 47 := by decide
theorem wF_no : ∀ c ∈ wFeed, c ≠ 47 := by decide
theorem wM_no : ∀ c ∈ wMap, c ≠ 47 := by decide
theorem no3 {p q r : Str} (h1 : ∀ c ∈ p, c ≠ 47) (h2 : ∀ c ∈ q, c ≠ 47) (h3 : ∀ c ∈ r, c ≠ 47) : ∀ x ∈ [p, q, r], ∀ c ∈ x, c ≠ 47 := by
  intro x hx
  simp only [List.mem_cons, List.not_mem_nil, or_false] at hx
  rcases hx with rfl | rfl | rfl <;> assumption
theorem no2 {p q : Str} (h1 : ∀ c ∈ p, c ≠ 47) (h2 : ∀ c ∈ q, c ≠ 47) : ∀ x ∈ [p, q], ∀ c ∈ x, c ≠ 47 := by
  intro x hx
  simp only [List.mem_cons, List.not_mem_nil, or_false] at hx
  rcases hx with rfl | rfl <;> assumption
theorem fmt_two (w q : Str) (ps : List Str) : ¬ ((47 : UInt8) :: Lib.join (w :: q :: ps) [47] = [47]) := by
  rw [join_two]; intro h; have := congrArg List.length h; simp at this
theorem fmt_map {w q : Str} {ps : List Str} (hw : ∀ c ∈ w, c ≠ 47) : ¬ ((47 : UInt8) :: Lib.join (w :: q :: ps) [47] = 47 :: wMap) := by
  rw [join_two]
  intro h
  injection h with _ h
  have : (47 : UInt8) ∈ wMap := by rw [← h]; simp
  exact wM_no _ this rfl
theorem cand_fmt {a : Adr} (h : validL a = true) : cand (fmtL a) = a := by
  rcases valid_cases h with (rfl | rfl) | ⟨n, l, rfl, h1, h2, h3⟩ | ⟨n, l, rfl, h1, h2, h3⟩ | ⟨l, rfl, h3⟩ | ⟨l, rfl, h3⟩
  · exact Adr.ext' (by decide +kernel) (by decide +kernel) (by decide +kernel) (by decide +kernel)
  · exact Adr.ext' (by decide +kernel) (by decide +kernel) (by decide +kernel) (by decide +kernel)
  · have hs := spl_join wStory [dec n, l] (no3 wS_no (dec_no (by omega) (by omega)) (name_no h3)) (by simp)
    have e : fmtL ⟨2, [], n, l⟩ = 47 :: Lib.join [wStory, dec n, l] [47] := rfl
    rw [e, cand, if_neg (fmt_two _ _ _), if_neg (fmt_map wS_no), hs, if_pos ⟨rfl, rfl⟩]
    simp only [List.getD_cons_succ, List.getD_cons_zero]
    rw [atoi_dec (by omega) (by omega)]
  · have hs := spl_join wTopic [l, dec n] (no3 wT_no (name_no h3) (dec_no (by omega) (by omega))) (by simp)
    have e : fmtL ⟨3, l, n, []⟩ = 47 :: Lib.join [wTopic, l, dec n] [47] := rfl
    rw [e, cand, if_neg (fmt_two _ _ _), if_neg (fmt_map wT_no), hs, if_neg (fun h => absurd (show wTopic = wStory from h.2) (by decide)), if_pos ⟨rfl, rfl⟩]
    simp only [List.getD_cons_succ, List.getD_cons_zero]
    rw [atoi_dec (by omega) (by omega)]
  · have hs := spl_join wBy [l] (no2 wB_no (name_no h3)) (by simp)
    have e : fmtL ⟨4, l, 0, []⟩ = 47 :: Lib.join [wBy, l] [47] := rfl
    rw [e, cand, if_neg (fmt_two _ _ _), if_neg (fmt_map wB_no), hs, if_neg (fun h => absurd h.1 (by simp)), if_neg (fun h => absurd h.1 (by simp)), if_pos ⟨rfl, rfl⟩]
    rfl
  · have hs := spl_join wFeed [l] (no2 wF_no (name_no h3)) (by simp)
    have e : fmtL ⟨5, l, 0, []⟩ = 47 :: Lib.join [wFeed, l] [47] := rfl
    rw [e, cand, if_neg (fmt_two _ _ _), if_neg (fmt_map wF_no), hs, if_neg (fun h => absurd h.1 (by simp)), if_neg (fun h => absurd h.1 (by simp)), if_neg (fun h => absurd (show wFeed = wBy from h.2) (by decide)), if_pos ⟨rfl, rfl⟩]
    rfl
theorem fmt_inj {a b : Adr} (ha : validL a = true) (hb : validL b = true) (h : fmtL a = fmtL b) : a = b := by
  rw [← cand_fmt ha, h, cand_fmt hb]
theorem parse_fmt {a : Adr} (h : validL a = true) : parseL (fmtL a) = some a := by
  unfold parseL
  rw [cand_fmt h, if_pos ⟨h, rfl⟩]
theorem parse_some {s : Str} {a : Adr} (h : parseL s = some a) : validL a = true ∧ fmtL a = s := by
  unfold parseL at h
  split at h
  · rename_i h1
    injection h with h
    subst h
    exact h1
  · cases h
theorem parse_none {s : Str} (h : parseL s = none) {a : Adr} (ha : validL a = true) : fmtL a ≠ s := by
  rintro rfl
  rw [parse_fmt ha] at h
  cases h
theorem valid0 : validL adr0 = false := by decide +kernel
/-- Another reading that finds each valid address out of its string. -/
theorem parse_by {c : Str → Adr} (hc : ∀ a, validL a = true → c (fmtL a) = a) (s : Str) : (if validL (c s) = true ∧ fmtL (c s) = s then some (c s) else none) = parseL s := by
  split
  · rename_i h
    have h2 := parse_fmt h.1
    rw [h.2] at h2
    exact h2.symm
  · rename_i h
    cases hp : parseL s with
    | none => rfl
    | some a =>
      obtain ⟨h1, h2⟩ := parse_some hp
      have := hc a h1
      rw [h2] at this
      rw [this] at h
      exact absurd ⟨h1, h2⟩ h
end Go.Proofs.YtkafbgdokgfjmaaGreatDoor
namespace Go.Proofs.YtkafbgdokgfjmaaGreatDoor
open Go.RowKit Go.Proofs
set_option linter.unusedSimpArgs false
set_option linter.unusedVariables false
theorem iterPos_of {w : World} {k : Nat} {s : ByteArray} {p : Nat} (h : w.heap[k]? = some (.stringIter s p)) : w.iterPos k = p := by simp [World.iterPos, h]
theorem width_pos (s : ByteArray) (pos : Nat) (h : pos < s.size) : 1 ≤ (Utf8.decode s pos).2 := by
  by_cases ha : (s[pos]'h).toNat < 128
  · rw [decode_ascii s pos h ha]
    exact Nat.le_refl _
  · exact (decode_high s pos h (by omega)).2
def nameC (c : Int) : Bool := decide (97 ≤ c) && decide (c ≤ 122) || (decide (48 ≤ c) && decide (c ≤ 57) || decide (c = 45))
/-- A rune of a name is one byte. -/
theorem nameC_decode (s : ByteArray) (pos : Nat) (h : pos < s.size) : nameC ((Utf8.decode s pos).1 : Int) = nameB (s[pos]'h) ∧ (nameB (s[pos]'h) = true → (Utf8.decode s pos).2 = 1) := by
  by_cases ha : (s[pos]'h).toNat < 128
  · rw [decode_ascii s pos h ha]
    refine ⟨?_, fun _ => rfl⟩
    unfold nameC nameB
    congr 1
    · congr 1 <;> exact decide_eq_decide.2 (by omega)
    · congr 1
      · congr 1 <;> exact decide_eq_decide.2 (by omega)
      · exact decide_eq_decide.2 (by omega)
  · have h1 := (decode_high s pos h (by omega)).1
    have e1 : nameC ((Utf8.decode s pos).1 : Int) = false := by
      unfold nameC
      rw [decide_eq_false (show ¬ ((Utf8.decode s pos).1 : Int) ≤ 122 by omega), decide_eq_false (show ¬ ((Utf8.decode s pos).1 : Int) ≤ 57 by omega), decide_eq_false (show ¬ ((Utf8.decode s pos).1 : Int) = 45 by omega)]
      simp
    have e2 : nameB (s[pos]'h) = false := by
      unfold nameB
      rw [decide_eq_false (show ¬ (s[pos]'h).toNat ≤ 122 by omega), decide_eq_false (show ¬ (s[pos]'h).toNat ≤ 57 by omega), decide_eq_false (show ¬ (s[pos]'h).toNat = 45 by omega)]
      simp
    exact ⟨by rw [e1, e2], fun h => by rw [e2] at h; cases h⟩
theorem data_at (s : ByteArray) (pos : Nat) (h : pos < s.size) : s.data.toList[pos]? = some (s[pos]'h) := by
  rw [Array.getElem?_toList, Array.getElem?_eq_getElem (show pos < s.data.size from h)]
  rfl
set_option maxRecDepth 1000000 in
set_option maxHeartbeats 2000000 in
theorem isName_walk (s : ByteArray) (w : World) :
    Calls Tryz.prog 33 #[.string s] w fun e w' => e = .returned (.bool (nameL s.data.toList)) ∧ Below w.heap.size w w' := by
  have hsz : s.data.toList.length = s.size := Array.length_toList
  by_cases h0 : s.size = 0
  · have hs : s = ByteArray.empty := by
      cases s with
      | mk d => simp [ByteArray.size] at h0; subst h0; rfl
    subst hs
    go_enter Tryz.func33, Tryz.ntmps33
    go_wp2
    go_ret
    exact ⟨rfl, Below.refl _ _⟩
  have hE : s.toList.isEmpty = false := by
    rw [Go.ByteArray.toList_eq]
    cases he : s.data.toList with
    | nil => rw [he] at hsz; exact absurd hsz.symm h0
    | cons a l => rfl
  by_cases h20 : 20 < s.size
  · have en : nameL s.data.toList = false := by
      unfold nameL
      rw [decide_eq_false (show ¬ s.data.toList.length ≤ 20 by omega), Bool.false_and, Bool.and_false]
    rw [en]
    have h20' : (20 : Int) < (s.size : Int) := by omega
    go_enter Tryz.func33, Tryz.ntmps33
    go_wp2
    go_ret
    exact ⟨rfl, Below.refl _ _⟩
  · have h20' : ¬ (20 : Int) < (s.size : Int) := by omega
    go_enter Tryz.func33, Tryz.ntmps33
    go_wp2
    go_loopw [4] (fun _ wr => ∃ pos : Nat, wr.heap[w.heap.size]? = some (.stringIter s pos) ∧ Below w.heap.size w wr ∧ pos ≤ s.size ∧ Hid (∀ j b, j < pos → s.data.toList[j]? = some b → nameB b = true)) (fun _ wr => s.size - wr.iterPos w.heap.size)
    case atStart => exact ⟨0, World.iter_heap w s 0, (Below.refl _ _).alloc (Nat.le_refl _) _, by omega, fun j b h => by omega⟩
    case round =>
      obtain ⟨pos, hit, hbw, hps, hok⟩ := hrel
      have hpos0 := iterPos_of hit
      by_cases hp : pos < s.size
      · have hnx : ∀ ty, (Instr.next (.pointer (some ⟨w.heap.size, 0, none⟩)) true ty).run Tryz.prog wr = _ := fun ty => Lib.run_next_any_at wr w.heap.size s pos ty hit hp
        have hwd := width_pos s pos hp
        have hit2 := Lib.iterAt_heap wr w.heap.size s pos (pos + (Utf8.decode s pos).2) hit
        have hbw2 := Lib.below_iterAt hbw (k := w.heap.size) (Nat.le_refl _) s (pos + (Utf8.decode s pos).2)
        obtain ⟨hc1, hc2⟩ := nameC_decode s pos hp
        have HC : Hid (nameB (s[pos]'hp) = true → (Utf8.decode s pos).2 = 1) := hc2
        have HD : Hid (s.data.toList[pos]? = some (s[pos]'hp)) := data_at s pos hp
        clear hc2
        cases hn : nameB (s[pos]'hp) with
        | true =>
          rw [hn] at hc1
          have HN : Hid (nameC ((Utf8.decode s pos).1 : Int) = true) := hc1
          have HM : Hid (nameB (s[pos]'hp) = true) := hn
          clear hc1 hn
          go_wp2
          all_goals first
            | (refine ⟨⟨pos + (Utf8.decode s pos).2, hit2, hbw2, by have := HC.out HM.out; omega, fun j b hj hb => ?_⟩, by rw [iterPos_of hit2, hpos0]; omega⟩
               have hw1 := HC.out HM.out
               rcases Nat.lt_or_ge j pos with h | h
               · exact hok.out j b h hb
               · obtain rfl : j = pos := by omega
                 rw [HD.out] at hb
                 injection hb with hb
                 rw [← hb]; exact HM.out)
            | (exfalso
               have hh := HN.out
               simp only [nameC, Bool.or_eq_true, Bool.and_eq_true, decide_eq_true_eq] at hh
               try simp only [beq_iff_eq, beq_eq_false_iff_ne, ne_eq, decide_eq_true_eq, decide_eq_false_iff_not, Bool.not_eq_eq_eq_not, Bool.not_true, Bool.not_false] at *
               omega)
        | false =>
          rw [hn] at hc1
          have HN : Hid (nameC ((Utf8.decode s pos).1 : Int) = false) := hc1
          have HM : Hid (nameB (s[pos]'hp) = false) := hn
          clear hc1 hn
          go_wp2
          all_goals first
            | (go_ret
               refine ⟨?_, hbw2⟩
               have hf : nameL s.data.toList = false := by
                 cases hh : nameL s.data.toList with
                 | false => rfl
                 | true =>
                   have := (nameL_iff.1 hh).2.2 _ (List.mem_of_getElem? HD.out)
                   rw [HM.out] at this
                   cases this
               rw [hf]
               rfl)
            | (exfalso
               have hh := HN.out
               simp only [nameC, Bool.or_eq_false_iff, Bool.and_eq_false_iff, decide_eq_false_iff_not] at hh
               try simp only [beq_iff_eq, beq_eq_false_iff_ne, ne_eq, decide_eq_true_eq, decide_eq_false_iff_not, Bool.not_eq_eq_eq_not, Bool.not_true, Bool.not_false] at *
               omega)
      · have hnx : ∀ ty, (Instr.next (.pointer (some ⟨w.heap.size, 0, none⟩)) true ty).run Tryz.prog wr = _ := fun ty => Lib.run_next_end_at wr w.heap.size s pos ty hit hp
        go_wp2
        go_ret
        refine ⟨?_, hbw⟩
        have hf : nameL s.data.toList = true := by
          refine nameL_iff.2 ⟨fun h => ?_, by omega, fun c hc => ?_⟩
          · rw [h] at hsz
            exact h0 hsz.symm
          · obtain ⟨j, hj⟩ := List.mem_iff_getElem?.1 hc
            have := (List.getElem?_eq_some_iff.1 hj).1
            exact hok.out j c (by omega) hj
        rw [hf]
        rfl
theorem isName_33 [hE : Env] (hd : ¬ Env.drawn) (s : Str) : ACalls Tryz.prog 33 [str s] (fun r => r = tru (nameL s)) := by
  refine acalls_below hd ⟨_, _, Tryz.func33, rfl, by decide⟩ _ rfl fun w S vs c hz hv => ?_
  obtain ⟨us, rfl, h⟩ := rep_one hv
  obtain ⟨rfl, _⟩ := h.zero
  refine (isName_walk (bsOf s) w).mono ?_
  rintro e w' ⟨rfl, hb⟩
  rw [bsOf_toList]
  exact ⟨_, rfl, rep_raw1 rfl, hb⟩
end Go.Proofs.YtkafbgdokgfjmaaGreatDoor
namespace Go.Proofs.YtkafbgdokgfjmaaGreatDoor
open Go.RowKit Go.Proofs
set_option linter.unusedSimpArgs false
set_option linter.unusedVariables false
set_option maxRecDepth 100000
set_option maxHeartbeats 4000000

theorem ie (s : Str) : List.isEmpty s = decide (s = []) := by cases s <;> simp
theorem ndZ : ¬ Env.drawn := fun h => h
theorem isNumber32 (n : Int) : ACalls Tryz.prog 32 [num n] (fun r => r = tru (numB n)) := by
  refine calls_short [] ttok hmix Tryz.func32 (by decide) (by decide +kernel) (by simp only [Tryz.f32, Option.bind_some, comp, isLend, lendOf, lendX, lendC, lendH, Nat.reduceLeDiff, Nat.reduceSub, ne_eq, not_false_eq_true, and_self, cops, cguard, gslot, List.getElem?_toArray, List.getElem?_cons_succ, List.getElem?_cons_zero, vlook, tlook, cutAt_nil, cutAt, firstReg, isCut, mkSeq, Nat.reduceAdd, Nat.reduceEqDiff, reduceIte]; rfl) Tryz.ntmps32 Tryz.results32 ⟨_, rfl⟩ rfl ?_
  simp only [List.length_cons, List.length_nil, Nat.reduceAdd, Nat.reduceSub, List.replicate_succ, List.replicate_zero, List.cons_append, List.nil_append, num, str, tru]
  repeat' first|refine Spl.on (fun _=>?_) (fun _=>?_)|with_reducible refine gd ?_|simp only [go_sem, Int.reduceEq, List.length_nil]
  all_goals (simp_all [numB, tru]; try omega)
theorem valid16 (a : Adr) : ACalls Tryz.prog 16 [adrA a] (fun r => r = tru (validL a)) := by
  simp only [adrA]
  refine calls_short [] ttok hmix Tryz.func16 (by decide) (by decide +kernel) (by simp only [Tryz.f16, Option.bind_some, comp, isLend, lendOf, lendX, lendC, lendH, Nat.reduceLeDiff, Nat.reduceSub, ne_eq, not_false_eq_true, and_self, cops, cguard, gslot, List.getElem?_toArray, List.getElem?_cons_succ, List.getElem?_cons_zero, vlook, tlook, cutAt_nil, cutAt, firstReg, isCut, mkSeq, Nat.reduceAdd, Nat.reduceEqDiff, reduceIte]; rfl) Tryz.ntmps16 Tryz.results16 ⟨_, rfl⟩ rfl ?_
  simp only [List.length_cons, List.length_nil, Nat.reduceAdd, Nat.reduceSub, List.replicate_succ, List.replicate_zero, List.cons_append, List.nil_append, num, str, tru]
  by_cases hk2 : a.kind = 2
  · have e2 := eq_true (show a.kind = 2 by omega)
    have e3 := eq_false (show ¬ a.kind = 3 by omega)
    have e4 := eq_false (show ¬ a.kind = 4 by omega)
    have e5 := eq_false (show ¬ a.kind = 5 by omega)
    have e1 := eq_false (show ¬ a.kind = 1 by omega)
    have e6 := eq_false (show ¬ a.kind = 6 by omega)
    cases h1 : numB a.n
    · cases h2 : nameL a.lang
      · repeat' first|refine Spl.on (fun _=>?_) (fun _=>?_)|with_reducible refine gd ?_|simp only [go_sem, Int.reduceEq, List.length_nil, e2, e3, e4, e5, e1, e6, h1, h2]
        refine ((isNumber32 a.n).wk ?_).mono ?_
        · try simp only [num, str]
          repeat first | exact Wk.nil | exact Wk.refl _ | refine wk_agg ?_ ?_ | refine wk_ownsl ?_ | refine wk_nilsl ?_ | refine Wk.same ?_
        rintro r rfl
        simp only [tru, num, str]
        repeat' first|refine Spl.on (fun _=>?_) (fun _=>?_)|with_reducible refine gd ?_|simp only [go_sem, Int.reduceEq, List.length_nil, e2, e3, e4, e5, e1, e6, h1, h2]
        all_goals first | rfl | (simp [validL, tru, ie, *]; done) | (simp_all [validL, tru, ie]; done)
      · repeat' first|refine Spl.on (fun _=>?_) (fun _=>?_)|with_reducible refine gd ?_|simp only [go_sem, Int.reduceEq, List.length_nil, e2, e3, e4, e5, e1, e6, h1, h2]
        refine ((isNumber32 a.n).wk ?_).mono ?_
        · try simp only [num, str]
          repeat first | exact Wk.nil | exact Wk.refl _ | refine wk_agg ?_ ?_ | refine wk_ownsl ?_ | refine wk_nilsl ?_ | refine Wk.same ?_
        rintro r rfl
        simp only [tru, num, str]
        repeat' first|refine Spl.on (fun _=>?_) (fun _=>?_)|with_reducible refine gd ?_|simp only [go_sem, Int.reduceEq, List.length_nil, e2, e3, e4, e5, e1, e6, h1, h2]
        all_goals first | rfl | (simp [validL, tru, ie, *]; done) | (simp_all [validL, tru, ie]; done)
    · cases h2 : nameL a.lang
      · repeat' first|refine Spl.on (fun _=>?_) (fun _=>?_)|with_reducible refine gd ?_|simp only [go_sem, Int.reduceEq, List.length_nil, e2, e3, e4, e5, e1, e6, h1, h2]
        refine ((isNumber32 a.n).wk ?_).mono ?_
        · try simp only [num, str]
          repeat first | exact Wk.nil | exact Wk.refl _ | refine wk_agg ?_ ?_ | refine wk_ownsl ?_ | refine wk_nilsl ?_ | refine Wk.same ?_
        rintro r rfl
        simp only [tru, num, str]
        repeat' first|refine Spl.on (fun _=>?_) (fun _=>?_)|with_reducible refine gd ?_|simp only [go_sem, Int.reduceEq, List.length_nil, e2, e3, e4, e5, e1, e6, h1, h2]
        refine ((isName_33 ndZ a.lang).wk ?_).mono ?_
        · try simp only [num, str]
          repeat first | exact Wk.nil | exact Wk.refl _ | refine wk_agg ?_ ?_ | refine wk_ownsl ?_ | refine wk_nilsl ?_ | refine Wk.same ?_
        rintro r rfl
        simp only [tru, num, str]
        repeat' first|refine Spl.on (fun _=>?_) (fun _=>?_)|with_reducible refine gd ?_|simp only [go_sem, Int.reduceEq, List.length_nil, e2, e3, e4, e5, e1, e6, h1, h2]
        all_goals first | rfl | (simp [validL, tru, ie, *]; done) | (simp_all [validL, tru, ie]; done)
      · repeat' first|refine Spl.on (fun _=>?_) (fun _=>?_)|with_reducible refine gd ?_|simp only [go_sem, Int.reduceEq, List.length_nil, e2, e3, e4, e5, e1, e6, h1, h2]
        refine ((isNumber32 a.n).wk ?_).mono ?_
        · try simp only [num, str]
          repeat first | exact Wk.nil | exact Wk.refl _ | refine wk_agg ?_ ?_ | refine wk_ownsl ?_ | refine wk_nilsl ?_ | refine Wk.same ?_
        rintro r rfl
        simp only [tru, num, str]
        repeat' first|refine Spl.on (fun _=>?_) (fun _=>?_)|with_reducible refine gd ?_|simp only [go_sem, Int.reduceEq, List.length_nil, e2, e3, e4, e5, e1, e6, h1, h2]
        refine ((isName_33 ndZ a.lang).wk ?_).mono ?_
        · try simp only [num, str]
          repeat first | exact Wk.nil | exact Wk.refl _ | refine wk_agg ?_ ?_ | refine wk_ownsl ?_ | refine wk_nilsl ?_ | refine Wk.same ?_
        rintro r rfl
        simp only [tru, num, str]
        repeat' first|refine Spl.on (fun _=>?_) (fun _=>?_)|with_reducible refine gd ?_|simp only [go_sem, Int.reduceEq, List.length_nil, e2, e3, e4, e5, e1, e6, h1, h2]
        all_goals first | rfl | (simp [validL, tru, ie, *]; done) | (simp_all [validL, tru, ie]; done)
  · by_cases hk3 : a.kind = 3
    · have e2 := eq_false (show ¬ a.kind = 2 by omega)
      have e3 := eq_true (show a.kind = 3 by omega)
      have e4 := eq_false (show ¬ a.kind = 4 by omega)
      have e5 := eq_false (show ¬ a.kind = 5 by omega)
      have e1 := eq_false (show ¬ a.kind = 1 by omega)
      have e6 := eq_false (show ¬ a.kind = 6 by omega)
      cases h1 : numB a.n
      · cases h2 : nameL a.name
        · repeat' first|refine Spl.on (fun _=>?_) (fun _=>?_)|with_reducible refine gd ?_|simp only [go_sem, Int.reduceEq, List.length_nil, e2, e3, e4, e5, e1, e6, h1, h2]
          refine ((isNumber32 a.n).wk ?_).mono ?_
          · try simp only [num, str]
            repeat first | exact Wk.nil | exact Wk.refl _ | refine wk_agg ?_ ?_ | refine wk_ownsl ?_ | refine wk_nilsl ?_ | refine Wk.same ?_
          rintro r rfl
          simp only [tru, num, str]
          repeat' first|refine Spl.on (fun _=>?_) (fun _=>?_)|with_reducible refine gd ?_|simp only [go_sem, Int.reduceEq, List.length_nil, e2, e3, e4, e5, e1, e6, h1, h2]
          all_goals first | rfl | (simp [validL, tru, ie, *]; done) | (simp_all [validL, tru, ie]; done)
        · repeat' first|refine Spl.on (fun _=>?_) (fun _=>?_)|with_reducible refine gd ?_|simp only [go_sem, Int.reduceEq, List.length_nil, e2, e3, e4, e5, e1, e6, h1, h2]
          refine ((isNumber32 a.n).wk ?_).mono ?_
          · try simp only [num, str]
            repeat first | exact Wk.nil | exact Wk.refl _ | refine wk_agg ?_ ?_ | refine wk_ownsl ?_ | refine wk_nilsl ?_ | refine Wk.same ?_
          rintro r rfl
          simp only [tru, num, str]
          repeat' first|refine Spl.on (fun _=>?_) (fun _=>?_)|with_reducible refine gd ?_|simp only [go_sem, Int.reduceEq, List.length_nil, e2, e3, e4, e5, e1, e6, h1, h2]
          all_goals first | rfl | (simp [validL, tru, ie, *]; done) | (simp_all [validL, tru, ie]; done)
      · cases h2 : nameL a.name
        · repeat' first|refine Spl.on (fun _=>?_) (fun _=>?_)|with_reducible refine gd ?_|simp only [go_sem, Int.reduceEq, List.length_nil, e2, e3, e4, e5, e1, e6, h1, h2]
          refine ((isNumber32 a.n).wk ?_).mono ?_
          · try simp only [num, str]
            repeat first | exact Wk.nil | exact Wk.refl _ | refine wk_agg ?_ ?_ | refine wk_ownsl ?_ | refine wk_nilsl ?_ | refine Wk.same ?_
          rintro r rfl
          simp only [tru, num, str]
          repeat' first|refine Spl.on (fun _=>?_) (fun _=>?_)|with_reducible refine gd ?_|simp only [go_sem, Int.reduceEq, List.length_nil, e2, e3, e4, e5, e1, e6, h1, h2]
          refine ((isName_33 ndZ a.name).wk ?_).mono ?_
          · try simp only [num, str]
            repeat first | exact Wk.nil | exact Wk.refl _ | refine wk_agg ?_ ?_ | refine wk_ownsl ?_ | refine wk_nilsl ?_ | refine Wk.same ?_
          rintro r rfl
          simp only [tru, num, str]
          repeat' first|refine Spl.on (fun _=>?_) (fun _=>?_)|with_reducible refine gd ?_|simp only [go_sem, Int.reduceEq, List.length_nil, e2, e3, e4, e5, e1, e6, h1, h2]
          all_goals first | rfl | (simp [validL, tru, ie, *]; done) | (simp_all [validL, tru, ie]; done)
        · repeat' first|refine Spl.on (fun _=>?_) (fun _=>?_)|with_reducible refine gd ?_|simp only [go_sem, Int.reduceEq, List.length_nil, e2, e3, e4, e5, e1, e6, h1, h2]
          refine ((isNumber32 a.n).wk ?_).mono ?_
          · try simp only [num, str]
            repeat first | exact Wk.nil | exact Wk.refl _ | refine wk_agg ?_ ?_ | refine wk_ownsl ?_ | refine wk_nilsl ?_ | refine Wk.same ?_
          rintro r rfl
          simp only [tru, num, str]
          repeat' first|refine Spl.on (fun _=>?_) (fun _=>?_)|with_reducible refine gd ?_|simp only [go_sem, Int.reduceEq, List.length_nil, e2, e3, e4, e5, e1, e6, h1, h2]
          refine ((isName_33 ndZ a.name).wk ?_).mono ?_
          · try simp only [num, str]
            repeat first | exact Wk.nil | exact Wk.refl _ | refine wk_agg ?_ ?_ | refine wk_ownsl ?_ | refine wk_nilsl ?_ | refine Wk.same ?_
          rintro r rfl
          simp only [tru, num, str]
          repeat' first|refine Spl.on (fun _=>?_) (fun _=>?_)|with_reducible refine gd ?_|simp only [go_sem, Int.reduceEq, List.length_nil, e2, e3, e4, e5, e1, e6, h1, h2]
          all_goals first | rfl | (simp [validL, tru, ie, *]; done) | (simp_all [validL, tru, ie]; done)
    · by_cases hk4 : a.kind = 4
      · have e2 := eq_false (show ¬ a.kind = 2 by omega)
        have e3 := eq_false (show ¬ a.kind = 3 by omega)
        have e4 := eq_true (show a.kind = 4 by omega)
        have e5 := eq_false (show ¬ a.kind = 5 by omega)
        have e1 := eq_false (show ¬ a.kind = 1 by omega)
        have e6 := eq_false (show ¬ a.kind = 6 by omega)
        cases h2 : nameL a.name
        · repeat' first|refine Spl.on (fun _=>?_) (fun _=>?_)|with_reducible refine gd ?_|simp only [go_sem, Int.reduceEq, List.length_nil, e2, e3, e4, e5, e1, e6, h2]
          refine ((isName_33 ndZ a.name).wk ?_).mono ?_
          · try simp only [num, str]
            repeat first | exact Wk.nil | exact Wk.refl _ | refine wk_agg ?_ ?_ | refine wk_ownsl ?_ | refine wk_nilsl ?_ | refine Wk.same ?_
          rintro r rfl
          simp only [tru, num, str]
          repeat' first|refine Spl.on (fun _=>?_) (fun _=>?_)|with_reducible refine gd ?_|simp only [go_sem, Int.reduceEq, List.length_nil, e2, e3, e4, e5, e1, e6, h2]
          all_goals first | rfl | (simp [validL, tru, ie, *]; done) | (simp_all [validL, tru, ie]; done)
        · repeat' first|refine Spl.on (fun _=>?_) (fun _=>?_)|with_reducible refine gd ?_|simp only [go_sem, Int.reduceEq, List.length_nil, e2, e3, e4, e5, e1, e6, h2]
          refine ((isName_33 ndZ a.name).wk ?_).mono ?_
          · try simp only [num, str]
            repeat first | exact Wk.nil | exact Wk.refl _ | refine wk_agg ?_ ?_ | refine wk_ownsl ?_ | refine wk_nilsl ?_ | refine Wk.same ?_
          rintro r rfl
          simp only [tru, num, str]
          repeat' first|refine Spl.on (fun _=>?_) (fun _=>?_)|with_reducible refine gd ?_|simp only [go_sem, Int.reduceEq, List.length_nil, e2, e3, e4, e5, e1, e6, h2]
          all_goals first | rfl | (simp [validL, tru, ie, *]; done) | (simp_all [validL, tru, ie]; done)
      · by_cases hk5 : a.kind = 5
        · have e2 := eq_false (show ¬ a.kind = 2 by omega)
          have e3 := eq_false (show ¬ a.kind = 3 by omega)
          have e4 := eq_false (show ¬ a.kind = 4 by omega)
          have e5 := eq_true (show a.kind = 5 by omega)
          have e1 := eq_false (show ¬ a.kind = 1 by omega)
          have e6 := eq_false (show ¬ a.kind = 6 by omega)
          cases h2 : nameL a.name
          · repeat' first|refine Spl.on (fun _=>?_) (fun _=>?_)|with_reducible refine gd ?_|simp only [go_sem, Int.reduceEq, List.length_nil, e2, e3, e4, e5, e1, e6, h2]
            refine ((isName_33 ndZ a.name).wk ?_).mono ?_
            · try simp only [num, str]
              repeat first | exact Wk.nil | exact Wk.refl _ | refine wk_agg ?_ ?_ | refine wk_ownsl ?_ | refine wk_nilsl ?_ | refine Wk.same ?_
            rintro r rfl
            simp only [tru, num, str]
            repeat' first|refine Spl.on (fun _=>?_) (fun _=>?_)|with_reducible refine gd ?_|simp only [go_sem, Int.reduceEq, List.length_nil, e2, e3, e4, e5, e1, e6, h2]
            all_goals first | rfl | (simp [validL, tru, ie, *]; done) | (simp_all [validL, tru, ie]; done)
          · repeat' first|refine Spl.on (fun _=>?_) (fun _=>?_)|with_reducible refine gd ?_|simp only [go_sem, Int.reduceEq, List.length_nil, e2, e3, e4, e5, e1, e6, h2]
            refine ((isName_33 ndZ a.name).wk ?_).mono ?_
            · try simp only [num, str]
              repeat first | exact Wk.nil | exact Wk.refl _ | refine wk_agg ?_ ?_ | refine wk_ownsl ?_ | refine wk_nilsl ?_ | refine Wk.same ?_
            rintro r rfl
            simp only [tru, num, str]
            repeat' first|refine Spl.on (fun _=>?_) (fun _=>?_)|with_reducible refine gd ?_|simp only [go_sem, Int.reduceEq, List.length_nil, e2, e3, e4, e5, e1, e6, h2]
            all_goals first | rfl | (simp [validL, tru, ie, *]; done) | (simp_all [validL, tru, ie]; done)
        · by_cases hk1 : a.kind = 1
          · have e2 := eq_false (show ¬ a.kind = 2 by omega)
            have e3 := eq_false (show ¬ a.kind = 3 by omega)
            have e4 := eq_false (show ¬ a.kind = 4 by omega)
            have e5 := eq_false (show ¬ a.kind = 5 by omega)
            have e1 := eq_true (show a.kind = 1 by omega)
            have e6 := eq_false (show ¬ a.kind = 6 by omega)
            repeat' first|refine Spl.on (fun _=>?_) (fun _=>?_)|with_reducible refine gd ?_|simp only [go_sem, Int.reduceEq, List.length_nil, e2, e3, e4, e5, e1, e6]
            all_goals first | rfl | (simp [validL, tru, ie, *]; done) | (simp_all [validL, tru, ie]; done)
          · by_cases hk6 : a.kind = 6
            · have e2 := eq_false (show ¬ a.kind = 2 by omega)
              have e3 := eq_false (show ¬ a.kind = 3 by omega)
              have e4 := eq_false (show ¬ a.kind = 4 by omega)
              have e5 := eq_false (show ¬ a.kind = 5 by omega)
              have e1 := eq_false (show ¬ a.kind = 1 by omega)
              have e6 := eq_true (show a.kind = 6 by omega)
              repeat' first|refine Spl.on (fun _=>?_) (fun _=>?_)|with_reducible refine gd ?_|simp only [go_sem, Int.reduceEq, List.length_nil, e2, e3, e4, e5, e1, e6]
              all_goals first | rfl | (simp [validL, tru, ie, *]; done) | (simp_all [validL, tru, ie]; done)
            · have e2 := eq_false (show ¬ a.kind = 2 by omega)
              have e3 := eq_false (show ¬ a.kind = 3 by omega)
              have e4 := eq_false (show ¬ a.kind = 4 by omega)
              have e5 := eq_false (show ¬ a.kind = 5 by omega)
              have e1 := eq_false (show ¬ a.kind = 1 by omega)
              have e6 := eq_false (show ¬ a.kind = 6 by omega)
              repeat' first|refine Spl.on (fun _=>?_) (fun _=>?_)|with_reducible refine gd ?_|simp only [go_sem, Int.reduceEq, List.length_nil, e2, e3, e4, e5, e1, e6]
              all_goals first | rfl | (simp [validL, tru, ie, *]; done) | (simp_all [validL, tru, ie]; done)
end Go.Proofs.YtkafbgdokgfjmaaGreatDoor
namespace Go.Proofs.YtkafbgdokgfjmaaGreatDoor
open Go.RowKit Go.Proofs
set_option linter.unusedSimpArgs false
set_option linter.unusedVariables false
set_option maxRecDepth 100000
set_option maxHeartbeats 4000000

theorem valid_k {a : Adr} (h : validL a = true) : a.kind = 1 ∨ a.kind = 2 ∨ a.kind = 3 ∨ a.kind = 4 ∨ a.kind = 5 ∨ a.kind = 6 := by
  rcases valid_cases h with (rfl | rfl) | ⟨n, l, rfl, h1, h2, h3⟩ | ⟨n, l, rfl, h1, h2, h3⟩ | ⟨l, rfl, h3⟩ | ⟨l, rfl, h3⟩ <;> simp
theorem valid_n {a : Adr} (h : validL a = true) : 0 ≤ a.n ∧ a.n ≤ 64 := by
  rcases valid_cases h with (rfl | rfl) | ⟨n, l, rfl, h1, h2, h3⟩ | ⟨n, l, rfl, h1, h2, h3⟩ | ⟨l, rfl, h3⟩ | ⟨l, rfl, h3⟩ <;> simp <;> omega
theorem valid_parts {a : Adr} (h : validL a = true) : (partsL a).length ≤ 3 := by
  unfold partsL
  repeat' split
  all_goals simp
theorem name_len {s : Str} (h : nameL s = true) : s.length ≤ 20 := (nameL_iff.1 h).2.1
theorem valid_len {a : Adr} (h : validL a = true) : (fmtL a).length ≤ 100 := by
  rcases valid_cases h with (rfl | rfl) | ⟨n, l, rfl, h1, h2, h3⟩ | ⟨n, l, rfl, h1, h2, h3⟩ | ⟨l, rfl, h3⟩ | ⟨l, rfl, h3⟩
  · decide +kernel
  · decide +kernel
  · have := name_len h3
    have h4 := dec_len (n := n) (by omega) (by omega)
    have e : fmtL ⟨2, [], n, l⟩ = 47 :: Lib.join [wStory, dec n, l] [47] := rfl
    rw [e, join_two, join_two, Lib.join_one]
    simp [wStory]; omega
  · have := name_len h3
    have h4 := dec_len (n := n) (by omega) (by omega)
    have e : fmtL ⟨3, l, n, []⟩ = 47 :: Lib.join [wTopic, l, dec n] [47] := rfl
    rw [e, join_two, join_two, Lib.join_one]
    simp [wTopic]; omega
  · have := name_len h3
    have e : fmtL ⟨4, l, 0, []⟩ = 47 :: Lib.join [wBy, l] [47] := rfl
    rw [e, join_two, Lib.join_one]
    simp [wBy]; omega
  · have := name_len h3
    have e : fmtL ⟨5, l, 0, []⟩ = 47 :: Lib.join [wFeed, l] [47] := rfl
    rw [e, join_two, Lib.join_one]
    simp [wFeed]; omega
def shp (a : Adr) : AV := if a.kind = 1 then .raw (.func (.func 59) #[] #[]) else if a.kind = 6 then .raw (.func (.func 60) #[] #[]) else .clo 56 [.elt (.agg [.sl 1 ((partsL a).map str)])]
def fmtA (a : Adr) : AV := if validL a = true then .tup [str (fmtL a), num 0] else .tup [str [], num 120]
theorem join57 (zs : List Str) (sep : Str) (hn : zs.length ≤ 140737488355328) (hl : (Lib.join zs sep).length ≤ 140737488355328) : ACalls Tryz.prog 57 [.sl 1 (zs.map str), str sep] (fun r => r = str (Lib.join zs sep)) :=
  join_raw Tryz.lays156 Tryz.Builder_Extra_156 ndZ ⟨_, _, Tryz.func57, rfl, by decide⟩ zs sep hn hl
theorem itoa58 (n : Int) (h1 : 0 ≤ n) (h2 : n < 100) : ACalls Tryz.prog 58 [num n] (fun r => r = str (dec n)) := by
  obtain ⟨k, rfl⟩ := Int.eq_ofNat_of_zero_le h1
  exact itoa_raw Tryz.lays171 ndZ ⟨_, _, Tryz.func58, rfl, by decide⟩ k (by omega)
theorem join55 (ps : List Str) : ACalls Tryz.prog 55 [.sl 1 (ps.map str)] (fun r => r = .clo 56 [.elt (.agg [.sl 1 (ps.map str)])]) := by
  refine calls_short [(1,[1],[])] ttok hmix Tryz.func55 (by decide) (by decide +kernel) (by simp only [Tryz.f55, Option.bind_some, comp, isLend, lendOf, lendX, lendC, lendH, Nat.reduceLeDiff, Nat.reduceSub, ne_eq, not_false_eq_true, and_self, cops, cguard, gslot, List.getElem?_toArray, List.getElem?_cons_succ, List.getElem?_cons_zero, vlook, tlook, cutAt_nil, cutAt, firstReg, isCut, mkSeq, Nat.reduceAdd, Nat.reduceEqDiff, reduceIte]; rfl) Tryz.ntmps55 Tryz.results55 ⟨_, rfl⟩ rfl ?_
  simp only [List.length_cons, List.length_nil, Nat.reduceAdd, Nat.reduceSub, List.replicate_succ, List.replicate_zero, List.cons_append, List.nil_append, num, str, tru]
  repeat' first|refine Spl.on (fun _=>?_) (fun _=>?_)|with_reducible refine gd ?_|simp only [go_sem, Int.reduceEq, List.length_nil]
  all_goals rfl
theorem text56 (ps : List Str) (hn : ps.length ≤ 1000) (hl : (Lib.join ps [47]).length ≤ 1000) : ACalls Tryz.prog 56 [.elt (.agg [.sl 1 (ps.map str)])] (fun r => r = str (47 :: Lib.join ps [47])) := by
  refine calls_short [] ttok hmix Tryz.func56 (by decide) (by decide +kernel) (by simp only [Tryz.f56, Option.bind_some, comp, isLend, lendOf, lendX, lendC, lendH, Nat.reduceLeDiff, Nat.reduceSub, ne_eq, not_false_eq_true, and_self, cops, cguard, gslot, List.getElem?_toArray, List.getElem?_cons_succ, List.getElem?_cons_zero, vlook, tlook, cutAt_nil, cutAt, firstReg, isCut, mkSeq, Nat.reduceAdd, Nat.reduceEqDiff, reduceIte]; rfl) Tryz.ntmps56 Tryz.results56 ⟨_, rfl⟩ rfl ?_
  simp only [List.length_cons, List.length_nil, Nat.reduceAdd, Nat.reduceSub, List.replicate_succ, List.replicate_zero, List.cons_append, List.nil_append, num, str, tru]
  repeat' first|refine Spl.on (fun _=>?_) (fun _=>?_)|with_reducible refine gd ?_|simp only [go_sem, Int.reduceEq, List.length_nil]
  refine ((join57 ps [47] (by omega) (by omega)).wk ?_).mono ?_
  · try simp only [num, str]
    repeat first | exact Wk.nil | exact Wk.refl _ | refine wk_agg ?_ ?_ | refine wk_ownsl ?_ | refine wk_nilsl ?_ | refine Wk.same ?_
  rintro r rfl
  try simp only [tru, num, str]
  repeat' first|refine Spl.on (fun _=>?_) (fun _=>?_)|with_reducible refine gd ?_|simp only [go_sem, Int.reduceEq, List.length_nil]
  all_goals first | rfl | omega
theorem front59 : ACalls Tryz.prog 59 [] (fun r => r = str [47]) := by
  refine calls_short [] ttok hmix Tryz.func59 (by decide) (by decide +kernel) (by simp only [Tryz.f59, Option.bind_some, comp, isLend, lendOf, lendX, lendC, lendH, Nat.reduceLeDiff, Nat.reduceSub, ne_eq, not_false_eq_true, and_self, cops, cguard, gslot, List.getElem?_toArray, List.getElem?_cons_succ, List.getElem?_cons_zero, vlook, tlook, cutAt_nil, cutAt, firstReg, isCut, mkSeq, Nat.reduceAdd, Nat.reduceEqDiff, reduceIte]; rfl) Tryz.ntmps59 Tryz.results59 ⟨_, rfl⟩ rfl ?_
  simp only [List.length_cons, List.length_nil, Nat.reduceAdd, Nat.reduceSub, List.replicate_succ, List.replicate_zero, List.cons_append, List.nil_append, num, str, tru]
  repeat' first|refine Spl.on (fun _=>?_) (fun _=>?_)|with_reducible refine gd ?_|simp only [go_sem, Int.reduceEq, List.length_nil]
  all_goals rfl
theorem map60 : ACalls Tryz.prog 60 [] (fun r => r = str (47 :: wMap)) := by
  refine calls_short [] ttok hmix Tryz.func60 (by decide) (by decide +kernel) (by simp only [Tryz.f60, Option.bind_some, comp, isLend, lendOf, lendX, lendC, lendH, Nat.reduceLeDiff, Nat.reduceSub, ne_eq, not_false_eq_true, and_self, cops, cguard, gslot, List.getElem?_toArray, List.getElem?_cons_succ, List.getElem?_cons_zero, vlook, tlook, cutAt_nil, cutAt, firstReg, isCut, mkSeq, Nat.reduceAdd, Nat.reduceEqDiff, reduceIte]; rfl) Tryz.ntmps60 Tryz.results60 ⟨_, rfl⟩ rfl ?_
  simp only [List.length_cons, List.length_nil, Nat.reduceAdd, Nat.reduceSub, List.replicate_succ, List.replicate_zero, List.cons_append, List.nil_append, num, str, tru]
  repeat' first|refine Spl.on (fun _=>?_) (fun _=>?_)|with_reducible refine gd ?_|simp only [go_sem, Int.reduceEq, List.length_nil]
  all_goals rfl
theorem shape30 (a : Adr) (hv : validL a = true) : ACalls Tryz.prog 30 [adrA a] (fun r => r = .agg [num (urgL a), shp a]) := by
  have hk := valid_k hv
  have hn := valid_n hv
  simp only [adrA]
  refine calls_short [] ttok hmix Tryz.func30 (by decide) (by decide +kernel) (by simp only [Tryz.f30, Option.bind_some, comp, isLend, lendOf, lendX, lendC, lendH, Nat.reduceLeDiff, Nat.reduceSub, ne_eq, not_false_eq_true, and_self, cops, cguard, gslot, List.getElem?_toArray, List.getElem?_cons_succ, List.getElem?_cons_zero, vlook, tlook, cutAt_nil, cutAt, firstReg, isCut, mkSeq, Nat.reduceAdd, Nat.reduceEqDiff, reduceIte]; rfl) Tryz.ntmps30 Tryz.results30 ⟨_, rfl⟩ rfl ?_
  simp only [List.length_cons, List.length_nil, Nat.reduceAdd, Nat.reduceSub, List.replicate_succ, List.replicate_zero, List.cons_append, List.nil_append, num, str, tru]
  by_cases hk2 : a.kind = 2
  · have e2 := eq_true (show a.kind = 2 by omega)
    have e3 := eq_false (show ¬ a.kind = 3 by omega)
    have e4 := eq_false (show ¬ a.kind = 4 by omega)
    have e5 := eq_false (show ¬ a.kind = 5 by omega)
    have e1 := eq_false (show ¬ a.kind = 1 by omega)
    have e6 := eq_false (show ¬ a.kind = 6 by omega)
    repeat' first|refine Spl.on (fun _=>?_) (fun _=>?_)|with_reducible refine gd ?_|simp only [go_sem, Int.reduceEq, List.length_nil, e2, e3, e4, e5, e1, e6]
    refine ((itoa58 a.n hn.1 (by omega)).wk ?_).mono ?_
    · try simp only [num, str]
      repeat first | exact Wk.nil | exact Wk.refl _ | refine wk_agg ?_ ?_ | refine wk_ownsl ?_ | refine wk_nilsl ?_ | refine Wk.same ?_
    rintro r rfl
    try simp only [tru, num, str]
    repeat' first|refine Spl.on (fun _=>?_) (fun _=>?_)|with_reducible refine gd ?_|simp only [go_sem, Int.reduceEq, List.length_nil, e2, e3, e4, e5, e1, e6]
    refine ((join55 [wStory, dec a.n, a.lang]).wk ?_).mono ?_
    · simp only [List.map_cons, List.map_nil, num, str, wStory, wTopic, wBy, wFeed]
      repeat first | exact Wk.nil | exact Wk.refl _ | refine wk_agg ?_ ?_ | refine wk_ownsl ?_ | refine wk_nilsl ?_ | refine Wk.same ?_
    rintro r rfl
    try simp only [tru, num, str]
    repeat' first|refine Spl.on (fun _=>?_) (fun _=>?_)|with_reducible refine gd ?_|simp only [go_sem, Int.reduceEq, List.length_nil, e2, e3, e4, e5, e1, e6]
    all_goals first | rfl | (simp [urgL, shp, partsL, wStory, wTopic, wBy, wFeed, dec, str, num, *]; done)
  · by_cases hk3 : a.kind = 3
    · have e2 := eq_false (show ¬ a.kind = 2 by omega)
      have e3 := eq_true (show a.kind = 3 by omega)
      have e4 := eq_false (show ¬ a.kind = 4 by omega)
      have e5 := eq_false (show ¬ a.kind = 5 by omega)
      have e1 := eq_false (show ¬ a.kind = 1 by omega)
      have e6 := eq_false (show ¬ a.kind = 6 by omega)
      repeat' first|refine Spl.on (fun _=>?_) (fun _=>?_)|with_reducible refine gd ?_|simp only [go_sem, Int.reduceEq, List.length_nil, e2, e3, e4, e5, e1, e6]
      refine ((itoa58 a.n hn.1 (by omega)).wk ?_).mono ?_
      · try simp only [num, str]
        repeat first | exact Wk.nil | exact Wk.refl _ | refine wk_agg ?_ ?_ | refine wk_ownsl ?_ | refine wk_nilsl ?_ | refine Wk.same ?_
      rintro r rfl
      try simp only [tru, num, str]
      repeat' first|refine Spl.on (fun _=>?_) (fun _=>?_)|with_reducible refine gd ?_|simp only [go_sem, Int.reduceEq, List.length_nil, e2, e3, e4, e5, e1, e6]
      refine ((join55 [wTopic, a.name, dec a.n]).wk ?_).mono ?_
      · simp only [List.map_cons, List.map_nil, num, str, wStory, wTopic, wBy, wFeed]
        repeat first | exact Wk.nil | exact Wk.refl _ | refine wk_agg ?_ ?_ | refine wk_ownsl ?_ | refine wk_nilsl ?_ | refine Wk.same ?_
      rintro r rfl
      try simp only [tru, num, str]
      repeat' first|refine Spl.on (fun _=>?_) (fun _=>?_)|with_reducible refine gd ?_|simp only [go_sem, Int.reduceEq, List.length_nil, e2, e3, e4, e5, e1, e6]
      all_goals first | rfl | (simp [urgL, shp, partsL, wStory, wTopic, wBy, wFeed, dec, str, num, *]; done)
    · by_cases hk4 : a.kind = 4
      · have e2 := eq_false (show ¬ a.kind = 2 by omega)
        have e3 := eq_false (show ¬ a.kind = 3 by omega)
        have e4 := eq_true (show a.kind = 4 by omega)
        have e5 := eq_false (show ¬ a.kind = 5 by omega)
        have e1 := eq_false (show ¬ a.kind = 1 by omega)
        have e6 := eq_false (show ¬ a.kind = 6 by omega)
        repeat' first|refine Spl.on (fun _=>?_) (fun _=>?_)|with_reducible refine gd ?_|simp only [go_sem, Int.reduceEq, List.length_nil, e2, e3, e4, e5, e1, e6]
        refine ((itoa58 a.n hn.1 (by omega)).wk ?_).mono ?_
        · try simp only [num, str]
          repeat first | exact Wk.nil | exact Wk.refl _ | refine wk_agg ?_ ?_ | refine wk_ownsl ?_ | refine wk_nilsl ?_ | refine Wk.same ?_
        rintro r rfl
        try simp only [tru, num, str]
        repeat' first|refine Spl.on (fun _=>?_) (fun _=>?_)|with_reducible refine gd ?_|simp only [go_sem, Int.reduceEq, List.length_nil, e2, e3, e4, e5, e1, e6]
        refine ((join55 [wBy, a.name]).wk ?_).mono ?_
        · simp only [List.map_cons, List.map_nil, num, str, wStory, wTopic, wBy, wFeed]
          repeat first | exact Wk.nil | exact Wk.refl _ | refine wk_agg ?_ ?_ | refine wk_ownsl ?_ | refine wk_nilsl ?_ | refine Wk.same ?_
        rintro r rfl
        try simp only [tru, num, str]
        repeat' first|refine Spl.on (fun _=>?_) (fun _=>?_)|with_reducible refine gd ?_|simp only [go_sem, Int.reduceEq, List.length_nil, e2, e3, e4, e5, e1, e6]
        all_goals first | rfl | (simp [urgL, shp, partsL, wStory, wTopic, wBy, wFeed, dec, str, num, *]; done)
      · by_cases hk5 : a.kind = 5
        · have e2 := eq_false (show ¬ a.kind = 2 by omega)
          have e3 := eq_false (show ¬ a.kind = 3 by omega)
          have e4 := eq_false (show ¬ a.kind = 4 by omega)
          have e5 := eq_true (show a.kind = 5 by omega)
          have e1 := eq_false (show ¬ a.kind = 1 by omega)
          have e6 := eq_false (show ¬ a.kind = 6 by omega)
          repeat' first|refine Spl.on (fun _=>?_) (fun _=>?_)|with_reducible refine gd ?_|simp only [go_sem, Int.reduceEq, List.length_nil, e2, e3, e4, e5, e1, e6]
          refine ((itoa58 a.n hn.1 (by omega)).wk ?_).mono ?_
          · try simp only [num, str]
            repeat first | exact Wk.nil | exact Wk.refl _ | refine wk_agg ?_ ?_ | refine wk_ownsl ?_ | refine wk_nilsl ?_ | refine Wk.same ?_
          rintro r rfl
          try simp only [tru, num, str]
          repeat' first|refine Spl.on (fun _=>?_) (fun _=>?_)|with_reducible refine gd ?_|simp only [go_sem, Int.reduceEq, List.length_nil, e2, e3, e4, e5, e1, e6]
          refine ((join55 [wFeed, a.name]).wk ?_).mono ?_
          · simp only [List.map_cons, List.map_nil, num, str, wStory, wTopic, wBy, wFeed]
            repeat first | exact Wk.nil | exact Wk.refl _ | refine wk_agg ?_ ?_ | refine wk_ownsl ?_ | refine wk_nilsl ?_ | refine Wk.same ?_
          rintro r rfl
          try simp only [tru, num, str]
          repeat' first|refine Spl.on (fun _=>?_) (fun _=>?_)|with_reducible refine gd ?_|simp only [go_sem, Int.reduceEq, List.length_nil, e2, e3, e4, e5, e1, e6]
          all_goals first | rfl | (simp [urgL, shp, partsL, wStory, wTopic, wBy, wFeed, dec, str, num, *]; done)
        · by_cases hk1 : a.kind = 1
          · have e2 := eq_false (show ¬ a.kind = 2 by omega)
            have e3 := eq_false (show ¬ a.kind = 3 by omega)
            have e4 := eq_false (show ¬ a.kind = 4 by omega)
            have e5 := eq_false (show ¬ a.kind = 5 by omega)
            have e1 := eq_true (show a.kind = 1 by omega)
            have e6 := eq_false (show ¬ a.kind = 6 by omega)
            repeat' first|refine Spl.on (fun _=>?_) (fun _=>?_)|with_reducible refine gd ?_|simp only [go_sem, Int.reduceEq, List.length_nil, e2, e3, e4, e5, e1, e6]
            refine ((itoa58 a.n hn.1 (by omega)).wk ?_).mono ?_
            · try simp only [num, str]
              repeat first | exact Wk.nil | exact Wk.refl _ | refine wk_agg ?_ ?_ | refine wk_ownsl ?_ | refine wk_nilsl ?_ | refine Wk.same ?_
            rintro r rfl
            try simp only [tru, num, str]
            repeat' first|refine Spl.on (fun _=>?_) (fun _=>?_)|with_reducible refine gd ?_|simp only [go_sem, Int.reduceEq, List.length_nil, e2, e3, e4, e5, e1, e6]
            all_goals first | rfl | (simp [urgL, shp, partsL, wStory, wTopic, wBy, wFeed, dec, str, num, *]; done)
          · by_cases hk6 : a.kind = 6
            · have e2 := eq_false (show ¬ a.kind = 2 by omega)
              have e3 := eq_false (show ¬ a.kind = 3 by omega)
              have e4 := eq_false (show ¬ a.kind = 4 by omega)
              have e5 := eq_false (show ¬ a.kind = 5 by omega)
              have e1 := eq_false (show ¬ a.kind = 1 by omega)
              have e6 := eq_true (show a.kind = 6 by omega)
              repeat' first|refine Spl.on (fun _=>?_) (fun _=>?_)|with_reducible refine gd ?_|simp only [go_sem, Int.reduceEq, List.length_nil, e2, e3, e4, e5, e1, e6]
              refine ((itoa58 a.n hn.1 (by omega)).wk ?_).mono ?_
              · try simp only [num, str]
                repeat first | exact Wk.nil | exact Wk.refl _ | refine wk_agg ?_ ?_ | refine wk_ownsl ?_ | refine wk_nilsl ?_ | refine Wk.same ?_
              rintro r rfl
              try simp only [tru, num, str]
              repeat' first|refine Spl.on (fun _=>?_) (fun _=>?_)|with_reducible refine gd ?_|simp only [go_sem, Int.reduceEq, List.length_nil, e2, e3, e4, e5, e1, e6]
              all_goals first | rfl | (simp [urgL, shp, partsL, wStory, wTopic, wBy, wFeed, dec, str, num, *]; done)
            · have e2 := eq_false (show ¬ a.kind = 2 by omega)
              have e3 := eq_false (show ¬ a.kind = 3 by omega)
              have e4 := eq_false (show ¬ a.kind = 4 by omega)
              have e5 := eq_false (show ¬ a.kind = 5 by omega)
              have e1 := eq_false (show ¬ a.kind = 1 by omega)
              have e6 := eq_false (show ¬ a.kind = 6 by omega)
              exact absurd hk (by omega)
theorem format14 (a : Adr) : ACalls Tryz.prog 14 [adrA a] (fun r => r = fmtA a) := by
  simp only [adrA]
  refine calls_short [] ttok hmix Tryz.func14 (by decide) (by decide +kernel) (by simp only [Tryz.f14, Option.bind_some, comp, isLend, lendOf, lendX, lendC, lendH, Nat.reduceLeDiff, Nat.reduceSub, ne_eq, not_false_eq_true, and_self, cops, cguard, gslot, List.getElem?_toArray, List.getElem?_cons_succ, List.getElem?_cons_zero, vlook, tlook, cutAt_nil, cutAt, firstReg, isCut, mkSeq, Nat.reduceAdd, Nat.reduceEqDiff, reduceIte]; rfl) Tryz.ntmps14 Tryz.results14 ⟨_, rfl⟩ rfl ?_
  simp only [List.length_cons, List.length_nil, Nat.reduceAdd, Nat.reduceSub, List.replicate_succ, List.replicate_zero, List.cons_append, List.nil_append, num, str, tru]
  cases hv : validL a
  · repeat' first|refine Spl.on (fun _=>?_) (fun _=>?_)|with_reducible refine gd ?_|simp only [go_sem, Int.reduceEq, List.length_nil]
    refine ((valid16 a).wk ?_).mono ?_
    · try simp only [num, str]
      repeat first | exact Wk.nil | exact Wk.refl _ | refine wk_agg ?_ ?_ | refine wk_ownsl ?_ | refine wk_nilsl ?_ | refine Wk.same ?_
    rintro r rfl
    try simp only [tru, num, str]
    repeat' first|refine Spl.on (fun _=>?_) (fun _=>?_)|with_reducible refine gd ?_|simp only [go_sem, Int.reduceEq, List.length_nil, hv]
    all_goals first | rfl | (simp [fmtA, hv, str, num]; done)
  · have hk := valid_k hv
    by_cases hk2 : a.kind = 2
    · have e2 := eq_true (show a.kind = 2 by omega)
      have e3 := eq_false (show ¬ a.kind = 3 by omega)
      have e4 := eq_false (show ¬ a.kind = 4 by omega)
      have e5 := eq_false (show ¬ a.kind = 5 by omega)
      have e1 := eq_false (show ¬ a.kind = 1 by omega)
      have e6 := eq_false (show ¬ a.kind = 6 by omega)
      repeat' first|refine Spl.on (fun _=>?_) (fun _=>?_)|with_reducible refine gd ?_|simp only [go_sem, Int.reduceEq, List.length_nil, e2, e3, e4, e5, e1, e6, hv]
      refine ((valid16 a).wk ?_).mono ?_
      · try simp only [num, str]
        repeat first | exact Wk.nil | exact Wk.refl _ | refine wk_agg ?_ ?_ | refine wk_ownsl ?_ | refine wk_nilsl ?_ | refine Wk.same ?_
      rintro r rfl
      try simp only [tru, num, str]
      repeat' first|refine Spl.on (fun _=>?_) (fun _=>?_)|with_reducible refine gd ?_|simp only [go_sem, Int.reduceEq, List.length_nil, e2, e3, e4, e5, e1, e6, hv]
      refine ((shape30 a hv).wk ?_).mono ?_
      · try simp only [adrA, num, str]
        repeat first | exact Wk.nil | exact Wk.refl _ | refine wk_agg ?_ ?_ | refine wk_ownsl ?_ | refine wk_nilsl ?_ | refine Wk.same ?_
      rintro r rfl
      simp only [shp, e2, e3, e4, e5, e1, e6, num, if_true, if_false]
      repeat' first|refine Spl.on (fun _=>?_) (fun _=>?_)|with_reducible refine gd ?_|simp only [go_sem, Int.reduceEq, List.length_nil, e2, e3, e4, e5, e1, e6, hv]
      refine ((text56 (partsL a) (by have := valid_parts hv; omega) (by have := valid_len hv; simp only [fmtL, List.length_cons] at this; omega)).wk ?_).mono ?_
      · try simp only [num, str]
        repeat first | exact Wk.nil | exact Wk.refl _ | refine wk_agg ?_ ?_ | refine wk_ownsl ?_ | refine wk_nilsl ?_ | refine Wk.same ?_
      rintro r rfl
      try simp only [tru, num, str]
      repeat' first|refine Spl.on (fun _=>?_) (fun _=>?_)|with_reducible refine gd ?_|simp only [go_sem, Int.reduceEq, List.length_nil, e2, e3, e4, e5, e1, e6]
      all_goals first | rfl | (simp [fmtA, hv, fmtL, partsL, Lib.join, wMap, str, num, *]; done)
    · by_cases hk3 : a.kind = 3
      · have e2 := eq_false (show ¬ a.kind = 2 by omega)
        have e3 := eq_true (show a.kind = 3 by omega)
        have e4 := eq_false (show ¬ a.kind = 4 by omega)
        have e5 := eq_false (show ¬ a.kind = 5 by omega)
        have e1 := eq_false (show ¬ a.kind = 1 by omega)
        have e6 := eq_false (show ¬ a.kind = 6 by omega)
        repeat' first|refine Spl.on (fun _=>?_) (fun _=>?_)|with_reducible refine gd ?_|simp only [go_sem, Int.reduceEq, List.length_nil, e2, e3, e4, e5, e1, e6, hv]
        refine ((valid16 a).wk ?_).mono ?_
        · try simp only [num, str]
          repeat first | exact Wk.nil | exact Wk.refl _ | refine wk_agg ?_ ?_ | refine wk_ownsl ?_ | refine wk_nilsl ?_ | refine Wk.same ?_
        rintro r rfl
        try simp only [tru, num, str]
        repeat' first|refine Spl.on (fun _=>?_) (fun _=>?_)|with_reducible refine gd ?_|simp only [go_sem, Int.reduceEq, List.length_nil, e2, e3, e4, e5, e1, e6, hv]
        refine ((shape30 a hv).wk ?_).mono ?_
        · try simp only [adrA, num, str]
          repeat first | exact Wk.nil | exact Wk.refl _ | refine wk_agg ?_ ?_ | refine wk_ownsl ?_ | refine wk_nilsl ?_ | refine Wk.same ?_
        rintro r rfl
        simp only [shp, e2, e3, e4, e5, e1, e6, num, if_true, if_false]
        repeat' first|refine Spl.on (fun _=>?_) (fun _=>?_)|with_reducible refine gd ?_|simp only [go_sem, Int.reduceEq, List.length_nil, e2, e3, e4, e5, e1, e6, hv]
        refine ((text56 (partsL a) (by have := valid_parts hv; omega) (by have := valid_len hv; simp only [fmtL, List.length_cons] at this; omega)).wk ?_).mono ?_
        · try simp only [num, str]
          repeat first | exact Wk.nil | exact Wk.refl _ | refine wk_agg ?_ ?_ | refine wk_ownsl ?_ | refine wk_nilsl ?_ | refine Wk.same ?_
        rintro r rfl
        try simp only [tru, num, str]
        repeat' first|refine Spl.on (fun _=>?_) (fun _=>?_)|with_reducible refine gd ?_|simp only [go_sem, Int.reduceEq, List.length_nil, e2, e3, e4, e5, e1, e6]
        all_goals first | rfl | (simp [fmtA, hv, fmtL, partsL, Lib.join, wMap, str, num, *]; done)
      · by_cases hk4 : a.kind = 4
        · have e2 := eq_false (show ¬ a.kind = 2 by omega)
          have e3 := eq_false (show ¬ a.kind = 3 by omega)
          have e4 := eq_true (show a.kind = 4 by omega)
          have e5 := eq_false (show ¬ a.kind = 5 by omega)
          have e1 := eq_false (show ¬ a.kind = 1 by omega)
          have e6 := eq_false (show ¬ a.kind = 6 by omega)
          repeat' first|refine Spl.on (fun _=>?_) (fun _=>?_)|with_reducible refine gd ?_|simp only [go_sem, Int.reduceEq, List.length_nil, e2, e3, e4, e5, e1, e6, hv]
          refine ((valid16 a).wk ?_).mono ?_
          · try simp only [num, str]
            repeat first | exact Wk.nil | exact Wk.refl _ | refine wk_agg ?_ ?_ | refine wk_ownsl ?_ | refine wk_nilsl ?_ | refine Wk.same ?_
          rintro r rfl
          try simp only [tru, num, str]
          repeat' first|refine Spl.on (fun _=>?_) (fun _=>?_)|with_reducible refine gd ?_|simp only [go_sem, Int.reduceEq, List.length_nil, e2, e3, e4, e5, e1, e6, hv]
          refine ((shape30 a hv).wk ?_).mono ?_
          · try simp only [adrA, num, str]
            repeat first | exact Wk.nil | exact Wk.refl _ | refine wk_agg ?_ ?_ | refine wk_ownsl ?_ | refine wk_nilsl ?_ | refine Wk.same ?_
          rintro r rfl
          simp only [shp, e2, e3, e4, e5, e1, e6, num, if_true, if_false]
          repeat' first|refine Spl.on (fun _=>?_) (fun _=>?_)|with_reducible refine gd ?_|simp only [go_sem, Int.reduceEq, List.length_nil, e2, e3, e4, e5, e1, e6, hv]
          refine ((text56 (partsL a) (by have := valid_parts hv; omega) (by have := valid_len hv; simp only [fmtL, List.length_cons] at this; omega)).wk ?_).mono ?_
          · try simp only [num, str]
            repeat first | exact Wk.nil | exact Wk.refl _ | refine wk_agg ?_ ?_ | refine wk_ownsl ?_ | refine wk_nilsl ?_ | refine Wk.same ?_
          rintro r rfl
          try simp only [tru, num, str]
          repeat' first|refine Spl.on (fun _=>?_) (fun _=>?_)|with_reducible refine gd ?_|simp only [go_sem, Int.reduceEq, List.length_nil, e2, e3, e4, e5, e1, e6]
          all_goals first | rfl | (simp [fmtA, hv, fmtL, partsL, Lib.join, wMap, str, num, *]; done)
        · by_cases hk5 : a.kind = 5
          · have e2 := eq_false (show ¬ a.kind = 2 by omega)
            have e3 := eq_false (show ¬ a.kind = 3 by omega)
            have e4 := eq_false (show ¬ a.kind = 4 by omega)
            have e5 := eq_true (show a.kind = 5 by omega)
            have e1 := eq_false (show ¬ a.kind = 1 by omega)
            have e6 := eq_false (show ¬ a.kind = 6 by omega)
            repeat' first|refine Spl.on (fun _=>?_) (fun _=>?_)|with_reducible refine gd ?_|simp only [go_sem, Int.reduceEq, List.length_nil, e2, e3, e4, e5, e1, e6, hv]
            refine ((valid16 a).wk ?_).mono ?_
            · try simp only [num, str]
              repeat first | exact Wk.nil | exact Wk.refl _ | refine wk_agg ?_ ?_ | refine wk_ownsl ?_ | refine wk_nilsl ?_ | refine Wk.same ?_
            rintro r rfl
            try simp only [tru, num, str]
            repeat' first|refine Spl.on (fun _=>?_) (fun _=>?_)|with_reducible refine gd ?_|simp only [go_sem, Int.reduceEq, List.length_nil, e2, e3, e4, e5, e1, e6, hv]
            refine ((shape30 a hv).wk ?_).mono ?_
            · try simp only [adrA, num, str]
              repeat first | exact Wk.nil | exact Wk.refl _ | refine wk_agg ?_ ?_ | refine wk_ownsl ?_ | refine wk_nilsl ?_ | refine Wk.same ?_
            rintro r rfl
            simp only [shp, e2, e3, e4, e5, e1, e6, num, if_true, if_false]
            repeat' first|refine Spl.on (fun _=>?_) (fun _=>?_)|with_reducible refine gd ?_|simp only [go_sem, Int.reduceEq, List.length_nil, e2, e3, e4, e5, e1, e6, hv]
            refine ((text56 (partsL a) (by have := valid_parts hv; omega) (by have := valid_len hv; simp only [fmtL, List.length_cons] at this; omega)).wk ?_).mono ?_
            · try simp only [num, str]
              repeat first | exact Wk.nil | exact Wk.refl _ | refine wk_agg ?_ ?_ | refine wk_ownsl ?_ | refine wk_nilsl ?_ | refine Wk.same ?_
            rintro r rfl
            try simp only [tru, num, str]
            repeat' first|refine Spl.on (fun _=>?_) (fun _=>?_)|with_reducible refine gd ?_|simp only [go_sem, Int.reduceEq, List.length_nil, e2, e3, e4, e5, e1, e6]
            all_goals first | rfl | (simp [fmtA, hv, fmtL, partsL, Lib.join, wMap, str, num, *]; done)
          · by_cases hk1 : a.kind = 1
            · have e2 := eq_false (show ¬ a.kind = 2 by omega)
              have e3 := eq_false (show ¬ a.kind = 3 by omega)
              have e4 := eq_false (show ¬ a.kind = 4 by omega)
              have e5 := eq_false (show ¬ a.kind = 5 by omega)
              have e1 := eq_true (show a.kind = 1 by omega)
              have e6 := eq_false (show ¬ a.kind = 6 by omega)
              repeat' first|refine Spl.on (fun _=>?_) (fun _=>?_)|with_reducible refine gd ?_|simp only [go_sem, Int.reduceEq, List.length_nil, e2, e3, e4, e5, e1, e6, hv]
              refine ((valid16 a).wk ?_).mono ?_
              · try simp only [num, str]
                repeat first | exact Wk.nil | exact Wk.refl _ | refine wk_agg ?_ ?_ | refine wk_ownsl ?_ | refine wk_nilsl ?_ | refine Wk.same ?_
              rintro r rfl
              try simp only [tru, num, str]
              repeat' first|refine Spl.on (fun _=>?_) (fun _=>?_)|with_reducible refine gd ?_|simp only [go_sem, Int.reduceEq, List.length_nil, e2, e3, e4, e5, e1, e6, hv]
              refine ((shape30 a hv).wk ?_).mono ?_
              · try simp only [adrA, num, str]
                repeat first | exact Wk.nil | exact Wk.refl _ | refine wk_agg ?_ ?_ | refine wk_ownsl ?_ | refine wk_nilsl ?_ | refine Wk.same ?_
              rintro r rfl
              simp only [shp, e2, e3, e4, e5, e1, e6, num, if_true, if_false]
              repeat' first|refine Spl.on (fun _=>?_) (fun _=>?_)|with_reducible refine gd ?_|simp only [go_sem, Int.reduceEq, List.length_nil, e2, e3, e4, e5, e1, e6, hv]
              refine ((front59).wk ?_).mono ?_
              · try simp only [num, str]
                repeat first | exact Wk.nil | exact Wk.refl _ | refine wk_agg ?_ ?_ | refine wk_ownsl ?_ | refine wk_nilsl ?_ | refine Wk.same ?_
              rintro r rfl
              try simp only [tru, num, str]
              repeat' first|refine Spl.on (fun _=>?_) (fun _=>?_)|with_reducible refine gd ?_|simp only [go_sem, Int.reduceEq, List.length_nil, e2, e3, e4, e5, e1, e6]
              all_goals first | rfl | (simp [fmtA, hv, fmtL, partsL, Lib.join, wMap, str, num, *]; done)
            · by_cases hk6 : a.kind = 6
              · have e2 := eq_false (show ¬ a.kind = 2 by omega)
                have e3 := eq_false (show ¬ a.kind = 3 by omega)
                have e4 := eq_false (show ¬ a.kind = 4 by omega)
                have e5 := eq_false (show ¬ a.kind = 5 by omega)
                have e1 := eq_false (show ¬ a.kind = 1 by omega)
                have e6 := eq_true (show a.kind = 6 by omega)
                repeat' first|refine Spl.on (fun _=>?_) (fun _=>?_)|with_reducible refine gd ?_|simp only [go_sem, Int.reduceEq, List.length_nil, e2, e3, e4, e5, e1, e6, hv]
                refine ((valid16 a).wk ?_).mono ?_
                · try simp only [num, str]
                  repeat first | exact Wk.nil | exact Wk.refl _ | refine wk_agg ?_ ?_ | refine wk_ownsl ?_ | refine wk_nilsl ?_ | refine Wk.same ?_
                rintro r rfl
                try simp only [tru, num, str]
                repeat' first|refine Spl.on (fun _=>?_) (fun _=>?_)|with_reducible refine gd ?_|simp only [go_sem, Int.reduceEq, List.length_nil, e2, e3, e4, e5, e1, e6, hv]
                refine ((shape30 a hv).wk ?_).mono ?_
                · try simp only [adrA, num, str]
                  repeat first | exact Wk.nil | exact Wk.refl _ | refine wk_agg ?_ ?_ | refine wk_ownsl ?_ | refine wk_nilsl ?_ | refine Wk.same ?_
                rintro r rfl
                simp only [shp, e2, e3, e4, e5, e1, e6, num, if_true, if_false]
                repeat' first|refine Spl.on (fun _=>?_) (fun _=>?_)|with_reducible refine gd ?_|simp only [go_sem, Int.reduceEq, List.length_nil, e2, e3, e4, e5, e1, e6, hv]
                refine ((map60).wk ?_).mono ?_
                · try simp only [num, str]
                  repeat first | exact Wk.nil | exact Wk.refl _ | refine wk_agg ?_ ?_ | refine wk_ownsl ?_ | refine wk_nilsl ?_ | refine Wk.same ?_
                rintro r rfl
                try simp only [tru, num, str]
                repeat' first|refine Spl.on (fun _=>?_) (fun _=>?_)|with_reducible refine gd ?_|simp only [go_sem, Int.reduceEq, List.length_nil, e2, e3, e4, e5, e1, e6]
                all_goals first | rfl | (simp [fmtA, hv, fmtL, partsL, Lib.join, wMap, str, num, *]; done)
              · have e2 := eq_false (show ¬ a.kind = 2 by omega)
                have e3 := eq_false (show ¬ a.kind = 3 by omega)
                have e4 := eq_false (show ¬ a.kind = 4 by omega)
                have e5 := eq_false (show ¬ a.kind = 5 by omega)
                have e1 := eq_false (show ¬ a.kind = 1 by omega)
                have e6 := eq_false (show ¬ a.kind = 6 by omega)
                exact absurd hk (by omega)
theorem urgency18 (a : Adr) : ACalls Tryz.prog 18 [adrA a] (fun r => r = num (if validL a = true then urgL a else -1)) := by
  simp only [adrA]
  refine calls_short [] ttok hmix Tryz.func18 (by decide) (by decide +kernel) (by simp only [Tryz.f18, Option.bind_some, comp, isLend, lendOf, lendX, lendC, lendH, Nat.reduceLeDiff, Nat.reduceSub, ne_eq, not_false_eq_true, and_self, cops, cguard, gslot, List.getElem?_toArray, List.getElem?_cons_succ, List.getElem?_cons_zero, vlook, tlook, cutAt_nil, cutAt, firstReg, isCut, mkSeq, Nat.reduceAdd, Nat.reduceEqDiff, reduceIte]; rfl) Tryz.ntmps18 Tryz.results18 ⟨_, rfl⟩ rfl ?_
  simp only [List.length_cons, List.length_nil, Nat.reduceAdd, Nat.reduceSub, List.replicate_succ, List.replicate_zero, List.cons_append, List.nil_append, num, str, tru]
  cases hv : validL a
  · repeat' first|refine Spl.on (fun _=>?_) (fun _=>?_)|with_reducible refine gd ?_|simp only [go_sem, Int.reduceEq, List.length_nil]
    refine ((valid16 a).wk ?_).mono ?_
    · try simp only [num, str]
      repeat first | exact Wk.nil | exact Wk.refl _ | refine wk_agg ?_ ?_ | refine wk_ownsl ?_ | refine wk_nilsl ?_ | refine Wk.same ?_
    rintro r rfl
    try simp only [tru, num, str]
    repeat' first|refine Spl.on (fun _=>?_) (fun _=>?_)|with_reducible refine gd ?_|simp only [go_sem, Int.reduceEq, List.length_nil, hv]
    all_goals first | rfl | (simp [num]; done)
  · repeat' first|refine Spl.on (fun _=>?_) (fun _=>?_)|with_reducible refine gd ?_|simp only [go_sem, Int.reduceEq, List.length_nil]
    refine ((valid16 a).wk ?_).mono ?_
    · try simp only [num, str]
      repeat first | exact Wk.nil | exact Wk.refl _ | refine wk_agg ?_ ?_ | refine wk_ownsl ?_ | refine wk_nilsl ?_ | refine Wk.same ?_
    rintro r rfl
    try simp only [tru, num, str]
    repeat' first|refine Spl.on (fun _=>?_) (fun _=>?_)|with_reducible refine gd ?_|simp only [go_sem, Int.reduceEq, List.length_nil, hv]
    refine ((shape30 a hv).wk ?_).mono ?_
    · try simp only [adrA, num, str]
      repeat first | exact Wk.nil | exact Wk.refl _ | refine wk_agg ?_ ?_ | refine wk_ownsl ?_ | refine wk_nilsl ?_ | refine Wk.same ?_
    rintro r rfl
    simp only [num]
    repeat' first|refine Spl.on (fun _=>?_) (fun _=>?_)|with_reducible refine gd ?_|simp only [go_sem, Int.reduceEq, List.length_nil, hv]
    all_goals first | rfl | (simp [num]; done)
end Go.Proofs.YtkafbgdokgfjmaaGreatDoor
