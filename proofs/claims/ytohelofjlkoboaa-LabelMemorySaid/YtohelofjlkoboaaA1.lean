/- A logic without worlds for Go functions that compute on data: values, what they stand for in memory, what a call may change. Over any program. -/
import Derived.WalkKit
import Derived.Below
import Derived.Lib.Hide
import Derived.Laws.OwnMore
import Derived.Laws.IdiomStrings
import Derived.Laws.BytesArg
import Derived.Shelf.Abstract
namespace Go.Proofs.Ytohelofjlkoboaa
open Go.RowKit

/-- A value as data. 'own': a slice whose spare room is its holder's alone; 'sl': one that is only read; 'box': the address of a block that is its holder's alone; 'row': a slice whose elements, too, are its holder's alone; 'alias': the slice that a slot holds as a row; 'pref s k j o': the address of the cell o of the element j (of k cells) of the row in slot s; 'slx': as 'sl', and what its spare room holds; 'nbox b T cs', 'nmap b ks vs': no value: the block b, a row of cells or a map, that is the holder's alone. -/
inductive AV where
  | any
  | raw (v : Value)
  | agg (cs : List AV)
  | tup (cs : List AV)
  | nil
  | sl (k : Nat) (es : List AV)
  | own (e k : Nat) (es : List AV)
  | box (T : Nat) (cs : List AV)
  | ref (s off : Nat)
  | elt (x : AV)
  | row (e k : Nat) (es : List AV)
  | alias (s : Nat)
  | mine (e k : Nat) (es : List AV)
  | clo (g : Nat) (cs : List AV)
  | yld (l : Nat) (st : Option Nat)
  | pref (s k j o : Nat)
  | slx (k : Nat) (es zs : List AV)
  | nbox (b T : Nat) (cs : List AV)
  | nmap (b : Nat) (ks : List Value) (vs : List AV)

def cellsOf : AV → List AV
  | .agg cs => cs
  | x => [x]
def flat : List AV → List AV
  | [] => []
  | x :: xs => cellsOf x ++ flat xs

def Zc (c : Nat → Nat) : Prop := ∀ b, c b = 0

inductive RepC (w : World) (S : Nat → Nat) : List AV → List Value → (Nat → Nat) → Prop
  | nil {c} (hc : Zc c) : RepC w S [] [] c
  | any {v xs us c} (h : RepC w S xs us c) : RepC w S (.any :: xs) (v :: us) c
  | raw {v xs us c} (h1 : v.oneCell' = true) (h : RepC w S xs us c) : RepC w S (.raw v :: xs) (v :: us) c
  | agg {cs vs xs us c c1 c2} (h1 : RepC w S cs vs c1) (ho : ∀ u ∈ vs, u.oneCell' = true) (h : RepC w S xs us c2) (hc : ∀ b, c b = c1 b + c2 b) : RepC w S (.agg cs :: xs) (.agg vs.toArray :: us) c
  | tup {cs vs xs us c c1 c2} (h1 : RepC w S cs vs c1) (h : RepC w S xs us c2) (hc : ∀ b, c b = c1 b + c2 b) : RepC w S (.tup cs :: xs) (.tuple vs.toArray :: us) c
  | nilS {xs us c} (h : RepC w S xs us c) : RepC w S (.nil :: xs) (.slice none 0 0 :: us) c
  | slE {k a cap xs us c} (hcap : cap ≤ maxLen) (h : RepC w S xs us c) : RepC w S (.sl k [] :: xs) (.slice a 0 cap :: us) c
  | sl {k es ad cap cv xs us c c0} (hn : es.length ≤ cap) (hcap : cap ≤ maxLen) (hsp : ad.spot = none) (hk : ∀ x ∈ es, (cellsOf x).length = k) (h1 : RepC w S (flat es) cv c0) (h0 : Zc c0)
      (hcell : ∀ j u, cv[j]? = some u → w.cell? ⟨ad.block, ad.off + j, none⟩ = some u ∧ u.oneCell' = true) (hst : ad.off + cv.length ≤ S ad.block) (h : RepC w S xs us c) :
      RepC w S (.sl k es :: xs) (.slice (some ad) es.length cap :: us) c
  | ownE {e k xs us c} (h : RepC w S xs us c) : RepC w S (.own e k [] :: xs) (.slice none 0 0 :: us) c
  | own {e k es b cap cur xs us c c0 c2} (hn : es.length ≤ cap) (hcap : cap ≤ maxLen) (hk : ∀ x ∈ es, (cellsOf x).length = k) (hb : w.heap[b]? = some (.cells cur e (0, 0))) (hs : cur.size = cap * k)
      (hS : S b = es.length * k) (h1 : RepC w S (flat es) (cur.toList.take (es.length * k)) c0) (h0 : Zc c0) (ho : ∀ u ∈ cur.toList.take (es.length * k), u.oneCell' = true) (h : RepC w S xs us c2) (hc : ∀ x, c x = (if x = b then 1 else 0) + c2 x) :
      RepC w S (.own e k es :: xs) (.slice (some ⟨b, 0, none⟩) es.length cap :: us) c
  | box {b T cs cur xs us c c1 c2} (hb : w.heap[b]? = some (.cells cur T (0, 0))) (hS : S b = 0) (h1 : RepC w S cs cur.toList c1) (ho : ∀ u ∈ cur.toList, u.oneCell' = true) (h : RepC w S xs us c2) (hc : ∀ x, c x = (if x = b then 1 else 0) + (c1 x + c2 x)) :
      RepC w S (.box T cs :: xs) (.pointer (some ⟨b, 0, none⟩) :: us) c
  | ref {s off v xs us c} (h : RepC w S xs us c) : RepC w S (.ref s off :: xs) (v :: us) c
  | elt {x ad cv xs us c c0} (hsp : ad.spot = none) (h1 : RepC w S (cellsOf x) cv c0) (h0 : Zc c0)
      (hcell : ∀ j u, cv[j]? = some u → w.cell? ⟨ad.block, ad.off + j, none⟩ = some u ∧ u.oneCell' = true) (hst : ad.off + cv.length ≤ S ad.block) (h : RepC w S xs us c) :
      RepC w S (.elt x :: xs) (.pointer (some ad) :: us) c
  | rowE {e k xs us c} (h : RepC w S xs us c) : RepC w S (.row e k [] :: xs) (.slice none 0 0 :: us) c
  | row {e k es b cap cur xs us c c0 c2} (hn : es.length ≤ cap) (hcap : cap ≤ maxLen) (hk : ∀ x ∈ es, (cellsOf x).length = k) (hb : w.heap[b]? = some (.cells cur e (0, 0))) (hs : cur.size = cap * k)
      (hS : S b = 0) (h1 : RepC w S (flat es) (cur.toList.take (es.length * k)) c0) (h0 : Zc c0) (ho : ∀ u ∈ cur.toList.take (es.length * k), u.oneCell' = true) (h : RepC w S xs us c2) (hc : ∀ x, c x = (if x = b then 1 else 0) + c2 x) :
      RepC w S (.row e k es :: xs) (.slice (some ⟨b, 0, none⟩) es.length cap :: us) c
  | alias {s v xs us c} (h : RepC w S xs us c) : RepC w S (.alias s :: xs) (v :: us) c
  | mineE {e k xs us c} (h : RepC w S xs us c) : RepC w S (.mine e k [] :: xs) (.slice none 0 0 :: us) c
  | mine {e k es b cap cur xs us c c0 c2} (hn : es.length ≤ cap) (hcap : cap ≤ maxLen) (hk : ∀ x ∈ es, (cellsOf x).length = k) (hb : w.heap[b]? = some (.cells cur e (0, 0))) (hs : cur.size = cap * k)
      (hS : S b = 0) (h1 : RepC w S (flat es) (cur.toList.take (es.length * k)) c0) (h0 : Zc c0) (ho : ∀ u ∈ cur.toList.take (es.length * k), u.oneCell' = true) (h : RepC w S xs us c2) (hc : ∀ x, c x = (if x = b then 1 else 0) + c2 x) :
      RepC w S (.mine e k es :: xs) (.slice (some ⟨b, 0, none⟩) es.length cap :: us) c
  | clo {g cs vs xs us c c0} (h1 : RepC w S cs vs c0) (h0 : Zc c0) (h : RepC w S xs us c) : RepC w S (.clo g cs :: xs) (.func (.func g) #[] vs.toArray :: us) c
  | yld {l st xs us c} (h : RepC w S xs us c) : RepC w S (.yld l st :: xs) (.func (.yield l) #[] #[] :: us) c
  | pref {s k j o v xs us c} (h : RepC w S xs us c) : RepC w S (.pref s k j o :: xs) (v :: us) c
  | slx {k es zs ad cv xs us c c0} (hcap : es.length + zs.length ≤ maxLen) (hsp : ad.spot = none) (hk : ∀ x ∈ es ++ zs, (cellsOf x).length = k) (h1 : RepC w S (flat (es ++ zs)) cv c0) (h0 : Zc c0)
      (hcell : ∀ j u, cv[j]? = some u → w.cell? ⟨ad.block, ad.off + j, none⟩ = some u ∧ u.oneCell' = true) (hst : ad.off + cv.length ≤ S ad.block) (h : RepC w S xs us c) :
      RepC w S (.slx k es zs :: xs) (.slice (some ad) es.length (es.length + zs.length) :: us) c
  | nbox {b T cs cur v xs us c c1 c2} (hb : w.heap[b]? = some (.cells cur T (0, 0))) (hS : S b = 0) (h1 : RepC w S cs cur.toList c1) (ho : ∀ u ∈ cur.toList, u.oneCell' = true) (h : RepC w S xs us c2) (hc : ∀ x, c x = (if x = b then 1 else 0) + (c1 x + c2 x)) :
      RepC w S (.nbox b T cs :: xs) (v :: us) c
  | nmap {b ks vs es k v xs us c c1 c2} (hb : w.heap[b]? = some (.map es k)) (hS : S b = 0) (hks : es.toList.map (·.key) = ks) (hbn : (es.toList.map (·.born)).Pairwise (· < ·) ∧ ∀ e ∈ es.toList, e.born < k) (h1 : RepC w S vs (es.toList.map (·.val)) c1) (h : RepC w S xs us c2) (hc : ∀ x, c x = (if x = b then 1 else 0) + (c1 x + c2 x)) :
      RepC w S (.nmap b ks vs :: xs) (v :: us) c

section
variable {w w' : World} {S S' : Nat → Nat}

theorem RepC.congr {xs vs c c'} (h : RepC w S xs vs c) (hc : ∀ b, c' b = c b) : RepC w S xs vs c' := by
  have : c' = c := funext hc
  rw [this]; exact h

theorem RepC.length {xs vs c} (h : RepC w S xs vs c) : vs.length = xs.length := by
  induction h <;> simp_all

/-- What is kept while the world goes on. -/
theorem RepC.keep {xs vs c} (h : RepC w S xs vs c) (hs : ∀ b o, o < S b → w'.cell? ⟨b, o, none⟩ = w.cell? ⟨b, o, none⟩) (hS : ∀ b, S b ≤ S' b)
    (ho : ∀ b, 0 < c b → w'.heap[b]? = w.heap[b]? ∧ S' b = S b) : RepC w' S' xs vs c := by
  induction h with
  | nil hc => exact .nil hc
  | any h ih => exact .any (ih ho)
  | raw h1 h ih => exact .raw h1 (ih ho)
  | agg h1 hoc h hc ih1 ih => exact .agg (ih1 fun b hb => ho b (by rw [hc]; omega)) hoc (ih fun b hb => ho b (by rw [hc]; omega)) hc
  | tup h1 h hc ih1 ih => exact .tup (ih1 fun b hb => ho b (by rw [hc]; omega)) (ih fun b hb => ho b (by rw [hc]; omega)) hc
  | nilS h ih => exact .nilS (ih ho)
  | slE hcap h ih => exact .slE hcap (ih ho)
  | sl hn hcap hsp hk h1 h0 hcell hst h ih1 ih =>
    refine .sl hn hcap hsp hk (ih1 fun b hb => absurd (h0 b) (by omega)) h0 (fun j u hj => ?_) (Nat.le_trans hst (hS _)) (ih ho)
    have hl := (List.getElem?_eq_some_iff.1 hj).1
    exact ⟨(hs _ _ (by omega)).trans (hcell j u hj).1, (hcell j u hj).2⟩
  | ownE h ih => exact .ownE (ih ho)
  | own hn hcap hk hb hs' hS' h1 h0 hoc h hc ih1 ih =>
    rename_i e k es b cap cur xs us c c0 c2
    have hob := ho b (by rw [hc]; simp; omega)
    exact .own hn hcap hk (hob.1.trans hb) hs' (hob.2.trans hS') (ih1 fun b hb => absurd (h0 b) (by omega)) h0 hoc (ih fun x hx => ho x (by rw [hc]; omega)) hc
  | box hb hS' h1 hoc h hc ih1 ih =>
    rename_i b T cs cur xs us c c1 c2
    have hob := ho b (by rw [hc]; simp; omega)
    exact .box (hob.1.trans hb) (hob.2.trans hS') (ih1 fun x hx => ho x (by rw [hc]; omega)) hoc (ih fun x hx => ho x (by rw [hc]; omega)) hc
  | ref h ih => exact .ref (ih ho)
  | alias h ih => exact .alias (ih ho)
  | rowE h ih => exact .rowE (ih ho)
  | mineE h ih => exact .mineE (ih ho)
  | clo h1 h0 h ih1 ih => exact .clo (ih1 fun b hb => absurd (h0 b) (by omega)) h0 (ih ho)
  | yld h ih => exact .yld (ih ho)
  | pref h ih => exact .pref (ih ho)
  | nbox hb hS' h1 hoc h hc ih1 ih =>
    rename_i b T cs cur v xs us c c1 c2
    have hob := ho b (by rw [hc]; simp; omega)
    exact .nbox (hob.1.trans hb) (hob.2.trans hS') (ih1 fun x hx => ho x (by rw [hc]; omega)) hoc (ih fun x hx => ho x (by rw [hc]; omega)) hc
  | nmap hb hS' hks hbn h1 h hc ih1 ih =>
    rename_i b ks vs es k v xs us c c1 c2
    have hob := ho b (by rw [hc]; simp; omega)
    exact .nmap (hob.1.trans hb) (hob.2.trans hS') hks hbn (ih1 fun x hx => ho x (by rw [hc]; omega)) (ih fun x hx => ho x (by rw [hc]; omega)) hc
  | slx hcap hsp hk h1 h0 hcell hst h ih1 ih =>
    refine .slx hcap hsp hk (ih1 fun b hb => absurd (h0 b) (by omega)) h0 (fun j u hj => ?_) (Nat.le_trans hst (hS _)) (ih ho)
    have hl := (List.getElem?_eq_some_iff.1 hj).1
    exact ⟨(hs _ _ (by omega)).trans (hcell j u hj).1, (hcell j u hj).2⟩
  | row hn hcap hk hb hs' hS' h1 h0 hoc h hc ih1 ih =>
    rename_i e k es b cap cur xs us c c0 c2
    have hob := ho b (by rw [hc]; simp; omega)
    exact .row hn hcap hk (hob.1.trans hb) hs' (hob.2.trans hS') (ih1 fun b hb => absurd (h0 b) (by omega)) h0 hoc (ih fun x hx => ho x (by rw [hc]; omega)) hc
  | mine hn hcap hk hb hs' hS' h1 h0 hoc h hc ih1 ih =>
    rename_i e k es b cap cur xs us c c0 c2
    have hob := ho b (by rw [hc]; simp; omega)
    exact .mine hn hcap hk (hob.1.trans hb) hs' (hob.2.trans hS') (ih1 fun b hb => absurd (h0 b) (by omega)) h0 hoc (ih fun x hx => ho x (by rw [hc]; omega)) hc
  | elt hsp h1 h0 hcell hst h ih1 ih =>
    refine .elt hsp (ih1 fun b hb => absurd (h0 b) (by omega)) h0 (fun j u hj => ?_) (Nat.le_trans hst (hS _)) (ih ho)
    have hl := (List.getElem?_eq_some_iff.1 hj).1
    exact ⟨(hs _ _ (by omega)).trans (hcell j u hj).1, (hcell j u hj).2⟩

theorem RepC.cons {x v c1 xs us c2 c} (h1 : RepC w S [x] [v] c1) (h2 : RepC w S xs us c2) (hc : ∀ b, c b = c1 b + c2 b) : RepC w S (x :: xs) (v :: us) c := by
  cases h1 with
  | any h => cases h with | nil hz => exact .any (h2.congr fun b => by rw [hc, hz b]; omega)
  | raw h1 h => cases h with | nil hz => exact .raw h1 (h2.congr fun b => by rw [hc, hz b]; omega)
  | agg h1 hoc h hcc => cases h with | nil hz => exact .agg h1 hoc h2 fun b => by rw [hc, hcc, hz b]; omega
  | tup h1 h hcc => cases h with | nil hz => exact .tup h1 h2 fun b => by rw [hc, hcc, hz b]; omega
  | nilS h => cases h with | nil hz => exact .nilS (h2.congr fun b => by rw [hc, hz b]; omega)
  | slE hcap h => cases h with | nil hz => exact .slE hcap (h2.congr fun b => by rw [hc, hz b]; omega)
  | sl hn hcap hsp hk h1 h0 hcell hst h => cases h with | nil hz => exact .sl hn hcap hsp hk h1 h0 hcell hst (h2.congr fun b => by rw [hc, hz b]; omega)
  | ownE h => cases h with | nil hz => exact .ownE (h2.congr fun b => by rw [hc, hz b]; omega)
  | own hn hcap hk hb hs' hS' h1 h0 hoc h hcc => cases h with | nil hz => exact .own hn hcap hk hb hs' hS' h1 h0 hoc h2 fun x => by rw [hc, hcc, hz x]; omega
  | box hb hS' h1 hoc h hcc => cases h with | nil hz => exact .box hb hS' h1 hoc h2 fun x => by rw [hc, hcc, hz x]; omega
  | ref h => cases h with | nil hz => exact .ref (h2.congr fun b => by rw [hc, hz b]; omega)
  | alias h => cases h with | nil hz => exact .alias (h2.congr fun b => by rw [hc, hz b]; omega)
  | rowE h => cases h with | nil hz => exact .rowE (h2.congr fun b => by rw [hc, hz b]; omega)
  | mineE h => cases h with | nil hz => exact .mineE (h2.congr fun b => by rw [hc, hz b]; omega)
  | clo h1 h0 h => cases h with | nil hz => exact .clo h1 h0 (h2.congr fun b => by rw [hc, hz b]; omega)
  | yld h => cases h with | nil hz => exact .yld (h2.congr fun b => by rw [hc, hz b]; omega)
  | pref h => cases h with | nil hz => exact .pref (h2.congr fun b => by rw [hc, hz b]; omega)
  | nbox hb hS h1 hoc h hcc => cases h with | nil hz => exact .nbox hb hS h1 hoc h2 fun x => by rw [hc, hcc, hz x]; omega
  | nmap hb hS hks hbn h1 h hcc => cases h with | nil hz => exact .nmap hb hS hks hbn h1 h2 fun x => by rw [hc, hcc, hz x]; omega
  | slx hcap hsp hk h1 h0 hcell hst h => cases h with | nil hz => exact .slx hcap hsp hk h1 h0 hcell hst (h2.congr fun b => by rw [hc, hz b]; omega)
  | row hn hcap hk hb hs' hS' h1 h0 hoc h hcc => cases h with | nil hz => exact .row hn hcap hk hb hs' hS' h1 h0 hoc h2 fun x => by rw [hc, hcc, hz x]; omega
  | mine hn hcap hk hb hs' hS' h1 h0 hoc h hcc => cases h with | nil hz => exact .mine hn hcap hk hb hs' hS' h1 h0 hoc h2 fun x => by rw [hc, hcc, hz x]; omega
  | elt hsp h1 h0 hcell hst h => cases h with | nil hz => exact .elt hsp h1 h0 hcell hst (h2.congr fun b => by rw [hc, hz b]; omega)

theorem zc0 : Zc (fun _ => 0) := fun _ => rfl

theorem RepC.uncons {x xs vs c} (h : RepC w S (x :: xs) vs c) : ∃ v us c1 c2, vs = v :: us ∧ RepC w S [x] [v] c1 ∧ RepC w S xs us c2 ∧ ∀ b, c b = c1 b + c2 b := by
  cases h with
  | any h => exact ⟨_, _, fun _ => 0, c, rfl, .any (.nil zc0), h, fun b => by simp⟩
  | raw h1 h => exact ⟨_, _, fun _ => 0, c, rfl, .raw h1 (.nil zc0), h, fun b => by simp⟩
  | agg h1 hoc h hcc => exact ⟨_, _, _, _, rfl, .agg h1 hoc (.nil zc0) (fun b => by simp), h, hcc⟩
  | tup h1 h hcc => exact ⟨_, _, _, _, rfl, .tup h1 (.nil zc0) (fun b => by simp), h, hcc⟩
  | nilS h => exact ⟨_, _, fun _ => 0, c, rfl, .nilS (.nil zc0), h, fun b => by simp⟩
  | slE hcap h => exact ⟨_, _, fun _ => 0, c, rfl, .slE hcap (.nil zc0), h, fun b => by simp⟩
  | sl hn hcap hsp hk h1 h0 hcell hst h => exact ⟨_, _, fun _ => 0, c, rfl, .sl hn hcap hsp hk h1 h0 hcell hst (.nil zc0), h, fun b => by simp⟩
  | ownE h => exact ⟨_, _, fun _ => 0, c, rfl, .ownE (.nil zc0), h, fun b => by simp⟩
  | own hn hcap hk hb hs' hS' h1 h0 hoc h hcc => exact ⟨_, _, _, _, rfl, .own hn hcap hk hb hs' hS' h1 h0 hoc (.nil zc0) (fun x => rfl), h, fun x => by rw [hcc]; simp⟩
  | box hb hS' h1 hoc h hcc => exact ⟨_, _, _, _, rfl, .box hb hS' h1 hoc (.nil zc0) (fun x => rfl), h, fun x => by rw [hcc]; simp; omega⟩
  | ref h => exact ⟨_, _, fun _ => 0, c, rfl, .ref (.nil zc0), h, fun b => by simp⟩
  | alias h => exact ⟨_, _, fun _ => 0, c, rfl, .alias (.nil zc0), h, fun b => by simp⟩
  | rowE h => exact ⟨_, _, fun _ => 0, c, rfl, .rowE (.nil zc0), h, fun b => by simp⟩
  | mineE h => exact ⟨_, _, fun _ => 0, c, rfl, .mineE (.nil zc0), h, fun b => by simp⟩
  | clo h1 h0 h => exact ⟨_, _, fun _ => 0, c, rfl, .clo h1 h0 (.nil zc0), h, fun b => by simp⟩
  | yld h => exact ⟨_, _, fun _ => 0, c, rfl, .yld (.nil zc0), h, fun b => by simp⟩
  | pref h => exact ⟨_, _, fun _ => 0, c, rfl, .pref (.nil zc0), h, fun b => by simp⟩
  | nbox hb hS h1 hoc h hcc => exact ⟨_, _, _, _, rfl, .nbox hb hS h1 hoc (.nil zc0) (fun x => rfl), h, fun x => by rw [hcc]; simp; omega⟩
  | nmap hb hS hks hbn h1 h hcc => exact ⟨_, _, _, _, rfl, .nmap hb hS hks hbn h1 (.nil zc0) (fun x => rfl), h, fun x => by rw [hcc]; simp; omega⟩
  | slx hcap hsp hk h1 h0 hcell hst h => exact ⟨_, _, fun _ => 0, c, rfl, .slx hcap hsp hk h1 h0 hcell hst (.nil zc0), h, fun b => by simp⟩
  | row hn hcap hk hb hs' hS' h1 h0 hoc h hcc => exact ⟨_, _, _, _, rfl, .row hn hcap hk hb hs' hS' h1 h0 hoc (.nil zc0) (fun x => rfl), h, fun x => by rw [hcc]; simp⟩
  | mine hn hcap hk hb hs' hS' h1 h0 hoc h hcc => exact ⟨_, _, _, _, rfl, .mine hn hcap hk hb hs' hS' h1 h0 hoc (.nil zc0) (fun x => rfl), h, fun x => by rw [hcc]; simp⟩
  | elt hsp h1 h0 hcell hst h => exact ⟨_, _, fun _ => 0, c, rfl, .elt hsp h1 h0 hcell hst (.nil zc0), h, fun b => by simp⟩

theorem RepC.zero {vs c} (h : RepC w S [] vs c) : vs = [] ∧ Zc c := by cases h with | nil hc => exact ⟨rfl, hc⟩

theorem RepC.app {xs vs c1} (h : RepC w S xs vs c1) : ∀ {ys us c2 c}, RepC w S ys us c2 → (∀ b, c b = c1 b + c2 b) → RepC w S (xs ++ ys) (vs ++ us) c := by
  induction xs generalizing vs c1 with
  | nil =>
    intro ys us c2 c h2 hc
    obtain ⟨rfl, hz⟩ := h.zero
    exact h2.congr fun b => by rw [hc, hz b]; omega
  | cons x xs ih =>
    intro ys us c2 c h2 hc
    obtain ⟨v, us', d1, d2, rfl, h1, h3, hd⟩ := h.uncons
    exact RepC.cons h1 (ih h3 h2 (fun b => rfl)) (fun b => by rw [hc, hd]; omega)

theorem RepC.unapp {xs ys : List AV} {vs c} (h : RepC w S (xs ++ ys) vs c) : ∃ us1 us2 c1 c2, vs = us1 ++ us2 ∧ RepC w S xs us1 c1 ∧ RepC w S ys us2 c2 ∧ ∀ b, c b = c1 b + c2 b := by
  induction xs generalizing vs c with
  | nil => exact ⟨[], vs, fun _ => 0, c, rfl, .nil zc0, h, fun b => by simp⟩
  | cons x xs ih =>
    obtain ⟨v, us', d1, d2, rfl, h1, h3, hd⟩ := RepC.uncons (xs := xs ++ ys) h
    obtain ⟨u1, u2, e1, e2, rfl, h4, h5, he⟩ := ih h3
    exact ⟨v :: u1, u2, _, e2, rfl, RepC.cons h1 h4 (fun b => rfl), h5, fun b => by rw [hd, he]; omega⟩

/-- The i-th taken out: its place holds no more what is known of it. -/
theorem RepC.take {xs vs c} (h : RepC w S xs vs c) : ∀ (i : Nat) {x : AV}, xs[i]? = some x → ∃ v c1 c2, vs[i]? = some v ∧ RepC w S [x] [v] c1 ∧ RepC w S (xs.set i .any) vs c2 ∧ ∀ b, c b = c1 b + c2 b := by
  induction xs generalizing vs c with
  | nil => intro i x hx; simp at hx
  | cons y xs ih =>
    intro i x hx
    obtain ⟨v, us', d1, d2, rfl, h1, h3, hd⟩ := h.uncons
    cases i with
    | zero =>
      simp at hx; subst hx
      exact ⟨v, d1, d2, rfl, h1, .any h3, hd⟩
    | succ i =>
      obtain ⟨v', e1, e2, hv, h4, h5, he⟩ := ih h3 i (by simpa using hx)
      exact ⟨v', e1, _, by simpa using hv, h4, RepC.cons h1 h5 (fun b => rfl), fun b => by rw [hd, he]; omega⟩

/-- Another value at the i-th place; what stood there is dropped. -/
theorem RepC.put {xs vs c} (h : RepC w S xs vs c) {y : AV} {u : Value} {cy : Nat → Nat} (hy : RepC w S [y] [u] cy) : ∀ (i : Nat), i < xs.length →
    ∃ c', RepC w S (xs.set i y) (vs.set i u) c' ∧ ∀ b, c' b ≤ cy b + c b := by
  induction xs generalizing vs c with
  | nil => intro i hi; simp at hi
  | cons x xs ih =>
    intro i hi
    obtain ⟨v, us', d1, d2, rfl, h1, h3, hd⟩ := h.uncons
    cases i with
    | zero => exact ⟨_, RepC.cons hy h3 (fun b => rfl), fun b => by rw [hd]; omega⟩
    | succ i =>
      obtain ⟨c', h4, h5⟩ := ih h3 i (by simpa using hi)
      exact ⟨_, RepC.cons h1 h4 (fun b => rfl), fun b => by have := h5 b; rw [hd]; omega⟩

/-- A value put where nothing is known. -/
theorem RepC.fill {xs vs c} (h : RepC w S xs vs c) {y : AV} {u : Value} {cy : Nat → Nat} (hy : RepC w S [y] [u] cy) : ∀ (i : Nat), xs[i]? = some .any →
    RepC w S (xs.set i y) (vs.set i u) (fun b => cy b + c b) := by
  induction xs generalizing vs c with
  | nil => intro i hi; simp at hi
  | cons x xs ih =>
    intro i hi
    obtain ⟨v, us', d1, d2, rfl, h1, h3, hd⟩ := h.uncons
    cases i with
    | zero =>
      simp at hi; subst hi
      have hz : Zc d1 := by cases h1 with | any h => cases h with | nil hz => exact hz
      exact RepC.cons hy h3 (fun b => by rw [hd, hz b]; omega)
    | succ i => exact RepC.cons h1 (ih h3 i (by simpa using hi)) (fun b => by rw [hd]; omega)

/-! ## what is left where a value is taken from -/
def v1 : AV → AV
  | .own _ k es => .sl k es
  | .box _ _ => .any
  | .ref _ _ => .any
  | .row _ _ _ => .any
  | .alias _ => .any
  | .pref _ _ _ _ => .any
  | .nbox _ _ _ => .any
  | .nmap _ _ _ => .any
  | .mine _ _ _ => .any
  | .agg _ => .any
  | .tup _ => .any
  | x => x
def v2 : AV → AV
  | .agg cs => .agg (cs.map v1)
  | x => v1 x
def view : AV → AV
  | .tup cs => .tup (cs.map v2)
  | x => v2 x

theorem RepC.v1 {x v c} (h : RepC w S [x] [v] c) : RepC w S [v1 x] [v] (fun _ => 0) := by
  cases h with
  | any h => exact .any (.nil zc0)
  | raw h1 h => exact .raw h1 (.nil zc0)
  | agg h1 hoc h hcc => exact .any (.nil zc0)
  | tup h1 h hcc => exact .any (.nil zc0)
  | nilS h => exact .nilS (.nil zc0)
  | slE hcap h => exact .slE hcap (.nil zc0)
  | sl hn hcap hsp hk h1 h0 hcell hst h => exact .sl hn hcap hsp hk h1 h0 hcell hst (.nil zc0)
  | ownE h => exact .slE (by decide) (.nil zc0)
  | own hn hcap hk hb hs' hS' h1 h0 hoc h hcc =>
    rename_i e k es b cap cur c0 c2
    refine .sl (c0 := c0) (ad := ⟨b, 0, none⟩) hn hcap rfl hk h1 h0 (fun j u hj => ?_) ?_ (.nil zc0)
    · refine ⟨?_, hoc u (List.mem_of_getElem? hj)⟩
      have hj' := hj
      rw [List.getElem?_take] at hj'
      split at hj'
      · simp only [Nat.zero_add]
        rw [cell_of_row w b j cur e (0, 0) hb]
        simpa using hj'
      · cases hj'
    · have hl := h1.length
      have : (cur.toList.take (es.length * k)).length ≤ es.length * k := by simp; omega
      simp only [hS']
      omega
  | box hb hS' h1 hoc h hcc => exact .any (.nil zc0)
  | ref h => exact .any (.nil zc0)
  | alias h => exact .any (.nil zc0)
  | rowE h => exact .any (.nil zc0)
  | mineE h => exact .any (.nil zc0)
  | clo h1 h0 h => exact .clo h1 h0 (.nil zc0)
  | yld h => exact .yld (.nil zc0)
  | pref h => exact .any (.nil zc0)
  | slx hcap hsp hk h1 h0 hcell hst h => exact .slx hcap hsp hk h1 h0 hcell hst (.nil zc0)
  | nbox hb hS' h1 hoc h hcc => exact .any (.nil zc0)
  | nmap hb hS' hks hbn h1 h hcc => exact .any (.nil zc0)
  | row hn hcap hk hb hs' hS' h1 h0 hoc h hcc => exact .any (.nil zc0)
  | mine hn hcap hk hb hs' hS' h1 h0 hoc h hcc => exact .any (.nil zc0)
  | elt hsp h1 h0 hcell hst h => exact .elt hsp h1 h0 hcell hst (.nil zc0)

/-- A value that is no address of a box. -/
def pl : AV → AV
  | .box _ _ => .any
  | .ref _ _ => .any
  | .row _ _ _ => .any
  | .alias _ => .any
  | .pref _ _ _ _ => .any
  | .nbox _ _ _ => .any
  | .nmap _ _ _ => .any
  | x => x
def pb : AV → Bool
  | .box _ _ => false
  | .ref _ _ => false
  | .row _ _ _ => false
  | .alias _ => false
  | .pref _ _ _ _ => false
  | .nbox _ _ _ => false
  | .nmap _ _ _ => false
  | _ => true
theorem pb_pl (x : AV) : pb (pl x) = true := by cases x <;> rfl
theorem pb_v1 (x : AV) : pb (v1 x) = true := by cases x <;> rfl
theorem RepC.pl {x v c} (h : RepC w S [x] [v] c) : ∃ c', RepC w S [pl x] [v] c' ∧ ∀ b, c' b ≤ c b := by
  cases x with
  | box T cs => exact ⟨_, .any (.nil zc0), fun _ => Nat.zero_le _⟩
  | ref s off => exact ⟨_, .any (.nil zc0), fun _ => Nat.zero_le _⟩
  | row e k es => exact ⟨_, .any (.nil zc0), fun _ => Nat.zero_le _⟩
  | alias s => exact ⟨_, .any (.nil zc0), fun _ => Nat.zero_le _⟩
  | pref s k j o => exact ⟨_, .any (.nil zc0), fun _ => Nat.zero_le _⟩
  | nbox b T cs => exact ⟨_, .any (.nil zc0), fun _ => Nat.zero_le _⟩
  | nmap b ks vs => exact ⟨_, .any (.nil zc0), fun _ => Nat.zero_le _⟩
  | _ => exact ⟨c, by simpa only [Ytohelofjlkoboaa.pl] using h, fun _ => Nat.le_refl _⟩
theorem RepC.map_v {f : AV → AV} (hf : ∀ {x v c}, RepC w S [x] [v] c → RepC w S [f x] [v] (fun _ => 0)) {xs vs c} (h : RepC w S xs vs c) : RepC w S (xs.map f) vs (fun _ => 0) := by
  induction xs generalizing vs c with
  | nil => obtain ⟨rfl, _⟩ := h.zero; exact .nil zc0
  | cons x xs ih =>
    obtain ⟨v, us', d1, d2, rfl, h1, h3, hd⟩ := h.uncons
    exact RepC.cons (hf h1) (ih h3) (fun b => by simp)

theorem RepC.v2 {x v c} (h : RepC w S [x] [v] c) : RepC w S [v2 x] [v] (fun _ => 0) := by
  cases x with
  | agg cs =>
    cases h with
    | agg h1 hoc h hcc => exact .agg (RepC.map_v RepC.v1 h1) hoc (.nil zc0) (fun b => by simp)
  | _ => exact h.v1

theorem RepC.view {x v c} (h : RepC w S [x] [v] c) : RepC w S [view x] [v] (fun _ => 0) := by
  cases x with
  | tup cs =>
    cases h with
    | tup h1 h hcc => exact .tup (RepC.map_v RepC.v2 h1) (.nil zc0) (fun b => by simp)
  | _ => exact h.v2
end
end Go.Proofs.Ytohelofjlkoboaa
