/- The library's Join, Itoa, Atoi, SplitN as contracts of the logic (no word is said on draws). -/
import Derived.Test.YtkafbgdokgfjmaaGreatDoorL0
import Derived.Shelf.Strings.OnBuilder
import Derived.Shelf.Strings.Split
import Derived.Shelf.Strconv.Itoa3
import Derived.Shelf.Strconv.AtoiAll
namespace Go.Proofs.YtkafbgdokgfjmaaGreatDoor
open Go.RowKit Go.Proofs Go.Shelf
set_option linter.unusedSimpArgs false
set_option linter.unusedVariables false
set_option linter.unusedSectionVars false
variable [Env]

section
variable {P : Program} {ρ : Ren}
theorem join_raw (L : Lays.n156 P ρ) (X : Builder.Extra P ρ) (hd : ¬ Env.drawn) (hfn : FnOk P (ρ.f 156)) (zs : List (List UInt8)) (sep : List UInt8) (hn : zs.length ≤ 140737488355328) (hlen : (Lib.join zs sep).length ≤ 140737488355328) :
    ACalls P (ρ.f 156) [.sl 1 (zs.map str), str sep] (fun r => r = str (Lib.join zs sep)) := by
  refine acalls_below hd hfn _ rfl fun w S vs c hz hv => ?_
  generalize hes : zs.map str = es at hv
  have none : ∀ a cap, zs = [] → Calls P (ρ.f 156) #[.slice a 0 cap, .string (bsOf sep)] w fun e w' => ∃ v, e = .returned v ∧ RepC w' S [str (Lib.join zs sep)] [v] (fun _ => 0) ∧ Below w.heap.size w w' := by
    rintro a cap rfl
    refine (Any.strings_Join_none L X a cap (bsOf sep) w).mono ?_
    rintro e w' ⟨rfl, rfl⟩
    exact ⟨_, rfl, rep_raw1 rfl, Below.refl _ _⟩
  cases hv with
  | slE hcap h =>
    obtain ⟨us, rfl, h'⟩ := rep_one h
    obtain ⟨rfl, _⟩ := h'.zero
    exact none _ _ (List.map_eq_nil_iff.1 hes)
  | sl hn' hcap hsp hk h1 h0 hcell hst h =>
    rename_i ad cap cv us c0
    obtain ⟨us2, rfl, h'⟩ := rep_one h
    obtain ⟨rfl, _⟩ := h'.zero
    subst hes
    rw [flat_strs] at h1
    have hcv := rep_strs h1
    rw [List.length_map] at hn' ⊢
    by_cases hz0 : zs = []
    · have h00 : zs.length = 0 := by rw [hz0]; rfl
      rw [h00]
      exact none _ _ hz0
    · have hl : 0 < zs.length := List.length_pos_iff.2 hz0
      have hcl : cv.length = zs.length := by rw [hcv, List.length_map]
      have hbk : ad.block < w.heap.size := by
        rcases Nat.lt_or_ge ad.block w.heap.size with h | h
        · exact h
        · have := hz ad.block h; omega
      have := Any.strings_Join L X ad.block ad.off cap (zs.map bsOf) (bsOf sep) w (fun j x hx => by
          rw [List.getElem?_map] at hx
          obtain ⟨z, hz1, rfl⟩ := Option.map_eq_some_iff.1 hx
          exact (hcell j (.string (bsOf z)) (by rw [hcv, List.getElem?_map, hz1]; rfl)).1) hbk (by simpa using hn) (by simpa using hn') (by rw [bs_map, bsOf_toList]; exact hlen)
      rw [bs_map, bsOf_toList, List.length_map] at this
      have had : ad = ⟨ad.block, ad.off, Option.none⟩ := by cases ad; simp only at hsp; rw [hsp]
      rw [had]
      refine this.mono ?_
      rintro e w' ⟨rfl, hb⟩
      exact ⟨_, rfl, rep_raw1 rfl, hb⟩

theorem itoa_raw (L : Lays.n171 P ρ) (hd : ¬ Env.drawn) (hfn : FnOk P (ρ.f 171)) (i : Nat) (hi : i < 100) : ACalls P (ρ.f 171) [num i] (fun r => r = str (Lib.decDigits i)) := by
  refine acalls_below hd hfn _ rfl fun w S vs c hz hv => ?_
  obtain ⟨us, rfl, h⟩ := rep_one hv
  obtain ⟨rfl, _⟩ := h.zero
  refine (Any.strconv_Itoa_small L i hi w).mono ?_
  rintro e w' ⟨rfl, rfl⟩
  exact ⟨_, rfl, rep_raw1 rfl, Below.refl _ _⟩

theorem below_bytes (w : World) (e : TypeId) (s : ByteArray) : Below w.heap.size w (Lib.bytesWorld w e s) := by
  refine ⟨rfl, rfl, rfl, by simp [Lib.bytesWorld, World.freeze], fun k hk => ?_⟩
  have hne : w.heap.size ≠ k := by omega
  simp only [Lib.bytesWorld, World.freeze]
  rw [if_neg (by decide)]
  simp only [Array.getElem?_modify, hne, if_false]
  exact Below.heap_alloc w.drew _ _ hk
theorem atoi_raw (L : LaysC.n172 P ρ) (hd : ¬ Env.drawn) (hfn : FnOk P (ρ.f 172)) (s : List UInt8) (hs : s.length ≤ 281474976710656)
    (hg1 : ((ρ.g 15), fun v : Value => v = .nilIface ∨ ∃ te pe, v = .iface te pe) ∈ Env.globs) (hg2 : ((ρ.g 16), fun v : Value => v = .nilIface ∨ ∃ te pe, v = .iface te pe) ∈ Env.globs) :
    ACalls P (ρ.f 172) [str s] (fun r => r = .tup [num (atoiV s), .any]) := by
  refine acalls_below hd hfn _ rfl fun w S vs c hz hv => ?_
  obtain ⟨us, rfl, h⟩ := rep_one hv
  obtain ⟨rfl, _⟩ := h.zero
  have hsz : (bsOf s).size = s.length := by simp [bsOf, ByteArray.size]
  unfold atoiV
  have ht := bsOf_toList s
  cases ha : Lib.atoiAll s with
  | ok v =>
    refine (Any.strconv_Atoi_ok L (bsOf s) (by omega) v (by rw [ht]; exact ha) w).mono ?_
    rintro e w' ⟨rfl, hw⟩
    refine ⟨_, rfl, rep_tup_any rfl, ?_⟩
    rcases hw with rfl | ⟨t, rfl⟩
    · exact Below.refl _ _
    · exact below_bytes _ _ _
  | range =>
    obtain ⟨h1, ev, h2, h3⟩ := hz.g _ hg2
    refine (Any.strconv_Atoi_range L (bsOf s) (by omega) (by rw [ht]; exact ha) ev w h2 h3).mono ?_
    rintro e w' ⟨N, rfl, _, _, hb⟩
    rw [ht]
    exact ⟨_, rfl, rep_tup_any rfl, hb⟩
  | _ =>
    obtain ⟨h1, ev, h2, h3⟩ := hz.g _ hg1
    refine (Any.strconv_Atoi_syntax L (bsOf s) (by omega) (by rw [ht]; exact ha) ev w h2 h3).mono ?_
    rintro e w' ⟨N, rfl, _, _, hb⟩
    exact ⟨_, rfl, rep_tup_any rfl, hb⟩
theorem rep_i1 {w : World} {S c : Nat → Nat} {n : Int} {xs : List AV} {vs : List Value} (h : RepC w S (num n :: xs) vs c) : ∃ us, vs = .int .i64 n :: us ∧ RepC w S xs us c := rep_one h
theorem splitN_raw (L : Lays.n147 P ρ) (hi9 : (P.info? (ρ.t 9)).map (fun i => (i.zero, i.size, i.bytes)) = some (some (.string ByteArray.empty), 1, 16)) (hd : ¬ Env.drawn) (hfn : FnOk P (ρ.f 147))
    (hg : ((ρ.g 1), fun v : Value => ∃ m, v = .int .i64 m) ∈ Env.globs) (s sep : List UInt8) (n : Nat) (hs : s.length < 4294967281) (h1 : 1 ≤ sep.length) (hn : 1 ≤ n) (hn2 : n ≤ 9223372036854775807) :
    ACalls P (ρ.f 147) [str s, str sep, num n] (fun r => r = .own (ρ.t 9) 1 ((Lib.splitK sep 0 (min n (s.length + 1) - 1) s).map str)) := by
  refine ⟨hfn, ⟨_, rfl⟩, fun w S vs c hz hv hc => ?_⟩
  obtain ⟨us, rfl, hv1⟩ := rep_one hv
  obtain ⟨us, rfl, hv2⟩ := rep_one hv1
  obtain ⟨us, rfl, hv3⟩ := rep_one hv2
  obtain ⟨rfl, _⟩ := hv3.zero
  obtain ⟨h1', ev, h2, m, rfl⟩ := hz.g _ hg
  have hsz : (bsOf s).size = s.length := by simp [bsOf, ByteArray.size]
  have hsz2 : (bsOf sep).size = sep.length := by simp [bsOf, ByteArray.size]
  refine (Any.strings_SplitN L hi9 (bsOf s) (bsOf sep) n m w (by omega) h2 (by omega) hn hn2).mono ?_
  rintro e w' ⟨rfl, rfl⟩
  rw [hsz]
  have hN : min n (s.length + 1) ≤ 4294967282 := by omega
  have hle := Lib.splitB_length_le (bsOf sep) 0 (min n (s.length + 1) - 1) (bsOf s)
  have hda := Lib.splitB_data (bsOf sep) 0 (min n (s.length + 1) - 1) (bsOf s)
  rw [bsOf_toList, bsOf_toList] at hda
  have hp : 1 ≤ min n (s.length + 1) := by omega
  generalize hN' : min n (s.length + 1) = N at *
  generalize hys : Lib.splitB (bsOf sep) 0 (N - 1) (bsOf s) = ys at *
  rw [← hda]
  have hlen : ((ys.map (·.data.toList)).map str).length = ys.length := by simp
  have hb := Below.alloc (Below.refl w.heap.size w) (Nat.le_refl _) (.cells (Lib.cellsOf ys N) (ρ.t 9))
  have hz0 : S w.heap.size = 0 := hz _ (Nat.le_refl _)
  have hst : Stp w S c (w.alloc (.cells (Lib.cellsOf ys N) (ρ.t 9))) (upd S w.heap.size ys.length) (fun b => if b = w.heap.size then 1 else 0) ∧ Sz (w.alloc (.cells (Lib.cellsOf ys N) (ρ.t 9))) (upd S w.heap.size ys.length) := by
    refine stp_sz hz ⟨hb.os, hb.tape, ⟨hb.output, fun h => absurd h hd⟩, hb.size, fun b hb' _ => ⟨hb.block b hb', by simp [upd, Nat.ne_of_lt hb']⟩, fun b o ho => ?_, fun b => ?_, fun b hb' => by simp [Nat.ne_of_lt hb']⟩ (fun b hb2 => ?_)
    · refine hb.cell (p := ⟨b, o, none⟩) ?_
      rcases Nat.lt_or_ge b w.heap.size with h | h
      · exact h
      · have := hz b h; omega
    · unfold upd; split
      · rename_i h; subst h; omega
      · exact Nat.le_refl _
    · simp only [World.alloc, Array.size_push] at hb2
      have hne : b ≠ w.heap.size := by omega
      simp only [upd, hne, if_false]
      exact hz b (by omega)
  refine ⟨_, _, _, _, rfl, rfl, rfl, ?_, fun b => by split <;> omega, hst.2, hst.1⟩
  rw [← hlen]
  have hlist : (Lib.cellsOf ys N).toList = (ys.map Value.string) ++ List.replicate (N - ys.length) (Value.string ByteArray.empty) := rfl
  have htk : (Lib.cellsOf ys N).toList.take (((ys.map (·.data.toList)).map str).length * 1) = (ys.map (·.data.toList)).map fun l => Value.string (bsOf l) := by
    rw [hlen, Nat.mul_one, hlist, List.take_append_of_le_length (by simp), List.take_of_length_le (by simp), List.map_map]
    exact List.map_congr_left fun x _ => by simp [bsOf]
  refine RepC.own (c0 := fun _ => 0) (c2 := fun _ => 0) (cur := Lib.cellsOf ys N) (by rw [hlen]; omega) (by unfold maxLen; omega) (fun x hx => ?_) (by show (w.heap.push _)[w.heap.size]? = _; simp) (by rw [Lib.cellsOf_size (by omega), Nat.mul_one]) (by rw [hlen]; simp [upd]) ?_ zc0 ?_ (.nil zc0) (fun x => rfl)
  · obtain ⟨y, _, rfl⟩ := List.mem_map.1 hx
    rfl
  · rw [htk, flat_strs]
    exact strs_rep _
  · rw [htk]
    intro u hu
    obtain ⟨y, _, rfl⟩ := List.mem_map.1 hu
    rfl
end
end Go.Proofs.YtkafbgdokgfjmaaGreatDoor
