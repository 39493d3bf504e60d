/- The law LexerJoins. -/
import Derived.Test.YtibdijaacolhkaaT
import Derived.Test.YtibdijaacolhkaaA10
import Derived.Test.YtibdijaacolhkaaX25
namespace Go.Proofs.Ytibdijaacolhkaa
open Go.RowKit Go.Proofs
set_option linter.unusedSimpArgs false
set_option linter.unusedVariables false
set_option maxRecDepth 100000
set_option maxHeartbeats 4000000
theorem jn_len : ∀ {l m : List Tk}, (jn l m).length ≤ l.length + m.length
  | [], m => by simp [jn]
  | [x], [] => by simp [jn]
  | [x], y :: m => by simp only [jn]; split <;> simp <;> omega
  | x :: y :: l, m => by
    have := jn_len (l := y :: l) (m := m)
    rw [jn_cons (.inr (by simp))]
    simp only [List.length_cons] at this ⊢
    omega
theorem jn_nil (l : List Tk) : jn l [] = l := by
  rw [jn_app (fun x y _ h => by cases h), List.append_nil]
theorem jn_snoc : ∀ {l m : List Tk} {y : Tk}, m ≠ [] → jn l (m ++ [y]) = jn l m ++ [y]
  | [], m, y, _ => rfl
  | [x], [], y, h => absurd rfl h
  | [x], z :: m, y, _ => by
    rw [List.cons_append]
    simp only [jn]
    split <;> simp
  | x :: z :: l, m, y, h => by
    have ih := jn_snoc (l := z :: l) (y := y) h
    show x :: jn (z :: l) (m ++ [y]) = x :: (jn (z :: l) m ++ [y])
    rw [ih]
theorem sc_at : ∀ (n : Nat) (u : List UInt8) (a : Nat) (g : Option Nat), u.length ≤ n → (∀ x ∈ sc u a g, x.k ≠ 0) → ∀ x ∈ sc u a g, x.a ≤ a + u.length
  | _, [], a, none, _, _, x, hx => by rw [sc_nil] at hx; cases hx
  | _, [], a, some g, _, h, x, hx => by rw [sc_end] at h; exact (h _ List.mem_cons_self rfl).elim
  | 0, c :: r, _, _, h, _, x, hx => by simp at h
  | n + 1, c :: r, a, none, hl, h, x, hx => by
    simp only [List.length_cons] at hl ⊢
    cases ho : opn (c :: r) with
    | true =>
      rw [sc_opn ho] at h hx
      rw [List.mem_cons] at hx
      rcases hx with rfl | hx
      · simp
      · have := sc_at n r (a + 1) (some a) (by omega) (fun y hy => h y (by simp [hy])) x hx
        omega
    | false =>
      cases hb : (litL (c :: r)).2.2 with
      | true => rw [sc_bad ho hb] at h; exact (h _ List.mem_cons_self rfl).elim
      | false =>
        have hp := litL_pos rfl ho hb
        have hle := (litL_le _ (c :: r) (Nat.le_refl _)).1
        rw [sc_text ho hb] at h hx
        rw [List.mem_cons] at hx
        rcases hx with rfl | hx
        · simp
        · have := sc_at n _ _ none (by simp only [List.length_drop, List.length_cons]; omega) (fun y hy => h y (by simp [hy])) x hx
          simp only [List.length_drop, List.length_cons] at this hle
          omega
  | n + 1, c :: r, a, some g, hl, h, x, hx => by
    simp only [List.length_cons] at hl ⊢
    cases hw : wsp c with
    | true =>
      rw [sc_ws hw] at h hx
      have := sc_at n r (a + 1) (some g) (by omega) h x hx
      omega
    | false =>
      rcases ho : partL (c :: r) with _ | ⟨k, t, m⟩
      · rw [sc_none hw ho] at h; exact (h _ List.mem_cons_self rfl).elim
      · have hp := partL_spec ho
        rw [sc_tok hw ho] at h hx
        rw [List.mem_cons] at hx
        rcases hx with rfl | hx
        · simp
        · have := sc_at n _ _ _ (by simp only [List.length_drop, List.length_cons]; omega) (fun y hy => h y (by simp only [List.mem_cons]; exact .inr hy)) x hx
          have := hp.2.1
          simp only [List.length_drop, List.length_cons] at *
          omega
theorem litL_tlen (u : List UInt8) : (litL u).1.length ≤ u.length := by
  have := litL_le _ u (Nat.le_refl _)
  omega
theorem sc_tl : ∀ (n : Nat) (u : List UInt8) (a : Nat) (g : Option Nat), u.length ≤ n → (∀ x ∈ sc u a g, x.k ≠ 0) → ∀ x ∈ sc u a g, x.t.length ≤ u.length
  | _, [], a, none, _, _, x, hx => by rw [sc_nil] at hx; cases hx
  | _, [], a, some g, _, h, x, hx => by rw [sc_end] at h; exact (h _ List.mem_cons_self rfl).elim
  | 0, c :: r, _, _, h, _, x, hx => by simp at h
  | n + 1, c :: r, a, none, hl, h, x, hx => by
    simp only [List.length_cons] at hl
    cases ho : opn (c :: r) with
    | true =>
      rw [sc_opn ho] at h hx
      rw [List.mem_cons] at hx
      rcases hx with rfl | hx
      · simp
      · have := sc_tl n r (a + 1) (some a) (by omega) (fun y hy => h y (by simp [hy])) x hx
        simp only [List.length_cons]
        omega
    | false =>
      cases hb : (litL (c :: r)).2.2 with
      | true => rw [sc_bad ho hb] at h; exact (h _ List.mem_cons_self rfl).elim
      | false =>
        have hp := litL_pos rfl ho hb
        rw [sc_text ho hb] at h hx
        rw [List.mem_cons] at hx
        rcases hx with rfl | hx
        · exact litL_tlen _
        · have := sc_tl n _ _ none (by simp only [List.length_drop, List.length_cons]; omega) (fun y hy => h y (by simp [hy])) x hx
          simp only [List.length_drop] at this
          omega
  | n + 1, c :: r, a, some g, hl, h, x, hx => by
    simp only [List.length_cons] at hl
    cases hw : wsp c with
    | true =>
      rw [sc_ws hw] at h hx
      have := sc_tl n r (a + 1) (some g) (by omega) h x hx
      simp only [List.length_cons]
      omega
    | false =>
      rcases ho : partL (c :: r) with _ | ⟨k, t, m⟩
      · rw [sc_none hw ho] at h; exact (h _ List.mem_cons_self rfl).elim
      · have hp := partL_spec ho
        have hp2 := partL_text ho
        rw [sc_tok hw ho] at h hx
        rw [List.mem_cons] at hx
        rcases hx with rfl | hx
        · rcases hp2.2.2 with h3 | h3
          · have := h3.2.2.1
            have := hp2.1
            show t.length ≤ _
            omega
          · have := h3.2.2
            have := hp2.1
            show t.length ≤ _
            omega
        · have := sc_tl n _ _ _ (by simp only [List.length_drop, List.length_cons]; omega) (fun y hy => h y (by simp only [List.mem_cons]; exact .inr hy)) x hx
          simp only [List.length_drop] at this
          omega
theorem tokL_good {s : List UInt8} (hl : s.length ≤ 1000) (hk : ∀ x ∈ toks s, x.k ≠ 0) : tokL s = (toks s, 0, 0) := by
  unfold tokL
  rw [if_neg (by omega), find_non hk]
theorem take_map_sh {m : List Tk} {d j : Nat} {x : Tk} (hx : m[j]? = some x) : (m.map (sh d)).take (j + 1) = (m.map (sh d)).take j ++ [sh d x] := by
  rw [List.take_add_one, List.getElem?_map, hx]
  rfl
theorem set_last {l0 : List Tk} {z w : Tk} : ((l0 ++ [z]).map tk).set ((l0 ++ [z]).length - 1) (tk w) = (l0 ++ [w]).map tk := by
  simp
theorem tk_u (t : Tk) : tk t = .agg [.raw (.int .i64 t.k), .raw (.string ⟨t.t.toArray⟩), .raw (.int .i64 (t.a : Nat))] := rfl
theorem sl_own_len {l : List Tk} : (l.map tk).length = l.length := List.length_map ..
theorem law5 (s t : List UInt8) (hs : s.length ≤ 9223372036854775807) (ht : t.length ≤ 9223372036854775807) : ACalls Try.prog 5 [str s, str t] (fun r => r = tru true) := by
  refine calls_short [(1000009,[],[]),(9,[14],[]),(18,[70,84,87,88],[]),(20,[14],[])] ttok hmix Try.func5 (by decide) (by decide +kernel) (by simp only [Try.f5, Option.bind_some, comp, isLend, lendOf, lendX, lendC, lendH, Nat.reduceLeDiff, Nat.reduceSub, ne_eq, not_false_eq_true, and_self, cops, cguard, gslot, List.getElem?_toArray, List.getElem?_cons_succ, List.getElem?_cons_zero, vlook, tlook, cutAt_nil, cutAt, firstReg, isCut, mkSeq, Nat.reduceAdd, Nat.reduceEqDiff, reduceIte]; rfl) Try.ntmps5 Try.results5 ⟨_, rfl⟩ rfl ?_
  simp only [List.length_cons, List.length_nil, Nat.reduceAdd, Nat.reduceSub, List.replicate_succ, List.replicate_zero, List.cons_append, List.nil_append, num, str, tru]
  simp (decide := true) only [mkd_eq [17, 14] [10500014, 10400014, 10100016, 9900014, 9800014, 9600017, 9500014, 9300017, 9200014, 9999900016] [100016] [[14], [17], [], [14], [17], [], [14], [14], [14], [], [], [], [14], [14], []], List.zip_cons_cons, List.zip_nil_left, List.zip_nil_right]
  repeat' first|refine Spl.on (fun _=>?_) (fun _=>?_)|with_reducible refine And.intro (by first|omega|rfl|decide|with_unfolding_all rfl) ?_|simp only [go_sem, Int.reduceEq, decide_false, decide_true, Int.cast_ofNat_Int, List.length_nil, List.length_map, Int.toNat_natCast]
  refine sane9.mono ?_
  rintro r rfl
  simp only [tru]
  repeat' first|refine Spl.on (fun _=>?_) (fun _=>?_)|with_reducible refine And.intro (by first|omega|rfl|decide|with_unfolding_all rfl) ?_|simp only [go_sem, Int.reduceEq, decide_false, decide_true, Int.cast_ofNat_Int, List.length_nil, List.length_map, Int.toNat_natCast]
  have hc1 : (List.take (min (s.length : Int) 400).toNat s).length ≤ 400 := cut_len (s := s) (n := 400)
  have hc2 : (List.take (min (t.length : Int) 400).toNat t).length ≤ 400 := cut_len (s := t) (n := 400)
  generalize List.take (min (s.length : Int) 400).toNat s = a at hc1
  generalize List.take (min (t.length : Int) 400).toNat t = b at hc2
  refine (tokW10 a (by omega)).mono ?_
  rintro r rfl
  rcases tokL_cases a with ⟨x, hx1⟩ | ⟨hx1, hl1, hk1⟩
  · simp only [tokensW, hx1, num, List.map_nil]
    repeat' first|refine Spl.on (fun _=>?_) (fun _=>?_)|with_reducible refine And.intro (by first|omega|rfl|decide|with_unfolding_all rfl) ?_|simp only [go_sem, Int.reduceEq, decide_false, decide_true, Int.cast_ofNat_Int, List.length_nil, List.length_map, Int.toNat_natCast]
    refine (tokW10 b (by omega)).mono ?_
    rintro r rfl
    simp only [tokensW, num]
    repeat' first|refine Spl.on (fun _=>?_) (fun _=>?_)|with_reducible refine And.intro (by first|omega|rfl|decide|with_unfolding_all rfl) ?_|simp only [go_sem, Int.reduceEq, decide_false, decide_true, Int.cast_ofNat_Int, List.length_nil, List.length_map, Int.toNat_natCast]
  · simp only [tokensW, hx1, num]
    repeat' first|refine Spl.on (fun _=>?_) (fun _=>?_)|with_reducible refine And.intro (by first|omega|rfl|decide|with_unfolding_all rfl) ?_|simp only [go_sem, Int.reduceEq, decide_false, decide_true, Int.cast_ofNat_Int, List.length_nil, List.length_map, Int.toNat_natCast]
    refine (tokW10 b (by omega)).mono ?_
    rintro r rfl
    rcases tokL_cases b with ⟨y, hx2⟩ | ⟨hx2, hl2, hk2⟩
    · simp only [tokensW, hx2, num, List.map_nil]
      repeat' first|refine Spl.on (fun _=>?_) (fun _=>?_)|with_reducible refine And.intro (by first|omega|rfl|decide|with_unfolding_all rfl) ?_|simp only [go_sem, Int.reduceEq, decide_false, decide_true, Int.cast_ofNat_Int, List.length_nil, List.length_map, Int.toNat_natCast]
    · obtain ⟨l, hl⟩ : ∃ l, toks a = l := ⟨_, rfl⟩
      obtain ⟨m, hm⟩ : ∃ m, toks b = m := ⟨_, rfl⟩
      have hla := toks_len a
      have hlb := toks_len b
      have hma : ∀ x ∈ m, x.a ≤ 400 := fun x hx => by
        rw [← hm] at hx
        have := sc_at _ b 0 none (Nat.le_refl _) hk2 x hx
        omega
      have hmt : ∀ x ∈ m, x.t.length ≤ 400 := fun x hx => by
        rw [← hm] at hx
        have := sc_tl _ b 0 none (Nat.le_refl _) hk2 x hx
        omega
      have hlt0 : ∀ x ∈ l, x.t.length ≤ 400 := fun x hx => by
        rw [← hl] at hx
        have := sc_tl _ a 0 none (Nat.le_refl _) hk1 x hx
        omega
      rw [hl] at hla
      rw [hm] at hlb
      simp only [tokensW, hx2, num, hm, hl]
      repeat' first|refine Spl.on (fun _=>?_) (fun _=>?_)|with_reducible refine And.intro (by first|omega|rfl|decide|with_unfolding_all rfl) ?_|simp only [go_sem, Int.reduceEq, decide_false, decide_true, Int.cast_ofNat_Int, List.length_nil, List.length_map, Int.toNat_natCast]
      refine cwp_cut [false, false, false, false, false, false, false, false, false, false, false, false, false, false, true, false, false, false, false, false, false, false, false, false, false, false, false, false, false, false, false, false, false, false, false, false, false, false, false, false, false, false, false, false, false, false, false, false, false, false, false, false, false, false, false, false, false, false, false, false, false, false, false, false, false, false, false, false, false, false, false, false, false, false, false, false, false, false, false, false, false, false, false, false, false, false, false, false, false, false, false, false, false, false, false, false, false, false, false, false, false, false, false, false, false, false, false, false, false, false, false, false, false, false, false, false, false, false, false, false, false, false, false, false, false, false, false, false, false, false, false, false] [14] (fun xs => xs = [.own 34 3 []]) ?_ ?_
      · repeat' first|refine Spl.on (fun _=>?_) (fun _=>?_)|with_reducible refine And.intro (by first|omega|rfl|decide|with_unfolding_all rfl) ?_|simp only [go_sem, Int.reduceEq, decide_false, decide_true, Int.cast_ofNat_Int, List.length_nil, List.length_map, Int.toNat_natCast]
        refine cut_mk [.own 34 3 []] rfl ?_
        simp only [hvm_t, hvm_f, hvm_nil, puts_cons, puts_nil, List.set_cons_zero, List.set_cons_succ, num]
        repeat first | exact Wk.nil | refine wk_nilown ?_ | refine Wk.same ?_ | refine wk_any ?_
      · rintro xs rfl
        simp only [hvm_t, hvm_f, hvm_nil, puts_cons, puts_nil, List.set_cons_zero, List.set_cons_succ, num]
        repeat' first|refine Spl.on (fun _=>?_) (fun _=>?_)|with_reducible refine And.intro (by first|omega|rfl|decide|with_unfolding_all rfl) ?_|simp only [go_sem, Int.reduceEq, decide_false, decide_true, Int.cast_ofNat_Int, List.length_nil, List.length_map, Int.toNat_natCast, List.nil_append]
        refine cwp_loop [false, false, false, false, false, false, false, false, false, false, false, true, false, false, true, true, true, true, false, false, false, false, false, false, false, false, false, false, false, false, false, false, false, false, false, false, false, false, false, false, false, false, false, false, false, false, false, false, false, false, false, false, false, false, true, true, true, true, true, true, true, true, true, true, true, true, true, true, true, true, true, true, true, true, true, true, true, true, true, true, true, true, true, true, true, true, true, true, true, true, true, true, true, true, true, true, true, true, true, true, true, true, true, true, true, true, true, true, true, true, false, false, false, false, false, false, false, false, false, false, false, false, false, false, false, false, false, false, false, false, false, false] [11, 14, 15] (fun n2 xs => ∃ (j : Nat) (W : List Tk), j ≤ m.length ∧ j + n2 = m.length ∧ W = jn l ((m.map (sh a.length)).take j) ∧ xs = [.sl 3 (m.map tk), .row 34 3 (W.map tk), num j]) ⟨m.length, _, ⟨0, l, by omega, by omega, by rw [List.take_zero, jn_nil], rfl⟩, ?_⟩ ?_
        · simp only [hvm_t, hvm_f, hvm_nil, puts_cons, puts_nil, List.set_cons_zero, List.set_cons_succ, num]
          repeat first | exact Wk.nil | refine wk_ownsl ?_ | refine Wk.same ?_ | refine wk_any ?_
        · rintro n2 xs ⟨j, W, hj1, hj2, hW, rfl⟩
          simp only [hvm_t, hvm_f, hvm_nil, puts_cons, puts_nil, List.set_cons_zero, List.set_cons_succ, num]
          have hWn : W.length ≤ 2100 := by
            rw [hW]
            have := jn_len (l := l) (m := (m.map (sh a.length)).take j)
            have h2 : ((m.map (sh a.length)).take j).length ≤ m.length := by rw [List.length_take, List.length_map]; omega
            omega
          rcases Nat.lt_or_ge j m.length with hlt | hge
          · have ej := eq_true (show (j : Int) < (m.length : Int) by omega)
            obtain ⟨x, hx⟩ : ∃ x, m[j]? = some x := ⟨_, List.getElem?_eq_getElem hlt⟩
            have hgx : (m.map tk).getD j .any = .agg [.raw (.int .i64 x.k), .raw (.string ⟨x.t.toArray⟩), .raw (.int .i64 (x.a : Nat))] := by simp [hx, tk, tokA, num, str]
            have hxa := hma x (List.mem_of_getElem? hx)
            have hxt := hmt x (List.mem_of_getElem? hx)
            have hw : IntKind.i64.wrap ((j : Int) + 1) = ((j + 1 : Nat) : Int) := wrap_succ (by omega)
            have hwx : IntKind.i64.wrap ((x.a : Int) + (a.length : Int)) = ((x.a + a.length : Nat) : Int) := by rw [wrap_in (by omega) (by omega)]; omega
            have htk := take_map_sh (d := a.length) hx
            by_cases h0 : j = 0
            · have hWl : W = l := by rw [hW, h0, List.take_zero, jn_nil]
              subst hWl
              rcases List.eq_nil_or_concat W with hnil | ⟨l0, z, hlz⟩
              · have e1 := eq_false (show ¬ ((0 : Int) < (W.length : Int)) by rw [hnil]; simp)
                have e0 := eq_true (show (j : Int) = 0 by omega)
                repeat' first|refine Spl.on (fun _=>?_) (fun _=>?_)|with_reducible refine And.intro (by first|omega|rfl|decide|with_unfolding_all rfl) ?_|simp only [go_sem, Int.reduceEq, decide_false, decide_true, Int.cast_ofNat_Int, List.length_nil, List.length_map, Int.toNat_natCast, ej, hw, hwx, hgx, e1, e0]
                try simp only [List.map_append, List.map_cons, List.map_nil, tk_u, sh]
                refine lend_mk (n2 - 1) [.sl 3 (m.map tk), .row 34 3 ((W ++ [sh a.length x]).map tk), num ((j + 1 : Nat) : Int)] (by omega) ⟨j + 1, W ++ [sh a.length x], by omega, by omega, by rw [htk, h0, List.take_zero, List.nil_append, hnil]; rfl, rfl⟩ ?_
                simp only [hvm_t, hvm_f, hvm_nil, puts_cons, puts_nil, List.set_cons_zero, List.set_cons_succ, num]
                try simp only [List.map_append, List.map_cons, List.map_nil, tk_u, sh]
                repeat first | exact Wk.nil | refine Wk.same ?_ | refine wk_any ?_
              · rw [List.concat_eq_append] at hlz
                have e0 := eq_true (show (j : Int) = 0 by omega)
                have hlen : W.length = l0.length + 1 := by rw [hlz]; simp
                have hzt := hlt0 z (by rw [hlz]; simp)
                have e1 := eq_true (show ((0 : Int) < (W.length : Int)) by omega)
                have hws : IntKind.i64.wrap ((W.length : Int) - 1) = ((W.length - 1 : Nat) : Int) := by rw [wrap_in (by omega) (by omega)]; omega
                have hgz : (W.map tk).getD (W.length - 1) .any = .agg [.raw (.int .i64 z.k), .raw (.string ⟨z.t.toArray⟩), .raw (.int .i64 (z.a : Nat))] := by rw [hlz]; simp [tk, tokA, num, str]
                have hset : (W.map tk).set (W.length - 1) (.agg [.raw (.int .i64 z.k), .raw (.string ⟨(z.t ++ x.t).toArray⟩), .raw (.int .i64 (z.a : Nat))]) = (l0 ++ [(⟨z.k, z.t ++ x.t, z.a⟩ : Tk)]).map tk := by
                  rw [hlz]; exact set_last (l0 := l0) (z := z) (w := ⟨z.k, z.t ++ x.t, z.a⟩)
                by_cases hx1 : x.k = 1
                · by_cases hz1 : z.k = 1
                  · have e2 := eq_true hx1
                    have e3 := eq_true hz1
                    repeat' first|refine Spl.on (fun _=>?_) (fun _=>?_)|with_reducible refine And.intro (by first|omega|rfl|decide|with_unfolding_all rfl) ?_|simp only [go_sem, Int.reduceEq, decide_false, decide_true, Int.cast_ofNat_Int, List.length_nil, List.length_map, Int.toNat_natCast, ej, hw, hwx, hgx, e0, e1, e2, e3, hws, hgz, hset]
                    try simp only [List.map_append, List.map_cons, List.map_nil, tk_u, sh]
                    refine lend_mk (n2 - 1) [.sl 3 (m.map tk), .row 34 3 ((l0 ++ [(⟨z.k, z.t ++ x.t, z.a⟩ : Tk)]).map tk), num ((j + 1 : Nat) : Int)] (by omega) ⟨j + 1, l0 ++ [(⟨z.k, z.t ++ x.t, z.a⟩ : Tk)], by omega, by omega, by rw [htk, h0, List.take_zero, List.nil_append, hlz]; exact (jn_last (l := l0) (x := z) (y := sh a.length x) (m := []) hz1 hx1).symm, rfl⟩ ?_
                    simp only [hvm_t, hvm_f, hvm_nil, puts_cons, puts_nil, List.set_cons_zero, List.set_cons_succ, num]
                    try simp only [List.map_append, List.map_cons, List.map_nil, tk_u, sh]
                    repeat first | exact Wk.nil | refine Wk.same ?_ | refine wk_any ?_
                  · have e2 := eq_true hx1
                    have e3 := eq_false hz1
                    repeat' first|refine Spl.on (fun _=>?_) (fun _=>?_)|with_reducible refine And.intro (by first|omega|rfl|decide|with_unfolding_all rfl) ?_|simp only [go_sem, Int.reduceEq, decide_false, decide_true, Int.cast_ofNat_Int, List.length_nil, List.length_map, Int.toNat_natCast, ej, hw, hwx, hgx, e0, e1, e2, e3, hws, hgz]
                    try simp only [List.map_append, List.map_cons, List.map_nil, tk_u, sh]
                    refine lend_mk (n2 - 1) [.sl 3 (m.map tk), .row 34 3 ((W ++ [sh a.length x]).map tk), num ((j + 1 : Nat) : Int)] (by omega) ⟨j + 1, W ++ [sh a.length x], by omega, by omega, by rw [htk, h0, List.take_zero, List.nil_append, jn_app (fun p q hp hq => by rw [hlz] at hp; simp at hp hq; subst hp; subst hq; exact fun hh => hz1 hh.1)], rfl⟩ ?_
                    simp only [hvm_t, hvm_f, hvm_nil, puts_cons, puts_nil, List.set_cons_zero, List.set_cons_succ, num]
                    try simp only [List.map_append, List.map_cons, List.map_nil, tk_u, sh]
                    repeat first | exact Wk.nil | refine Wk.same ?_ | refine wk_any ?_
                · have e2 := eq_false hx1
                  repeat' first|refine Spl.on (fun _=>?_) (fun _=>?_)|with_reducible refine And.intro (by first|omega|rfl|decide|with_unfolding_all rfl) ?_|simp only [go_sem, Int.reduceEq, decide_false, decide_true, Int.cast_ofNat_Int, List.length_nil, List.length_map, Int.toNat_natCast, ej, hw, hwx, hgx, e0, e1, e2, hws]
                  try simp only [List.map_append, List.map_cons, List.map_nil, tk_u, sh]
                  refine lend_mk (n2 - 1) [.sl 3 (m.map tk), .row 34 3 ((W ++ [sh a.length x]).map tk), num ((j + 1 : Nat) : Int)] (by omega) ⟨j + 1, W ++ [sh a.length x], by omega, by omega, by rw [htk, h0, List.take_zero, List.nil_append, jn_app (fun p q hp hq => by simp at hq; subst hq; exact fun hh => hx1 hh.2)], rfl⟩ ?_
                  simp only [hvm_t, hvm_f, hvm_nil, puts_cons, puts_nil, List.set_cons_zero, List.set_cons_succ, num]
                  try simp only [List.map_append, List.map_cons, List.map_nil, tk_u, sh]
                  repeat first | exact Wk.nil | refine Wk.same ?_ | refine wk_any ?_
            · have e0 := eq_false (show ¬ (j : Int) = 0 by omega)
              repeat' first|refine Spl.on (fun _=>?_) (fun _=>?_)|with_reducible refine And.intro (by first|omega|rfl|decide|with_unfolding_all rfl) ?_|simp only [go_sem, Int.reduceEq, decide_false, decide_true, Int.cast_ofNat_Int, List.length_nil, List.length_map, Int.toNat_natCast, ej, hw, hwx, hgx, e0]
              try simp only [List.map_append, List.map_cons, List.map_nil, tk_u, sh]
              refine lend_mk (n2 - 1) [.sl 3 (m.map tk), .row 34 3 ((W ++ [sh a.length x]).map tk), num ((j + 1 : Nat) : Int)] (by omega) ⟨j + 1, W ++ [sh a.length x], by omega, by omega, by rw [htk, jn_snoc (by intro hh; have := congrArg List.length hh; rw [List.length_take, List.length_map, List.length_nil] at this; omega), hW], rfl⟩ ?_
              simp only [hvm_t, hvm_f, hvm_nil, puts_cons, puts_nil, List.set_cons_zero, List.set_cons_succ, num]
              try simp only [List.map_append, List.map_cons, List.map_nil, tk_u, sh]
              repeat first | exact Wk.nil | refine Wk.same ?_ | refine wk_any ?_
          · have ej := eq_false (show ¬ (j : Int) < (m.length : Int) by omega)
            obtain rfl : j = m.length := by omega
            rw [List.take_of_length_le (by rw [List.length_map]; omega)] at hW
            have hjoin : toks (a ++ b) = W := by rw [toks_join hk1 hk2, hW, hl, hm]
            have hkk : ∀ y ∈ toks (a ++ b), y.k ≠ 0 := by
              rw [toks_join hk1 hk2]
              refine jn_k hk1 fun y hy => ?_
              obtain ⟨u, hu, rfl⟩ := List.mem_map.1 hy
              exact hk2 u hu
            have hgood := tokL_good (by rw [List.length_append]; omega) hkk
            repeat' first|refine Spl.on (fun _=>?_) (fun _=>?_)|with_reducible refine And.intro (by first|omega|rfl|decide|with_unfolding_all rfl) ?_|simp only [go_sem, Int.reduceEq, decide_false, decide_true, Int.cast_ofNat_Int, List.length_nil, List.length_map, Int.toNat_natCast, ej]
            refine ((tokW10 (a ++ b) (by rw [List.length_append]; omega)).wk ?_).mono ?_
            · try simp only [num, str]
              repeat first | exact Wk.nil | exact Wk.refl _ | refine wk_agg ?_ ?_ | refine wk_ownsl ?_ | refine wk_nilsl ?_ | refine Wk.same ?_
            rintro r rfl
            simp only [tokensW, hgood, num]
            repeat' first|refine Spl.on (fun _=>?_) (fun _=>?_)|with_reducible refine And.intro (by first|omega|rfl|decide|with_unfolding_all rfl) ?_|simp only [go_sem, Int.reduceEq, decide_false, decide_true, Int.cast_ofNat_Int, List.length_nil, List.length_map, Int.toNat_natCast]
            refine ((same12 (toks (a ++ b)) W (by rw [hjoin]; omega) (by omega)).wk ?_).mono ?_
            · try simp only [num, str]
              repeat first | exact Wk.nil | exact Wk.refl _ | refine wk_agg ?_ ?_ | refine wk_ownsl ?_ | refine wk_nilsl ?_ | refine Wk.same ?_
            rintro r rfl
            simp only [tru, num, str]
            repeat' first|refine Spl.on (fun _=>?_) (fun _=>?_)|with_reducible refine And.intro (by first|omega|rfl|decide|with_unfolding_all rfl) ?_|simp only [go_sem, decide_true, hjoin]
theorem lawA5 (xs : List AV) (h : OfA Try.prog [9, 9] xs) : ACalls Try.prog 5 xs (fun r => r = tru true) := by
  obtain ⟨_, y, _, rfl, h1, h⟩ := OfA_cons h
  obtain ⟨_, z, _, rfl, h2, h⟩ := OfA_cons h
  obtain rfl := OfA_nil h
  obtain ⟨s, rfl, hs⟩ := OfE_str Try.underlying9 h1
  obtain ⟨t, rfl, ht⟩ := OfE_str Try.underlying9 h2
  exact law5 s t hs ht
end Go.Proofs.Ytibdijaacolhkaa
