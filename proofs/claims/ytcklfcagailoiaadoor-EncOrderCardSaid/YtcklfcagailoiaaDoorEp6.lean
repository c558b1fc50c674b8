/- Tuples' texts are in the tuples' order, and are read back. No program in sight. -/
import Derived.Test.YtcklfcagailoiaaDoorVs
import Derived.Test.YtcklfcagailoiaaDoorEp5
namespace Go.Proofs.YtcklfcagailoiaaDoor
open Go Ab
set_option linter.unusedVariables false
set_option linter.unusedSimpArgs false
theorem u8_tri (c d : UInt8) : c < d ∨ c = d ∨ d < c := by
  rcases Nat.lt_trichotomy c.toNat d.toNat with h | h | h
  · exact .inl (u8_lt_iff.2 h)
  · exact .inr (.inl (UInt8.toNat_inj.1 h))
  · exact .inr (.inr (u8_lt_iff.2 h))
theorem u8_irr (c : UInt8) : ¬ c < c := fun h => Nat.lt_irrefl _ (u8_lt_iff.1 h)
theorem u8_asym {c d : UInt8} (h : c < d) : ¬ d < c := fun h' => Nat.lt_asymm (u8_lt_iff.1 h) (u8_lt_iff.1 h')
theorem cmpS_lt {c d : UInt8} (x y : List UInt8) (h : c < d) : cmpS (c :: x) (d :: y) = -1 := by
  unfold cmpS; rw [less_cons, decide_eq_true h]; rfl
theorem cmpS_gt {c d : UInt8} (x y : List UInt8) (h : d < c) : cmpS (c :: x) (d :: y) = 1 := by
  have hn : ¬ c < d := u8_asym h
  have he : (c == d) = false := beq_eq_false_iff_ne.2 fun e => u8_irr d (by rw [e] at h; exact h)
  unfold cmpS
  rw [less_cons, decide_eq_false hn, he, Bool.false_and, Bool.false_or, List.cons_beq_cons, he]
  rfl
theorem cmpS_eq (c : UInt8) (x y : List UInt8) : cmpS (c :: x) (c :: y) = cmpS x y := by
  unfold cmpS
  rw [less_cons, decide_eq_false (u8_irr c), beq_self_eq_true, Bool.true_and, Bool.false_or, List.cons_beq_cons, beq_self_eq_true, Bool.true_and]
theorem cmpS_nn : cmpS [] [] = 0 := rfl
theorem cmpS_nc (d : UInt8) (y : List UInt8) : cmpS [] (d :: y) = -1 := rfl
theorem cmpS_cn (d : UInt8) (y : List UInt8) : cmpS (d :: y) [] = 1 := rfl
theorem cmpS_zero : ∀ {x y : List UInt8}, cmpS x y = 0 → x = y
  | [], [], _ => rfl
  | [], d :: y, h => by cases h
  | d :: y, [], h => by cases h
  | c :: x, d :: y, h => by
    rcases u8_tri c d with hc | rfl | hc
    · rw [cmpS_lt _ _ hc] at h; cases h
    · rw [cmpS_eq] at h; rw [cmpS_zero h]
    · rw [cmpS_gt _ _ hc] at h; cases h
theorem cmpS_self : ∀ x : List UInt8, cmpS x x = 0
  | [] => rfl
  | c :: x => by rw [cmpS_eq, cmpS_self x]
theorem cmpS_neg : ∀ x y : List UInt8, cmpS y x = - cmpS x y
  | [], [] => rfl
  | [], d :: y => rfl
  | d :: y, [] => rfl
  | c :: x, d :: y => by
    rcases u8_tri c d with hc | rfl | hc
    · rw [cmpS_lt _ _ hc, cmpS_gt _ _ hc]; rfl
    · rw [cmpS_eq, cmpS_eq, cmpS_neg x y]
    · rw [cmpS_lt _ _ hc, cmpS_gt _ _ hc]
theorem cmpS_app : ∀ {a b x y : List UInt8}, a.length = b.length → cmpS (a ++ x) (b ++ y) = if cmpS a b = 0 then cmpS x y else cmpS a b
  | [], [], x, y, _ => by rw [cmpS_nn, if_pos rfl]; rfl
  | [], _ :: _, _, _, h => by cases h
  | _ :: _, [], _, _, h => by cases h
  | c :: a, d :: b, x, y, h => by
    rw [List.cons_append, List.cons_append]
    rcases u8_tri c d with hc | rfl | hc
    · rw [cmpS_lt _ _ hc, cmpS_lt _ _ hc, if_neg (by decide)]
    · rw [cmpS_eq, cmpS_eq, cmpS_app (Nat.succ.inj h)]
    · rw [cmpS_gt _ _ hc, cmpS_gt _ _ hc, if_neg (by decide)]
theorem zero_lt_u8 {c : UInt8} (h : c ≠ 0) : (0 : UInt8) < c := by
  rcases u8_tri 0 c with h1 | h1 | h1
  · exact h1
  · exact absurd h1.symm h
  · exact absurd (u8_lt_iff.1 h1) (Nat.not_lt_zero _)
abbrev rep0 (t : List UInt8) : List UInt8 := repB 0 [0, 255] t
theorem rep_cons0 (t : List UInt8) : rep0 (0 :: t) = 0 :: 255 :: rep0 t := by show repB _ _ _ = _; rw [repB, if_pos rfl]; rfl
theorem rep_consn {c : UInt8} (h : c ≠ 0) (t : List UInt8) : rep0 (c :: t) = c :: rep0 t := by show repB _ _ _ = _; rw [repB, if_neg h]; rfl
theorem cmpS_rep : ∀ (t u x y : List UInt8), cmpS (rep0 t ++ (0 :: 1 :: x)) (rep0 u ++ (0 :: 1 :: y)) = if cmpS t u = 0 then cmpS x y else cmpS t u
  | [], [], x, y => by
    rw [cmpS_nn, if_pos rfl]
    show cmpS (0 :: 1 :: x) (0 :: 1 :: y) = _
    rw [cmpS_eq, cmpS_eq]
  | [], d :: u, x, y => by
    rw [cmpS_nc, if_neg (by decide)]
    show cmpS (0 :: 1 :: x) _ = _
    by_cases hd : d = 0
    · subst hd
      rw [rep_cons0, List.cons_append, cmpS_eq, List.cons_append, cmpS_lt _ _ (by decide)]
    · rw [rep_consn hd, List.cons_append, cmpS_lt _ _ (zero_lt_u8 hd)]
  | c :: t, [], x, y => by
    rw [cmpS_cn, if_neg (by decide)]
    show cmpS _ (0 :: 1 :: y) = _
    by_cases hd : c = 0
    · subst hd
      rw [rep_cons0, List.cons_append, cmpS_eq, List.cons_append, cmpS_gt _ _ (by decide)]
    · rw [rep_consn hd, List.cons_append, cmpS_gt _ _ (zero_lt_u8 hd)]
  | c :: t, d :: u, x, y => by
    by_cases hc : c = 0
    · subst hc
      by_cases hd : d = 0
      · subst hd
        rw [rep_cons0, rep_cons0, cmpS_eq]
        simp only [List.cons_append]
        rw [cmpS_eq, cmpS_eq, cmpS_rep t u x y]
      · rw [rep_cons0, rep_consn hd, cmpS_lt _ _ (zero_lt_u8 hd), if_neg (by decide)]
        simp only [List.cons_append]
        rw [cmpS_lt _ _ (zero_lt_u8 hd)]
    · by_cases hd : d = 0
      · subst hd
        rw [rep_cons0, rep_consn hc, cmpS_gt _ _ (zero_lt_u8 hc), if_neg (by decide)]
        simp only [List.cons_append]
        rw [cmpS_gt _ _ (zero_lt_u8 hc)]
      · rw [rep_consn hc, rep_consn hd, List.cons_append, List.cons_append]
        rcases u8_tri c d with h | rfl | h
        · rw [cmpS_lt _ _ h, cmpS_lt _ _ h, if_neg (by decide)]
        · rw [cmpS_eq, cmpS_eq, cmpS_rep t u x y]
        · rw [cmpS_gt _ _ h, cmpS_gt _ _ h, if_neg (by decide)]
theorem cmpS_be {a b : Nat} (ha : a < 18446744073709551616) (hb : b < 18446744073709551616) : cmpS (beB 8 a) (beB 8 b) = cmpI a b := by
  have hl : (beB 8 a).length = (beB 8 b).length := by rw [beB_len, beB_len]
  have e : (256 : Nat) ^ 8 = 18446744073709551616 := by decide
  have va : beV (beB 8 a) = a := by rw [beV_beB, e, Nat.mod_eq_of_lt ha]
  have vb : beV (beB 8 b) = b := by rw [beV_beB, e, Nat.mod_eq_of_lt hb]
  unfold cmpS cmpI
  rw [less_beV hl, va, vb]
  by_cases h1 : a < b
  · rw [decide_eq_true h1, if_pos rfl, if_pos (by omega)]
  · rw [decide_eq_false h1, if_neg (by decide), if_neg (show ¬ (a : Int) < b by omega)]
    by_cases h2 : a = b
    · subst h2; rw [if_pos (beq_self_eq_true _), if_neg (by omega)]
    · have h3 : (beB 8 a == beB 8 b) = false := beq_eq_false_iff_ne.2 fun h => h2 (by rw [← va, ← vb, h])
      rw [h3, if_neg (by decide), if_pos (by omega)]
theorem textB_0 {v : V} (h : v.k = 0) : textB v = [1] := by unfold textB; rw [if_pos h]
theorem textB_1 {v : V} (h : v.k = 1) : textB v = [2, if v.n = 0 then 0 else 1] := by unfold textB; rw [if_neg (by omega), if_pos h]
theorem textB_2 {v : V} (h : v.k = 2) : textB v = 3 :: beB 8 (v.n + 9223372036854775808).toNat := by unfold textB; rw [if_neg (by omega), if_neg (by omega), if_pos h]
theorem textB_3 {v : V} (h : v.k = 3) : textB v = 4 :: (rep0 v.t ++ [0, 1]) := by unfold textB; rw [if_neg (by omega), if_neg (by omega), if_neg (by omega)]
theorem okV_0 {v : V} (h : okV v = true) (hk : v.k = 0) : v.n = 0 ∧ v.t = [] := by unfold okV at h; rw [if_pos hk] at h; simpa using h
theorem okV_1 {v : V} (h : okV v = true) (hk : v.k = 1) : (v.n = 0 ∨ v.n = 1) ∧ v.t = [] := by unfold okV at h; rw [if_neg (by omega), if_pos hk] at h; simpa using h
theorem okV_2 {v : V} (h : okV v = true) (hk : v.k = 2) : v.t = [] := by unfold okV at h; rw [if_neg (by omega), if_neg (by omega), if_pos hk] at h; simpa using h
theorem okV_3 {v : V} (h : okV v = true) (hk : v.k = 3) : v.n = 0 ∧ v.t.length ≤ 64 := by unfold okV at h; rw [if_neg (by omega), if_neg (by omega), if_neg (by omega), if_pos hk] at h; simpa using h
theorem cmpI_self (a : Int) : cmpI a a = 0 := by unfold cmpI; rw [if_neg (by omega), if_neg (by omega)]
theorem cmpI_lt {a b : Int} (h : a < b) : cmpI a b = -1 := by unfold cmpI; rw [if_pos h]
theorem cmpI_gt {a b : Int} (h : b < a) : cmpI a b = 1 := by unfold cmpI; rw [if_neg (by omega), if_pos h]
theorem cmpI_shift (a b : Int) (ha : -9223372036854775808 ≤ a) (hb : -9223372036854775808 ≤ b) : cmpI ((a + 9223372036854775808).toNat : Int) ((b + 9223372036854775808).toNat : Int) = cmpI a b := by
  unfold cmpI
  by_cases h : a < b
  · rw [if_pos (by omega), if_pos h]
  · rw [if_neg (by omega), if_neg h]
    by_cases h2 : b < a
    · rw [if_pos (by omega), if_pos h2]
    · rw [if_neg (by omega), if_neg h2]
theorem or3_mid (b : Int) : or3 0 b 0 = b := by
  unfold or3
  rw [if_neg (by decide)]
  by_cases h : b = 0
  · rw [if_neg (by omega), h]
  · rw [if_pos h]
theorem cmp_text {v w : V} (hv : okV v = true) (hw : okV w = true) (iv : v.In') (iw : w.In') (x y : List UInt8) :
    cmpS (textB v ++ x) (textB w ++ y) = if cmpV v w = 0 then cmpS x y else cmpV v w := by
  have kv := okV_kind hv
  have kw := okV_kind hw
  by_cases hk : v.k = w.k
  · have e0 : cmpV v w = or3 0 (cmpI v.n w.n) (cmpS v.t w.t) := by unfold cmpV; rw [hk, cmpI_self]
    rcases kv with h | h | h | h
    · obtain ⟨n1, t1⟩ := okV_0 hv h
      obtain ⟨n2, t2⟩ := okV_0 hw (by omega)
      rw [e0, n1, n2, t1, t2, textB_0 h, textB_0 (v := w) (by omega)]
      show cmpS (1 :: x) (1 :: y) = _
      rw [cmpS_eq]; rfl
    · obtain ⟨n1, t1⟩ := okV_1 hv h
      obtain ⟨n2, t2⟩ := okV_1 hw (by omega)
      rw [e0, t1, t2, textB_1 h, textB_1 (v := w) (by omega)]
      rcases n1 with n1 | n1 <;> rcases n2 with n2 | n2 <;> rw [n1, n2]
      · show cmpS (2 :: 0 :: x) (2 :: 0 :: y) = _
        rw [cmpS_eq, cmpS_eq]; rfl
      · show cmpS (2 :: 0 :: x) (2 :: 1 :: y) = _
        rw [cmpS_eq, cmpS_lt _ _ (by decide)]; rfl
      · show cmpS (2 :: 1 :: x) (2 :: 0 :: y) = _
        rw [cmpS_eq, cmpS_gt _ _ (by decide)]; rfl
      · show cmpS (2 :: 1 :: x) (2 :: 1 :: y) = _
        rw [cmpS_eq, cmpS_eq]; rfl
    · have t1 := okV_2 hv h
      have t2 := okV_2 hw (by omega)
      rw [e0, t1, t2, textB_2 h, textB_2 (v := w) (by omega), List.cons_append, List.cons_append, cmpS_eq, cmpS_app (by rw [beB_len, beB_len]), cmpS_be (by have := iv.2; omega) (by have := iw.2; omega), cmpI_shift _ _ iv.1 iw.1]
      rw [show or3 0 (cmpI v.n w.n) (cmpS [] []) = cmpI v.n w.n from or3_mid _]
    · obtain ⟨n1, t1⟩ := okV_3 hv h
      obtain ⟨n2, t2⟩ := okV_3 hw (by omega)
      rw [e0, n1, n2, textB_3 h, textB_3 (v := w) (by omega), List.cons_append, List.cons_append, cmpS_eq, List.append_assoc, List.append_assoc]
      have := cmpS_rep v.t w.t x y
      have e3 : or3 0 (cmpI 0 0) (cmpS v.t w.t) = cmpS v.t w.t := by rw [cmpI_self]; unfold or3; rw [if_neg (by decide), if_neg (by decide)]
      rw [e3]
      exact this
  · have e0 : cmpV v w = cmpI v.k w.k := by
      unfold cmpV or3
      rw [if_pos]
      rcases Int.lt_or_lt_of_ne hk with h | h
      · rw [cmpI_lt h]; decide
      · rw [cmpI_gt h]; decide
    have hd : ∀ u : V, okV u = true → ∃ r, textB u = UInt8.ofNat (u.k.toNat + 1) :: r := fun u hu => by
      rcases okV_kind hu with h | h | h | h
      · exact ⟨_, by rw [textB_0 h, h]; rfl⟩
      · exact ⟨_, by rw [textB_1 h, h]; rfl⟩
      · exact ⟨_, by rw [textB_2 h, h]; rfl⟩
      · exact ⟨_, by rw [textB_3 h, h]; rfl⟩
    obtain ⟨r1, h1⟩ := hd v hv
    obtain ⟨r2, h2⟩ := hd w hw
    have hlt : ∀ a b : Int, 0 ≤ a → a ≤ 3 → 0 ≤ b → b ≤ 3 → a < b → UInt8.ofNat (a.toNat + 1) < UInt8.ofNat (b.toNat + 1) := fun a b h1 h2 h3 h4 h => by
      rw [u8_lt_iff, ofNat_toNat (by omega), ofNat_toNat (by omega)]; omega
    rw [h1, h2, List.cons_append, List.cons_append, e0]
    rcases Int.lt_or_lt_of_ne hk with h | h
    · rw [cmpS_lt _ _ (hlt _ _ (by omega) (by omega) (by omega) (by omega) h), cmpI_lt h]; rfl
    · rw [cmpS_gt _ _ (hlt _ _ (by omega) (by omega) (by omega) (by omega) h), cmpI_gt h]; rfl
theorem cmp_texts : ∀ {a b : List V}, a.all okV = true → b.all okV = true → (∀ v ∈ a, v.In') → (∀ v ∈ b, v.In') → cmpS (a.flatMap textB) (b.flatMap textB) = cmpL a b
  | [], [], _, _, _, _ => rfl
  | [], w :: b, _, _, _, _ => by
    have := textB_pos w
    rw [List.flatMap_nil, List.flatMap_cons]
    cases h : textB w with
    | nil => rw [h] at this; cases this
    | cons c r =>
      show -1 = cmpI 0 _
      exact (cmpI_lt (by simp only [List.length_cons]; omega)).symm
  | v :: a, [], _, _, _, _ => by
    have := textB_pos v
    rw [List.flatMap_nil, List.flatMap_cons]
    cases h : textB v with
    | nil => rw [h] at this; cases this
    | cons c r =>
      show 1 = cmpI _ 0
      exact (cmpI_gt (by simp only [List.length_cons]; omega)).symm
  | v :: a, w :: b, ha, hb, ia, ib => by
    simp only [List.all_cons, Bool.and_eq_true] at ha hb
    rw [List.flatMap_cons, List.flatMap_cons, cmp_text ha.1 hb.1 (ia v (by simp)) (ib w (by simp)), cmp_texts ha.2 hb.2 (fun u hu => ia u (by simp [hu])) (fun u hu => ib u (by simp [hu]))]
    show _ = if cmpV v w ≠ 0 then cmpV v w else cmpL a b
    by_cases h : cmpV v w = 0
    · rw [if_pos h, if_neg (by omega)]
    · rw [if_neg h, if_pos h]
theorem cmpS_less {s t : List UInt8} : decide (cmpS s t < 0) = Op.bytesLess s t := by
  unfold cmpS
  cases Op.bytesLess s t
  · rw [if_neg (by decide)]
    split <;> rfl
  · rfl
theorem cmpS_same {s t : List UInt8} : (cmpS s t == 0) = (s == t) := by
  by_cases h : s = t
  · subst h; rw [cmpS_self]; simp
  · rw [beq_eq_false_iff_ne.2 h]
    exact beq_eq_false_iff_ne.2 fun e => h (cmpS_zero e)
theorem cmpS_more {s t : List UInt8} : decide (0 < cmpS s t) = !(Op.bytesLess s t || s == t) := by
  rw [← cmpS_less, ← cmpS_same]
  have h : cmpS s t = -1 ∨ cmpS s t = 0 ∨ cmpS s t = 1 := by
    unfold cmpS; split
    · exact .inl rfl
    · split
      · exact .inr (.inl rfl)
      · exact .inr (.inr rfl)
  rcases h with h | h | h <;> rw [h] <;> rfl
/-! Read back. -/
theorem txt_consn {c : UInt8} (hc : c ≠ 0) {l : List UInt8} (hl : 0 < l.length) : txtB (c :: l) = (txtB l).map (fun p => (c :: p.1, p.2 + 1)) := by
  cases l with
  | nil => cases hl
  | cons d r => rw [txtB, if_pos hc]
theorem txt_rep : ∀ (t r : List UInt8), txtB (rep0 t ++ (0 :: 1 :: r)) = some (t, (rep0 t).length + 2)
  | [], r => by
    show txtB (0 :: 1 :: r) = _
    rw [txtB, if_neg (by decide), if_pos rfl]; rfl
  | c :: t, r => by
    by_cases hc : c = 0
    · subst hc
      rw [rep_cons0]
      show txtB (0 :: 255 :: (rep0 t ++ (0 :: 1 :: r))) = _
      rw [txtB, if_neg (by decide), if_neg (by decide), if_pos rfl, txt_rep t r]
      simp only [Option.map_some, List.length_cons]
    · rw [rep_consn hc, List.cons_append, txt_consn hc (by simp only [List.length_append, List.length_cons]; omega), txt_rep t r]
      simp only [Option.map_some, List.length_cons]
theorem read_text {v : V} (hv : okV v = true) (iv : v.In') (r : List UInt8) : vlO (textB v ++ r) = true ∧ vlV (textB v ++ r) = v ∧ vlN (textB v ++ r) = (textB v).length := by
  obtain ⟨k, n, t⟩ := v
  rcases okV_kind hv with h | h | h | h
  · obtain ⟨n1, t1⟩ := okV_0 hv h
    dsimp only at h n1 t1
    subst h; subst n1; subst t1
    have hk : vk (textB ⟨0, 0, []⟩ ++ r) = 1 := rfl
    obtain ⟨e1, e2, e3⟩ := vl_1 hk
    rw [e1, e2, e3]; exact ⟨rfl, rfl, rfl⟩
  · obtain ⟨n1, t1⟩ := okV_1 hv h
    dsimp only at h n1 t1
    subst h; subst t1
    have hb : textB ⟨1, n, []⟩ = [2, if n = 0 then 0 else 1] := rfl
    have hk : vk (textB ⟨1, n, []⟩ ++ r) = 2 := by
      rw [hb]; unfold vk
      rw [if_neg (by simp), if_pos]
      refine ⟨rfl, by simp, ?_⟩
      rcases n1 with rfl | rfl
      · show (0 : UInt8).toNat ≤ 1; decide
      · show (1 : UInt8).toNat ≤ 1; decide
    obtain ⟨e1, e2, e3⟩ := vl_2 hk
    rw [e1, e2, e3]
    refine ⟨rfl, ?_, rfl⟩
    rw [hb]
    rcases n1 with rfl | rfl <;> rfl
  · have t1 := okV_2 hv h
    dsimp only at h t1
    subst h; subst t1
    have hb : textB ⟨2, n, []⟩ = 3 :: beB 8 (n + 9223372036854775808).toNat := rfl
    have hk : vk (textB ⟨2, n, []⟩ ++ r) = 3 := by
      rw [hb]; unfold vk
      rw [if_neg (by simp), if_neg (by simp), if_pos]
      refine ⟨rfl, ?_⟩
      simp only [List.cons_append, List.length_cons, List.length_append, beB_len]
      omega
    obtain ⟨e1, e2, e3⟩ := vl_3 hk
    have i1 : -9223372036854775808 ≤ n ∧ n ≤ 9223372036854775807 := iv
    rw [e1, e2, e3, hb]
    refine ⟨rfl, ?_, by rw [List.length_cons, beB_len]⟩
    have e4 : ((3 :: beB 8 (n + 9223372036854775808).toNat ++ r).drop 1).take 8 = beB 8 (n + 9223372036854775808).toNat := by
      rw [List.cons_append, List.drop_succ_cons, List.drop_zero, List.take_append_of_le_length (by rw [beB_len]; omega), List.take_of_length_le (by rw [beB_len]; omega)]
    have e5 : (256 : Nat) ^ 8 = 18446744073709551616 := by decide
    rw [e4, beV_beB, e5, Nat.mod_eq_of_lt (by omega)]
    congr 1
    omega
  · obtain ⟨n1, t1⟩ := okV_3 hv h
    dsimp only at h n1 t1
    subst h; subst n1
    have hb : textB ⟨3, 0, t⟩ ++ r = 4 :: (rep0 t ++ (0 :: 1 :: r)) := by
      show 4 :: (rep0 t ++ [0, 1]) ++ r = _
      simp
    have hk : vk (textB ⟨3, 0, t⟩ ++ r) = 4 := by
      rw [hb]; unfold vk
      rw [if_neg (by simp), if_neg (by simp), if_neg (by simp), if_pos (by simp)]
    have hd : (textB ⟨3, 0, t⟩ ++ r).drop 1 = rep0 t ++ (0 :: 1 :: r) := by rw [hb]; rfl
    obtain ⟨e1, e2, e3⟩ := vl_4 hk
    rw [e1, e2, e3, hd]
    unfold txT txN txO
    rw [txt_rep]
    refine ⟨?_, rfl, ?_⟩
    · simp only [Option.isSome_some, Bool.true_and, decide_eq_true_eq]; omega
    · show (rep0 t).length + 2 + 1 = (4 :: (rep0 t ++ [0, 1])).length
      simp
theorem read_texts : ∀ (f : Nat) {a : List V}, a.length ≤ f → a.all okV = true → (∀ v ∈ a, v.In') → vlsB f (a.flatMap textB) = some a
  | f, [], _, _, _ => by cases f <;> rfl
  | 0, v :: a, h, _, _ => by simp at h
  | f + 1, v :: a, h, ha, ia => by
    simp only [List.all_cons, Bool.and_eq_true] at ha
    rw [List.flatMap_cons]
    obtain ⟨h1, h2, h3⟩ := read_text ha.1 (ia v (by simp)) (a.flatMap textB)
    have hp := textB_pos v
    rw [vls_step (by rw [List.length_append]; omega) h1, h2, h3, List.drop_left, read_texts f (by simpa using h) ha.2 (fun u hu => ia u (by simp [hu]))]
    rfl
end Go.Proofs.YtcklfcagailoiaaDoor
