/- Own texts of the claims of this seat, one behind the other: T0, C2, A8, A9, B1, B2, B3, B4, B5: what a call comes to, and contracts of functions. -/
import Derived.Test.YtppmomobjjpljaaDoorPk4
/- Part T0. -/
section
/- Tables in plain words: when a table is valid. -/
namespace Go.Proofs.YtppmomobjjpljaaDoor.E
open Go
set_option linter.unusedVariables false
theorem rngE_zero {z : Int} : ∀ {l : List Int}, rngE l z = 0 ↔ (∀ x, x ∈ l → -1 ≤ x ∧ x < 256) ∧ z = 0
  | [] => by simp [rngE]
  | x :: l => by
    rw [rngE]
    split
    · rename_i h
      constructor
      · intro h2; omega
      · intro h2; have := h2.1 x (by simp); omega
    · rename_i h
      rw [rngE_zero]
      constructor
      · intro h2
        refine ⟨fun y hy => ?_, h2.2⟩
        rcases List.mem_cons.1 hy with h3 | h3
        · rw [h3]; omega
        · exact h2.1 y h3
      · intro h2; exact ⟨fun y hy => h2.1 y (by simp [hy]), h2.2⟩
theorem dupE_zero {r : Int} {L : List Int} {z : Int} : ∀ {l : List Int} {i : Nat}, dupE r L i l z = 0 ↔ (∀ (j : Nat) x, l[j]? = some x → 0 ≤ x → usesS r L (i + j : Nat) x = false) ∧ z = 0
  | [], i => by simp [dupE]
  | x :: l, i => by
    rw [dupE]
    split
    · rename_i h
      constructor
      · intro h2; omega
      · intro h2; have := h2.1 0 x rfl h.1; rw [Nat.add_zero, h.2] at this; cases this
    · rename_i h
      rw [dupE_zero]
      constructor
      · intro h2
        refine ⟨fun j y hy hp => ?_, h2.2⟩
        cases j with
        | zero =>
          simp at hy; subst hy
          cases hu : usesS r L (i + 0 : Nat) x with
          | false => rfl
          | true => exact absurd ⟨hp, hu⟩ h
        | succ j =>
          have := h2.1 j y (by simpa using hy) hp
          rwa [show i + 1 + j = i + (j + 1) by omega] at this
      · intro h2
        refine ⟨fun j y hy hp => ?_, h2.2⟩
        have := h2.1 (j + 1) y (by simpa using hy) hp
        rwa [show i + (j + 1) = i + 1 + j by omega] at this
theorem stE_zero {r z : Int} : ∀ {l : List Int}, stE r l z = 0 ↔ (∀ x, x ∈ l → 0 ≤ x → 0 ≤ r) ∧ z = 0
  | [] => by simp [stE]
  | x :: l => by
    rw [stE]
    split
    · rename_i h
      constructor
      · intro h2; omega
      · intro h2; have := h2.1 x (by simp) h.1; omega
    · rename_i h
      rw [stE_zero]
      constructor
      · intro h2
        refine ⟨fun y hy => ?_, h2.2⟩
        rcases List.mem_cons.1 hy with h3 | h3
        · rw [h3]; omega
        · exact h2.1 y h3
      · intro h2; exact ⟨fun y hy => h2.1 y (by simp [hy]), h2.2⟩
theorem wrdE_zero {L : List Int} : ∀ {l : List Int} {i : Nat}, wrdE L i l = 0 ↔ ∀ (j : Nat) w, l[j]? = some w → (unpackS w).2 = 0 ∧ ((unpackS w).1.k ≠ 0 → 0 ≤ L.getD ((i + j) / 8) 0)
  | [], i => by simp [wrdE]
  | x :: l, i => by
    rw [wrdE]
    split
    · rename_i h
      constructor
      · intro h2; exact absurd h2 h
      · intro h2; exact absurd (h2 0 x rfl).1 h
    · rename_i h
      split
      · rename_i h1
        constructor
        · intro h2; omega
        · intro h2; have := (h2 0 x rfl).2 h1.1; rw [Nat.add_zero] at this; omega
      · rename_i h1
        rw [wrdE_zero]
        constructor
        · intro h2 j w hj
          cases j with
          | zero =>
            simp at hj; subst hj
            refine ⟨by simpa using h, fun hk => ?_⟩
            rw [Nat.add_zero]
            exact Int.not_lt.1 fun hlt => h1 ⟨hk, hlt⟩
          | succ j =>
            have := h2 j w (by simpa using hj)
            rwa [show i + 1 + j = i + (j + 1) by omega] at this
        · intro h2 j w hj
          have := h2 (j + 1) w (by simpa using hj)
          rwa [show i + (j + 1) = i + 1 + j by omega] at this
/-- A valid table. -/
structure TOk (r : Int) (L E : List Int) : Prop where
  l8 : L.length = 8
  e64 : E.length = 64
  root : -1 ≤ r ∧ r < 256
  rng : ∀ x, x ∈ L → -1 ≤ x ∧ x < 256
  dup : ∀ (j : Nat) x, L[j]? = some x → 0 ≤ x → usesS r L j x = false
  st : ∀ x, x ∈ L → 0 ≤ x → 0 ≤ r
  wrd : ∀ (j : Nat) w, E[j]? = some w → (unpackS w).2 = 0 ∧ ((unpackS w).1.k ≠ 0 → 0 ≤ L.getD (j / 8) 0)
theorem chkT_iff {r : Int} {L E : List Int} : chkT r L E = 0 ↔ TOk r L E := by
  rw [chkT]
  split
  · rename_i h
    exact ⟨fun h2 => by omega, fun h2 => by have := h2.l8; have := h2.e64; omega⟩
  · rename_i h
    split
    · rename_i h1
      exact ⟨fun h2 => by omega, fun h2 => by have := h2.root; omega⟩
    · rename_i h1
      rw [rngE_zero, dupE_zero, stE_zero, wrdE_zero]
      constructor
      · intro ⟨h2, h3, h4, h5⟩
        exact ⟨by omega, by omega, by omega, h2, fun j x hj hx => by have := h3 j x hj hx; rwa [Nat.zero_add] at this, h4, fun j w hj => by have := h5 j w hj; rwa [Nat.zero_add] at this⟩
      · intro h2
        exact ⟨h2.rng, fun j x hj hx => by rw [Nat.zero_add]; exact h2.dup j x hj hx, h2.st, fun j w hj => by rw [Nat.zero_add]; exact h2.wrd j w hj⟩
theorem chkT_words {r : Int} {L E : List Int} (h : chkT r L E = 0) (i : Nat) (hi : i < 64) : (unpackS (E.getD i 0)).2 = 0 := by
  have ho := chkT_iff.1 h
  have he := ho.e64
  obtain ⟨x, hx⟩ : ∃ x, E[i]? = some x := ⟨_, List.getElem?_eq_getElem (by omega)⟩
  rw [List.getD_eq_getElem?_getD, hx]
  exact (ho.wrd i x hx).1
end Go.Proofs.YtppmomobjjpljaaDoor.E
end

/- Part C2. -/
section
/- Contracts: tables are checked (program). -/
namespace Go.Proofs.YtppmomobjjpljaaDoor.E
open Go Go.RowKit
set_option linter.unusedVariables false
set_option linter.unusedSimpArgs false
set_option maxRecDepth 100000
def frmS (r : Int) (L : List Int) : Int := if r < -1 ∨ r ≥ 256 then 2 else rngE L (dupE r L 0 L (stE r L 0))
theorem isSome_c (x : Int) : Contract Tryd.prog G0 66 [.int .i64 x] (.bool (x != -1)) [] := by
  refine fun0 tys_ok mixed (n := 5) (rs := [.tmp 2]) ⟨Tryd.func66, by kernel_rfl, rfl⟩ rfl rfl (by simp) fun F d0 hF hd => ?_
  obtain ⟨ints, u64s, gv, gh, lenF, hVi, hVu, hVg, hVh, hVl, lenD, ints_len, u64s_len, ints_cells, u64s_cells, ints_at, u64s_at, gv_nil, gh_nil, gv_ne, gh_ne, gv_snoc, gh_snoc, gv_one, gh_one, lt_gv, ren_gv, lk_gh, renH_gh, mem_gh, injK_gh, injH_gh, ints_nil, ints_app, ints_one, ints_cons, ints_ne, u64s_nil, u64s_app, u64s_one, u64s_ne, ints_set, u64s_set⟩ := vocab
  generalize hb : (x != -1) = b at hd
  ((try rewrite [← hVi]); (try rewrite [← hVu]); (try rewrite [← hVg]); (try rewrite [← hVh]); conv => cbv)
  subst hF hVi hVu hVg hVh hVl; subst hd
  simp only [fns]
  refine ⟨by simp [inRows, inRowsL, lk, lenD], ?_⟩
  simp [reify, cmI, hb]
theorem rngE_tail : ∀ (l : List Int) (z : Int), rngE l z = if rngE l 0 ≠ 0 then rngE l 0 else z
  | [], z => by simp [rngE]
  | x :: l, z => by
    rw [rngE, rngE]
    split
    · rfl
    · exact rngE_tail l z
theorem dupE_tail (r : Int) (L : List Int) : ∀ (l : List Int) (i : Nat) (z : Int), dupE r L i l z = if dupE r L i l 0 ≠ 0 then dupE r L i l 0 else z
  | [], i, z => by simp [dupE]
  | x :: l, i, z => by
    rw [dupE, dupE]
    split
    · rfl
    · exact dupE_tail r L l (i + 1) z
theorem stE_tail (r : Int) : ∀ (l : List Int) (z : Int), stE r l z = if stE r l 0 ≠ 0 then stE r l 0 else z
  | [], z => by simp [stE]
  | x :: l, z => by
    rw [stE, stE]
    split
    · rfl
    · exact stE_tail r l z
theorem frmS_chk {r : Int} {L E : List Int} (h1 : L.length = 8) (h2 : E.length = 64) : chkT r L E = if frmS r L ≠ 0 then frmS r L else wrdE L 0 E := by
  rw [chkT, frmS, if_neg (by omega)]
  split
  · rfl
  · rw [rngE_tail L (dupE r L 0 L (stE r L (wrdE L 0 E))), rngE_tail L (dupE r L 0 L (stE r L 0)), dupE_tail r L L 0 (stE r L (wrdE L 0 E)), dupE_tail r L L 0 (stE r L 0), stE_tail r L (wrdE L 0 E)]
    by_cases a1 : rngE L 0 = 0 <;> by_cases a2 : dupE r L 0 L 0 = 0 <;> by_cases a3 : stE r L 0 = 0 <;> simp [a1, a2, a3]
theorem stE_any {r : Int} {L : List Int} (h1 : ∀ x, x ∈ L → -1 ≤ x) (h2 : -1 ≤ r) : stE r L 0 = if r = -1 ∧ (L.any fun x => x != -1) = true then 9 else 0 := by
  by_cases h : stE r L 0 = 0
  · rw [h]
    obtain ⟨h3, _⟩ := stE_zero.1 h
    rw [if_neg]
    intro ⟨h4, h5⟩
    obtain ⟨x, hx, hx2⟩ := List.any_eq_true.1 h5
    have := h1 x hx
    have hx3 : x ≠ -1 := by simpa using hx2
    have := h3 x hx (by omega)
    omega
  · have h9 : ∀ l : List Int, stE r l 0 = 0 ∨ (stE r l 0 = 9 ∧ ∃ x, x ∈ l ∧ 0 ≤ x ∧ r < 0) := by
      intro l
      induction l with
      | nil => exact .inl rfl
      | cons x l ih =>
        rw [stE]
        split
        · rename_i h; exact .inr ⟨rfl, x, by simp, h.1, h.2⟩
        · rcases ih with h | ⟨h, y, hy, h2⟩
          · exact .inl h
          · exact .inr ⟨h, y, by simp [hy], h2⟩
    rcases h9 L with h3 | ⟨h3, x, hx, hx2, hr⟩
    · exact absurd h3 h
    · rw [h3, if_pos ⟨by omega, List.any_eq_true.2 ⟨x, hx, by simp; omega⟩⟩]
theorem frames_c (r : Int) (L E : List Int) (h8 : L.length = 8) : Contract Tryd.prog G0 45 [tblD r L E] (.int .i64 (frmS r L)) [] := by
  refine fun0 tys_ok mixed (n := 58) (rs := [.tmp 2]) ⟨Tryd.func45, by kernel_rfl, rfl⟩ rfl rfl (by simp) fun F d0 hF hd => ?_
  obtain ⟨ints, u64s, gv, gh, lenF, hVi, hVu, hVg, hVh, hVl, lenD, ints_len, u64s_len, ints_cells, u64s_cells, ints_at, u64s_at, gv_nil, gh_nil, gv_ne, gh_ne, gv_snoc, gh_snoc, gv_one, gh_one, lt_gv, ren_gv, lk_gh, renH_gh, mem_gh, injK_gh, injH_gh, ints_nil, ints_app, ints_one, ints_cons, ints_ne, u64s_nil, u64s_app, u64s_one, u64s_ne, ints_set, u64s_set⟩ := vocab
  obtain ⟨f_frmS, o_frmS⟩ : ∃ f, f = frmS := ⟨_, rfl⟩
  unfold tblD
  have hl1 := ints_len L
  generalize hs : frmS r L = S at hd
  rw [frmS] at hs
  ((try rewrite [← hVi]); (try rewrite [← hVu]); (try rewrite [← hVg]); (try rewrite [← hVh]); (try rewrite [← o_frmS]); conv => cbv)
  refine ⟨by subst hF hVi hVu hVg hVh hVl; (try subst o_frmS); exact ⟨trivial, ints_cells L⟩, by subst hF hVi hVu hVg hVh hVl; (try subst o_frmS); simp [fns, hl1, h8], ?_⟩
  ((try rewrite [← hVi]); (try rewrite [← hVu]); (try rewrite [← hVg]); (try rewrite [← hVh]); (try rewrite [← o_frmS]); conv => cbv)
  obtain ⟨A, hA⟩ : ∃ A, A = r :: L := ⟨_, rfl⟩
  have hA9 : A.length = 9 := by rw [hA]; simp [h8]
  have hs1 : S = rngE A (dupE r L 0 L (stE r L 0)) := by
    rw [← hs, hA, rngE]
  refine loop_inv hF ((Nat)) (fun st_ => st_ ≤ 9 ∧ S = rngE (A.drop st_) (dupE r L 0 L (stE r L 0)) ∧ ∀ j x, j < st_ → A[j]? = some x → -1 ≤ x ∧ x < 256) (fun st_ => { tm := [(1, .ptr 0 3 0 0), (12, .sl 1 1 0 9), (13, .int .i64 9), (14, .int .i64 st_)], hp := [(1, ⟨1, 3, ints A, true, false⟩), (0, ⟨3, 25, [.agg [.int .i64 r, .ro (ints L), .ro (u64s E)]], true, true⟩)], nx := 2, nt := 58, fr := [], df := [] }) (fun st_ => 9 - st_) ⟨0, by exact ⟨by simp, by simpa using hs1, fun j x h => absurd h (Nat.not_lt_zero j)⟩, wk_of hF (weakR (pie []) (by first | (simp +contextual [renT, renH, renB, renF, renDf, injH, pie, lk, D.ren, D.renL, D.lt, D.ltL, lt_gv, ren_gv, lk_gh, renH_gh, mem_gh, injH_gh, injK, injK_gh, lenD, gv_one, gh_one, subL_one, gv_nil, gh_nil, gv_snoc, gh_snoc, ints_nil, ints_app, ints_one, ints_cons, u64s_nil, u64s_app, u64s_one, ints_set, u64s_set, ints_len, u64s_len, List.nil_append, List.length_append, List.length_cons, List.length_nil, hA, h8]; done) | (subst hF hVi hVu hVg hVh hVl; (try subst o_frmS); simp only [fns, arI, cmI]; rw [IntWalk.i64_in _ (by simp; omega)]; simp +contextual [renT, renH, renB, renF, renDf, injH, pie, lk, D.ren, D.renL, D.lt, D.ltL, lt_gv, ren_gv, lk_gh, renH_gh, mem_gh, injH_gh, injK, injK_gh, lenD, gv_one, gh_one, subL_one, gv_nil, gh_nil, gv_snoc, gh_snoc, ints_nil, ints_app, ints_one, ints_cons, u64s_nil, u64s_app, u64s_one, ints_set, u64s_set, ints_len, u64s_len, List.nil_append, List.length_append, List.length_cons, List.length_nil, hA, h8]; done) | (subst hF hVi hVu hVg hVh hVl; (try subst o_frmS); simp +contextual [fns, arI, cmI, renT, renH, renB, renF, renDf, injH, pie, lk, D.ren, D.renL, D.lt, D.ltL, lt_gv, ren_gv, lk_gh, renH_gh, mem_gh, injH_gh, injK, injK_gh, lenD, gv_one, gh_one, subL_one, gv_nil, gh_nil, gv_snoc, gh_snoc, ints_nil, ints_app, ints_one, ints_cons, u64s_nil, u64s_app, u64s_one, ints_set, u64s_set, ints_len, u64s_len, List.nil_append, List.length_append, List.length_cons, List.length_nil, hA, h8])) (by first | (simp +contextual [renT, renH, renB, renF, renDf, injH, pie, lk, D.ren, D.renL, D.lt, D.ltL, lt_gv, ren_gv, lk_gh, renH_gh, mem_gh, injH_gh, injK, injK_gh, lenD, gv_one, gh_one, subL_one, gv_nil, gh_nil, gv_snoc, gh_snoc, ints_nil, ints_app, ints_one, ints_cons, u64s_nil, u64s_app, u64s_one, ints_set, u64s_set, ints_len, u64s_len, List.nil_append, List.length_append, List.length_cons, List.length_nil, hA, h8]; done) | (subst hF hVi hVu hVg hVh hVl; (try subst o_frmS); simp +contextual [fns, renT, renH, renB, renF, renDf, injH, pie, lk, D.ren, D.renL, D.lt, D.ltL, lt_gv, ren_gv, lk_gh, renH_gh, mem_gh, injH_gh, injK, injK_gh, lenD, gv_one, gh_one, subL_one, gv_nil, gh_nil, gv_snoc, gh_snoc, ints_nil, ints_app, ints_one, ints_cons, u64s_nil, u64s_app, u64s_one, ints_set, u64s_set, ints_len, u64s_len, List.nil_append, List.length_append, List.length_cons, List.length_nil, hA, h8])) (by simp +contextual [renT, renH, renB, renF, renDf, injH, pie, lk, D.ren, D.renL, D.lt, D.ltL, lt_gv, ren_gv, lk_gh, renH_gh, mem_gh, injH_gh, injK, injK_gh, lenD, gv_one, gh_one, subL_one, gv_nil, gh_nil, gv_snoc, gh_snoc, ints_nil, ints_app, ints_one, ints_cons, u64s_nil, u64s_app, u64s_one, ints_set, u64s_set, ints_len, u64s_len, List.nil_append, List.length_append, List.length_cons, List.length_nil, hA, h8]) rfl (by simp [renF, renT, lk, D.ren, D.renL, D.lt, D.ltL]) (by simp [renDf]))⟩ ?_
  rintro k hk
  try simp only at hk
  ((try rewrite [← hVi]); (try rewrite [← hVu]); (try rewrite [← hVg]); (try rewrite [← hVh]); (try rewrite [← o_frmS]); conv => cbv)
  split <;> rename_i h <;> (try rw [h]) <;> (((try rewrite [← hVi]); (try rewrite [← hVu]); (try rewrite [← hVg]); (try rewrite [← hVh]); (try rewrite [← o_frmS]); conv => cbv)) <;> (try simp only [hF, fns, cmI, decide_eq_true_eq, decide_eq_false_iff_not, beq_iff_eq, bne_iff_ne, beq_eq_false_iff_ne, bne_eq_false_iff_eq, ne_eq, Int.not_lt, Int.not_le, Classical.not_not, ge_iff_le, gt_iff_lt, Bool.not_eq_true] at h)
  · have hlt : k < 9 := by simp at h; omega
    obtain ⟨x, hx⟩ : ∃ x, A[k]? = some x := ⟨_, List.getElem?_eq_getElem (by omega)⟩
    have hS := hk.2.1
    rw [drop_at hx, rngE] at hS
    refine ⟨by subst hF hVi hVu hVg hVh hVl; (try subst o_frmS); simp [fns]; omega, .int .i64 x, by subst hF hVi hVu hVg hVh hVl; (try subst o_frmS); simpa [fns] using ints_at _ _ _ hx, ?_⟩
    ((try rewrite [← hVi]); (try rewrite [← hVu]); (try rewrite [← hVg]); (try rewrite [← hVh]); (try rewrite [← o_frmS]); conv => cbv)
    split <;> rename_i h6 <;> (try rw [h6]) <;> (((try rewrite [← hVi]); (try rewrite [← hVu]); (try rewrite [← hVg]); (try rewrite [← hVh]); (try rewrite [← o_frmS]); conv => cbv)) <;> (try simp only [hF, fns, cmI, decide_eq_true_eq, decide_eq_false_iff_not, beq_iff_eq, bne_iff_ne, beq_eq_false_iff_ne, bne_eq_false_iff_eq, ne_eq, Int.not_lt, Int.not_le, Classical.not_not, ge_iff_le, gt_iff_lt, Bool.not_eq_true] at h6)
    · subst hF hVi hVu hVg hVh hVl; (try subst o_frmS); subst hd
      simp only [fns]
      refine ⟨by simp [inRows, inRowsL, lk, lenD], ?_⟩
      rw [if_pos (.inl h6)] at hS
      simp [reify, hS]
    split <;> rename_i h7 <;> (try rw [h7]) <;> (((try rewrite [← hVi]); (try rewrite [← hVu]); (try rewrite [← hVg]); (try rewrite [← hVh]); (try rewrite [← o_frmS]); conv => cbv)) <;> (try simp only [hF, fns, cmI, decide_eq_true_eq, decide_eq_false_iff_not, beq_iff_eq, bne_iff_ne, beq_eq_false_iff_ne, bne_eq_false_iff_eq, ne_eq, Int.not_lt, Int.not_le, Classical.not_not, ge_iff_le, gt_iff_lt, Bool.not_eq_true] at h7)
    · subst hF hVi hVu hVg hVh hVl; (try subst o_frmS); subst hd
      simp only [fns]
      refine ⟨by simp [inRows, inRowsL, lk, lenD], ?_⟩
      rw [if_pos (.inr h7)] at hS
      simp [reify, hS]
    refine ⟨(k + 1), ?_, by first | omega | (simp; omega) | (simp only; omega), wk_of hF (weakR (pie []) (by first | (simp +contextual [renT, renH, renB, renF, renDf, injH, pie, lk, D.ren, D.renL, D.lt, D.ltL, lt_gv, ren_gv, lk_gh, renH_gh, mem_gh, injH_gh, injK, injK_gh, lenD, gv_one, gh_one, subL_one, gv_nil, gh_nil, gv_snoc, gh_snoc, ints_nil, ints_app, ints_one, ints_cons, u64s_nil, u64s_app, u64s_one, ints_set, u64s_set, ints_len, u64s_len, List.nil_append, List.length_append, List.length_cons, List.length_nil]; done) | (subst hF hVi hVu hVg hVh hVl; (try subst o_frmS); simp only [fns, arI, cmI]; rw [IntWalk.i64_in _ (by simp; omega)]; simp +contextual [renT, renH, renB, renF, renDf, injH, pie, lk, D.ren, D.renL, D.lt, D.ltL, lt_gv, ren_gv, lk_gh, renH_gh, mem_gh, injH_gh, injK, injK_gh, lenD, gv_one, gh_one, subL_one, gv_nil, gh_nil, gv_snoc, gh_snoc, ints_nil, ints_app, ints_one, ints_cons, u64s_nil, u64s_app, u64s_one, ints_set, u64s_set, ints_len, u64s_len, List.nil_append, List.length_append, List.length_cons, List.length_nil]; done) | (subst hF hVi hVu hVg hVh hVl; (try subst o_frmS); simp +contextual [fns, arI, cmI, renT, renH, renB, renF, renDf, injH, pie, lk, D.ren, D.renL, D.lt, D.ltL, lt_gv, ren_gv, lk_gh, renH_gh, mem_gh, injH_gh, injK, injK_gh, lenD, gv_one, gh_one, subL_one, gv_nil, gh_nil, gv_snoc, gh_snoc, ints_nil, ints_app, ints_one, ints_cons, u64s_nil, u64s_app, u64s_one, ints_set, u64s_set, ints_len, u64s_len, List.nil_append, List.length_append, List.length_cons, List.length_nil])) (by first | (simp +contextual [renT, renH, renB, renF, renDf, injH, pie, lk, D.ren, D.renL, D.lt, D.ltL, lt_gv, ren_gv, lk_gh, renH_gh, mem_gh, injH_gh, injK, injK_gh, lenD, gv_one, gh_one, subL_one, gv_nil, gh_nil, gv_snoc, gh_snoc, ints_nil, ints_app, ints_one, ints_cons, u64s_nil, u64s_app, u64s_one, ints_set, u64s_set, ints_len, u64s_len, List.nil_append, List.length_append, List.length_cons, List.length_nil]; done) | (subst hF hVi hVu hVg hVh hVl; (try subst o_frmS); simp +contextual [fns, renT, renH, renB, renF, renDf, injH, pie, lk, D.ren, D.renL, D.lt, D.ltL, lt_gv, ren_gv, lk_gh, renH_gh, mem_gh, injH_gh, injK, injK_gh, lenD, gv_one, gh_one, subL_one, gv_nil, gh_nil, gv_snoc, gh_snoc, ints_nil, ints_app, ints_one, ints_cons, u64s_nil, u64s_app, u64s_one, ints_set, u64s_set, ints_len, u64s_len, List.nil_append, List.length_append, List.length_cons, List.length_nil])) (by simp +contextual [renT, renH, renB, renF, renDf, injH, pie, lk, D.ren, D.renL, D.lt, D.ltL, lt_gv, ren_gv, lk_gh, renH_gh, mem_gh, injH_gh, injK, injK_gh, lenD, gv_one, gh_one, subL_one, gv_nil, gh_nil, gv_snoc, gh_snoc, ints_nil, ints_app, ints_one, ints_cons, u64s_nil, u64s_app, u64s_one, ints_set, u64s_set, ints_len, u64s_len, List.nil_append, List.length_append, List.length_cons, List.length_nil]) rfl (by simp [renF, renT, lk, D.ren, D.renL, D.lt, D.ltL]) (by simp [renDf]))⟩ <;> (skip; (try subst o_frmS))
    rw [if_neg (by omega)] at hS
    refine ⟨by omega, hS, fun j y hj hy => ?_⟩
    rcases Nat.lt_succ_iff_lt_or_eq.1 hj with h8 | h8
    · exact hk.2.2 j y h8 hy
    · rw [h8, hx] at hy
      cases hy
      omega
  have hk9 : k = 9 := by simp at h; omega
  have hS := hk.2.1
  rw [List.drop_of_length_le (by omega), rngE] at hS
  have hrng : ∀ x, x ∈ A → -1 ≤ x ∧ x < 256 := fun x hx => by
    obtain ⟨j, hj⟩ := List.mem_iff_getElem?.1 hx
    have := (List.getElem?_eq_some_iff.1 hj).1
    exact hk.2.2 j x (by omega) hj
  have hr1 : -1 ≤ r ∧ r < 256 := hrng r (by rw [hA]; simp)
  have hL1 : ∀ x, x ∈ L → -1 ≤ x ∧ x < 256 := fun x hx => hrng x (by rw [hA]; simp [hx])
  clear h hk hk9 hs hs1
  refine loop_inv hF ((Nat)) (fun st_ => st_ ≤ 8 ∧ S = dupE r L st_ (L.drop st_) (stE r L 0)) (fun st_ => { tm := [(1, .ptr 0 3 0 0), (26, .ro (ints L)), (27, .int .i64 8), (28, .int .i64 st_)], hp := [(0, ⟨3, 25, [.agg [.int .i64 r, .ro (ints L), .ro (u64s E)]], true, true⟩)], nx := 2, nt := 58, fr := [], df := [] }) (fun st_ => 8 - st_) ⟨0, by exact ⟨by simp, by simpa using hS⟩, wk_of hF (weakR (pie []) (by first | (simp +contextual [renT, renH, renB, renF, renDf, injH, pie, lk, D.ren, D.renL, D.lt, D.ltL, lt_gv, ren_gv, lk_gh, renH_gh, mem_gh, injH_gh, injK, injK_gh, lenD, gv_one, gh_one, subL_one, gv_nil, gh_nil, gv_snoc, gh_snoc, ints_nil, ints_app, ints_one, ints_cons, u64s_nil, u64s_app, u64s_one, ints_set, u64s_set, ints_len, u64s_len, List.nil_append, List.length_append, List.length_cons, List.length_nil, h8]; done) | (subst hF hVi hVu hVg hVh hVl; (try subst o_frmS); simp only [fns, arI, cmI]; rw [IntWalk.i64_in _ (by simp; omega)]; simp +contextual [renT, renH, renB, renF, renDf, injH, pie, lk, D.ren, D.renL, D.lt, D.ltL, lt_gv, ren_gv, lk_gh, renH_gh, mem_gh, injH_gh, injK, injK_gh, lenD, gv_one, gh_one, subL_one, gv_nil, gh_nil, gv_snoc, gh_snoc, ints_nil, ints_app, ints_one, ints_cons, u64s_nil, u64s_app, u64s_one, ints_set, u64s_set, ints_len, u64s_len, List.nil_append, List.length_append, List.length_cons, List.length_nil, h8]; done) | (subst hF hVi hVu hVg hVh hVl; (try subst o_frmS); simp +contextual [fns, arI, cmI, renT, renH, renB, renF, renDf, injH, pie, lk, D.ren, D.renL, D.lt, D.ltL, lt_gv, ren_gv, lk_gh, renH_gh, mem_gh, injH_gh, injK, injK_gh, lenD, gv_one, gh_one, subL_one, gv_nil, gh_nil, gv_snoc, gh_snoc, ints_nil, ints_app, ints_one, ints_cons, u64s_nil, u64s_app, u64s_one, ints_set, u64s_set, ints_len, u64s_len, List.nil_append, List.length_append, List.length_cons, List.length_nil, h8])) (by first | (simp +contextual [renT, renH, renB, renF, renDf, injH, pie, lk, D.ren, D.renL, D.lt, D.ltL, lt_gv, ren_gv, lk_gh, renH_gh, mem_gh, injH_gh, injK, injK_gh, lenD, gv_one, gh_one, subL_one, gv_nil, gh_nil, gv_snoc, gh_snoc, ints_nil, ints_app, ints_one, ints_cons, u64s_nil, u64s_app, u64s_one, ints_set, u64s_set, ints_len, u64s_len, List.nil_append, List.length_append, List.length_cons, List.length_nil, h8]; done) | (subst hF hVi hVu hVg hVh hVl; (try subst o_frmS); simp +contextual [fns, renT, renH, renB, renF, renDf, injH, pie, lk, D.ren, D.renL, D.lt, D.ltL, lt_gv, ren_gv, lk_gh, renH_gh, mem_gh, injH_gh, injK, injK_gh, lenD, gv_one, gh_one, subL_one, gv_nil, gh_nil, gv_snoc, gh_snoc, ints_nil, ints_app, ints_one, ints_cons, u64s_nil, u64s_app, u64s_one, ints_set, u64s_set, ints_len, u64s_len, List.nil_append, List.length_append, List.length_cons, List.length_nil, h8])) (by simp +contextual [renT, renH, renB, renF, renDf, injH, pie, lk, D.ren, D.renL, D.lt, D.ltL, lt_gv, ren_gv, lk_gh, renH_gh, mem_gh, injH_gh, injK, injK_gh, lenD, gv_one, gh_one, subL_one, gv_nil, gh_nil, gv_snoc, gh_snoc, ints_nil, ints_app, ints_one, ints_cons, u64s_nil, u64s_app, u64s_one, ints_set, u64s_set, ints_len, u64s_len, List.nil_append, List.length_append, List.length_cons, List.length_nil, h8]) rfl (by simp [renF, renT, lk, D.ren, D.renL, D.lt, D.ltL]) (by simp [renDf]))⟩ ?_
  rintro k hk
  try simp only at hk
  ((try rewrite [← hVi]); (try rewrite [← hVu]); (try rewrite [← hVg]); (try rewrite [← hVh]); (try rewrite [← o_frmS]); conv => cbv)
  clear hS
  split <;> rename_i h5 <;> (try rw [h5]) <;> (((try rewrite [← hVi]); (try rewrite [← hVu]); (try rewrite [← hVg]); (try rewrite [← hVh]); (try rewrite [← o_frmS]); conv => cbv)) <;> (try simp only [hF, fns, cmI, decide_eq_true_eq, decide_eq_false_iff_not, beq_iff_eq, bne_iff_ne, beq_eq_false_iff_ne, bne_eq_false_iff_eq, ne_eq, Int.not_lt, Int.not_le, Classical.not_not, ge_iff_le, gt_iff_lt, Bool.not_eq_true] at h5)
  · have hlt : k < 8 := by simp at h5; omega
    obtain ⟨x, hx⟩ : ∃ x, L[k]? = some x := ⟨_, List.getElem?_eq_getElem (by omega)⟩
    have hxr := hL1 x (List.mem_of_getElem? hx)
    have hS := hk.2
    rw [drop_at hx, dupE, usesS] at hS
    refine ⟨by subst hF hVi hVu hVg hVh hVl; (try subst o_frmS); simp [fns], .int .i64 x, ints_at _ _ _ hx, rfl, ?_⟩
    ((try rewrite [← hVi]); (try rewrite [← hVu]); (try rewrite [← hVg]); (try rewrite [← hVh]); (try rewrite [← o_frmS]); conv => cbv)
    split <;> rename_i h6 <;> (try rw [h6]) <;> (((try rewrite [← hVi]); (try rewrite [← hVu]); (try rewrite [← hVg]); (try rewrite [← hVh]); (try rewrite [← o_frmS]); conv => cbv)) <;> (try simp only [hF, fns, cmI, decide_eq_true_eq, decide_eq_false_iff_not, beq_iff_eq, bne_iff_ne, beq_eq_false_iff_ne, bne_eq_false_iff_eq, ne_eq, Int.not_lt, Int.not_le, Classical.not_not, ge_iff_le, gt_iff_lt, Bool.not_eq_true] at h6)
    · split <;> rename_i h7 <;> (try rw [h7]) <;> (((try rewrite [← hVi]); (try rewrite [← hVu]); (try rewrite [← hVg]); (try rewrite [← hVh]); (try rewrite [← o_frmS]); conv => cbv)) <;> (try simp only [hF, fns, cmI, decide_eq_true_eq, decide_eq_false_iff_not, beq_iff_eq, bne_iff_ne, beq_eq_false_iff_ne, bne_eq_false_iff_eq, ne_eq, Int.not_lt, Int.not_le, Classical.not_not, ge_iff_le, gt_iff_lt, Bool.not_eq_true] at h7)
      · subst hF hVi hVu hVg hVh hVl; (try subst o_frmS); subst hd
        simp only [fns]
        refine ⟨by simp [inRows, inRowsL, lk, lenD], ?_⟩
        rw [if_pos ⟨by omega, by simp [h7]⟩] at hS
        simp [reify, hS]
      obtain ⟨T, hT⟩ : ∃ T, T = L.take k := ⟨_, rfl⟩
      have e1 : F.sub (ints L) 0 (F.sb (F.ix 0 (Int.ofNat k)) 0) = ints T := by
        subst hF hVi hVu hVg hVh hVl; (try subst o_frmS)
        simp only [fns]
        rw [hT, ← ints_take, subL_take]
        · simp
        · simp [hl1]; omega
      (conv at e1 => lhs; cbv)
      have hTl : T.length < 1000000 := by rw [hT]; simp; omega
      have c1 := contains_c (G := G0) T x hTl
      have hTk : (L.take (k : Int).toNat).contains x = T.contains x := by rw [hT]; simp
      rw [hTk] at hS
      generalize T.contains x = b at c1 hS
      refine ⟨by subst hF hVi hVu hVg hVh hVl; (try subst o_frmS); simp [fns], by subst hF hVi hVu hVg hVh hVl; (try subst o_frmS); simp only [fns]; exact ⟨by simp, by simp [hl1]; omega, ints_cells L⟩, ?_⟩
      rw [e1]
      ((try rewrite [← hVi]); (try rewrite [← hVu]); (try rewrite [← hVg]); (try rewrite [← hVh]); (try rewrite [← o_frmS]); conv => cbv)
      refine .inl ⟨_, _, by subst hF hVi hVu hVg hVh hVl; (try subst o_frmS); exact c1, by subst hF hVi hVu hVg hVh hVl; (try subst o_frmS); exact ⟨by simp [inRowsL, inRows, lk], by first | exact .inl rfl | exact .inr ⟨rfl, fun B h => nomatch h⟩⟩, ?_⟩ <;> ((try rewrite [← hVi]); (try rewrite [← hVu]); (try rewrite [← hVg]); (try rewrite [← hVh]); (try rewrite [← o_frmS]); conv => cbv)
      cases b
      · ((try rewrite [← hVi]); (try rewrite [← hVu]); (try rewrite [← hVg]); (try rewrite [← hVh]); (try rewrite [← o_frmS]); conv => cbv)
        refine ⟨(k + 1), ?_, by first | omega | (simp; omega) | (simp only; omega), wk_of hF (weakR (pie []) (by first | (simp +contextual [renT, renH, renB, renF, renDf, injH, pie, lk, D.ren, D.renL, D.lt, D.ltL, lt_gv, ren_gv, lk_gh, renH_gh, mem_gh, injH_gh, injK, injK_gh, lenD, gv_one, gh_one, subL_one, gv_nil, gh_nil, gv_snoc, gh_snoc, ints_nil, ints_app, ints_one, ints_cons, u64s_nil, u64s_app, u64s_one, ints_set, u64s_set, ints_len, u64s_len, List.nil_append, List.length_append, List.length_cons, List.length_nil]; done) | (subst hF hVi hVu hVg hVh hVl; (try subst o_frmS); simp only [fns, arI, cmI]; rw [IntWalk.i64_in _ (by simp; omega)]; simp +contextual [renT, renH, renB, renF, renDf, injH, pie, lk, D.ren, D.renL, D.lt, D.ltL, lt_gv, ren_gv, lk_gh, renH_gh, mem_gh, injH_gh, injK, injK_gh, lenD, gv_one, gh_one, subL_one, gv_nil, gh_nil, gv_snoc, gh_snoc, ints_nil, ints_app, ints_one, ints_cons, u64s_nil, u64s_app, u64s_one, ints_set, u64s_set, ints_len, u64s_len, List.nil_append, List.length_append, List.length_cons, List.length_nil]; done) | (subst hF hVi hVu hVg hVh hVl; (try subst o_frmS); simp +contextual [fns, arI, cmI, renT, renH, renB, renF, renDf, injH, pie, lk, D.ren, D.renL, D.lt, D.ltL, lt_gv, ren_gv, lk_gh, renH_gh, mem_gh, injH_gh, injK, injK_gh, lenD, gv_one, gh_one, subL_one, gv_nil, gh_nil, gv_snoc, gh_snoc, ints_nil, ints_app, ints_one, ints_cons, u64s_nil, u64s_app, u64s_one, ints_set, u64s_set, ints_len, u64s_len, List.nil_append, List.length_append, List.length_cons, List.length_nil])) (by first | (simp +contextual [renT, renH, renB, renF, renDf, injH, pie, lk, D.ren, D.renL, D.lt, D.ltL, lt_gv, ren_gv, lk_gh, renH_gh, mem_gh, injH_gh, injK, injK_gh, lenD, gv_one, gh_one, subL_one, gv_nil, gh_nil, gv_snoc, gh_snoc, ints_nil, ints_app, ints_one, ints_cons, u64s_nil, u64s_app, u64s_one, ints_set, u64s_set, ints_len, u64s_len, List.nil_append, List.length_append, List.length_cons, List.length_nil]; done) | (subst hF hVi hVu hVg hVh hVl; (try subst o_frmS); simp +contextual [fns, renT, renH, renB, renF, renDf, injH, pie, lk, D.ren, D.renL, D.lt, D.ltL, lt_gv, ren_gv, lk_gh, renH_gh, mem_gh, injH_gh, injK, injK_gh, lenD, gv_one, gh_one, subL_one, gv_nil, gh_nil, gv_snoc, gh_snoc, ints_nil, ints_app, ints_one, ints_cons, u64s_nil, u64s_app, u64s_one, ints_set, u64s_set, ints_len, u64s_len, List.nil_append, List.length_append, List.length_cons, List.length_nil])) (by simp +contextual [renT, renH, renB, renF, renDf, injH, pie, lk, D.ren, D.renL, D.lt, D.ltL, lt_gv, ren_gv, lk_gh, renH_gh, mem_gh, injH_gh, injK, injK_gh, lenD, gv_one, gh_one, subL_one, gv_nil, gh_nil, gv_snoc, gh_snoc, ints_nil, ints_app, ints_one, ints_cons, u64s_nil, u64s_app, u64s_one, ints_set, u64s_set, ints_len, u64s_len, List.nil_append, List.length_append, List.length_cons, List.length_nil]) rfl (by simp [renF, renT, lk, D.ren, D.renL, D.lt, D.ltL]) (by simp [renDf]))⟩ <;> (skip; (try subst o_frmS))
        rw [if_neg (by
          intro ⟨_, h9⟩
          have : r = x := by simpa using h9
          exact h7 this.symm)] at hS
        exact ⟨by omega, hS⟩
      · ((try rewrite [← hVi]); (try rewrite [← hVu]); (try rewrite [← hVg]); (try rewrite [← hVh]); (try rewrite [← o_frmS]); conv => cbv)
        subst hF hVi hVu hVg hVh hVl; (try subst o_frmS); subst hd
        simp only [fns]
        refine ⟨by simp [inRows, inRowsL, lk, lenD], ?_⟩
        rw [if_pos ⟨by omega, by simp⟩] at hS
        simp [reify, hS]
    · refine ⟨(k + 1), ?_, by first | omega | (simp; omega) | (simp only; omega), wk_of hF (weakR (pie []) (by first | (simp +contextual [renT, renH, renB, renF, renDf, injH, pie, lk, D.ren, D.renL, D.lt, D.ltL, lt_gv, ren_gv, lk_gh, renH_gh, mem_gh, injH_gh, injK, injK_gh, lenD, gv_one, gh_one, subL_one, gv_nil, gh_nil, gv_snoc, gh_snoc, ints_nil, ints_app, ints_one, ints_cons, u64s_nil, u64s_app, u64s_one, ints_set, u64s_set, ints_len, u64s_len, List.nil_append, List.length_append, List.length_cons, List.length_nil]; done) | (subst hF hVi hVu hVg hVh hVl; (try subst o_frmS); simp only [fns, arI, cmI]; rw [IntWalk.i64_in _ (by simp; omega)]; simp +contextual [renT, renH, renB, renF, renDf, injH, pie, lk, D.ren, D.renL, D.lt, D.ltL, lt_gv, ren_gv, lk_gh, renH_gh, mem_gh, injH_gh, injK, injK_gh, lenD, gv_one, gh_one, subL_one, gv_nil, gh_nil, gv_snoc, gh_snoc, ints_nil, ints_app, ints_one, ints_cons, u64s_nil, u64s_app, u64s_one, ints_set, u64s_set, ints_len, u64s_len, List.nil_append, List.length_append, List.length_cons, List.length_nil]; done) | (subst hF hVi hVu hVg hVh hVl; (try subst o_frmS); simp +contextual [fns, arI, cmI, renT, renH, renB, renF, renDf, injH, pie, lk, D.ren, D.renL, D.lt, D.ltL, lt_gv, ren_gv, lk_gh, renH_gh, mem_gh, injH_gh, injK, injK_gh, lenD, gv_one, gh_one, subL_one, gv_nil, gh_nil, gv_snoc, gh_snoc, ints_nil, ints_app, ints_one, ints_cons, u64s_nil, u64s_app, u64s_one, ints_set, u64s_set, ints_len, u64s_len, List.nil_append, List.length_append, List.length_cons, List.length_nil])) (by first | (simp +contextual [renT, renH, renB, renF, renDf, injH, pie, lk, D.ren, D.renL, D.lt, D.ltL, lt_gv, ren_gv, lk_gh, renH_gh, mem_gh, injH_gh, injK, injK_gh, lenD, gv_one, gh_one, subL_one, gv_nil, gh_nil, gv_snoc, gh_snoc, ints_nil, ints_app, ints_one, ints_cons, u64s_nil, u64s_app, u64s_one, ints_set, u64s_set, ints_len, u64s_len, List.nil_append, List.length_append, List.length_cons, List.length_nil]; done) | (subst hF hVi hVu hVg hVh hVl; (try subst o_frmS); simp +contextual [fns, renT, renH, renB, renF, renDf, injH, pie, lk, D.ren, D.renL, D.lt, D.ltL, lt_gv, ren_gv, lk_gh, renH_gh, mem_gh, injH_gh, injK, injK_gh, lenD, gv_one, gh_one, subL_one, gv_nil, gh_nil, gv_snoc, gh_snoc, ints_nil, ints_app, ints_one, ints_cons, u64s_nil, u64s_app, u64s_one, ints_set, u64s_set, ints_len, u64s_len, List.nil_append, List.length_append, List.length_cons, List.length_nil])) (by simp +contextual [renT, renH, renB, renF, renDf, injH, pie, lk, D.ren, D.renL, D.lt, D.ltL, lt_gv, ren_gv, lk_gh, renH_gh, mem_gh, injH_gh, injK, injK_gh, lenD, gv_one, gh_one, subL_one, gv_nil, gh_nil, gv_snoc, gh_snoc, ints_nil, ints_app, ints_one, ints_cons, u64s_nil, u64s_app, u64s_one, ints_set, u64s_set, ints_len, u64s_len, List.nil_append, List.length_append, List.length_cons, List.length_nil]) rfl (by simp [renF, renT, lk, D.ren, D.renL, D.lt, D.ltL]) (by simp [renDf]))⟩ <;> (skip; (try subst o_frmS))
      rw [if_neg (by omega)] at hS
      exact ⟨by omega, hS⟩
  have hk8 : k = 8 := by simp at h5; omega
  have hS := hk.2
  rw [List.drop_of_length_le (by omega), dupE, stE_any (fun x hx => (hL1 x hx).1) hr1.1] at hS
  have c2 := containsFunc_c (G := G0) 66 (fun x => x != -1) isSome_c L (by omega)
  generalize (L.any fun x => x != -1) = b at c2 hS
  split <;> rename_i h6 <;> (try rw [h6]) <;> (((try rewrite [← hVi]); (try rewrite [← hVu]); (try rewrite [← hVg]); (try rewrite [← hVh]); (try rewrite [← o_frmS]); conv => cbv)) <;> (try simp only [hF, fns, cmI, decide_eq_true_eq, decide_eq_false_iff_not, beq_iff_eq, bne_iff_ne, beq_eq_false_iff_ne, bne_eq_false_iff_eq, ne_eq, Int.not_lt, Int.not_le, Classical.not_not, ge_iff_le, gt_iff_lt, Bool.not_eq_true] at h6)
  · refine .inl ⟨_, _, by subst hF hVi hVu hVg hVh hVl; (try subst o_frmS); exact c2, by subst hF hVi hVu hVg hVh hVl; (try subst o_frmS); exact ⟨by simp [inRowsL, inRows, lk], by first | exact .inl rfl | exact .inr ⟨rfl, fun B h => nomatch h⟩⟩, ?_⟩ <;> ((try rewrite [← hVi]); (try rewrite [← hVu]); (try rewrite [← hVg]); (try rewrite [← hVh]); (try rewrite [← o_frmS]); conv => cbv)
    cases b
    · ((try rewrite [← hVi]); (try rewrite [← hVu]); (try rewrite [← hVg]); (try rewrite [← hVh]); (try rewrite [← o_frmS]); conv => cbv)
      subst hF hVi hVu hVg hVh hVl; (try subst o_frmS); subst hd
      simp only [fns]
      refine ⟨by simp [inRows, inRowsL, lk, lenD], ?_⟩
      rw [if_neg (by simp)] at hS
      simp [reify, hS]
    · ((try rewrite [← hVi]); (try rewrite [← hVu]); (try rewrite [← hVg]); (try rewrite [← hVh]); (try rewrite [← o_frmS]); conv => cbv)
      subst hF hVi hVu hVg hVh hVl; (try subst o_frmS); subst hd
      simp only [fns]
      refine ⟨by simp [inRows, inRowsL, lk, lenD], ?_⟩
      rw [if_pos ⟨h6, rfl⟩] at hS
      simp [reify, hS]
  · subst hF hVi hVu hVg hVh hVl; (try subst o_frmS); subst hd
    simp only [fns]
    refine ⟨by simp [inRows, inRowsL, lk, lenD], ?_⟩
    rw [if_neg (by simp [h6])] at hS
    simp [reify, hS]
end Go.Proofs.YtppmomobjjpljaaDoor.E
end

/- Part A8. -/
section
/- Contracts: leaves of tables (reference). -/
namespace Go.Proofs.YtppmomobjjpljaaDoor.E
open Go Go.RowKit
set_option linter.unusedVariables false
set_option linter.unusedSimpArgs false
set_option maxRecDepth 100000
def setLeafS (r : Int) (L E : List Int) (leaf f : Int) : TE :=
  if chkT r L E ≠ 0 then teZ (chkT r L E) else if leaf < 0 ∨ leaf ≥ 8 ∨ f < 0 ∨ f ≥ 256 then teZ 2 else if r < 0 then teZ 9
  else if 0 ≤ L.getD leaf.toNat 0 ∨ usesS r L 8 f = true then teZ 7 else ⟨r, L.set leaf.toNat f, E, 0⟩
theorem teZ_d {X : TE} {f : Int} (h : X = teZ f) : X.d = .tup [.agg [.int .i64 0, .ro [], .ro []], .int .i64 f] := by rw [h]; rfl
theorem rsetLeaf_c (r : Int) (L E : List Int) (leaf f : Int) (hL : L.length < 100) (hE : E.length < 100) (hw : wordsOk E) : Contract Tryd.prog G0 38 [tblD r L E, .int .i64 leaf, .int .i64 f] (setLeafS r L E leaf f).d [] := by
  refine fun0 tys_ok mixed (n := 59) (rs := [.cell 6 25, .tmp 7]) ⟨Tryd.func38, by kernel_rfl, rfl⟩ rfl rfl (by simp) fun F d0 hF hd => ?_
  obtain ⟨ints, u64s, gv, gh, lenF, hVi, hVu, hVg, hVh, hVl, lenD, ints_len, u64s_len, ints_cells, u64s_cells, ints_at, u64s_at, gv_nil, gh_nil, gv_ne, gh_ne, gv_snoc, gh_snoc, gv_one, gh_one, lt_gv, ren_gv, lk_gh, renH_gh, mem_gh, injK_gh, injH_gh, ints_nil, ints_app, ints_one, ints_cons, ints_ne, u64s_nil, u64s_app, u64s_one, u64s_ne, ints_set, u64s_set⟩ := vocab
  obtain ⟨f_chkT, o_chkT⟩ : ∃ f, f = chkT := ⟨_, rfl⟩
  obtain ⟨f_setLeafS, o_setLeafS⟩ : ∃ f, f = setLeafS := ⟨_, rfl⟩
  have c1 := rchkT_c r L E hL hE hw
  unfold tblD at *
  generalize hP : setLeafS r L E leaf f = X at hd
  rw [setLeafS] at hP
  generalize hS : chkT r L E = S at c1 hP
  ((try rewrite [← hVi]); (try rewrite [← hVu]); (try rewrite [← hVg]); (try rewrite [← hVh]); (try rewrite [← o_chkT]); (try rewrite [← o_setLeafS]); conv => cbv)
  refine .inl ⟨_, _, by subst hF hVi hVu hVg hVh hVl; (try subst o_chkT); (try subst o_setLeafS); exact c1, by subst hF hVi hVu hVg hVh hVl; (try subst o_chkT); (try subst o_setLeafS); exact ⟨by simp [inRowsL, inRows, lk], by first | exact .inl rfl | exact .inr ⟨rfl, fun B h => nomatch h⟩⟩, ?_⟩ <;> ((try rewrite [← hVi]); (try rewrite [← hVu]); (try rewrite [← hVg]); (try rewrite [← hVh]); (try rewrite [← o_chkT]); (try rewrite [← o_setLeafS]); conv => cbv)
  split <;> rename_i h <;> (try rw [h]) <;> ((try rewrite [← hVi]); (try rewrite [← hVu]); (try rewrite [← hVg]); (try rewrite [← hVh]); (try rewrite [← o_chkT]); (try rewrite [← o_setLeafS]); conv => cbv)
  · subst hF hVi hVu hVg hVh hVl; (try subst o_chkT); (try subst o_setLeafS); subst hd
    simp only [fns, cmI] at *
    refine ⟨by simp [inRows, inRowsL, lk], ?_⟩
    have h : S ≠ 0 := by simpa using h
    rw [if_pos h] at hP
    rw [teZ_d hP.symm]
    simp [reify, reifyL]
  have h0 : S = 0 := by subst hF hVi hVu hVg hVh hVl; (try subst o_chkT); (try subst o_setLeafS); simpa [fns, cmI] using h
  rw [if_neg (by simpa using h0)] at hP
  rw [h0] at hS
  obtain ⟨g4, g5⟩ := chkT_len hS
  have bad : (leaf < 0 ∨ leaf ≥ 8 ∨ f < 0 ∨ f ≥ 256) → X = teZ 2 := fun h => by rw [← hP, if_pos h]
  have bad9 : ¬ (leaf < 0 ∨ leaf ≥ 8 ∨ f < 0 ∨ f ≥ 256) → r < 0 → X = teZ 9 := fun h h2 => by rw [← hP, if_neg h, if_pos h2]
  have bad7 : ¬ (leaf < 0 ∨ leaf ≥ 8 ∨ f < 0 ∨ f ≥ 256) → ¬ r < 0 → (0 ≤ L.getD leaf.toNat 0 ∨ usesS r L 8 f = true) → X = teZ 7 := fun h h2 h3 => by rw [← hP, if_neg h, if_neg h2, if_pos h3]
  have good : ¬ (leaf < 0 ∨ leaf ≥ 8 ∨ f < 0 ∨ f ≥ 256) → ¬ r < 0 → ¬ (0 ≤ L.getD leaf.toNat 0 ∨ usesS r L 8 f = true) → X = ⟨r, L.set leaf.toNat f, E, 0⟩ := fun h h2 h3 => by rw [← hP, if_neg h, if_neg h2, if_neg h3]
  clear hP
  have e1 : F.cm .lss leaf 0 = decide (leaf < 0) := by subst hF hVi hVu hVg hVh hVl; (try subst o_chkT); (try subst o_setLeafS); rfl
  have e2 : F.cm .geq leaf 8 = decide (leaf ≥ 8) := by subst hF hVi hVu hVg hVh hVl; (try subst o_chkT); (try subst o_setLeafS); rfl
  have e3 : F.cm .lss f 0 = decide (f < 0) := by subst hF hVi hVu hVg hVh hVl; (try subst o_chkT); (try subst o_setLeafS); rfl
  have e4 : F.cm .geq f 256 = decide (f ≥ 256) := by subst hF hVi hVu hVg hVh hVl; (try subst o_chkT); (try subst o_setLeafS); rfl
  have e5 : F.cm .lss r 0 = decide (r < 0) := by subst hF hVi hVu hVg hVh hVl; (try subst o_chkT); (try subst o_setLeafS); rfl
  split <;> rename_i q1 <;> (try rw [q1]) <;> ((try rewrite [← hVi]); (try rewrite [← hVu]); (try rewrite [← hVg]); (try rewrite [← hVh]); (try rewrite [← o_chkT]); (try rewrite [← o_setLeafS]); conv => cbv)
  · have hX := bad (.inl (by simpa using e1.symm.trans q1))
    subst hF hVi hVu hVg hVh hVl; (try subst o_chkT); (try subst o_setLeafS); subst hd
    simp only [fns, cmI] at *
    refine ⟨by simp [inRows, inRowsL, lk, lenD], ?_⟩
    rw [teZ_d hX]
    simp [reify, reifyL]
  split <;> rename_i q2 <;> (try rw [q2]) <;> ((try rewrite [← hVi]); (try rewrite [← hVu]); (try rewrite [← hVg]); (try rewrite [← hVh]); (try rewrite [← o_chkT]); (try rewrite [← o_setLeafS]); conv => cbv)
  · have hX := bad (.inr (.inl (by simpa using e2.symm.trans q2)))
    subst hF hVi hVu hVg hVh hVl; (try subst o_chkT); (try subst o_setLeafS); subst hd
    simp only [fns, cmI] at *
    refine ⟨by simp [inRows, inRowsL, lk, lenD], ?_⟩
    rw [teZ_d hX]
    simp [reify, reifyL]
  split <;> rename_i q3 <;> (try rw [q3]) <;> ((try rewrite [← hVi]); (try rewrite [← hVu]); (try rewrite [← hVg]); (try rewrite [← hVh]); (try rewrite [← o_chkT]); (try rewrite [← o_setLeafS]); conv => cbv)
  · have hX := bad (.inr (.inr (.inl (by simpa using e3.symm.trans q3))))
    subst hF hVi hVu hVg hVh hVl; (try subst o_chkT); (try subst o_setLeafS); subst hd
    simp only [fns, cmI] at *
    refine ⟨by simp [inRows, inRowsL, lk, lenD], ?_⟩
    rw [teZ_d hX]
    simp [reify, reifyL]
  split <;> rename_i q4 <;> (try rw [q4]) <;> ((try rewrite [← hVi]); (try rewrite [← hVu]); (try rewrite [← hVg]); (try rewrite [← hVh]); (try rewrite [← o_chkT]); (try rewrite [← o_setLeafS]); conv => cbv)
  · have hX := bad (.inr (.inr (.inr (by simpa using e4.symm.trans q4))))
    subst hF hVi hVu hVg hVh hVl; (try subst o_chkT); (try subst o_setLeafS); subst hd
    simp only [fns, cmI] at *
    refine ⟨by simp [inRows, inRowsL, lk, lenD], ?_⟩
    rw [teZ_d hX]
    simp [reify, reifyL]
  obtain ⟨l0, l8, f0, f256⟩ : 0 ≤ leaf ∧ leaf < 8 ∧ 0 ≤ f ∧ f < 256 := ⟨by simpa using e1.symm.trans q1, by simpa using e2.symm.trans q2, by simpa using e3.symm.trans q3, by simpa using e4.symm.trans q4⟩
  have nb : ¬ (leaf < 0 ∨ leaf ≥ 8 ∨ f < 0 ∨ f ≥ 256) := by omega
  split <;> rename_i q5 <;> (try rw [q5]) <;> ((try rewrite [← hVi]); (try rewrite [← hVu]); (try rewrite [← hVg]); (try rewrite [← hVh]); (try rewrite [← o_chkT]); (try rewrite [← o_setLeafS]); conv => cbv)
  · have hX := bad9 nb (by simpa using e5.symm.trans q5)
    subst hF hVi hVu hVg hVh hVl; (try subst o_chkT); (try subst o_setLeafS); subst hd
    simp only [fns, cmI] at *
    refine ⟨by simp [inRows, inRowsL, lk, lenD], ?_⟩
    rw [teZ_d hX]
    simp [reify, reifyL]
  have nr : ¬ r < 0 := by simpa using e5.symm.trans q5
  obtain ⟨y, hy⟩ : ∃ y, L[leaf.toNat]? = some y := ⟨_, List.getElem?_eq_getElem (by omega)⟩
  have hyd : L.getD leaf.toNat 0 = y := by rw [List.getD_eq_getElem?_getD, hy]; rfl
  rw [hyd] at bad7 good
  have c2 := uses_c r L E 8 f (by omega) (by omega)
  generalize usesS r L 8 f = u at c2 bad7 good
  unfold tblD at c2
  have c3 := rown_c r L E hL hE (by intro h; rw [h] at g4; cases g4) (by intro h; rw [h] at g5; cases g5)
  unfold tblD tblOwn tblExt at c3
  rw [g4, g5] at c3
  have hl1 := ints_len L
  have hl2 := u64s_len E
  have hst : (ints L).set leaf.toNat (.int .i64 f) = ints (L.set leaf.toNat f) := ints_set _ _ _
  have hl3 : (ints (L.set leaf.toNat f)).length = 8 := by rw [ints_len]; simp [g4]
  refine ⟨by subst hF hVi hVu hVg hVh hVl; (try subst o_chkT); (try subst o_setLeafS); exact l0, .int .i64 y, ints_at _ _ _ hy, rfl, ?_⟩
  ((try rewrite [← hVi]); (try rewrite [← hVu]); (try rewrite [← hVg]); (try rewrite [← hVh]); (try rewrite [← o_chkT]); (try rewrite [← o_setLeafS]); conv => cbv)
  have e6 : F.cm .geq y 0 = decide (y ≥ 0) := by subst hF hVi hVu hVg hVh hVl; (try subst o_chkT); (try subst o_setLeafS); rfl
  split <;> rename_i q6 <;> (try rw [q6]) <;> ((try rewrite [← hVi]); (try rewrite [← hVu]); (try rewrite [← hVg]); (try rewrite [← hVh]); (try rewrite [← o_chkT]); (try rewrite [← o_setLeafS]); conv => cbv)
  · have hX := bad7 nb nr (.inl (by simpa using e6.symm.trans q6))
    subst hF hVi hVu hVg hVh hVl; (try subst o_chkT); (try subst o_setLeafS); subst hd
    simp only [fns, cmI] at *
    refine ⟨by simp [inRows, inRowsL, lk, lenD], ?_⟩
    rw [teZ_d hX]
    simp [reify, reifyL]
  have ny : ¬ 0 ≤ y := by simpa using e6.symm.trans q6
  refine .inl ⟨_, _, by subst hF hVi hVu hVg hVh hVl; (try subst o_chkT); (try subst o_setLeafS); exact c2, by subst hF hVi hVu hVg hVh hVl; (try subst o_chkT); (try subst o_setLeafS); exact ⟨by simp [inRowsL, inRows, lk], by first | exact .inl rfl | exact .inr ⟨rfl, fun B h => nomatch h⟩⟩, ?_⟩ <;> ((try rewrite [← hVi]); (try rewrite [← hVu]); (try rewrite [← hVg]); (try rewrite [← hVh]); (try rewrite [← o_chkT]); (try rewrite [← o_setLeafS]); conv => cbv)
  cases u
  · have hX := good nb nr (by simp [ny])
    ((try rewrite [← hVi]); (try rewrite [← hVu]); (try rewrite [← hVg]); (try rewrite [← hVh]); (try rewrite [← o_chkT]); (try rewrite [← o_setLeafS]); conv => cbv)
    refine .inl ⟨_, _, by subst hF hVi hVu hVg hVh hVl; (try subst o_chkT); (try subst o_setLeafS); exact c3, by subst hF hVi hVu hVg hVh hVl; (try subst o_chkT); (try subst o_setLeafS); exact ⟨by simp [inRowsL, inRows, lk], by first | exact .inl rfl | exact .inr ⟨rfl, fun B h => nomatch h⟩⟩, ?_⟩ <;> ((try rewrite [← hVi]); (try rewrite [← hVu]); (try rewrite [← hVg]); (try rewrite [← hVh]); (try rewrite [← o_chkT]); (try rewrite [← o_setLeafS]); conv => cbv)
    subst hF hVi hVu hVg hVh hVl; (try subst o_chkT); (try subst o_setLeafS); subst hd
    simp only [fns]
    refine ⟨⟨l0, l8⟩, by simp [hl1]; omega, by simp [inRows, inRowsL, lk, hl1, hl2, g4, g5], ?_⟩
    rw [hX]
    simp [TE.d, tblD, reify, reifyL, lk, subL, hl1, hl2, hl3, g4, g5, hst]
  · have hX := bad7 nb nr (.inr rfl)
    ((try rewrite [← hVi]); (try rewrite [← hVu]); (try rewrite [← hVg]); (try rewrite [← hVh]); (try rewrite [← o_chkT]); (try rewrite [← o_setLeafS]); conv => cbv)
    subst hF hVi hVu hVg hVh hVl; (try subst o_chkT); (try subst o_setLeafS); subst hd
    simp only [fns, cmI] at *
    refine ⟨by simp [inRows, inRowsL, lk, lenD], ?_⟩
    rw [teZ_d hX]
    simp [reify, reifyL]
end Go.Proofs.YtppmomobjjpljaaDoor.E
end

/- Part A9. -/
section
/- Contracts: empty leaves (reference). -/
namespace Go.Proofs.YtppmomobjjpljaaDoor.E
open Go Go.RowKit
set_option linter.unusedVariables false
set_option linter.unusedSimpArgs false
set_option maxRecDepth 100000
def kindOf (E : List Int) (p : Nat) : Int := (unpackS (E.getD p 0)).1.k
def emptyS (E : List Int) (q : Nat) : Bool := (List.range 8).all fun k => kindOf E (q * 8 + k) == 0
theorem rempty_c (r : Int) (L E : List Int) (q : Nat) (hq : q < 8) (hE : E.length = 64) (hw : wordsOk E) : Contract Tryd.prog G0 62 [tblD r L E, .int .i64 q] (.bool (emptyS E q)) [] := by
  refine fun0 tys_ok mixed (n := 27) (rs := [.tmp 4]) ⟨Tryd.func62, by kernel_rfl, rfl⟩ rfl rfl (by simp) fun F d0 hF hd => ?_
  obtain ⟨ints, u64s, gv, gh, lenF, hVi, hVu, hVg, hVh, hVl, lenD, ints_len, u64s_len, ints_cells, u64s_cells, ints_at, u64s_at, gv_nil, gh_nil, gv_ne, gh_ne, gv_snoc, gh_snoc, gv_one, gh_one, lt_gv, ren_gv, lk_gh, renH_gh, mem_gh, injK_gh, injH_gh, ints_nil, ints_app, ints_one, ints_cons, ints_ne, u64s_nil, u64s_app, u64s_one, u64s_ne, ints_set, u64s_set⟩ := vocab
  obtain ⟨f_emptyS, o_emptyS⟩ : ∃ f, f = emptyS := ⟨_, rfl⟩
  have hl2 := u64s_len E
  unfold tblD
  generalize hS : emptyS E q = S at hd
  rw [emptyS] at hS
  obtain ⟨z, hz⟩ : ∃ z : Int, z = q := ⟨_, rfl⟩
  rw [← hz]
  ((try rewrite [← hVi]); (try rewrite [← hVu]); (try rewrite [← hVg]); (try rewrite [← hVh]); (try rewrite [← o_emptyS]); conv => cbv)
  refine loop_inv hF Nat (fun k => k ≤ 8 ∧ ∀ j, j < k → kindOf E (q * 8 + j) = 0) (fun k => { tm := [(1, .int .i64 z), (2, .ptr 0 3 0 0), (4, .bool false), (5, .int .i64 k)], hp := [(0, ⟨3, 25, [.agg [.int .i64 r, .ro (ints L), .ro (u64s E)]], true, true⟩)], nx := 1, nt := 27, fr := [], df := [] }) (fun k => 8 - k) ⟨0, ⟨Nat.zero_le _, fun j hj => absurd hj (Nat.not_lt_zero j)⟩, wk_of hF (weak0 ?_ ?_ (by simp) rfl rfl rfl rfl rfl)⟩ fun k hk => ?_
  · simp [subT, lk, D.lt]
  · simp [subH, lk]
  ((try rewrite [← hVi]); (try rewrite [← hVu]); (try rewrite [← hVg]); (try rewrite [← hVh]); (try rewrite [← o_emptyS]); conv => cbv)
  split <;> rename_i h5 <;> (try rw [h5]) <;> ((try rewrite [← hVi]); (try rewrite [← hVu]); (try rewrite [← hVg]); (try rewrite [← hVh]); (try rewrite [← o_emptyS]); conv => cbv)
  · have hlt : k < 8 := by subst hF hVi hVu hVg hVh hVl; (try subst o_emptyS); simp [fns, cmI] at h5; omega
    obtain ⟨x, hx⟩ : ∃ x, E[q * 8 + k]? = some x := ⟨_, List.getElem?_eq_getElem (by omega)⟩
    have hxw := hw x (List.mem_of_getElem? hx)
    have c1 := runpack_c x hxw.1 hxw.2
    have hkd : kindOf E (q * 8 + k) = (unpackS x).1.k := by rw [kindOf, List.getD_eq_getElem?_getD, hx]; rfl
    generalize unpackS x = X at c1 hkd
    obtain ⟨⟨ek, en, ew, ec, er⟩, ef⟩ := X
    unfold En.d at c1
    have hi : F.ar .add .i64 (F.ar .mul .i64 z 8) (Int.ofNat k) = ((q * 8 + k : Nat) : Int) := by
      subst hF hVi hVu hVg hVh hVl; (try subst o_emptyS)
      show IntKind.i64.wrap (IntKind.i64.wrap (z * 8) + Int.ofNat k) = _
      rw [IntWalk.i64_in (z * 8) (by omega), IntWalk.i64_in _ (by simp; omega), hz]
      simp
    refine ⟨by subst hF hVi hVu hVg hVh hVl; (try subst o_emptyS); simp only [fns] at hi ⊢; rw [hi]; omega, .int .u64 x, ?_, rfl, ?_⟩
    · have : (F.ar .add .i64 (F.ar .mul .i64 z 8) (Int.ofNat k)).toNat = q * 8 + k := by rw [hi]; omega
      exact this ▸ u64s_at _ _ _ hx
    ((try rewrite [← hVi]); (try rewrite [← hVu]); (try rewrite [← hVg]); (try rewrite [← hVh]); (try rewrite [← o_emptyS]); conv => cbv)
    refine .inl ⟨_, _, by subst hF hVi hVu hVg hVh hVl; (try subst o_emptyS); exact c1, by subst hF hVi hVu hVg hVh hVl; (try subst o_emptyS); exact ⟨by simp [inRowsL, inRows, lk], by first | exact .inl rfl | exact .inr ⟨rfl, fun B h => nomatch h⟩⟩, ?_⟩ <;> ((try rewrite [← hVi]); (try rewrite [← hVu]); (try rewrite [← hVg]); (try rewrite [← hVh]); (try rewrite [← o_emptyS]); conv => cbv)
    have e1 : F.cm .neq ek 0 = (ek != 0) := by subst hF hVi hVu hVg hVh hVl; (try subst o_emptyS); rfl
    split <;> rename_i h6 <;> (try rw [h6]) <;> ((try rewrite [← hVi]); (try rewrite [← hVu]); (try rewrite [← hVg]); (try rewrite [← hVh]); (try rewrite [← o_emptyS]); conv => cbv)
    · have hek : ek ≠ 0 := by simpa using e1.symm.trans h6
      subst hF hVi hVu hVg hVh hVl; (try subst o_emptyS); subst hd
      simp only [fns, cmI] at *
      refine ⟨by simp [inRows, inRowsL, lk, lenD], ?_⟩
      have : S = false := by
        rw [← hS, List.all_eq_false]
        exact ⟨k, by simpa using hlt, by rw [hkd]; simpa using hek⟩
      simp [reify, this]
    · have hek : ek = 0 := by simpa using e1.symm.trans h6
      refine ⟨k + 1, ⟨by omega, fun j hj => ?_⟩, by omega, wk_of hF (weak0 ?_ ?_ (by simp) rfl rfl rfl rfl rfl)⟩
      · rcases Nat.lt_succ_iff_lt_or_eq.1 hj with h4 | h4
        · exact hk.2 j h4
        · rw [h4, hkd]; exact hek
      · subst hF hVi hVu hVg hVh hVl; (try subst o_emptyS)
        simp only [fns, arI]
        rw [IntWalk.i64_in _ (by simp; omega)]
        simp [subT, lk, D.lt]
      · simp [subH, lk]
  have hk8 : k = 8 := by subst hF hVi hVu hVg hVh hVl; (try subst o_emptyS); simp [fns, cmI] at h5; omega
  have hs : S = true := by
    rw [← hS, List.all_eq_true]
    intro j hj
    have := hk.2 j (by rw [hk8]; simpa using hj)
    simpa using this
  subst hF hVi hVu hVg hVh hVl; (try subst o_emptyS); subst hd
  simp only [fns, cmI] at *
  refine ⟨by simp [inRows, inRowsL, lk, lenD], ?_⟩
  simp [reify, hs]
end Go.Proofs.YtppmomobjjpljaaDoor.E
end

/- Part B1. -/
section
/- Contracts: frames and pages (reference). -/
namespace Go.Proofs.YtppmomobjjpljaaDoor.E
open Go Go.RowKit
set_option linter.unusedVariables false
set_option linter.unusedSimpArgs false
set_option maxRecDepth 100000
def leavesS (L : List Int) : List Int := L.filter fun x => decide (0 ≤ x)
def framesS (r : Int) (L E : List Int) : List Int × Int := if chkT r L E ≠ 0 then ([], chkT r L E) else (leavesS L ++ (if 0 ≤ r then [r] else []), 0)
theorem rframes_c (r : Int) (L E : List Int) (hL : L.length < 100) (hE : E.length < 100) (hw : wordsOk E) : Contract Tryd.prog G0 22 [tblD r L E] (.tup [.ro (ints (framesS r L E).1), .int .i64 (framesS r L E).2]) [] := by
  refine fun0 tys_ok mixed (n := 39) (rs := [.tmp 2, .tmp 3]) ⟨Tryd.func22, by kernel_rfl, rfl⟩ rfl rfl (by simp) fun F d0 hF hd => ?_
  obtain ⟨ints, u64s, gv, gh, lenF, hVi, hVu, hVg, hVh, hVl, lenD, ints_len, u64s_len, ints_cells, u64s_cells, ints_at, u64s_at, gv_nil, gh_nil, gv_ne, gh_ne, gv_snoc, gh_snoc, gv_one, gh_one, lt_gv, ren_gv, lk_gh, renH_gh, mem_gh, injK_gh, injH_gh, ints_nil, ints_app, ints_one, ints_cons, ints_ne, u64s_nil, u64s_app, u64s_one, u64s_ne, ints_set, u64s_set⟩ := vocab
  obtain ⟨f_chkT, o_chkT⟩ : ∃ f, f = chkT := ⟨_, rfl⟩
  obtain ⟨f_framesS, o_framesS⟩ : ∃ f, f = framesS := ⟨_, rfl⟩
  have c1 := rchkT_c r L E hL hE hw
  unfold tblD at *
  generalize hP : framesS r L E = X at hd
  rw [framesS] at hP
  generalize hS : chkT r L E = S at c1 hP
  have hl1 := ints_len L
  ((try rewrite [← hVi]); (try rewrite [← hVu]); (try rewrite [← hVg]); (try rewrite [← hVh]); (try rewrite [← o_chkT]); (try rewrite [← o_framesS]); conv => cbv)
  refine .inl ⟨_, _, by subst hF hVi hVu hVg hVh hVl; (try subst o_chkT); (try subst o_framesS); exact c1, by subst hF hVi hVu hVg hVh hVl; (try subst o_chkT); (try subst o_framesS); exact ⟨by simp [inRowsL, inRows, lk], by first | exact .inl rfl | exact .inr ⟨rfl, fun B h => nomatch h⟩⟩, ?_⟩ <;> ((try rewrite [← hVi]); (try rewrite [← hVu]); (try rewrite [← hVg]); (try rewrite [← hVh]); (try rewrite [← o_chkT]); (try rewrite [← o_framesS]); conv => cbv)
  split <;> rename_i h <;> (try rw [h]) <;> (((try rewrite [← hVi]); (try rewrite [← hVu]); (try rewrite [← hVg]); (try rewrite [← hVh]); (try rewrite [← o_chkT]); (try rewrite [← o_framesS]); conv => cbv)) <;> (try simp only [hF, fns, cmI, decide_eq_true_eq, decide_eq_false_iff_not, beq_iff_eq, bne_iff_ne, beq_eq_false_iff_ne, bne_eq_false_iff_eq, ne_eq, Int.not_lt, Int.not_le, Classical.not_not, ge_iff_le, gt_iff_lt, Bool.not_eq_true] at h)
  · subst hF hVi hVu hVg hVh hVl; (try subst o_chkT); (try subst o_framesS); subst hd
    simp only [fns]
    refine ⟨by simp [inRows, inRowsL, lk, lenD], ?_⟩
    rw [if_pos h] at hP
    rw [← hP]
    simp [reify, reifyL, ints]
  subst h
  rw [if_neg (by simp)] at hP
  obtain ⟨g4, g5⟩ := chkT_len hS
  refine loop_inv hF ((Nat) × (List Int)) (fun st_ => (st_.1) ≤ 8 ∧ (st_.2) = leavesS (L.take (st_.1))) (fun st_ => { tm := [(1, .ptr 0 3 0 0), (5, gv 2 1 (ints (st_.2))), (6, .int .i64 (st_.1))], hp := (0, ⟨3, 25, [.agg [.int .i64 r, .ro (ints L), .ro (u64s E)]], true, true⟩) :: gh 2 1 3 (ints (st_.2)) [], nx := 3, nt := 39, fr := [], df := [] }) (fun st_ => 8 - (st_.1)) ⟨(0, []), by exact ⟨by simp, rfl⟩, wk_of hF (weakR (pie []) (by first | (simp +contextual [renT, renH, renB, renF, renDf, injH, pie, lk, D.ren, D.renL, D.lt, D.ltL, lt_gv, ren_gv, lk_gh, renH_gh, mem_gh, injH_gh, injK, injK_gh, lenD, gv_one, gh_one, subL_one, gv_nil, gh_nil, gv_snoc, gh_snoc, ints_nil, ints_app, ints_one, ints_cons, u64s_nil, u64s_app, u64s_one, ints_set, u64s_set, ints_len, u64s_len, List.nil_append, List.length_append, List.length_cons, List.length_nil]; done) | (subst hF hVi hVu hVg hVh hVl; (try subst o_chkT); (try subst o_framesS); simp only [fns, arI, cmI]; rw [IntWalk.i64_in _ (by simp; omega)]; simp +contextual [renT, renH, renB, renF, renDf, injH, pie, lk, D.ren, D.renL, D.lt, D.ltL, lt_gv, ren_gv, lk_gh, renH_gh, mem_gh, injH_gh, injK, injK_gh, lenD, gv_one, gh_one, subL_one, gv_nil, gh_nil, gv_snoc, gh_snoc, ints_nil, ints_app, ints_one, ints_cons, u64s_nil, u64s_app, u64s_one, ints_set, u64s_set, ints_len, u64s_len, List.nil_append, List.length_append, List.length_cons, List.length_nil]; done) | (subst hF hVi hVu hVg hVh hVl; (try subst o_chkT); (try subst o_framesS); simp +contextual [fns, arI, cmI, renT, renH, renB, renF, renDf, injH, pie, lk, D.ren, D.renL, D.lt, D.ltL, lt_gv, ren_gv, lk_gh, renH_gh, mem_gh, injH_gh, injK, injK_gh, lenD, gv_one, gh_one, subL_one, gv_nil, gh_nil, gv_snoc, gh_snoc, ints_nil, ints_app, ints_one, ints_cons, u64s_nil, u64s_app, u64s_one, ints_set, u64s_set, ints_len, u64s_len, List.nil_append, List.length_append, List.length_cons, List.length_nil])) (by first | (simp +contextual [renT, renH, renB, renF, renDf, injH, pie, lk, D.ren, D.renL, D.lt, D.ltL, lt_gv, ren_gv, lk_gh, renH_gh, mem_gh, injH_gh, injK, injK_gh, lenD, gv_one, gh_one, subL_one, gv_nil, gh_nil, gv_snoc, gh_snoc, ints_nil, ints_app, ints_one, ints_cons, u64s_nil, u64s_app, u64s_one, ints_set, u64s_set, ints_len, u64s_len, List.nil_append, List.length_append, List.length_cons, List.length_nil]; done) | (subst hF hVi hVu hVg hVh hVl; (try subst o_chkT); (try subst o_framesS); simp +contextual [fns, renT, renH, renB, renF, renDf, injH, pie, lk, D.ren, D.renL, D.lt, D.ltL, lt_gv, ren_gv, lk_gh, renH_gh, mem_gh, injH_gh, injK, injK_gh, lenD, gv_one, gh_one, subL_one, gv_nil, gh_nil, gv_snoc, gh_snoc, ints_nil, ints_app, ints_one, ints_cons, u64s_nil, u64s_app, u64s_one, ints_set, u64s_set, ints_len, u64s_len, List.nil_append, List.length_append, List.length_cons, List.length_nil])) (by simp +contextual [renT, renH, renB, renF, renDf, injH, pie, lk, D.ren, D.renL, D.lt, D.ltL, lt_gv, ren_gv, lk_gh, renH_gh, mem_gh, injH_gh, injK, injK_gh, lenD, gv_one, gh_one, subL_one, gv_nil, gh_nil, gv_snoc, gh_snoc, ints_nil, ints_app, ints_one, ints_cons, u64s_nil, u64s_app, u64s_one, ints_set, u64s_set, ints_len, u64s_len, List.nil_append, List.length_append, List.length_cons, List.length_nil]) rfl (by simp [renF, renT, lk, D.ren, D.renL, D.lt, D.ltL]) (by simp [renDf]))⟩ ?_
  rintro ⟨k, acc⟩ hk
  try simp only at hk
  ((try rewrite [← hVi]); (try rewrite [← hVu]); (try rewrite [← hVg]); (try rewrite [← hVh]); (try rewrite [← o_chkT]); (try rewrite [← o_framesS]); conv => cbv)
  split <;> rename_i h5 <;> (try rw [h5]) <;> (((try rewrite [← hVi]); (try rewrite [← hVu]); (try rewrite [← hVg]); (try rewrite [← hVh]); (try rewrite [← o_chkT]); (try rewrite [← o_framesS]); conv => cbv)) <;> (try simp only [hF, fns, cmI, decide_eq_true_eq, decide_eq_false_iff_not, beq_iff_eq, bne_iff_ne, beq_eq_false_iff_ne, bne_eq_false_iff_eq, ne_eq, Int.not_lt, Int.not_le, Classical.not_not, ge_iff_le, gt_iff_lt, Bool.not_eq_true] at h5)
  · have hlt : k < 8 := by simp at h5; omega
    obtain ⟨x, hx⟩ : ∃ x, L[k]? = some x := ⟨_, List.getElem?_eq_getElem (by omega)⟩
    have ht := take_at hx
    refine ⟨by subst hF hVi hVu hVg hVh hVl; (try subst o_chkT); (try subst o_framesS); simp [fns], .int .i64 x, ints_at _ _ _ hx, rfl, ?_⟩
    ((try rewrite [← hVi]); (try rewrite [← hVu]); (try rewrite [← hVg]); (try rewrite [← hVh]); (try rewrite [← o_chkT]); (try rewrite [← o_framesS]); conv => cbv)
    split <;> rename_i h6 <;> (try rw [h6]) <;> (((try rewrite [← hVi]); (try rewrite [← hVu]); (try rewrite [← hVg]); (try rewrite [← hVh]); (try rewrite [← o_chkT]); (try rewrite [← o_framesS]); conv => cbv)) <;> (try simp only [hF, fns, cmI, decide_eq_true_eq, decide_eq_false_iff_not, beq_iff_eq, bne_iff_ne, beq_eq_false_iff_ne, bne_eq_false_iff_eq, ne_eq, Int.not_lt, Int.not_le, Classical.not_not, ge_iff_le, gt_iff_lt, Bool.not_eq_true] at h6)
    · refine ⟨by subst hF hVi hVu hVg hVh hVl; (try subst o_chkT); (try subst o_framesS); simp [fns], .int .i64 x, ints_at _ _ _ hx, rfl, ?_⟩
      ((try rewrite [← hVi]); (try rewrite [← hVu]); (try rewrite [← hVg]); (try rewrite [← hVh]); (try rewrite [← o_chkT]); (try rewrite [← o_framesS]); conv => cbv)
      rcases Classical.em (acc = []) with ha | ha
      · subst ha
        simp only [gv_nil, gh_nil, ints_nil]
        ((try rewrite [← hVi]); (try rewrite [← hVu]); (try rewrite [← hVg]); (try rewrite [← hVh]); (try rewrite [← o_chkT]); (try rewrite [← o_framesS]); conv => cbv)
        refine ⟨by subst hF hVi hVu hVg hVh hVl; (try subst o_chkT); (try subst o_framesS); simp [fns, inRow, lk, D.cells, subL], by subst hF hVi hVu hVg hVh hVl; (try subst o_chkT); (try subst o_framesS); simp [fns, subL], fun h => (by subst hF hVi hVu hVg hVh hVl; (try subst o_chkT); (try subst o_framesS); simp [fns, subL] at h), fun _ => ?_⟩ <;> ((try rewrite [← hVi]); (try rewrite [← hVu]); (try rewrite [← hVg]); (try rewrite [← hVh]); (try rewrite [← o_chkT]); (try rewrite [← o_framesS]); conv => cbv)
        refine ⟨(k + 1, [x]), ?_, by first | omega | (simp; omega) | (simp only; omega), wk_of hF (weakR (pie [(2, 4)]) (by first | (simp +contextual [renT, renH, renB, renF, renDf, injH, pie, lk, D.ren, D.renL, D.lt, D.ltL, lt_gv, ren_gv, lk_gh, renH_gh, mem_gh, injH_gh, injK, injK_gh, lenD, gv_one, gh_one, subL_one, gv_nil, gh_nil, gv_snoc, gh_snoc, ints_nil, ints_app, ints_one, ints_cons, u64s_nil, u64s_app, u64s_one, ints_set, u64s_set, ints_len, u64s_len, List.nil_append, List.length_append, List.length_cons, List.length_nil]; done) | (subst hF hVi hVu hVg hVh hVl; (try subst o_chkT); (try subst o_framesS); simp only [fns, arI, cmI]; rw [IntWalk.i64_in _ (by simp; omega)]; simp +contextual [renT, renH, renB, renF, renDf, injH, pie, lk, D.ren, D.renL, D.lt, D.ltL, lt_gv, ren_gv, lk_gh, renH_gh, mem_gh, injH_gh, injK, injK_gh, lenD, gv_one, gh_one, subL_one, gv_nil, gh_nil, gv_snoc, gh_snoc, ints_nil, ints_app, ints_one, ints_cons, u64s_nil, u64s_app, u64s_one, ints_set, u64s_set, ints_len, u64s_len, List.nil_append, List.length_append, List.length_cons, List.length_nil]; done) | (subst hF hVi hVu hVg hVh hVl; (try subst o_chkT); (try subst o_framesS); simp +contextual [fns, arI, cmI, renT, renH, renB, renF, renDf, injH, pie, lk, D.ren, D.renL, D.lt, D.ltL, lt_gv, ren_gv, lk_gh, renH_gh, mem_gh, injH_gh, injK, injK_gh, lenD, gv_one, gh_one, subL_one, gv_nil, gh_nil, gv_snoc, gh_snoc, ints_nil, ints_app, ints_one, ints_cons, u64s_nil, u64s_app, u64s_one, ints_set, u64s_set, ints_len, u64s_len, List.nil_append, List.length_append, List.length_cons, List.length_nil])) (by first | (simp +contextual [renT, renH, renB, renF, renDf, injH, pie, lk, D.ren, D.renL, D.lt, D.ltL, lt_gv, ren_gv, lk_gh, renH_gh, mem_gh, injH_gh, injK, injK_gh, lenD, gv_one, gh_one, subL_one, gv_nil, gh_nil, gv_snoc, gh_snoc, ints_nil, ints_app, ints_one, ints_cons, u64s_nil, u64s_app, u64s_one, ints_set, u64s_set, ints_len, u64s_len, List.nil_append, List.length_append, List.length_cons, List.length_nil]; done) | (subst hF hVi hVu hVg hVh hVl; (try subst o_chkT); (try subst o_framesS); simp +contextual [fns, renT, renH, renB, renF, renDf, injH, pie, lk, D.ren, D.renL, D.lt, D.ltL, lt_gv, ren_gv, lk_gh, renH_gh, mem_gh, injH_gh, injK, injK_gh, lenD, gv_one, gh_one, subL_one, gv_nil, gh_nil, gv_snoc, gh_snoc, ints_nil, ints_app, ints_one, ints_cons, u64s_nil, u64s_app, u64s_one, ints_set, u64s_set, ints_len, u64s_len, List.nil_append, List.length_append, List.length_cons, List.length_nil])) (by simp +contextual [renT, renH, renB, renF, renDf, injH, pie, lk, D.ren, D.renL, D.lt, D.ltL, lt_gv, ren_gv, lk_gh, renH_gh, mem_gh, injH_gh, injK, injK_gh, lenD, gv_one, gh_one, subL_one, gv_nil, gh_nil, gv_snoc, gh_snoc, ints_nil, ints_app, ints_one, ints_cons, u64s_nil, u64s_app, u64s_one, ints_set, u64s_set, ints_len, u64s_len, List.nil_append, List.length_append, List.length_cons, List.length_nil]) rfl (by simp [renF, renT, lk, D.ren, D.renL, D.lt, D.ltL]) (by simp [renDf]))⟩ <;> (skip; (try subst o_chkT); (try subst o_framesS))
        refine ⟨by simp only; omega, ?_⟩
        simp only
        rw [ht, leavesS, List.filter_append, List.filter_cons_of_pos (by simpa using h6)]
        rw [leavesS] at hk
        rw [← hk.2]; rfl
      · simp only [gv_ne (ints_ne ha), gh_ne (ints_ne ha)]
        ((try rewrite [← hVi]); (try rewrite [← hVu]); (try rewrite [← hVg]); (try rewrite [← hVh]); (try rewrite [← o_chkT]); (try rewrite [← o_framesS]); conv => cbv)
        have hal : acc.length ≤ 8 := by rw [hk.2, leavesS]; exact Nat.le_trans (List.length_filter_le _ _) (by simp; omega)
        refine ⟨by subst hF hVi hVu hVg hVh hVl; (try subst o_chkT); (try subst o_framesS); simp [fns, inRow, lk, D.cells, subL], by subst hF hVi hVu hVg hVh hVl; (try subst o_chkT); (try subst o_framesS); simp [fns, subL, lenD, ints_len, u64s_len]; try omega, ?_⟩ <;> ((try rewrite [← hVi]); (try rewrite [← hVu]); (try rewrite [← hVg]); (try rewrite [← hVh]); (try rewrite [← o_chkT]); (try rewrite [← o_framesS]); conv => cbv)
        refine ⟨(k + 1, acc ++ [x]), ?_, by first | omega | (simp; omega) | (simp only; omega), wk_of hF (weakR (pie []) (by first | (simp +contextual [renT, renH, renB, renF, renDf, injH, pie, lk, D.ren, D.renL, D.lt, D.ltL, lt_gv, ren_gv, lk_gh, renH_gh, mem_gh, injH_gh, injK, injK_gh, lenD, gv_one, gh_one, subL_one, gv_nil, gh_nil, gv_snoc, gh_snoc, ints_nil, ints_app, ints_one, ints_cons, u64s_nil, u64s_app, u64s_one, ints_set, u64s_set, ints_len, u64s_len, List.nil_append, List.length_append, List.length_cons, List.length_nil]; done) | (subst hF hVi hVu hVg hVh hVl; (try subst o_chkT); (try subst o_framesS); simp only [fns, arI, cmI]; rw [IntWalk.i64_in _ (by simp; omega)]; simp +contextual [renT, renH, renB, renF, renDf, injH, pie, lk, D.ren, D.renL, D.lt, D.ltL, lt_gv, ren_gv, lk_gh, renH_gh, mem_gh, injH_gh, injK, injK_gh, lenD, gv_one, gh_one, subL_one, gv_nil, gh_nil, gv_snoc, gh_snoc, ints_nil, ints_app, ints_one, ints_cons, u64s_nil, u64s_app, u64s_one, ints_set, u64s_set, ints_len, u64s_len, List.nil_append, List.length_append, List.length_cons, List.length_nil]; done) | (subst hF hVi hVu hVg hVh hVl; (try subst o_chkT); (try subst o_framesS); simp +contextual [fns, arI, cmI, renT, renH, renB, renF, renDf, injH, pie, lk, D.ren, D.renL, D.lt, D.ltL, lt_gv, ren_gv, lk_gh, renH_gh, mem_gh, injH_gh, injK, injK_gh, lenD, gv_one, gh_one, subL_one, gv_nil, gh_nil, gv_snoc, gh_snoc, ints_nil, ints_app, ints_one, ints_cons, u64s_nil, u64s_app, u64s_one, ints_set, u64s_set, ints_len, u64s_len, List.nil_append, List.length_append, List.length_cons, List.length_nil])) (by first | (simp +contextual [renT, renH, renB, renF, renDf, injH, pie, lk, D.ren, D.renL, D.lt, D.ltL, lt_gv, ren_gv, lk_gh, renH_gh, mem_gh, injH_gh, injK, injK_gh, lenD, gv_one, gh_one, subL_one, gv_nil, gh_nil, gv_snoc, gh_snoc, ints_nil, ints_app, ints_one, ints_cons, u64s_nil, u64s_app, u64s_one, ints_set, u64s_set, ints_len, u64s_len, List.nil_append, List.length_append, List.length_cons, List.length_nil]; done) | (subst hF hVi hVu hVg hVh hVl; (try subst o_chkT); (try subst o_framesS); simp +contextual [fns, renT, renH, renB, renF, renDf, injH, pie, lk, D.ren, D.renL, D.lt, D.ltL, lt_gv, ren_gv, lk_gh, renH_gh, mem_gh, injH_gh, injK, injK_gh, lenD, gv_one, gh_one, subL_one, gv_nil, gh_nil, gv_snoc, gh_snoc, ints_nil, ints_app, ints_one, ints_cons, u64s_nil, u64s_app, u64s_one, ints_set, u64s_set, ints_len, u64s_len, List.nil_append, List.length_append, List.length_cons, List.length_nil])) (by simp +contextual [renT, renH, renB, renF, renDf, injH, pie, lk, D.ren, D.renL, D.lt, D.ltL, lt_gv, ren_gv, lk_gh, renH_gh, mem_gh, injH_gh, injK, injK_gh, lenD, gv_one, gh_one, subL_one, gv_nil, gh_nil, gv_snoc, gh_snoc, ints_nil, ints_app, ints_one, ints_cons, u64s_nil, u64s_app, u64s_one, ints_set, u64s_set, ints_len, u64s_len, List.nil_append, List.length_append, List.length_cons, List.length_nil]) rfl (by simp [renF, renT, lk, D.ren, D.renL, D.lt, D.ltL]) (by simp [renDf]))⟩ <;> (skip; (try subst o_chkT); (try subst o_framesS))
        refine ⟨by simp only; omega, ?_⟩
        simp only
        rw [ht, leavesS, List.filter_append, List.filter_cons_of_pos (by simpa using h6), hk.2]
        rfl
    · refine ⟨(k + 1, acc), ?_, by first | omega | (simp; omega) | (simp only; omega), wk_of hF (weakR (pie []) (by first | (simp +contextual [renT, renH, renB, renF, renDf, injH, pie, lk, D.ren, D.renL, D.lt, D.ltL, lt_gv, ren_gv, lk_gh, renH_gh, mem_gh, injH_gh, injK, injK_gh, lenD, gv_one, gh_one, subL_one, gv_nil, gh_nil, gv_snoc, gh_snoc, ints_nil, ints_app, ints_one, ints_cons, u64s_nil, u64s_app, u64s_one, ints_set, u64s_set, ints_len, u64s_len, List.nil_append, List.length_append, List.length_cons, List.length_nil]; done) | (subst hF hVi hVu hVg hVh hVl; (try subst o_chkT); (try subst o_framesS); simp only [fns, arI, cmI]; rw [IntWalk.i64_in _ (by simp; omega)]; simp +contextual [renT, renH, renB, renF, renDf, injH, pie, lk, D.ren, D.renL, D.lt, D.ltL, lt_gv, ren_gv, lk_gh, renH_gh, mem_gh, injH_gh, injK, injK_gh, lenD, gv_one, gh_one, subL_one, gv_nil, gh_nil, gv_snoc, gh_snoc, ints_nil, ints_app, ints_one, ints_cons, u64s_nil, u64s_app, u64s_one, ints_set, u64s_set, ints_len, u64s_len, List.nil_append, List.length_append, List.length_cons, List.length_nil]; done) | (subst hF hVi hVu hVg hVh hVl; (try subst o_chkT); (try subst o_framesS); simp +contextual [fns, arI, cmI, renT, renH, renB, renF, renDf, injH, pie, lk, D.ren, D.renL, D.lt, D.ltL, lt_gv, ren_gv, lk_gh, renH_gh, mem_gh, injH_gh, injK, injK_gh, lenD, gv_one, gh_one, subL_one, gv_nil, gh_nil, gv_snoc, gh_snoc, ints_nil, ints_app, ints_one, ints_cons, u64s_nil, u64s_app, u64s_one, ints_set, u64s_set, ints_len, u64s_len, List.nil_append, List.length_append, List.length_cons, List.length_nil])) (by first | (simp +contextual [renT, renH, renB, renF, renDf, injH, pie, lk, D.ren, D.renL, D.lt, D.ltL, lt_gv, ren_gv, lk_gh, renH_gh, mem_gh, injH_gh, injK, injK_gh, lenD, gv_one, gh_one, subL_one, gv_nil, gh_nil, gv_snoc, gh_snoc, ints_nil, ints_app, ints_one, ints_cons, u64s_nil, u64s_app, u64s_one, ints_set, u64s_set, ints_len, u64s_len, List.nil_append, List.length_append, List.length_cons, List.length_nil]; done) | (subst hF hVi hVu hVg hVh hVl; (try subst o_chkT); (try subst o_framesS); simp +contextual [fns, renT, renH, renB, renF, renDf, injH, pie, lk, D.ren, D.renL, D.lt, D.ltL, lt_gv, ren_gv, lk_gh, renH_gh, mem_gh, injH_gh, injK, injK_gh, lenD, gv_one, gh_one, subL_one, gv_nil, gh_nil, gv_snoc, gh_snoc, ints_nil, ints_app, ints_one, ints_cons, u64s_nil, u64s_app, u64s_one, ints_set, u64s_set, ints_len, u64s_len, List.nil_append, List.length_append, List.length_cons, List.length_nil])) (by simp +contextual [renT, renH, renB, renF, renDf, injH, pie, lk, D.ren, D.renL, D.lt, D.ltL, lt_gv, ren_gv, lk_gh, renH_gh, mem_gh, injH_gh, injK, injK_gh, lenD, gv_one, gh_one, subL_one, gv_nil, gh_nil, gv_snoc, gh_snoc, ints_nil, ints_app, ints_one, ints_cons, u64s_nil, u64s_app, u64s_one, ints_set, u64s_set, ints_len, u64s_len, List.nil_append, List.length_append, List.length_cons, List.length_nil]) rfl (by simp [renF, renT, lk, D.ren, D.renL, D.lt, D.ltL]) (by simp [renDf]))⟩ <;> (skip; (try subst o_chkT); (try subst o_framesS))
      refine ⟨by simp only; omega, ?_⟩
      simp only
      rw [ht, leavesS, List.filter_append, hk.2, leavesS, List.filter_cons_of_neg (by simpa using h6)]
      simp
  · have hk8 : k = 8 := by simp at h5; omega
    have hacc : acc = leavesS L := by rw [hk.2, hk8, List.take_of_length_le (by omega)]
    rw [← hacc] at hP
    have hal : acc.length ≤ 8 := by rw [hk.2, leavesS]; exact Nat.le_trans (List.length_filter_le _ _) (by simp; omega)
    split <;> rename_i h6 <;> (try rw [h6]) <;> (((try rewrite [← hVi]); (try rewrite [← hVu]); (try rewrite [← hVg]); (try rewrite [← hVh]); (try rewrite [← o_chkT]); (try rewrite [← o_framesS]); conv => cbv)) <;> (try simp only [hF, fns, cmI, decide_eq_true_eq, decide_eq_false_iff_not, beq_iff_eq, bne_iff_ne, beq_eq_false_iff_ne, bne_eq_false_iff_eq, ne_eq, Int.not_lt, Int.not_le, Classical.not_not, ge_iff_le, gt_iff_lt, Bool.not_eq_true] at h6)
    · rw [if_pos h6] at hP
      rcases Classical.em (acc = []) with ha | ha
      · rw [ha] at hP ⊢
        simp only [gv_nil, gh_nil, ints_nil]
        ((try rewrite [← hVi]); (try rewrite [← hVu]); (try rewrite [← hVg]); (try rewrite [← hVh]); (try rewrite [← o_chkT]); (try rewrite [← o_framesS]); conv => cbv)
        refine ⟨by subst hF hVi hVu hVg hVh hVl; (try subst o_chkT); (try subst o_framesS); simp [fns, inRow, lk, D.cells, subL], by subst hF hVi hVu hVg hVh hVl; (try subst o_chkT); (try subst o_framesS); simp [fns, subL], fun h => (by subst hF hVi hVu hVg hVh hVl; (try subst o_chkT); (try subst o_framesS); simp [fns, subL] at h), fun _ => ?_⟩ <;> ((try rewrite [← hVi]); (try rewrite [← hVu]); (try rewrite [← hVg]); (try rewrite [← hVh]); (try rewrite [← o_chkT]); (try rewrite [← o_framesS]); conv => cbv)
        subst hF hVi hVu hVg hVh hVl; (try subst o_chkT); (try subst o_framesS); subst hd
        simp only [fns]
        refine ⟨by simp [inRows, inRowsL, lk, lenD], ?_⟩
        rw [← hP]
        simp [reify, reifyL, lk, subL, ints]
      · simp only [gv_ne (ints_ne ha), gh_ne (ints_ne ha)]
        ((try rewrite [← hVi]); (try rewrite [← hVu]); (try rewrite [← hVg]); (try rewrite [← hVh]); (try rewrite [← o_chkT]); (try rewrite [← o_framesS]); conv => cbv)
        refine ⟨by subst hF hVi hVu hVg hVh hVl; (try subst o_chkT); (try subst o_framesS); simp [fns, inRow, lk, D.cells, subL], by subst hF hVi hVu hVg hVh hVl; (try subst o_chkT); (try subst o_framesS); simp [fns, subL, lenD, ints_len, u64s_len]; try omega, ?_⟩ <;> ((try rewrite [← hVi]); (try rewrite [← hVu]); (try rewrite [← hVg]); (try rewrite [← hVh]); (try rewrite [← o_chkT]); (try rewrite [← o_framesS]); conv => cbv)
        subst hF hVi hVu hVg hVh hVl; (try subst o_chkT); (try subst o_framesS); subst hd
        simp only [fns]
        refine ⟨by simp [inRows, inRowsL, lk, lenD], ?_⟩
        rw [← hP]
        simp [reify, reifyL, lk, subL, ints, lenD]
    · rw [if_neg (by omega)] at hP
      rcases Classical.em (acc = []) with ha | ha
      · rw [ha] at hP ⊢
        simp only [gv_nil, gh_nil, ints_nil]
        ((try rewrite [← hVi]); (try rewrite [← hVu]); (try rewrite [← hVg]); (try rewrite [← hVh]); (try rewrite [← o_chkT]); (try rewrite [← o_framesS]); conv => cbv)
        subst hF hVi hVu hVg hVh hVl; (try subst o_chkT); (try subst o_framesS); subst hd
        simp only [fns]
        refine ⟨by simp [inRows, inRowsL, lk, lenD], ?_⟩
        rw [← hP]
        simp [reify, reifyL, lk, subL, ints]
      · simp only [gv_ne (ints_ne ha), gh_ne (ints_ne ha)]
        ((try rewrite [← hVi]); (try rewrite [← hVu]); (try rewrite [← hVg]); (try rewrite [← hVh]); (try rewrite [← o_chkT]); (try rewrite [← o_framesS]); conv => cbv)
        subst hF hVi hVu hVg hVh hVl; (try subst o_chkT); (try subst o_framesS); subst hd
        simp only [fns]
        refine ⟨by simp [inRows, inRowsL, lk, lenD], ?_⟩
        rw [← hP]
        simp [reify, reifyL, lk, subL, ints, lenD]
end Go.Proofs.YtppmomobjjpljaaDoor.E
end

/- Part B2. -/
section
/- Contracts: pages and counts (reference). -/
namespace Go.Proofs.YtppmomobjjpljaaDoor.E
open Go Go.RowKit
set_option linter.unusedVariables false
set_option linter.unusedSimpArgs false
set_option maxRecDepth 100000
def pagesUp (E : List Int) (kind : Int) (k : Nat) : List Int := ((List.range k).filter fun p => decide (kindOf E p = kind)).map Int.ofNat
def pagesS (r : Int) (L E : List Int) (kind : Int) : List Int × Int :=
  if chkT r L E ≠ 0 then ([], chkT r L E) else if kind < 0 ∨ 2 < kind then ([], 2) else (pagesUp E kind 64, 0)
theorem pagesUp_len (E : List Int) (kind : Int) (k : Nat) : (pagesUp E kind k).length ≤ k := by
  rw [pagesUp, List.length_map]; exact Nat.le_trans (List.length_filter_le _ _) (by simp)
theorem rpages_c (r : Int) (L E : List Int) (kind : Int) (hL : L.length < 100) (hE : E.length < 100) (hw : wordsOk E) : Contract Tryd.prog G0 24 [tblD r L E, .int .i64 kind] (.tup [.ro (ints (pagesS r L E kind).1), .int .i64 (pagesS r L E kind).2]) [] := by
  refine fun0 tys_ok mixed (n := 44) (rs := [.tmp 4, .tmp 5]) ⟨Tryd.func24, by kernel_rfl, rfl⟩ rfl rfl (by simp) fun F d0 hF hd => ?_
  obtain ⟨ints, u64s, gv, gh, lenF, hVi, hVu, hVg, hVh, hVl, lenD, ints_len, u64s_len, ints_cells, u64s_cells, ints_at, u64s_at, gv_nil, gh_nil, gv_ne, gh_ne, gv_snoc, gh_snoc, gv_one, gh_one, lt_gv, ren_gv, lk_gh, renH_gh, mem_gh, injK_gh, injH_gh, ints_nil, ints_app, ints_one, ints_cons, ints_ne, u64s_nil, u64s_app, u64s_one, u64s_ne, ints_set, u64s_set⟩ := vocab
  obtain ⟨f_chkT, o_chkT⟩ : ∃ f, f = chkT := ⟨_, rfl⟩
  obtain ⟨f_pagesUp, o_pagesUp⟩ : ∃ f, f = pagesUp := ⟨_, rfl⟩
  obtain ⟨f_pagesS, o_pagesS⟩ : ∃ f, f = pagesS := ⟨_, rfl⟩
  have c1 := rchkT_c r L E hL hE hw
  unfold tblD at *
  generalize hP : pagesS r L E kind = X at hd
  rw [pagesS] at hP
  generalize hS : chkT r L E = S at c1 hP
  ((try rewrite [← hVi]); (try rewrite [← hVu]); (try rewrite [← hVg]); (try rewrite [← hVh]); (try rewrite [← o_chkT]); (try rewrite [← o_pagesUp]); (try rewrite [← o_pagesS]); conv => cbv)
  refine .inl ⟨_, _, by subst hF hVi hVu hVg hVh hVl; (try subst o_chkT); (try subst o_pagesUp); (try subst o_pagesS); exact c1, by subst hF hVi hVu hVg hVh hVl; (try subst o_chkT); (try subst o_pagesUp); (try subst o_pagesS); exact ⟨by simp [inRowsL, inRows, lk], by first | exact .inl rfl | exact .inr ⟨rfl, fun B h => nomatch h⟩⟩, ?_⟩ <;> ((try rewrite [← hVi]); (try rewrite [← hVu]); (try rewrite [← hVg]); (try rewrite [← hVh]); (try rewrite [← o_chkT]); (try rewrite [← o_pagesUp]); (try rewrite [← o_pagesS]); conv => cbv)
  split <;> rename_i h <;> (try rw [h]) <;> (((try rewrite [← hVi]); (try rewrite [← hVu]); (try rewrite [← hVg]); (try rewrite [← hVh]); (try rewrite [← o_chkT]); (try rewrite [← o_pagesUp]); (try rewrite [← o_pagesS]); conv => cbv)) <;> (try simp only [hF, fns, cmI, decide_eq_true_eq, decide_eq_false_iff_not, beq_iff_eq, bne_iff_ne, beq_eq_false_iff_ne, bne_eq_false_iff_eq, ne_eq, Int.not_lt, Int.not_le, Classical.not_not, ge_iff_le, gt_iff_lt, Bool.not_eq_true] at h)
  · subst hF hVi hVu hVg hVh hVl; (try subst o_chkT); (try subst o_pagesUp); (try subst o_pagesS); subst hd
    simp only [fns]
    refine ⟨by simp [inRows, inRowsL, lk, lenD], ?_⟩
    rw [if_pos h] at hP
    rw [← hP]
    simp [reify, reifyL, ints]
  subst h
  rw [if_neg (by simp)] at hP
  obtain ⟨g4, g5⟩ := chkT_len hS
  split <;> rename_i h1 <;> (try rw [h1]) <;> (((try rewrite [← hVi]); (try rewrite [← hVu]); (try rewrite [← hVg]); (try rewrite [← hVh]); (try rewrite [← o_chkT]); (try rewrite [← o_pagesUp]); (try rewrite [← o_pagesS]); conv => cbv)) <;> (try simp only [hF, fns, cmI, decide_eq_true_eq, decide_eq_false_iff_not, beq_iff_eq, bne_iff_ne, beq_eq_false_iff_ne, bne_eq_false_iff_eq, ne_eq, Int.not_lt, Int.not_le, Classical.not_not, ge_iff_le, gt_iff_lt, Bool.not_eq_true] at h1)
  · subst hF hVi hVu hVg hVh hVl; (try subst o_chkT); (try subst o_pagesUp); (try subst o_pagesS); subst hd
    simp only [fns]
    refine ⟨by simp [inRows, inRowsL, lk, lenD], ?_⟩
    rw [if_pos (.inl h1)] at hP
    rw [← hP]
    simp [reify, reifyL, ints]
  split <;> rename_i h2 <;> (try rw [h2]) <;> (((try rewrite [← hVi]); (try rewrite [← hVu]); (try rewrite [← hVg]); (try rewrite [← hVh]); (try rewrite [← o_chkT]); (try rewrite [← o_pagesUp]); (try rewrite [← o_pagesS]); conv => cbv)) <;> (try simp only [hF, fns, cmI, decide_eq_true_eq, decide_eq_false_iff_not, beq_iff_eq, bne_iff_ne, beq_eq_false_iff_ne, bne_eq_false_iff_eq, ne_eq, Int.not_lt, Int.not_le, Classical.not_not, ge_iff_le, gt_iff_lt, Bool.not_eq_true] at h2)
  · subst hF hVi hVu hVg hVh hVl; (try subst o_chkT); (try subst o_pagesUp); (try subst o_pagesS); subst hd
    simp only [fns]
    refine ⟨by simp [inRows, inRowsL, lk, lenD], ?_⟩
    rw [if_pos (.inr h2)] at hP
    rw [← hP]
    simp [reify, reifyL, ints]
  rw [if_neg (by omega)] at hP
  refine loop_inv hF ((Nat) × (List Int)) (fun st_ => (st_.1) ≤ 64 ∧ (st_.2) = pagesUp E kind (st_.1)) (fun st_ => { tm := [(1, .int .i64 kind), (2, .ptr 0 3 0 0), (7, gv 3 1 (ints (st_.2))), (8, .int .i64 (st_.1))], hp := (0, ⟨3, 25, [.agg [.int .i64 r, .ro (ints L), .ro (u64s E)]], true, true⟩) :: gh 3 1 3 (ints (st_.2)) [], nx := 4, nt := 44, fr := [], df := [] }) (fun st_ => 64 - (st_.1)) ⟨(0, []), by exact ⟨by simp, rfl⟩, wk_of hF (weakR (pie []) (by first | (simp +contextual [renT, renH, renB, renF, renDf, injH, pie, lk, D.ren, D.renL, D.lt, D.ltL, lt_gv, ren_gv, lk_gh, renH_gh, mem_gh, injH_gh, injK, injK_gh, lenD, gv_one, gh_one, subL_one, gv_nil, gh_nil, gv_snoc, gh_snoc, ints_nil, ints_app, ints_one, ints_cons, u64s_nil, u64s_app, u64s_one, ints_set, u64s_set, ints_len, u64s_len, List.nil_append, List.length_append, List.length_cons, List.length_nil]; done) | (subst hF hVi hVu hVg hVh hVl; (try subst o_chkT); (try subst o_pagesUp); (try subst o_pagesS); simp only [fns, arI, cmI]; rw [IntWalk.i64_in _ (by simp; omega)]; simp +contextual [renT, renH, renB, renF, renDf, injH, pie, lk, D.ren, D.renL, D.lt, D.ltL, lt_gv, ren_gv, lk_gh, renH_gh, mem_gh, injH_gh, injK, injK_gh, lenD, gv_one, gh_one, subL_one, gv_nil, gh_nil, gv_snoc, gh_snoc, ints_nil, ints_app, ints_one, ints_cons, u64s_nil, u64s_app, u64s_one, ints_set, u64s_set, ints_len, u64s_len, List.nil_append, List.length_append, List.length_cons, List.length_nil]; done) | (subst hF hVi hVu hVg hVh hVl; (try subst o_chkT); (try subst o_pagesUp); (try subst o_pagesS); simp +contextual [fns, arI, cmI, renT, renH, renB, renF, renDf, injH, pie, lk, D.ren, D.renL, D.lt, D.ltL, lt_gv, ren_gv, lk_gh, renH_gh, mem_gh, injH_gh, injK, injK_gh, lenD, gv_one, gh_one, subL_one, gv_nil, gh_nil, gv_snoc, gh_snoc, ints_nil, ints_app, ints_one, ints_cons, u64s_nil, u64s_app, u64s_one, ints_set, u64s_set, ints_len, u64s_len, List.nil_append, List.length_append, List.length_cons, List.length_nil])) (by first | (simp +contextual [renT, renH, renB, renF, renDf, injH, pie, lk, D.ren, D.renL, D.lt, D.ltL, lt_gv, ren_gv, lk_gh, renH_gh, mem_gh, injH_gh, injK, injK_gh, lenD, gv_one, gh_one, subL_one, gv_nil, gh_nil, gv_snoc, gh_snoc, ints_nil, ints_app, ints_one, ints_cons, u64s_nil, u64s_app, u64s_one, ints_set, u64s_set, ints_len, u64s_len, List.nil_append, List.length_append, List.length_cons, List.length_nil]; done) | (subst hF hVi hVu hVg hVh hVl; (try subst o_chkT); (try subst o_pagesUp); (try subst o_pagesS); simp +contextual [fns, renT, renH, renB, renF, renDf, injH, pie, lk, D.ren, D.renL, D.lt, D.ltL, lt_gv, ren_gv, lk_gh, renH_gh, mem_gh, injH_gh, injK, injK_gh, lenD, gv_one, gh_one, subL_one, gv_nil, gh_nil, gv_snoc, gh_snoc, ints_nil, ints_app, ints_one, ints_cons, u64s_nil, u64s_app, u64s_one, ints_set, u64s_set, ints_len, u64s_len, List.nil_append, List.length_append, List.length_cons, List.length_nil])) (by simp +contextual [renT, renH, renB, renF, renDf, injH, pie, lk, D.ren, D.renL, D.lt, D.ltL, lt_gv, ren_gv, lk_gh, renH_gh, mem_gh, injH_gh, injK, injK_gh, lenD, gv_one, gh_one, subL_one, gv_nil, gh_nil, gv_snoc, gh_snoc, ints_nil, ints_app, ints_one, ints_cons, u64s_nil, u64s_app, u64s_one, ints_set, u64s_set, ints_len, u64s_len, List.nil_append, List.length_append, List.length_cons, List.length_nil]) rfl (by simp [renF, renT, lk, D.ren, D.renL, D.lt, D.ltL]) (by simp [renDf]))⟩ ?_
  rintro ⟨k, acc⟩ hk
  try simp only at hk
  ((try rewrite [← hVi]); (try rewrite [← hVu]); (try rewrite [← hVg]); (try rewrite [← hVh]); (try rewrite [← o_chkT]); (try rewrite [← o_pagesUp]); (try rewrite [← o_pagesS]); conv => cbv)
  obtain ⟨hk1, hk2⟩ := hk
  split <;> rename_i h5 <;> (try rw [h5]) <;> (((try rewrite [← hVi]); (try rewrite [← hVu]); (try rewrite [← hVg]); (try rewrite [← hVh]); (try rewrite [← o_chkT]); (try rewrite [← o_pagesUp]); (try rewrite [← o_pagesS]); conv => cbv)) <;> (try simp only [hF, fns, cmI, decide_eq_true_eq, decide_eq_false_iff_not, beq_iff_eq, bne_iff_ne, beq_eq_false_iff_ne, bne_eq_false_iff_eq, ne_eq, Int.not_lt, Int.not_le, Classical.not_not, ge_iff_le, gt_iff_lt, Bool.not_eq_true] at h5)
  · have hlt : k < 64 := by simp at h5; omega
    obtain ⟨x, hx⟩ : ∃ x, E[k]? = some x := ⟨_, List.getElem?_eq_getElem (by omega)⟩
    have hxw := hw x (List.mem_of_getElem? hx)
    have c2 := runpack_c x hxw.1 hxw.2
    have hkd : kindOf E k = (unpackS x).1.k := by rw [kindOf, List.getD_eq_getElem?_getD, hx]; rfl
    generalize unpackS x = U at c2 hkd
    obtain ⟨⟨ek, en, ew, ec, er⟩, ef⟩ := U
    simp only at hkd
    unfold En.d at c2
    have hal := pagesUp_len E kind k
    rw [← hk2] at hal
    refine ⟨by subst hF hVi hVu hVg hVh hVl; (try subst o_chkT); (try subst o_pagesUp); (try subst o_pagesS); simp [fns], .int .u64 x, u64s_at _ _ _ hx, rfl, ?_⟩
    ((try rewrite [← hVi]); (try rewrite [← hVu]); (try rewrite [← hVg]); (try rewrite [← hVh]); (try rewrite [← o_chkT]); (try rewrite [← o_pagesUp]); (try rewrite [← o_pagesS]); conv => cbv)
    refine .inl ⟨_, _, by subst hF hVi hVu hVg hVh hVl; (try subst o_chkT); (try subst o_pagesUp); (try subst o_pagesS); exact c2, by subst hF hVi hVu hVg hVh hVl; (try subst o_chkT); (try subst o_pagesUp); (try subst o_pagesS); exact ⟨by simp [inRowsL, inRows, lk], by first | exact .inl rfl | exact .inr ⟨rfl, fun B h => nomatch h⟩⟩, ?_⟩ <;> ((try rewrite [← hVi]); (try rewrite [← hVu]); (try rewrite [← hVg]); (try rewrite [← hVh]); (try rewrite [← o_chkT]); (try rewrite [← o_pagesUp]); (try rewrite [← o_pagesS]); conv => cbv)
    split <;> rename_i h6 <;> (try rw [h6]) <;> (((try rewrite [← hVi]); (try rewrite [← hVu]); (try rewrite [← hVg]); (try rewrite [← hVh]); (try rewrite [← o_chkT]); (try rewrite [← o_pagesUp]); (try rewrite [← o_pagesS]); conv => cbv)) <;> (try simp only [hF, fns, cmI, decide_eq_true_eq, decide_eq_false_iff_not, beq_iff_eq, bne_iff_ne, beq_eq_false_iff_ne, bne_eq_false_iff_eq, ne_eq, Int.not_lt, Int.not_le, Classical.not_not, ge_iff_le, gt_iff_lt, Bool.not_eq_true] at h6)
    · rcases Classical.em (acc = []) with ha | ha
      · subst ha
        simp only [gv_nil, gh_nil, ints_nil]
        ((try rewrite [← hVi]); (try rewrite [← hVu]); (try rewrite [← hVg]); (try rewrite [← hVh]); (try rewrite [← o_chkT]); (try rewrite [← o_pagesUp]); (try rewrite [← o_pagesS]); conv => cbv)
        refine ⟨by subst hF hVi hVu hVg hVh hVl; (try subst o_chkT); (try subst o_pagesUp); (try subst o_pagesS); simp [fns, inRow, lk, D.cells, subL], by subst hF hVi hVu hVg hVh hVl; (try subst o_chkT); (try subst o_pagesUp); (try subst o_pagesS); simp [fns, subL], fun h => (by subst hF hVi hVu hVg hVh hVl; (try subst o_chkT); (try subst o_pagesUp); (try subst o_pagesS); simp [fns, subL] at h), fun _ => ?_⟩ <;> ((try rewrite [← hVi]); (try rewrite [← hVu]); (try rewrite [← hVg]); (try rewrite [← hVh]); (try rewrite [← o_chkT]); (try rewrite [← o_pagesUp]); (try rewrite [← o_pagesS]); conv => cbv)
        refine ⟨(k + 1, [(k : Int)]), ?_, by first | omega | (simp; omega) | (simp only; omega), wk_of hF (weakR (pie [(3, 6)]) (by first | (simp +contextual [renT, renH, renB, renF, renDf, injH, pie, lk, D.ren, D.renL, D.lt, D.ltL, lt_gv, ren_gv, lk_gh, renH_gh, mem_gh, injH_gh, injK, injK_gh, lenD, gv_one, gh_one, subL_one, gv_nil, gh_nil, gv_snoc, gh_snoc, ints_nil, ints_app, ints_one, ints_cons, u64s_nil, u64s_app, u64s_one, ints_set, u64s_set, ints_len, u64s_len, List.nil_append, List.length_append, List.length_cons, List.length_nil]; done) | (subst hF hVi hVu hVg hVh hVl; (try subst o_chkT); (try subst o_pagesUp); (try subst o_pagesS); simp only [fns, arI, cmI]; rw [IntWalk.i64_in _ (by simp; omega)]; simp +contextual [renT, renH, renB, renF, renDf, injH, pie, lk, D.ren, D.renL, D.lt, D.ltL, lt_gv, ren_gv, lk_gh, renH_gh, mem_gh, injH_gh, injK, injK_gh, lenD, gv_one, gh_one, subL_one, gv_nil, gh_nil, gv_snoc, gh_snoc, ints_nil, ints_app, ints_one, ints_cons, u64s_nil, u64s_app, u64s_one, ints_set, u64s_set, ints_len, u64s_len, List.nil_append, List.length_append, List.length_cons, List.length_nil]; done) | (subst hF hVi hVu hVg hVh hVl; (try subst o_chkT); (try subst o_pagesUp); (try subst o_pagesS); simp +contextual [fns, arI, cmI, renT, renH, renB, renF, renDf, injH, pie, lk, D.ren, D.renL, D.lt, D.ltL, lt_gv, ren_gv, lk_gh, renH_gh, mem_gh, injH_gh, injK, injK_gh, lenD, gv_one, gh_one, subL_one, gv_nil, gh_nil, gv_snoc, gh_snoc, ints_nil, ints_app, ints_one, ints_cons, u64s_nil, u64s_app, u64s_one, ints_set, u64s_set, ints_len, u64s_len, List.nil_append, List.length_append, List.length_cons, List.length_nil])) (by first | (simp +contextual [renT, renH, renB, renF, renDf, injH, pie, lk, D.ren, D.renL, D.lt, D.ltL, lt_gv, ren_gv, lk_gh, renH_gh, mem_gh, injH_gh, injK, injK_gh, lenD, gv_one, gh_one, subL_one, gv_nil, gh_nil, gv_snoc, gh_snoc, ints_nil, ints_app, ints_one, ints_cons, u64s_nil, u64s_app, u64s_one, ints_set, u64s_set, ints_len, u64s_len, List.nil_append, List.length_append, List.length_cons, List.length_nil]; done) | (subst hF hVi hVu hVg hVh hVl; (try subst o_chkT); (try subst o_pagesUp); (try subst o_pagesS); simp +contextual [fns, renT, renH, renB, renF, renDf, injH, pie, lk, D.ren, D.renL, D.lt, D.ltL, lt_gv, ren_gv, lk_gh, renH_gh, mem_gh, injH_gh, injK, injK_gh, lenD, gv_one, gh_one, subL_one, gv_nil, gh_nil, gv_snoc, gh_snoc, ints_nil, ints_app, ints_one, ints_cons, u64s_nil, u64s_app, u64s_one, ints_set, u64s_set, ints_len, u64s_len, List.nil_append, List.length_append, List.length_cons, List.length_nil])) (by simp +contextual [renT, renH, renB, renF, renDf, injH, pie, lk, D.ren, D.renL, D.lt, D.ltL, lt_gv, ren_gv, lk_gh, renH_gh, mem_gh, injH_gh, injK, injK_gh, lenD, gv_one, gh_one, subL_one, gv_nil, gh_nil, gv_snoc, gh_snoc, ints_nil, ints_app, ints_one, ints_cons, u64s_nil, u64s_app, u64s_one, ints_set, u64s_set, ints_len, u64s_len, List.nil_append, List.length_append, List.length_cons, List.length_nil]) rfl (by simp [renF, renT, lk, D.ren, D.renL, D.lt, D.ltL]) (by simp [renDf]))⟩ <;> (skip; (try subst o_chkT); (try subst o_pagesUp); (try subst o_pagesS))
        refine ⟨by simp only; omega, ?_⟩
        simp only
        rw [pagesUp, List.range_succ, List.filter_append, List.map_append]
        rw [pagesUp] at hk2
        rw [← hk2, List.filter_cons_of_pos (by simp [hkd, h6])]; rfl
      · simp only [gv_ne (ints_ne ha), gh_ne (ints_ne ha)]
        ((try rewrite [← hVi]); (try rewrite [← hVu]); (try rewrite [← hVg]); (try rewrite [← hVh]); (try rewrite [← o_chkT]); (try rewrite [← o_pagesUp]); (try rewrite [← o_pagesS]); conv => cbv)
        refine ⟨by subst hF hVi hVu hVg hVh hVl; (try subst o_chkT); (try subst o_pagesUp); (try subst o_pagesS); simp [fns, inRow, lk, D.cells, subL], by subst hF hVi hVu hVg hVh hVl; (try subst o_chkT); (try subst o_pagesUp); (try subst o_pagesS); simp [fns, subL, lenD, ints_len, u64s_len]; try omega, ?_⟩ <;> ((try rewrite [← hVi]); (try rewrite [← hVu]); (try rewrite [← hVg]); (try rewrite [← hVh]); (try rewrite [← o_chkT]); (try rewrite [← o_pagesUp]); (try rewrite [← o_pagesS]); conv => cbv)
        refine ⟨(k + 1, acc ++ [(k : Int)]), ?_, by first | omega | (simp; omega) | (simp only; omega), wk_of hF (weakR (pie []) (by first | (simp +contextual [renT, renH, renB, renF, renDf, injH, pie, lk, D.ren, D.renL, D.lt, D.ltL, lt_gv, ren_gv, lk_gh, renH_gh, mem_gh, injH_gh, injK, injK_gh, lenD, gv_one, gh_one, subL_one, gv_nil, gh_nil, gv_snoc, gh_snoc, ints_nil, ints_app, ints_one, ints_cons, u64s_nil, u64s_app, u64s_one, ints_set, u64s_set, ints_len, u64s_len, List.nil_append, List.length_append, List.length_cons, List.length_nil]; done) | (subst hF hVi hVu hVg hVh hVl; (try subst o_chkT); (try subst o_pagesUp); (try subst o_pagesS); simp only [fns, arI, cmI]; rw [IntWalk.i64_in _ (by simp; omega)]; simp +contextual [renT, renH, renB, renF, renDf, injH, pie, lk, D.ren, D.renL, D.lt, D.ltL, lt_gv, ren_gv, lk_gh, renH_gh, mem_gh, injH_gh, injK, injK_gh, lenD, gv_one, gh_one, subL_one, gv_nil, gh_nil, gv_snoc, gh_snoc, ints_nil, ints_app, ints_one, ints_cons, u64s_nil, u64s_app, u64s_one, ints_set, u64s_set, ints_len, u64s_len, List.nil_append, List.length_append, List.length_cons, List.length_nil]; done) | (subst hF hVi hVu hVg hVh hVl; (try subst o_chkT); (try subst o_pagesUp); (try subst o_pagesS); simp +contextual [fns, arI, cmI, renT, renH, renB, renF, renDf, injH, pie, lk, D.ren, D.renL, D.lt, D.ltL, lt_gv, ren_gv, lk_gh, renH_gh, mem_gh, injH_gh, injK, injK_gh, lenD, gv_one, gh_one, subL_one, gv_nil, gh_nil, gv_snoc, gh_snoc, ints_nil, ints_app, ints_one, ints_cons, u64s_nil, u64s_app, u64s_one, ints_set, u64s_set, ints_len, u64s_len, List.nil_append, List.length_append, List.length_cons, List.length_nil])) (by first | (simp +contextual [renT, renH, renB, renF, renDf, injH, pie, lk, D.ren, D.renL, D.lt, D.ltL, lt_gv, ren_gv, lk_gh, renH_gh, mem_gh, injH_gh, injK, injK_gh, lenD, gv_one, gh_one, subL_one, gv_nil, gh_nil, gv_snoc, gh_snoc, ints_nil, ints_app, ints_one, ints_cons, u64s_nil, u64s_app, u64s_one, ints_set, u64s_set, ints_len, u64s_len, List.nil_append, List.length_append, List.length_cons, List.length_nil]; done) | (subst hF hVi hVu hVg hVh hVl; (try subst o_chkT); (try subst o_pagesUp); (try subst o_pagesS); simp +contextual [fns, renT, renH, renB, renF, renDf, injH, pie, lk, D.ren, D.renL, D.lt, D.ltL, lt_gv, ren_gv, lk_gh, renH_gh, mem_gh, injH_gh, injK, injK_gh, lenD, gv_one, gh_one, subL_one, gv_nil, gh_nil, gv_snoc, gh_snoc, ints_nil, ints_app, ints_one, ints_cons, u64s_nil, u64s_app, u64s_one, ints_set, u64s_set, ints_len, u64s_len, List.nil_append, List.length_append, List.length_cons, List.length_nil])) (by simp +contextual [renT, renH, renB, renF, renDf, injH, pie, lk, D.ren, D.renL, D.lt, D.ltL, lt_gv, ren_gv, lk_gh, renH_gh, mem_gh, injH_gh, injK, injK_gh, lenD, gv_one, gh_one, subL_one, gv_nil, gh_nil, gv_snoc, gh_snoc, ints_nil, ints_app, ints_one, ints_cons, u64s_nil, u64s_app, u64s_one, ints_set, u64s_set, ints_len, u64s_len, List.nil_append, List.length_append, List.length_cons, List.length_nil]) rfl (by simp [renF, renT, lk, D.ren, D.renL, D.lt, D.ltL]) (by simp [renDf]))⟩ <;> (skip; (try subst o_chkT); (try subst o_pagesUp); (try subst o_pagesS))
        refine ⟨by simp only; omega, ?_⟩
        simp only
        rw [pagesUp, List.range_succ, List.filter_append, List.map_append]
        rw [pagesUp] at hk2
        rw [← hk2, List.filter_cons_of_pos (by simp [hkd, h6])]; rfl
    · refine ⟨(k + 1, acc), ?_, by first | omega | (simp; omega) | (simp only; omega), wk_of hF (weakR (pie []) (by first | (simp +contextual [renT, renH, renB, renF, renDf, injH, pie, lk, D.ren, D.renL, D.lt, D.ltL, lt_gv, ren_gv, lk_gh, renH_gh, mem_gh, injH_gh, injK, injK_gh, lenD, gv_one, gh_one, subL_one, gv_nil, gh_nil, gv_snoc, gh_snoc, ints_nil, ints_app, ints_one, ints_cons, u64s_nil, u64s_app, u64s_one, ints_set, u64s_set, ints_len, u64s_len, List.nil_append, List.length_append, List.length_cons, List.length_nil]; done) | (subst hF hVi hVu hVg hVh hVl; (try subst o_chkT); (try subst o_pagesUp); (try subst o_pagesS); simp only [fns, arI, cmI]; rw [IntWalk.i64_in _ (by simp; omega)]; simp +contextual [renT, renH, renB, renF, renDf, injH, pie, lk, D.ren, D.renL, D.lt, D.ltL, lt_gv, ren_gv, lk_gh, renH_gh, mem_gh, injH_gh, injK, injK_gh, lenD, gv_one, gh_one, subL_one, gv_nil, gh_nil, gv_snoc, gh_snoc, ints_nil, ints_app, ints_one, ints_cons, u64s_nil, u64s_app, u64s_one, ints_set, u64s_set, ints_len, u64s_len, List.nil_append, List.length_append, List.length_cons, List.length_nil]; done) | (subst hF hVi hVu hVg hVh hVl; (try subst o_chkT); (try subst o_pagesUp); (try subst o_pagesS); simp +contextual [fns, arI, cmI, renT, renH, renB, renF, renDf, injH, pie, lk, D.ren, D.renL, D.lt, D.ltL, lt_gv, ren_gv, lk_gh, renH_gh, mem_gh, injH_gh, injK, injK_gh, lenD, gv_one, gh_one, subL_one, gv_nil, gh_nil, gv_snoc, gh_snoc, ints_nil, ints_app, ints_one, ints_cons, u64s_nil, u64s_app, u64s_one, ints_set, u64s_set, ints_len, u64s_len, List.nil_append, List.length_append, List.length_cons, List.length_nil])) (by first | (simp +contextual [renT, renH, renB, renF, renDf, injH, pie, lk, D.ren, D.renL, D.lt, D.ltL, lt_gv, ren_gv, lk_gh, renH_gh, mem_gh, injH_gh, injK, injK_gh, lenD, gv_one, gh_one, subL_one, gv_nil, gh_nil, gv_snoc, gh_snoc, ints_nil, ints_app, ints_one, ints_cons, u64s_nil, u64s_app, u64s_one, ints_set, u64s_set, ints_len, u64s_len, List.nil_append, List.length_append, List.length_cons, List.length_nil]; done) | (subst hF hVi hVu hVg hVh hVl; (try subst o_chkT); (try subst o_pagesUp); (try subst o_pagesS); simp +contextual [fns, renT, renH, renB, renF, renDf, injH, pie, lk, D.ren, D.renL, D.lt, D.ltL, lt_gv, ren_gv, lk_gh, renH_gh, mem_gh, injH_gh, injK, injK_gh, lenD, gv_one, gh_one, subL_one, gv_nil, gh_nil, gv_snoc, gh_snoc, ints_nil, ints_app, ints_one, ints_cons, u64s_nil, u64s_app, u64s_one, ints_set, u64s_set, ints_len, u64s_len, List.nil_append, List.length_append, List.length_cons, List.length_nil])) (by simp +contextual [renT, renH, renB, renF, renDf, injH, pie, lk, D.ren, D.renL, D.lt, D.ltL, lt_gv, ren_gv, lk_gh, renH_gh, mem_gh, injH_gh, injK, injK_gh, lenD, gv_one, gh_one, subL_one, gv_nil, gh_nil, gv_snoc, gh_snoc, ints_nil, ints_app, ints_one, ints_cons, u64s_nil, u64s_app, u64s_one, ints_set, u64s_set, ints_len, u64s_len, List.nil_append, List.length_append, List.length_cons, List.length_nil]) rfl (by simp [renF, renT, lk, D.ren, D.renL, D.lt, D.ltL]) (by simp [renDf]))⟩ <;> (skip; (try subst o_chkT); (try subst o_pagesUp); (try subst o_pagesS))
      refine ⟨by simp only; omega, ?_⟩
      simp only
      rw [pagesUp, List.range_succ, List.filter_append, List.map_append]
      rw [pagesUp] at hk2
      rw [← hk2, List.filter_cons_of_neg (by simp [hkd, h6])]; simp
  · have hk64 : k = 64 := by simp at h5; omega
    rw [hk64] at hk2
    rw [← hk2] at hP
    rcases Classical.em (acc = []) with ha | ha
    · rw [ha] at hP ⊢
      simp only [gv_nil, gh_nil, ints_nil]
      ((try rewrite [← hVi]); (try rewrite [← hVu]); (try rewrite [← hVg]); (try rewrite [← hVh]); (try rewrite [← o_chkT]); (try rewrite [← o_pagesUp]); (try rewrite [← o_pagesS]); conv => cbv)
      subst hF hVi hVu hVg hVh hVl; (try subst o_chkT); (try subst o_pagesUp); (try subst o_pagesS); subst hd
      simp only [fns]
      refine ⟨by simp [inRows, inRowsL, lk, lenD], ?_⟩
      rw [← hP]
      simp [reify, reifyL, lk, subL, ints]
    · simp only [gv_ne (ints_ne ha), gh_ne (ints_ne ha)]
      ((try rewrite [← hVi]); (try rewrite [← hVu]); (try rewrite [← hVg]); (try rewrite [← hVh]); (try rewrite [← o_chkT]); (try rewrite [← o_pagesUp]); (try rewrite [← o_pagesS]); conv => cbv)
      subst hF hVi hVu hVg hVh hVl; (try subst o_chkT); (try subst o_pagesUp); (try subst o_pagesS); subst hd
      simp only [fns]
      refine ⟨by simp [inRows, inRowsL, lk, lenD], ?_⟩
      rw [← hP]
      simp [reify, reifyL, lk, subL, ints, lenD]
def countsS (r : Int) (L E : List Int) : Int × Int × Int :=
  if chkT r L E ≠ 0 then (0, 0, chkT r L E) else ((pagesUp E 1 64).length, (pagesUp E 2 64).length, 0)
theorem rcounts_c (r : Int) (L E : List Int) (hL : L.length < 100) (hE : E.length < 100) (hw : wordsOk E) : Contract Tryd.prog G0 27 [tblD r L E] (.tup [.int .i64 (countsS r L E).1, .int .i64 (countsS r L E).2.1, .int .i64 (countsS r L E).2.2]) [] := by
  refine fun0 tys_ok mixed (n := 26) (rs := [.tmp 2, .tmp 3, .tmp 4]) ⟨Tryd.func27, by kernel_rfl, rfl⟩ rfl rfl (by simp) fun F d0 hF hd => ?_
  obtain ⟨ints, u64s, gv, gh, lenF, hVi, hVu, hVg, hVh, hVl, lenD, ints_len, u64s_len, ints_cells, u64s_cells, ints_at, u64s_at, gv_nil, gh_nil, gv_ne, gh_ne, gv_snoc, gh_snoc, gv_one, gh_one, lt_gv, ren_gv, lk_gh, renH_gh, mem_gh, injK_gh, injH_gh, ints_nil, ints_app, ints_one, ints_cons, ints_ne, u64s_nil, u64s_app, u64s_one, u64s_ne, ints_set, u64s_set⟩ := vocab
  obtain ⟨f_chkT, o_chkT⟩ : ∃ f, f = chkT := ⟨_, rfl⟩
  obtain ⟨f_pagesUp, o_pagesUp⟩ : ∃ f, f = pagesUp := ⟨_, rfl⟩
  obtain ⟨f_pagesS, o_pagesS⟩ : ∃ f, f = pagesS := ⟨_, rfl⟩
  obtain ⟨f_countsS, o_countsS⟩ : ∃ f, f = countsS := ⟨_, rfl⟩
  have c1 := rpages_c r L E 1 hL hE hw
  have c2 := rpages_c r L E 2 hL hE hw
  unfold tblD at *
  generalize hP : countsS r L E = X at hd
  rw [countsS] at hP
  have p1 : pagesS r L E 1 = if chkT r L E ≠ 0 then ([], chkT r L E) else (pagesUp E 1 64, 0) := by rw [pagesS]; simp
  have p2 : pagesS r L E 2 = if chkT r L E ≠ 0 then ([], chkT r L E) else (pagesUp E 2 64, 0) := by rw [pagesS]; simp
  generalize chkT r L E = S at *
  generalize pagesS r L E 1 = A at *
  generalize pagesS r L E 2 = B at *
  obtain ⟨a1, a2⟩ := A
  obtain ⟨b1, b2⟩ := B
  ((try rewrite [← hVi]); (try rewrite [← hVu]); (try rewrite [← hVg]); (try rewrite [← hVh]); (try rewrite [← o_chkT]); (try rewrite [← o_pagesUp]); (try rewrite [← o_pagesS]); (try rewrite [← o_countsS]); conv => cbv)
  refine .inl ⟨_, _, by subst hF hVi hVu hVg hVh hVl; (try subst o_chkT); (try subst o_pagesUp); (try subst o_pagesS); (try subst o_countsS); exact c1, by subst hF hVi hVu hVg hVh hVl; (try subst o_chkT); (try subst o_pagesUp); (try subst o_pagesS); (try subst o_countsS); exact ⟨by simp [inRowsL, inRows, lk], by first | exact .inl rfl | exact .inr ⟨rfl, fun B h => nomatch h⟩⟩, ?_⟩ <;> ((try rewrite [← hVi]); (try rewrite [← hVu]); (try rewrite [← hVg]); (try rewrite [← hVh]); (try rewrite [← o_chkT]); (try rewrite [← o_pagesUp]); (try rewrite [← o_pagesS]); (try rewrite [← o_countsS]); conv => cbv)
  by_cases hS : S = 0
  · rw [if_neg (by simpa using hS)] at p1 p2 hP
    cases p1; cases p2
    simp only at c1 c2
    split <;> rename_i h <;> (try rw [h]) <;> (((try rewrite [← hVi]); (try rewrite [← hVu]); (try rewrite [← hVg]); (try rewrite [← hVh]); (try rewrite [← o_chkT]); (try rewrite [← o_pagesUp]); (try rewrite [← o_pagesS]); (try rewrite [← o_countsS]); conv => cbv)) <;> (try simp only [hF, fns, cmI, decide_eq_true_eq, decide_eq_false_iff_not, beq_iff_eq, bne_iff_ne, beq_eq_false_iff_ne, bne_eq_false_iff_eq, ne_eq, Int.not_lt, Int.not_le, Classical.not_not, ge_iff_le, gt_iff_lt, Bool.not_eq_true] at h)
    · exact absurd trivial h
    refine .inl ⟨_, _, by subst hF hVi hVu hVg hVh hVl; (try subst o_chkT); (try subst o_pagesUp); (try subst o_pagesS); (try subst o_countsS); exact c2, by subst hF hVi hVu hVg hVh hVl; (try subst o_chkT); (try subst o_pagesUp); (try subst o_pagesS); (try subst o_countsS); exact ⟨by simp [inRowsL, inRows, lk], by first | exact .inl rfl | exact .inr ⟨rfl, fun B h => nomatch h⟩⟩, ?_⟩ <;> ((try rewrite [← hVi]); (try rewrite [← hVu]); (try rewrite [← hVg]); (try rewrite [← hVh]); (try rewrite [← o_chkT]); (try rewrite [← o_pagesUp]); (try rewrite [← o_pagesS]); (try rewrite [← o_countsS]); conv => cbv)
    subst hF hVi hVu hVg hVh hVl; (try subst o_chkT); (try subst o_pagesUp); (try subst o_pagesS); (try subst o_countsS); subst hd
    simp only [fns]
    refine ⟨by simp [inRows, inRowsL, lk, lenD], ?_⟩
    rw [← hP]
    simp [reify, reifyL, ints_len]
  · rw [if_pos hS] at p1 p2 hP
    cases p1; cases p2
    simp only at c1 c2
    split <;> rename_i h <;> (try rw [h]) <;> (((try rewrite [← hVi]); (try rewrite [← hVu]); (try rewrite [← hVg]); (try rewrite [← hVh]); (try rewrite [← o_chkT]); (try rewrite [← o_pagesUp]); (try rewrite [← o_pagesS]); (try rewrite [← o_countsS]); conv => cbv)) <;> (try simp only [hF, fns, cmI, decide_eq_true_eq, decide_eq_false_iff_not, beq_iff_eq, bne_iff_ne, beq_eq_false_iff_ne, bne_eq_false_iff_eq, ne_eq, Int.not_lt, Int.not_le, Classical.not_not, ge_iff_le, gt_iff_lt, Bool.not_eq_true] at h)
    · subst hF hVi hVu hVg hVh hVl; (try subst o_chkT); (try subst o_pagesUp); (try subst o_pagesS); (try subst o_countsS); subst hd
      simp only [fns]
      refine ⟨by simp [inRows, inRowsL, lk, lenD], ?_⟩
      rw [← hP]
      simp [reify, reifyL]
    · exact absurd h hS
end Go.Proofs.YtppmomobjjpljaaDoor.E
end

/- Part B3. -/
section
/- Contracts: new tables (reference). -/
namespace Go.Proofs.YtppmomobjjpljaaDoor.E
open Go Go.RowKit
set_option linter.unusedVariables false
set_option linter.unusedSimpArgs false
set_option maxRecDepth 100000
def newS (root : Int) : TE := if root < -1 ∨ 256 ≤ root then teZ 2 else ⟨root, List.replicate 8 (-1), List.replicate 64 0, 0⟩
theorem rnew_c (root : Int) : Contract Tryd.prog G0 13 [.int .i64 root] (newS root).d [] := by
  refine fun0 tys_ok mixed (n := 26) (rs := [.cell 2 25, .tmp 3]) ⟨Tryd.func13, by kernel_rfl, rfl⟩ rfl rfl (by simp) fun F d0 hF hd => ?_
  obtain ⟨ints, u64s, gv, gh, lenF, hVi, hVu, hVg, hVh, hVl, lenD, ints_len, u64s_len, ints_cells, u64s_cells, ints_at, u64s_at, gv_nil, gh_nil, gv_ne, gh_ne, gv_snoc, gh_snoc, gv_one, gh_one, lt_gv, ren_gv, lk_gh, renH_gh, mem_gh, injK_gh, injH_gh, ints_nil, ints_app, ints_one, ints_cons, ints_ne, u64s_nil, u64s_app, u64s_one, u64s_ne, ints_set, u64s_set⟩ := vocab
  obtain ⟨f_newS, o_newS⟩ : ∃ f, f = newS := ⟨_, rfl⟩
  generalize hP : newS root = X at hd
  rw [newS] at hP
  obtain ⟨R, hR⟩ : ∃ R, R = List.replicate 64 (0 : Int) := ⟨_, rfl⟩
  have hRl : R.length = 64 := by rw [hR]; rfl
  rw [← hR] at hP
  ((try rewrite [← hVi]); (try rewrite [← hVu]); (try rewrite [← hVg]); (try rewrite [← hVh]); (try rewrite [← o_newS]); conv => cbv)
  split <;> rename_i h1 <;> (try rw [h1]) <;> (((try rewrite [← hVi]); (try rewrite [← hVu]); (try rewrite [← hVg]); (try rewrite [← hVh]); (try rewrite [← o_newS]); conv => cbv)) <;> (try simp only [hF, fns, cmI, decide_eq_true_eq, decide_eq_false_iff_not, beq_iff_eq, bne_iff_ne, beq_eq_false_iff_ne, bne_eq_false_iff_eq, ne_eq, Int.not_lt, Int.not_le, Classical.not_not, ge_iff_le, gt_iff_lt, Bool.not_eq_true] at h1)
  · subst hF hVi hVu hVg hVh hVl; (try subst o_newS); subst hd
    simp only [fns]
    refine ⟨by simp [inRows, inRowsL, lk, lenD], ?_⟩
    rw [if_pos (.inl h1)] at hP
    rw [teZ_d hP.symm]
    simp [reify, reifyL]
  split <;> rename_i h2 <;> (try rw [h2]) <;> (((try rewrite [← hVi]); (try rewrite [← hVu]); (try rewrite [← hVg]); (try rewrite [← hVh]); (try rewrite [← o_newS]); conv => cbv)) <;> (try simp only [hF, fns, cmI, decide_eq_true_eq, decide_eq_false_iff_not, beq_iff_eq, bne_iff_ne, beq_eq_false_iff_ne, bne_eq_false_iff_eq, ne_eq, Int.not_lt, Int.not_le, Classical.not_not, ge_iff_le, gt_iff_lt, Bool.not_eq_true] at h2)
  · subst hF hVi hVu hVg hVh hVl; (try subst o_newS); subst hd
    simp only [fns]
    refine ⟨by simp [inRows, inRowsL, lk, lenD], ?_⟩
    rw [if_pos (.inr h2)] at hP
    rw [teZ_d hP.symm]
    simp [reify, reifyL]
  rw [if_neg (by omega)] at hP
  refine ⟨by subst hF hVi hVu hVg hVh hVl; (try subst o_newS); simp [fns], ?_⟩
  have hR2 : F.rep 64 (.int .u64 0) = u64s R := by subst hF hVi hVu hVg hVh hVl; (try subst o_newS); rw [hR]; rfl
  simp only [hR2]
  refine loop_inv hF ((Nat) × (List Int)) (fun st_ => (st_.1) ≤ 8 ∧ (st_.2) = List.replicate (st_.1) (-1)) (fun st_ => { tm := [(2, .ptr 0 3 0 0), (4, .ptr 2 3 0 0), (5, .int .i64 (st_.1))], hp := (2, ⟨3, 25, [.agg [.int .i64 root, gv 4 1 (ints (st_.2)), .sl 1 1 0 64]], false, true⟩) :: (1, ⟨1, 66, u64s R, true, false⟩) :: (0, ⟨3, 25, [.agg [.int .i64 0, .nil, .nil]], true, true⟩) :: gh 4 1 3 (ints (st_.2)) [], nx := 5, nt := 26, fr := [], df := [] }) (fun st_ => 8 - (st_.1)) ⟨(0, []), by exact ⟨by simp, rfl⟩, wk_of hF (weakR (pie []) (by first | (simp +contextual [renT, renH, renB, renF, renDf, injH, pie, lk, D.ren, D.renL, D.lt, D.ltL, lt_gv, ren_gv, lk_gh, renH_gh, mem_gh, injH_gh, injK, injK_gh, lenD, gv_one, gh_one, subL_one, gv_nil, gh_nil, gv_snoc, gh_snoc, ints_nil, ints_app, ints_one, ints_cons, u64s_nil, u64s_app, u64s_one, ints_set, u64s_set, ints_len, u64s_len, List.nil_append, List.length_append, List.length_cons, List.length_nil]; done) | (subst hF hVi hVu hVg hVh hVl; (try subst o_newS); simp only [fns, arI, cmI]; rw [IntWalk.i64_in _ (by simp; omega)]; simp +contextual [renT, renH, renB, renF, renDf, injH, pie, lk, D.ren, D.renL, D.lt, D.ltL, lt_gv, ren_gv, lk_gh, renH_gh, mem_gh, injH_gh, injK, injK_gh, lenD, gv_one, gh_one, subL_one, gv_nil, gh_nil, gv_snoc, gh_snoc, ints_nil, ints_app, ints_one, ints_cons, u64s_nil, u64s_app, u64s_one, ints_set, u64s_set, ints_len, u64s_len, List.nil_append, List.length_append, List.length_cons, List.length_nil]; done) | (subst hF hVi hVu hVg hVh hVl; (try subst o_newS); simp +contextual [fns, arI, cmI, renT, renH, renB, renF, renDf, injH, pie, lk, D.ren, D.renL, D.lt, D.ltL, lt_gv, ren_gv, lk_gh, renH_gh, mem_gh, injH_gh, injK, injK_gh, lenD, gv_one, gh_one, subL_one, gv_nil, gh_nil, gv_snoc, gh_snoc, ints_nil, ints_app, ints_one, ints_cons, u64s_nil, u64s_app, u64s_one, ints_set, u64s_set, ints_len, u64s_len, List.nil_append, List.length_append, List.length_cons, List.length_nil])) (by first | (simp +contextual [renT, renH, renB, renF, renDf, injH, pie, lk, D.ren, D.renL, D.lt, D.ltL, lt_gv, ren_gv, lk_gh, renH_gh, mem_gh, injH_gh, injK, injK_gh, lenD, gv_one, gh_one, subL_one, gv_nil, gh_nil, gv_snoc, gh_snoc, ints_nil, ints_app, ints_one, ints_cons, u64s_nil, u64s_app, u64s_one, ints_set, u64s_set, ints_len, u64s_len, List.nil_append, List.length_append, List.length_cons, List.length_nil]; done) | (subst hF hVi hVu hVg hVh hVl; (try subst o_newS); simp +contextual [fns, renT, renH, renB, renF, renDf, injH, pie, lk, D.ren, D.renL, D.lt, D.ltL, lt_gv, ren_gv, lk_gh, renH_gh, mem_gh, injH_gh, injK, injK_gh, lenD, gv_one, gh_one, subL_one, gv_nil, gh_nil, gv_snoc, gh_snoc, ints_nil, ints_app, ints_one, ints_cons, u64s_nil, u64s_app, u64s_one, ints_set, u64s_set, ints_len, u64s_len, List.nil_append, List.length_append, List.length_cons, List.length_nil])) (by simp +contextual [renT, renH, renB, renF, renDf, injH, pie, lk, D.ren, D.renL, D.lt, D.ltL, lt_gv, ren_gv, lk_gh, renH_gh, mem_gh, injH_gh, injK, injK_gh, lenD, gv_one, gh_one, subL_one, gv_nil, gh_nil, gv_snoc, gh_snoc, ints_nil, ints_app, ints_one, ints_cons, u64s_nil, u64s_app, u64s_one, ints_set, u64s_set, ints_len, u64s_len, List.nil_append, List.length_append, List.length_cons, List.length_nil]) rfl (by simp [renF, renT, lk, D.ren, D.renL, D.lt, D.ltL]) (by simp [renDf]))⟩ ?_
  rintro ⟨k, acc⟩ hk
  try simp only at hk
  ((try rewrite [← hVi]); (try rewrite [← hVu]); (try rewrite [← hVg]); (try rewrite [← hVh]); (try rewrite [← o_newS]); conv => cbv)
  obtain ⟨hk1, hk2⟩ := hk
  split <;> rename_i h5 <;> (try rw [h5]) <;> (((try rewrite [← hVi]); (try rewrite [← hVu]); (try rewrite [← hVg]); (try rewrite [← hVh]); (try rewrite [← o_newS]); conv => cbv)) <;> (try simp only [hF, fns, cmI, decide_eq_true_eq, decide_eq_false_iff_not, beq_iff_eq, bne_iff_ne, beq_eq_false_iff_ne, bne_eq_false_iff_eq, ne_eq, Int.not_lt, Int.not_le, Classical.not_not, ge_iff_le, gt_iff_lt, Bool.not_eq_true] at h5)
  · have hlt : k < 8 := by simp at h5; omega
    have hal : acc.length ≤ 8 := by rw [hk2]; simpa using hk1
    rcases Classical.em (acc = []) with ha | ha
    · subst ha
      simp only [gv_nil, gh_nil, ints_nil]
      ((try rewrite [← hVi]); (try rewrite [← hVu]); (try rewrite [← hVg]); (try rewrite [← hVh]); (try rewrite [← o_newS]); conv => cbv)
      refine ⟨by subst hF hVi hVu hVg hVh hVl; (try subst o_newS); simp [fns, inRow, lk, D.cells, subL], by subst hF hVi hVu hVg hVh hVl; (try subst o_newS); simp [fns, subL], fun h => (by subst hF hVi hVu hVg hVh hVl; (try subst o_newS); simp [fns, subL] at h), fun _ => ?_⟩ <;> ((try rewrite [← hVi]); (try rewrite [← hVu]); (try rewrite [← hVg]); (try rewrite [← hVh]); (try rewrite [← o_newS]); conv => cbv)
      refine ⟨(k + 1, [-1]), ?_, by first | omega | (simp; omega) | (simp only; omega), wk_of hF (weakR (pie [(4, 6)]) (by first | (simp +contextual [renT, renH, renB, renF, renDf, injH, pie, lk, D.ren, D.renL, D.lt, D.ltL, lt_gv, ren_gv, lk_gh, renH_gh, mem_gh, injH_gh, injK, injK_gh, lenD, gv_one, gh_one, subL_one, gv_nil, gh_nil, gv_snoc, gh_snoc, ints_nil, ints_app, ints_one, ints_cons, u64s_nil, u64s_app, u64s_one, ints_set, u64s_set, ints_len, u64s_len, List.nil_append, List.length_append, List.length_cons, List.length_nil]; done) | (subst hF hVi hVu hVg hVh hVl; (try subst o_newS); simp only [fns, arI, cmI]; rw [IntWalk.i64_in _ (by simp; omega)]; simp +contextual [renT, renH, renB, renF, renDf, injH, pie, lk, D.ren, D.renL, D.lt, D.ltL, lt_gv, ren_gv, lk_gh, renH_gh, mem_gh, injH_gh, injK, injK_gh, lenD, gv_one, gh_one, subL_one, gv_nil, gh_nil, gv_snoc, gh_snoc, ints_nil, ints_app, ints_one, ints_cons, u64s_nil, u64s_app, u64s_one, ints_set, u64s_set, ints_len, u64s_len, List.nil_append, List.length_append, List.length_cons, List.length_nil]; done) | (subst hF hVi hVu hVg hVh hVl; (try subst o_newS); simp +contextual [fns, arI, cmI, renT, renH, renB, renF, renDf, injH, pie, lk, D.ren, D.renL, D.lt, D.ltL, lt_gv, ren_gv, lk_gh, renH_gh, mem_gh, injH_gh, injK, injK_gh, lenD, gv_one, gh_one, subL_one, gv_nil, gh_nil, gv_snoc, gh_snoc, ints_nil, ints_app, ints_one, ints_cons, u64s_nil, u64s_app, u64s_one, ints_set, u64s_set, ints_len, u64s_len, List.nil_append, List.length_append, List.length_cons, List.length_nil])) (by first | (simp +contextual [renT, renH, renB, renF, renDf, injH, pie, lk, D.ren, D.renL, D.lt, D.ltL, lt_gv, ren_gv, lk_gh, renH_gh, mem_gh, injH_gh, injK, injK_gh, lenD, gv_one, gh_one, subL_one, gv_nil, gh_nil, gv_snoc, gh_snoc, ints_nil, ints_app, ints_one, ints_cons, u64s_nil, u64s_app, u64s_one, ints_set, u64s_set, ints_len, u64s_len, List.nil_append, List.length_append, List.length_cons, List.length_nil]; done) | (subst hF hVi hVu hVg hVh hVl; (try subst o_newS); simp +contextual [fns, renT, renH, renB, renF, renDf, injH, pie, lk, D.ren, D.renL, D.lt, D.ltL, lt_gv, ren_gv, lk_gh, renH_gh, mem_gh, injH_gh, injK, injK_gh, lenD, gv_one, gh_one, subL_one, gv_nil, gh_nil, gv_snoc, gh_snoc, ints_nil, ints_app, ints_one, ints_cons, u64s_nil, u64s_app, u64s_one, ints_set, u64s_set, ints_len, u64s_len, List.nil_append, List.length_append, List.length_cons, List.length_nil])) (by simp +contextual [renT, renH, renB, renF, renDf, injH, pie, lk, D.ren, D.renL, D.lt, D.ltL, lt_gv, ren_gv, lk_gh, renH_gh, mem_gh, injH_gh, injK, injK_gh, lenD, gv_one, gh_one, subL_one, gv_nil, gh_nil, gv_snoc, gh_snoc, ints_nil, ints_app, ints_one, ints_cons, u64s_nil, u64s_app, u64s_one, ints_set, u64s_set, ints_len, u64s_len, List.nil_append, List.length_append, List.length_cons, List.length_nil]) rfl (by simp [renF, renT, lk, D.ren, D.renL, D.lt, D.ltL]) (by simp [renDf]))⟩ <;> (skip; (try subst o_newS))
      refine ⟨by simp only; omega, ?_⟩
      simp only
      rw [List.replicate_succ', ← hk2]; rfl
    · simp only [gv_ne (ints_ne ha), gh_ne (ints_ne ha)]
      ((try rewrite [← hVi]); (try rewrite [← hVu]); (try rewrite [← hVg]); (try rewrite [← hVh]); (try rewrite [← o_newS]); conv => cbv)
      refine ⟨by subst hF hVi hVu hVg hVh hVl; (try subst o_newS); simp [fns, inRow, lk, D.cells, subL], by subst hF hVi hVu hVg hVh hVl; (try subst o_newS); simp [fns, subL, lenD, ints_len, u64s_len]; try omega, ?_⟩ <;> ((try rewrite [← hVi]); (try rewrite [← hVu]); (try rewrite [← hVg]); (try rewrite [← hVh]); (try rewrite [← o_newS]); conv => cbv)
      refine ⟨(k + 1, acc ++ [-1]), ?_, by first | omega | (simp; omega) | (simp only; omega), wk_of hF (weakR (pie []) (by first | (simp +contextual [renT, renH, renB, renF, renDf, injH, pie, lk, D.ren, D.renL, D.lt, D.ltL, lt_gv, ren_gv, lk_gh, renH_gh, mem_gh, injH_gh, injK, injK_gh, lenD, gv_one, gh_one, subL_one, gv_nil, gh_nil, gv_snoc, gh_snoc, ints_nil, ints_app, ints_one, ints_cons, u64s_nil, u64s_app, u64s_one, ints_set, u64s_set, ints_len, u64s_len, List.nil_append, List.length_append, List.length_cons, List.length_nil]; done) | (subst hF hVi hVu hVg hVh hVl; (try subst o_newS); simp only [fns, arI, cmI]; rw [IntWalk.i64_in _ (by simp; omega)]; simp +contextual [renT, renH, renB, renF, renDf, injH, pie, lk, D.ren, D.renL, D.lt, D.ltL, lt_gv, ren_gv, lk_gh, renH_gh, mem_gh, injH_gh, injK, injK_gh, lenD, gv_one, gh_one, subL_one, gv_nil, gh_nil, gv_snoc, gh_snoc, ints_nil, ints_app, ints_one, ints_cons, u64s_nil, u64s_app, u64s_one, ints_set, u64s_set, ints_len, u64s_len, List.nil_append, List.length_append, List.length_cons, List.length_nil]; done) | (subst hF hVi hVu hVg hVh hVl; (try subst o_newS); simp +contextual [fns, arI, cmI, renT, renH, renB, renF, renDf, injH, pie, lk, D.ren, D.renL, D.lt, D.ltL, lt_gv, ren_gv, lk_gh, renH_gh, mem_gh, injH_gh, injK, injK_gh, lenD, gv_one, gh_one, subL_one, gv_nil, gh_nil, gv_snoc, gh_snoc, ints_nil, ints_app, ints_one, ints_cons, u64s_nil, u64s_app, u64s_one, ints_set, u64s_set, ints_len, u64s_len, List.nil_append, List.length_append, List.length_cons, List.length_nil])) (by first | (simp +contextual [renT, renH, renB, renF, renDf, injH, pie, lk, D.ren, D.renL, D.lt, D.ltL, lt_gv, ren_gv, lk_gh, renH_gh, mem_gh, injH_gh, injK, injK_gh, lenD, gv_one, gh_one, subL_one, gv_nil, gh_nil, gv_snoc, gh_snoc, ints_nil, ints_app, ints_one, ints_cons, u64s_nil, u64s_app, u64s_one, ints_set, u64s_set, ints_len, u64s_len, List.nil_append, List.length_append, List.length_cons, List.length_nil]; done) | (subst hF hVi hVu hVg hVh hVl; (try subst o_newS); simp +contextual [fns, renT, renH, renB, renF, renDf, injH, pie, lk, D.ren, D.renL, D.lt, D.ltL, lt_gv, ren_gv, lk_gh, renH_gh, mem_gh, injH_gh, injK, injK_gh, lenD, gv_one, gh_one, subL_one, gv_nil, gh_nil, gv_snoc, gh_snoc, ints_nil, ints_app, ints_one, ints_cons, u64s_nil, u64s_app, u64s_one, ints_set, u64s_set, ints_len, u64s_len, List.nil_append, List.length_append, List.length_cons, List.length_nil])) (by simp +contextual [renT, renH, renB, renF, renDf, injH, pie, lk, D.ren, D.renL, D.lt, D.ltL, lt_gv, ren_gv, lk_gh, renH_gh, mem_gh, injH_gh, injK, injK_gh, lenD, gv_one, gh_one, subL_one, gv_nil, gh_nil, gv_snoc, gh_snoc, ints_nil, ints_app, ints_one, ints_cons, u64s_nil, u64s_app, u64s_one, ints_set, u64s_set, ints_len, u64s_len, List.nil_append, List.length_append, List.length_cons, List.length_nil]) rfl (by simp [renF, renT, lk, D.ren, D.renL, D.lt, D.ltL]) (by simp [renDf]))⟩ <;> (skip; (try subst o_newS))
      refine ⟨by simp only; omega, ?_⟩
      simp only
      rw [List.replicate_succ', ← hk2]
  · have hk8 : k = 8 := by simp at h5; omega
    subst hk8
    have ha : acc ≠ [] := by rw [hk2]; simp
    simp only [gv_ne (ints_ne ha), gh_ne (ints_ne ha)]
    ((try rewrite [← hVi]); (try rewrite [← hVu]); (try rewrite [← hVg]); (try rewrite [← hVh]); (try rewrite [← o_newS]); conv => cbv)
    subst hF hVi hVu hVg hVh hVl; (try subst o_newS); subst hd
    simp only [fns]
    refine ⟨by simp [inRows, inRowsL, lk, lenD, u64s_len, hRl], ?_⟩
    rw [← hP, ← hk2]
    simp [TE.d, tblD, reify, reifyL, lk, subL, lenD, ints_len, u64s_len, hRl]
end Go.Proofs.YtppmomobjjpljaaDoor.E
end

/- Part B4. -/
section
/- Contracts: empty leaves are released (reference). -/
namespace Go.Proofs.YtppmomobjjpljaaDoor.E
open Go Go.RowKit
set_option linter.unusedVariables false
set_option linter.unusedSimpArgs false
set_option maxRecDepth 100000
def trimA (L E : List Int) : List Int := (List.range 8).map fun q => if 0 ≤ L.getD q 0 ∧ emptyS E q = true then -1 else L.getD q 0
def goneUp (L E : List Int) (k : Nat) : List Int := ((List.range k).filter fun q => decide (0 ≤ L.getD q 0 ∧ emptyS E q = true)).map fun q => L.getD q 0
theorem goneUp_succ (L E : List Int) (k : Nat) : goneUp L E (k + 1) = goneUp L E k ++ if 0 ≤ L.getD k 0 ∧ emptyS E k = true then [L.getD k 0] else [] := by
  rw [goneUp, goneUp, List.range_succ, List.filter_append, List.map_append]
  congr 1
  split
  · rename_i h; rw [List.filter_cons_of_pos (by simpa using h)]; rfl
  · rename_i h; rw [List.filter_cons_of_neg (by simpa using h)]; rfl
theorem goneUp_len (L E : List Int) (k : Nat) : (goneUp L E k).length ≤ k := by
  rw [goneUp, List.length_map]; exact Nat.le_trans (List.length_filter_le _ _) (by simp)
theorem trimA_at {L E : List Int} {k : Nat} (h : k < 8) : (trimA L E)[k]? = some (if 0 ≤ L.getD k 0 ∧ emptyS E k = true then -1 else L.getD k 0) := by
  rw [trimA, List.getElem?_map, List.getElem?_range h]; rfl
theorem trimA_len (L E : List Int) : (trimA L E).length = 8 := by simp [trimA]
def trimS (r : Int) (L E : List Int) : TE × List Int := if chkT r L E ≠ 0 then (teZ (chkT r L E), []) else (⟨r, trimA L E, E, 0⟩, goneUp L E 8)
def trimD (x : TE × List Int) : D := .tup [tblD x.1.r x.1.L x.1.E, .ro (ints x.2), .int .i64 x.1.f]
theorem rtrim_c (r : Int) (L E : List Int) (hL : L.length < 100) (hE : E.length < 100) (hw : wordsOk E) : Contract Tryd.prog G0 40 [tblD r L E] (trimD (trimS r L E)) [] := by
  refine fun0 tys_ok mixed (n := 46) (rs := [.cell 2 25, .tmp 3, .tmp 4]) ⟨Tryd.func40, by kernel_rfl, rfl⟩ rfl rfl (by simp) fun F d0 hF hd => ?_
  obtain ⟨ints, u64s, gv, gh, lenF, hVi, hVu, hVg, hVh, hVl, lenD, ints_len, u64s_len, ints_cells, u64s_cells, ints_at, u64s_at, gv_nil, gh_nil, gv_ne, gh_ne, gv_snoc, gh_snoc, gv_one, gh_one, lt_gv, ren_gv, lk_gh, renH_gh, mem_gh, injK_gh, injH_gh, ints_nil, ints_app, ints_one, ints_cons, ints_ne, u64s_nil, u64s_app, u64s_one, u64s_ne, ints_set, u64s_set⟩ := vocab
  obtain ⟨f_chkT, o_chkT⟩ : ∃ f, f = chkT := ⟨_, rfl⟩
  obtain ⟨f_emptyS, o_emptyS⟩ : ∃ f, f = emptyS := ⟨_, rfl⟩
  obtain ⟨f_goneUp, o_goneUp⟩ : ∃ f, f = goneUp := ⟨_, rfl⟩
  obtain ⟨f_trimS, o_trimS⟩ : ∃ f, f = trimS := ⟨_, rfl⟩
  have c1 := rchkT_c r L E hL hE hw
  unfold tblD at *
  generalize hP : trimS r L E = X at hd
  rw [trimS] at hP
  generalize hS : chkT r L E = S at c1 hP
  ((try rewrite [← hVi]); (try rewrite [← hVu]); (try rewrite [← hVg]); (try rewrite [← hVh]); (try rewrite [← o_chkT]); (try rewrite [← o_emptyS]); (try rewrite [← o_goneUp]); (try rewrite [← o_trimS]); conv => cbv)
  refine .inl ⟨_, _, by subst hF hVi hVu hVg hVh hVl; (try subst o_chkT); (try subst o_emptyS); (try subst o_goneUp); (try subst o_trimS); exact c1, by subst hF hVi hVu hVg hVh hVl; (try subst o_chkT); (try subst o_emptyS); (try subst o_goneUp); (try subst o_trimS); exact ⟨by simp [inRowsL, inRows, lk], by first | exact .inl rfl | exact .inr ⟨rfl, fun B h => nomatch h⟩⟩, ?_⟩ <;> ((try rewrite [← hVi]); (try rewrite [← hVu]); (try rewrite [← hVg]); (try rewrite [← hVh]); (try rewrite [← o_chkT]); (try rewrite [← o_emptyS]); (try rewrite [← o_goneUp]); (try rewrite [← o_trimS]); conv => cbv)
  split <;> rename_i h <;> (try rw [h]) <;> (((try rewrite [← hVi]); (try rewrite [← hVu]); (try rewrite [← hVg]); (try rewrite [← hVh]); (try rewrite [← o_chkT]); (try rewrite [← o_emptyS]); (try rewrite [← o_goneUp]); (try rewrite [← o_trimS]); conv => cbv)) <;> (try simp only [hF, fns, cmI, decide_eq_true_eq, decide_eq_false_iff_not, beq_iff_eq, bne_iff_ne, beq_eq_false_iff_ne, bne_eq_false_iff_eq, ne_eq, Int.not_lt, Int.not_le, Classical.not_not, ge_iff_le, gt_iff_lt, Bool.not_eq_true] at h)
  · subst hF hVi hVu hVg hVh hVl; (try subst o_chkT); (try subst o_emptyS); (try subst o_goneUp); (try subst o_trimS); subst hd
    simp only [fns]
    refine ⟨by simp [inRows, inRowsL, lk, lenD], ?_⟩
    rw [if_pos h] at hP
    rw [← hP]
    simp [reify, reifyL, trimD, teZ, tblD, ints, u64s]
  subst h
  rw [if_neg (by simp)] at hP
  obtain ⟨g4, g5⟩ := chkT_len hS
  have c2 := rown_c r L E hL hE (by intro h; rw [h] at g4; cases g4) (by intro h; rw [h] at g5; cases g5)
  unfold tblD tblOwn tblExt at c2
  rw [g4, g5] at c2
  refine .inl ⟨_, _, by subst hF hVi hVu hVg hVh hVl; (try subst o_chkT); (try subst o_emptyS); (try subst o_goneUp); (try subst o_trimS); exact c2, by subst hF hVi hVu hVg hVh hVl; (try subst o_chkT); (try subst o_emptyS); (try subst o_goneUp); (try subst o_trimS); exact ⟨by simp [inRowsL, inRows, lk], by first | exact .inl rfl | exact .inr ⟨rfl, fun B h => nomatch h⟩⟩, ?_⟩ <;> ((try rewrite [← hVi]); (try rewrite [← hVu]); (try rewrite [← hVg]); (try rewrite [← hVh]); (try rewrite [← o_chkT]); (try rewrite [← o_emptyS]); (try rewrite [← o_goneUp]); (try rewrite [← o_trimS]); conv => cbv)
  refine loop_inv hF ((Nat) × (List Int) × (List Int)) (fun st_ => (st_.1) ≤ 8 ∧ (st_.2.1) = mixL (trimA L E) L (st_.1) ∧ (st_.2.2) = goneUp L E (st_.1)) (fun st_ => { tm := [(1, .ptr 0 3 0 0), (2, .ptr 1 3 0 0), (6, .ptr 4 3 0 0), (7, gv 5 1 (ints (st_.2.2))), (8, .int .i64 (st_.1))], hp := (4, ⟨3, 25, [.agg [.int .i64 r, .sl 2 1 0 8, .sl 3 1 0 64]], false, true⟩) :: (2, ⟨1, 3, ints (st_.2.1), true, false⟩) :: (3, ⟨1, 66, u64s E, true, false⟩) :: (1, ⟨3, 25, [.agg [.int .i64 0, .nil, .nil]], true, true⟩) :: (0, ⟨3, 25, [.agg [.int .i64 r, .ro (ints L), .ro (u64s E)]], true, true⟩) :: gh 5 1 3 (ints (st_.2.2)) [], nx := 6, nt := 46, fr := [], df := [] }) (fun st_ => 8 - (st_.1)) ⟨(0, L, []), by exact ⟨by simp, by simp [mix_zero], rfl⟩, wk_of hF (weakR (pie []) (by first | (simp +contextual [renT, renH, renB, renF, renDf, injH, pie, lk, D.ren, D.renL, D.lt, D.ltL, lt_gv, ren_gv, lk_gh, renH_gh, mem_gh, injH_gh, injK, injK_gh, lenD, gv_one, gh_one, subL_one, gv_nil, gh_nil, gv_snoc, gh_snoc, ints_nil, ints_app, ints_one, ints_cons, u64s_nil, u64s_app, u64s_one, ints_set, u64s_set, ints_len, u64s_len, List.nil_append, List.length_append, List.length_cons, List.length_nil]; done) | (subst hF hVi hVu hVg hVh hVl; (try subst o_chkT); (try subst o_emptyS); (try subst o_goneUp); (try subst o_trimS); simp only [fns, arI, cmI]; rw [IntWalk.i64_in _ (by simp; omega)]; simp +contextual [renT, renH, renB, renF, renDf, injH, pie, lk, D.ren, D.renL, D.lt, D.ltL, lt_gv, ren_gv, lk_gh, renH_gh, mem_gh, injH_gh, injK, injK_gh, lenD, gv_one, gh_one, subL_one, gv_nil, gh_nil, gv_snoc, gh_snoc, ints_nil, ints_app, ints_one, ints_cons, u64s_nil, u64s_app, u64s_one, ints_set, u64s_set, ints_len, u64s_len, List.nil_append, List.length_append, List.length_cons, List.length_nil]; done) | (subst hF hVi hVu hVg hVh hVl; (try subst o_chkT); (try subst o_emptyS); (try subst o_goneUp); (try subst o_trimS); simp +contextual [fns, arI, cmI, renT, renH, renB, renF, renDf, injH, pie, lk, D.ren, D.renL, D.lt, D.ltL, lt_gv, ren_gv, lk_gh, renH_gh, mem_gh, injH_gh, injK, injK_gh, lenD, gv_one, gh_one, subL_one, gv_nil, gh_nil, gv_snoc, gh_snoc, ints_nil, ints_app, ints_one, ints_cons, u64s_nil, u64s_app, u64s_one, ints_set, u64s_set, ints_len, u64s_len, List.nil_append, List.length_append, List.length_cons, List.length_nil])) (by first | (simp +contextual [renT, renH, renB, renF, renDf, injH, pie, lk, D.ren, D.renL, D.lt, D.ltL, lt_gv, ren_gv, lk_gh, renH_gh, mem_gh, injH_gh, injK, injK_gh, lenD, gv_one, gh_one, subL_one, gv_nil, gh_nil, gv_snoc, gh_snoc, ints_nil, ints_app, ints_one, ints_cons, u64s_nil, u64s_app, u64s_one, ints_set, u64s_set, ints_len, u64s_len, List.nil_append, List.length_append, List.length_cons, List.length_nil]; done) | (subst hF hVi hVu hVg hVh hVl; (try subst o_chkT); (try subst o_emptyS); (try subst o_goneUp); (try subst o_trimS); simp +contextual [fns, renT, renH, renB, renF, renDf, injH, pie, lk, D.ren, D.renL, D.lt, D.ltL, lt_gv, ren_gv, lk_gh, renH_gh, mem_gh, injH_gh, injK, injK_gh, lenD, gv_one, gh_one, subL_one, gv_nil, gh_nil, gv_snoc, gh_snoc, ints_nil, ints_app, ints_one, ints_cons, u64s_nil, u64s_app, u64s_one, ints_set, u64s_set, ints_len, u64s_len, List.nil_append, List.length_append, List.length_cons, List.length_nil])) (by simp +contextual [renT, renH, renB, renF, renDf, injH, pie, lk, D.ren, D.renL, D.lt, D.ltL, lt_gv, ren_gv, lk_gh, renH_gh, mem_gh, injH_gh, injK, injK_gh, lenD, gv_one, gh_one, subL_one, gv_nil, gh_nil, gv_snoc, gh_snoc, ints_nil, ints_app, ints_one, ints_cons, u64s_nil, u64s_app, u64s_one, ints_set, u64s_set, ints_len, u64s_len, List.nil_append, List.length_append, List.length_cons, List.length_nil]) rfl (by simp [renF, renT, lk, D.ren, D.renL, D.lt, D.ltL]) (by simp [renDf]))⟩ ?_
  rintro ⟨k, cur, acc⟩ hk
  try simp only at hk
  ((try rewrite [← hVi]); (try rewrite [← hVu]); (try rewrite [← hVg]); (try rewrite [← hVh]); (try rewrite [← o_chkT]); (try rewrite [← o_emptyS]); (try rewrite [← o_goneUp]); (try rewrite [← o_trimS]); conv => cbv)
  obtain ⟨hk1, hk2, hk3⟩ := hk
  have hcl : cur.length = 8 := by rw [hk2, mix_length (by rw [trimA_len, g4]), g4]
  have hal : acc.length ≤ 8 := by rw [hk3]; exact Nat.le_trans (goneUp_len L E k) hk1
  split <;> rename_i h5 <;> (try rw [h5]) <;> (((try rewrite [← hVi]); (try rewrite [← hVu]); (try rewrite [← hVg]); (try rewrite [← hVh]); (try rewrite [← o_chkT]); (try rewrite [← o_emptyS]); (try rewrite [← o_goneUp]); (try rewrite [← o_trimS]); conv => cbv)) <;> (try simp only [hF, fns, cmI, decide_eq_true_eq, decide_eq_false_iff_not, beq_iff_eq, bne_iff_ne, beq_eq_false_iff_ne, bne_eq_false_iff_eq, ne_eq, Int.not_lt, Int.not_le, Classical.not_not, ge_iff_le, gt_iff_lt, Bool.not_eq_true] at h5)
  · have hlt : k < 8 := by simp at h5; omega
    obtain ⟨x, hx⟩ : ∃ x, L[k]? = some x := ⟨_, List.getElem?_eq_getElem (by omega)⟩
    have hxd : L.getD k 0 = x := by rw [List.getD_eq_getElem?_getD, hx]; rfl
    have ht := trimA_at (L := L) (E := E) hlt
    have hg := goneUp_succ L E k
    rw [hxd] at ht hg
    have c3 := rempty_c r L E k hlt g5 hw
    unfold tblD at c3
    generalize emptyS E k = b at c3 ht hg
    have keep : ¬ (0 ≤ x ∧ b = true) → k + 1 ≤ 8 ∧ cur = mixL (trimA L E) L (k + 1) ∧ acc = goneUp L E (k + 1) := fun h => by
      rw [if_neg h] at ht hg
      exact ⟨by omega, by rw [mix_keep ht hx, hk2], by rw [hg, hk3]; simp⟩
    have upd : (0 ≤ x ∧ b = true) → k + 1 ≤ 8 ∧ cur.set k (-1) = mixL (trimA L E) L (k + 1) ∧ acc ++ [x] = goneUp L E (k + 1) := fun h => by
      rw [if_pos h] at ht hg
      exact ⟨by omega, by rw [hk2, mix_set ht hx], by rw [hg, hk3]⟩
    refine ⟨by subst hF hVi hVu hVg hVh hVl; (try subst o_chkT); (try subst o_emptyS); (try subst o_goneUp); (try subst o_trimS); simp [fns], .int .i64 x, ints_at _ _ _ hx, rfl, ?_⟩
    ((try rewrite [← hVi]); (try rewrite [← hVu]); (try rewrite [← hVg]); (try rewrite [← hVh]); (try rewrite [← o_chkT]); (try rewrite [← o_emptyS]); (try rewrite [← o_goneUp]); (try rewrite [← o_trimS]); conv => cbv)
    split <;> rename_i h6 <;> (try rw [h6]) <;> (((try rewrite [← hVi]); (try rewrite [← hVu]); (try rewrite [← hVg]); (try rewrite [← hVh]); (try rewrite [← o_chkT]); (try rewrite [← o_emptyS]); (try rewrite [← o_goneUp]); (try rewrite [← o_trimS]); conv => cbv)) <;> (try simp only [hF, fns, cmI, decide_eq_true_eq, decide_eq_false_iff_not, beq_iff_eq, bne_iff_ne, beq_eq_false_iff_ne, bne_eq_false_iff_eq, ne_eq, Int.not_lt, Int.not_le, Classical.not_not, ge_iff_le, gt_iff_lt, Bool.not_eq_true] at h6)
    · refine .inl ⟨_, _, by subst hF hVi hVu hVg hVh hVl; (try subst o_chkT); (try subst o_emptyS); (try subst o_goneUp); (try subst o_trimS); exact c3, by subst hF hVi hVu hVg hVh hVl; (try subst o_chkT); (try subst o_emptyS); (try subst o_goneUp); (try subst o_trimS); exact ⟨by simp [inRowsL, inRows, lk], by first | exact .inl rfl | exact .inr ⟨rfl, fun B h => nomatch h⟩⟩, ?_⟩ <;> ((try rewrite [← hVi]); (try rewrite [← hVu]); (try rewrite [← hVg]); (try rewrite [← hVh]); (try rewrite [← o_chkT]); (try rewrite [← o_emptyS]); (try rewrite [← o_goneUp]); (try rewrite [← o_trimS]); conv => cbv)
      cases b
      · ((try rewrite [← hVi]); (try rewrite [← hVu]); (try rewrite [← hVg]); (try rewrite [← hVh]); (try rewrite [← o_chkT]); (try rewrite [← o_emptyS]); (try rewrite [← o_goneUp]); (try rewrite [← o_trimS]); conv => cbv)
        refine ⟨(k + 1, cur, acc), ?_, by first | omega | (simp; omega) | (simp only; omega), wk_of hF (weakR (pie []) (by first | (simp +contextual [renT, renH, renB, renF, renDf, injH, pie, lk, D.ren, D.renL, D.lt, D.ltL, lt_gv, ren_gv, lk_gh, renH_gh, mem_gh, injH_gh, injK, injK_gh, lenD, gv_one, gh_one, subL_one, gv_nil, gh_nil, gv_snoc, gh_snoc, ints_nil, ints_app, ints_one, ints_cons, u64s_nil, u64s_app, u64s_one, ints_set, u64s_set, ints_len, u64s_len, List.nil_append, List.length_append, List.length_cons, List.length_nil]; done) | (subst hF hVi hVu hVg hVh hVl; (try subst o_chkT); (try subst o_emptyS); (try subst o_goneUp); (try subst o_trimS); simp only [fns, arI, cmI]; rw [IntWalk.i64_in _ (by simp; omega)]; simp +contextual [renT, renH, renB, renF, renDf, injH, pie, lk, D.ren, D.renL, D.lt, D.ltL, lt_gv, ren_gv, lk_gh, renH_gh, mem_gh, injH_gh, injK, injK_gh, lenD, gv_one, gh_one, subL_one, gv_nil, gh_nil, gv_snoc, gh_snoc, ints_nil, ints_app, ints_one, ints_cons, u64s_nil, u64s_app, u64s_one, ints_set, u64s_set, ints_len, u64s_len, List.nil_append, List.length_append, List.length_cons, List.length_nil]; done) | (subst hF hVi hVu hVg hVh hVl; (try subst o_chkT); (try subst o_emptyS); (try subst o_goneUp); (try subst o_trimS); simp +contextual [fns, arI, cmI, renT, renH, renB, renF, renDf, injH, pie, lk, D.ren, D.renL, D.lt, D.ltL, lt_gv, ren_gv, lk_gh, renH_gh, mem_gh, injH_gh, injK, injK_gh, lenD, gv_one, gh_one, subL_one, gv_nil, gh_nil, gv_snoc, gh_snoc, ints_nil, ints_app, ints_one, ints_cons, u64s_nil, u64s_app, u64s_one, ints_set, u64s_set, ints_len, u64s_len, List.nil_append, List.length_append, List.length_cons, List.length_nil])) (by first | (simp +contextual [renT, renH, renB, renF, renDf, injH, pie, lk, D.ren, D.renL, D.lt, D.ltL, lt_gv, ren_gv, lk_gh, renH_gh, mem_gh, injH_gh, injK, injK_gh, lenD, gv_one, gh_one, subL_one, gv_nil, gh_nil, gv_snoc, gh_snoc, ints_nil, ints_app, ints_one, ints_cons, u64s_nil, u64s_app, u64s_one, ints_set, u64s_set, ints_len, u64s_len, List.nil_append, List.length_append, List.length_cons, List.length_nil]; done) | (subst hF hVi hVu hVg hVh hVl; (try subst o_chkT); (try subst o_emptyS); (try subst o_goneUp); (try subst o_trimS); simp +contextual [fns, renT, renH, renB, renF, renDf, injH, pie, lk, D.ren, D.renL, D.lt, D.ltL, lt_gv, ren_gv, lk_gh, renH_gh, mem_gh, injH_gh, injK, injK_gh, lenD, gv_one, gh_one, subL_one, gv_nil, gh_nil, gv_snoc, gh_snoc, ints_nil, ints_app, ints_one, ints_cons, u64s_nil, u64s_app, u64s_one, ints_set, u64s_set, ints_len, u64s_len, List.nil_append, List.length_append, List.length_cons, List.length_nil])) (by simp +contextual [renT, renH, renB, renF, renDf, injH, pie, lk, D.ren, D.renL, D.lt, D.ltL, lt_gv, ren_gv, lk_gh, renH_gh, mem_gh, injH_gh, injK, injK_gh, lenD, gv_one, gh_one, subL_one, gv_nil, gh_nil, gv_snoc, gh_snoc, ints_nil, ints_app, ints_one, ints_cons, u64s_nil, u64s_app, u64s_one, ints_set, u64s_set, ints_len, u64s_len, List.nil_append, List.length_append, List.length_cons, List.length_nil]) rfl (by simp [renF, renT, lk, D.ren, D.renL, D.lt, D.ltL]) (by simp [renDf]))⟩ <;> (skip; (try subst o_chkT); (try subst o_emptyS); (try subst o_goneUp); (try subst o_trimS))
        exact keep (by simp)
      · ((try rewrite [← hVi]); (try rewrite [← hVu]); (try rewrite [← hVg]); (try rewrite [← hVh]); (try rewrite [← o_chkT]); (try rewrite [← o_emptyS]); (try rewrite [← o_goneUp]); (try rewrite [← o_trimS]); conv => cbv)
        refine ⟨by subst hF hVi hVu hVg hVh hVl; (try subst o_chkT); (try subst o_emptyS); (try subst o_goneUp); (try subst o_trimS); simp [fns]; omega, by subst hF hVi hVu hVg hVh hVl; (try subst o_chkT); (try subst o_emptyS); (try subst o_goneUp); (try subst o_trimS); simp [fns, ints_len]; omega, ?_⟩
        ((try rewrite [← hVi]); (try rewrite [← hVu]); (try rewrite [← hVg]); (try rewrite [← hVh]); (try rewrite [← o_chkT]); (try rewrite [← o_emptyS]); (try rewrite [← o_goneUp]); (try rewrite [← o_trimS]); conv => cbv)
        refine ⟨by subst hF hVi hVu hVg hVh hVl; (try subst o_chkT); (try subst o_emptyS); (try subst o_goneUp); (try subst o_trimS); simp [fns], .int .i64 x, ints_at _ _ _ hx, rfl, ?_⟩
        ((try rewrite [← hVi]); (try rewrite [← hVu]); (try rewrite [← hVg]); (try rewrite [← hVh]); (try rewrite [← o_chkT]); (try rewrite [← o_emptyS]); (try rewrite [← o_goneUp]); (try rewrite [← o_trimS]); conv => cbv)
        rcases Classical.em (acc = []) with ha | ha
        · subst ha
          simp only [gv_nil, gh_nil, ints_nil]
          ((try rewrite [← hVi]); (try rewrite [← hVu]); (try rewrite [← hVg]); (try rewrite [← hVh]); (try rewrite [← o_chkT]); (try rewrite [← o_emptyS]); (try rewrite [← o_goneUp]); (try rewrite [← o_trimS]); conv => cbv)
          refine ⟨by subst hF hVi hVu hVg hVh hVl; (try subst o_chkT); (try subst o_emptyS); (try subst o_goneUp); (try subst o_trimS); simp [fns, inRow, lk, D.cells, subL], by subst hF hVi hVu hVg hVh hVl; (try subst o_chkT); (try subst o_emptyS); (try subst o_goneUp); (try subst o_trimS); simp [fns, subL], fun h => (by subst hF hVi hVu hVg hVh hVl; (try subst o_chkT); (try subst o_emptyS); (try subst o_goneUp); (try subst o_trimS); simp [fns, subL] at h), fun _ => ?_⟩ <;> ((try rewrite [← hVi]); (try rewrite [← hVu]); (try rewrite [← hVg]); (try rewrite [← hVh]); (try rewrite [← o_chkT]); (try rewrite [← o_emptyS]); (try rewrite [← o_goneUp]); (try rewrite [← o_trimS]); conv => cbv)
          refine ⟨(k + 1, cur.set k (-1), [x]), ?_, by first | omega | (simp; omega) | (simp only; omega), wk_of hF (weakR (pie [(5, 7)]) (by first | (simp +contextual [renT, renH, renB, renF, renDf, injH, pie, lk, D.ren, D.renL, D.lt, D.ltL, lt_gv, ren_gv, lk_gh, renH_gh, mem_gh, injH_gh, injK, injK_gh, lenD, gv_one, gh_one, subL_one, gv_nil, gh_nil, gv_snoc, gh_snoc, ints_nil, ints_app, ints_one, ints_cons, u64s_nil, u64s_app, u64s_one, ints_set, u64s_set, ints_len, u64s_len, List.nil_append, List.length_append, List.length_cons, List.length_nil]; done) | (subst hF hVi hVu hVg hVh hVl; (try subst o_chkT); (try subst o_emptyS); (try subst o_goneUp); (try subst o_trimS); simp only [fns, arI, cmI]; rw [IntWalk.i64_in _ (by simp; omega)]; simp +contextual [renT, renH, renB, renF, renDf, injH, pie, lk, D.ren, D.renL, D.lt, D.ltL, lt_gv, ren_gv, lk_gh, renH_gh, mem_gh, injH_gh, injK, injK_gh, lenD, gv_one, gh_one, subL_one, gv_nil, gh_nil, gv_snoc, gh_snoc, ints_nil, ints_app, ints_one, ints_cons, u64s_nil, u64s_app, u64s_one, ints_set, u64s_set, ints_len, u64s_len, List.nil_append, List.length_append, List.length_cons, List.length_nil]; done) | (subst hF hVi hVu hVg hVh hVl; (try subst o_chkT); (try subst o_emptyS); (try subst o_goneUp); (try subst o_trimS); simp +contextual [fns, arI, cmI, renT, renH, renB, renF, renDf, injH, pie, lk, D.ren, D.renL, D.lt, D.ltL, lt_gv, ren_gv, lk_gh, renH_gh, mem_gh, injH_gh, injK, injK_gh, lenD, gv_one, gh_one, subL_one, gv_nil, gh_nil, gv_snoc, gh_snoc, ints_nil, ints_app, ints_one, ints_cons, u64s_nil, u64s_app, u64s_one, ints_set, u64s_set, ints_len, u64s_len, List.nil_append, List.length_append, List.length_cons, List.length_nil])) (by first | (simp +contextual [renT, renH, renB, renF, renDf, injH, pie, lk, D.ren, D.renL, D.lt, D.ltL, lt_gv, ren_gv, lk_gh, renH_gh, mem_gh, injH_gh, injK, injK_gh, lenD, gv_one, gh_one, subL_one, gv_nil, gh_nil, gv_snoc, gh_snoc, ints_nil, ints_app, ints_one, ints_cons, u64s_nil, u64s_app, u64s_one, ints_set, u64s_set, ints_len, u64s_len, List.nil_append, List.length_append, List.length_cons, List.length_nil]; done) | (subst hF hVi hVu hVg hVh hVl; (try subst o_chkT); (try subst o_emptyS); (try subst o_goneUp); (try subst o_trimS); simp +contextual [fns, renT, renH, renB, renF, renDf, injH, pie, lk, D.ren, D.renL, D.lt, D.ltL, lt_gv, ren_gv, lk_gh, renH_gh, mem_gh, injH_gh, injK, injK_gh, lenD, gv_one, gh_one, subL_one, gv_nil, gh_nil, gv_snoc, gh_snoc, ints_nil, ints_app, ints_one, ints_cons, u64s_nil, u64s_app, u64s_one, ints_set, u64s_set, ints_len, u64s_len, List.nil_append, List.length_append, List.length_cons, List.length_nil])) (by simp +contextual [renT, renH, renB, renF, renDf, injH, pie, lk, D.ren, D.renL, D.lt, D.ltL, lt_gv, ren_gv, lk_gh, renH_gh, mem_gh, injH_gh, injK, injK_gh, lenD, gv_one, gh_one, subL_one, gv_nil, gh_nil, gv_snoc, gh_snoc, ints_nil, ints_app, ints_one, ints_cons, u64s_nil, u64s_app, u64s_one, ints_set, u64s_set, ints_len, u64s_len, List.nil_append, List.length_append, List.length_cons, List.length_nil]) rfl (by simp [renF, renT, lk, D.ren, D.renL, D.lt, D.ltL]) (by simp [renDf]))⟩ <;> (skip; (try subst o_chkT); (try subst o_emptyS); (try subst o_goneUp); (try subst o_trimS))
          exact upd ⟨h6, rfl⟩
        · simp only [gv_ne (ints_ne ha), gh_ne (ints_ne ha)]
          ((try rewrite [← hVi]); (try rewrite [← hVu]); (try rewrite [← hVg]); (try rewrite [← hVh]); (try rewrite [← o_chkT]); (try rewrite [← o_emptyS]); (try rewrite [← o_goneUp]); (try rewrite [← o_trimS]); conv => cbv)
          refine ⟨by subst hF hVi hVu hVg hVh hVl; (try subst o_chkT); (try subst o_emptyS); (try subst o_goneUp); (try subst o_trimS); simp [fns, inRow, lk, D.cells, subL], by subst hF hVi hVu hVg hVh hVl; (try subst o_chkT); (try subst o_emptyS); (try subst o_goneUp); (try subst o_trimS); simp [fns, subL, lenD, ints_len, u64s_len]; try omega, ?_⟩ <;> ((try rewrite [← hVi]); (try rewrite [← hVu]); (try rewrite [← hVg]); (try rewrite [← hVh]); (try rewrite [← o_chkT]); (try rewrite [← o_emptyS]); (try rewrite [← o_goneUp]); (try rewrite [← o_trimS]); conv => cbv)
          refine ⟨(k + 1, cur.set k (-1), acc ++ [x]), ?_, by first | omega | (simp; omega) | (simp only; omega), wk_of hF (weakR (pie []) (by first | (simp +contextual [renT, renH, renB, renF, renDf, injH, pie, lk, D.ren, D.renL, D.lt, D.ltL, lt_gv, ren_gv, lk_gh, renH_gh, mem_gh, injH_gh, injK, injK_gh, lenD, gv_one, gh_one, subL_one, gv_nil, gh_nil, gv_snoc, gh_snoc, ints_nil, ints_app, ints_one, ints_cons, u64s_nil, u64s_app, u64s_one, ints_set, u64s_set, ints_len, u64s_len, List.nil_append, List.length_append, List.length_cons, List.length_nil]; done) | (subst hF hVi hVu hVg hVh hVl; (try subst o_chkT); (try subst o_emptyS); (try subst o_goneUp); (try subst o_trimS); simp only [fns, arI, cmI]; rw [IntWalk.i64_in _ (by simp; omega)]; simp +contextual [renT, renH, renB, renF, renDf, injH, pie, lk, D.ren, D.renL, D.lt, D.ltL, lt_gv, ren_gv, lk_gh, renH_gh, mem_gh, injH_gh, injK, injK_gh, lenD, gv_one, gh_one, subL_one, gv_nil, gh_nil, gv_snoc, gh_snoc, ints_nil, ints_app, ints_one, ints_cons, u64s_nil, u64s_app, u64s_one, ints_set, u64s_set, ints_len, u64s_len, List.nil_append, List.length_append, List.length_cons, List.length_nil]; done) | (subst hF hVi hVu hVg hVh hVl; (try subst o_chkT); (try subst o_emptyS); (try subst o_goneUp); (try subst o_trimS); simp +contextual [fns, arI, cmI, renT, renH, renB, renF, renDf, injH, pie, lk, D.ren, D.renL, D.lt, D.ltL, lt_gv, ren_gv, lk_gh, renH_gh, mem_gh, injH_gh, injK, injK_gh, lenD, gv_one, gh_one, subL_one, gv_nil, gh_nil, gv_snoc, gh_snoc, ints_nil, ints_app, ints_one, ints_cons, u64s_nil, u64s_app, u64s_one, ints_set, u64s_set, ints_len, u64s_len, List.nil_append, List.length_append, List.length_cons, List.length_nil])) (by first | (simp +contextual [renT, renH, renB, renF, renDf, injH, pie, lk, D.ren, D.renL, D.lt, D.ltL, lt_gv, ren_gv, lk_gh, renH_gh, mem_gh, injH_gh, injK, injK_gh, lenD, gv_one, gh_one, subL_one, gv_nil, gh_nil, gv_snoc, gh_snoc, ints_nil, ints_app, ints_one, ints_cons, u64s_nil, u64s_app, u64s_one, ints_set, u64s_set, ints_len, u64s_len, List.nil_append, List.length_append, List.length_cons, List.length_nil]; done) | (subst hF hVi hVu hVg hVh hVl; (try subst o_chkT); (try subst o_emptyS); (try subst o_goneUp); (try subst o_trimS); simp +contextual [fns, renT, renH, renB, renF, renDf, injH, pie, lk, D.ren, D.renL, D.lt, D.ltL, lt_gv, ren_gv, lk_gh, renH_gh, mem_gh, injH_gh, injK, injK_gh, lenD, gv_one, gh_one, subL_one, gv_nil, gh_nil, gv_snoc, gh_snoc, ints_nil, ints_app, ints_one, ints_cons, u64s_nil, u64s_app, u64s_one, ints_set, u64s_set, ints_len, u64s_len, List.nil_append, List.length_append, List.length_cons, List.length_nil])) (by simp +contextual [renT, renH, renB, renF, renDf, injH, pie, lk, D.ren, D.renL, D.lt, D.ltL, lt_gv, ren_gv, lk_gh, renH_gh, mem_gh, injH_gh, injK, injK_gh, lenD, gv_one, gh_one, subL_one, gv_nil, gh_nil, gv_snoc, gh_snoc, ints_nil, ints_app, ints_one, ints_cons, u64s_nil, u64s_app, u64s_one, ints_set, u64s_set, ints_len, u64s_len, List.nil_append, List.length_append, List.length_cons, List.length_nil]) rfl (by simp [renF, renT, lk, D.ren, D.renL, D.lt, D.ltL]) (by simp [renDf]))⟩ <;> (skip; (try subst o_chkT); (try subst o_emptyS); (try subst o_goneUp); (try subst o_trimS))
          exact upd ⟨h6, rfl⟩
    · refine ⟨(k + 1, cur, acc), ?_, by first | omega | (simp; omega) | (simp only; omega), wk_of hF (weakR (pie []) (by first | (simp +contextual [renT, renH, renB, renF, renDf, injH, pie, lk, D.ren, D.renL, D.lt, D.ltL, lt_gv, ren_gv, lk_gh, renH_gh, mem_gh, injH_gh, injK, injK_gh, lenD, gv_one, gh_one, subL_one, gv_nil, gh_nil, gv_snoc, gh_snoc, ints_nil, ints_app, ints_one, ints_cons, u64s_nil, u64s_app, u64s_one, ints_set, u64s_set, ints_len, u64s_len, List.nil_append, List.length_append, List.length_cons, List.length_nil]; done) | (subst hF hVi hVu hVg hVh hVl; (try subst o_chkT); (try subst o_emptyS); (try subst o_goneUp); (try subst o_trimS); simp only [fns, arI, cmI]; rw [IntWalk.i64_in _ (by simp; omega)]; simp +contextual [renT, renH, renB, renF, renDf, injH, pie, lk, D.ren, D.renL, D.lt, D.ltL, lt_gv, ren_gv, lk_gh, renH_gh, mem_gh, injH_gh, injK, injK_gh, lenD, gv_one, gh_one, subL_one, gv_nil, gh_nil, gv_snoc, gh_snoc, ints_nil, ints_app, ints_one, ints_cons, u64s_nil, u64s_app, u64s_one, ints_set, u64s_set, ints_len, u64s_len, List.nil_append, List.length_append, List.length_cons, List.length_nil]; done) | (subst hF hVi hVu hVg hVh hVl; (try subst o_chkT); (try subst o_emptyS); (try subst o_goneUp); (try subst o_trimS); simp +contextual [fns, arI, cmI, renT, renH, renB, renF, renDf, injH, pie, lk, D.ren, D.renL, D.lt, D.ltL, lt_gv, ren_gv, lk_gh, renH_gh, mem_gh, injH_gh, injK, injK_gh, lenD, gv_one, gh_one, subL_one, gv_nil, gh_nil, gv_snoc, gh_snoc, ints_nil, ints_app, ints_one, ints_cons, u64s_nil, u64s_app, u64s_one, ints_set, u64s_set, ints_len, u64s_len, List.nil_append, List.length_append, List.length_cons, List.length_nil])) (by first | (simp +contextual [renT, renH, renB, renF, renDf, injH, pie, lk, D.ren, D.renL, D.lt, D.ltL, lt_gv, ren_gv, lk_gh, renH_gh, mem_gh, injH_gh, injK, injK_gh, lenD, gv_one, gh_one, subL_one, gv_nil, gh_nil, gv_snoc, gh_snoc, ints_nil, ints_app, ints_one, ints_cons, u64s_nil, u64s_app, u64s_one, ints_set, u64s_set, ints_len, u64s_len, List.nil_append, List.length_append, List.length_cons, List.length_nil]; done) | (subst hF hVi hVu hVg hVh hVl; (try subst o_chkT); (try subst o_emptyS); (try subst o_goneUp); (try subst o_trimS); simp +contextual [fns, renT, renH, renB, renF, renDf, injH, pie, lk, D.ren, D.renL, D.lt, D.ltL, lt_gv, ren_gv, lk_gh, renH_gh, mem_gh, injH_gh, injK, injK_gh, lenD, gv_one, gh_one, subL_one, gv_nil, gh_nil, gv_snoc, gh_snoc, ints_nil, ints_app, ints_one, ints_cons, u64s_nil, u64s_app, u64s_one, ints_set, u64s_set, ints_len, u64s_len, List.nil_append, List.length_append, List.length_cons, List.length_nil])) (by simp +contextual [renT, renH, renB, renF, renDf, injH, pie, lk, D.ren, D.renL, D.lt, D.ltL, lt_gv, ren_gv, lk_gh, renH_gh, mem_gh, injH_gh, injK, injK_gh, lenD, gv_one, gh_one, subL_one, gv_nil, gh_nil, gv_snoc, gh_snoc, ints_nil, ints_app, ints_one, ints_cons, u64s_nil, u64s_app, u64s_one, ints_set, u64s_set, ints_len, u64s_len, List.nil_append, List.length_append, List.length_cons, List.length_nil]) rfl (by simp [renF, renT, lk, D.ren, D.renL, D.lt, D.ltL]) (by simp [renDf]))⟩ <;> (skip; (try subst o_chkT); (try subst o_emptyS); (try subst o_goneUp); (try subst o_trimS))
      exact keep (by omega)
  · have hk8 : k = 8 := by simp at h5; omega
    have hcur : cur = trimA L E := by rw [hk2, mix_len (by rw [trimA_len]; omega) (by omega)]
    rw [hk8] at hk3
    rcases Classical.em (acc = []) with ha | ha
    · rw [ha] at hk3 ⊢
      simp only [gv_nil, gh_nil, ints_nil]
      ((try rewrite [← hVi]); (try rewrite [← hVu]); (try rewrite [← hVg]); (try rewrite [← hVh]); (try rewrite [← o_chkT]); (try rewrite [← o_emptyS]); (try rewrite [← o_goneUp]); (try rewrite [← o_trimS]); conv => cbv)
      subst hF hVi hVu hVg hVh hVl; (try subst o_chkT); (try subst o_emptyS); (try subst o_goneUp); (try subst o_trimS); subst hd
      simp only [fns]
      refine ⟨by simp [inRows, inRowsL, lk, lenD, ints_len, u64s_len, hcl, g5], ?_⟩
      rw [← hP, ← hcur, ← hk3]
      simp [trimD, tblD, reify, reifyL, lk, subL, lenD, ints_len, u64s_len, hcl, g5, ints]
    · simp only [gv_ne (ints_ne ha), gh_ne (ints_ne ha)]
      ((try rewrite [← hVi]); (try rewrite [← hVu]); (try rewrite [← hVg]); (try rewrite [← hVh]); (try rewrite [← o_chkT]); (try rewrite [← o_emptyS]); (try rewrite [← o_goneUp]); (try rewrite [← o_trimS]); conv => cbv)
      subst hF hVi hVu hVg hVh hVl; (try subst o_chkT); (try subst o_emptyS); (try subst o_goneUp); (try subst o_trimS); subst hd
      simp only [fns]
      refine ⟨by simp [inRows, inRowsL, lk, lenD, ints_len, u64s_len, hcl, g5], ?_⟩
      rw [← hP, ← hcur, ← hk3]
      simp [trimD, tblD, reify, reifyL, lk, subL, lenD, ints_len, u64s_len, hcl, g5]
end Go.Proofs.YtppmomobjjpljaaDoor.E
end

/- Part B5. -/
section
/- Contracts: an entry is cleared (reference). -/
namespace Go.Proofs.YtppmomobjjpljaaDoor.E
open Go Go.RowKit
set_option linter.unusedVariables false
set_option linter.unusedSimpArgs false
set_option maxRecDepth 100000
def clearS (r : Int) (L E : List Int) (p : Int) : TE × Int :=
  if asksS r L E p ≠ 0 then (teZ (asksS r L E p), 0) else if (unpackS (E.getD p.toNat 0)).1.k = 0 then (teZ 6, 0)
  else if emptyS (E.set p.toNat 0) (p.toNat / 8) = true then (⟨r, L.set (p.toNat / 8) (-1), E.set p.toNat 0, 0⟩, L.getD (p.toNat / 8) 0) else (⟨r, L, E.set p.toNat 0, 0⟩, -1)
def clearD (x : TE × Int) : D := .tup [tblD x.1.r x.1.L x.1.E, .int .i64 x.2, .int .i64 x.1.f]
theorem wordsOk_set {E : List Int} (h : wordsOk E) (k : Nat) {x : Int} (hx : 0 ≤ x ∧ x < 18446744073709551616) : wordsOk (E.set k x) := fun w hw => by
  rcases List.mem_or_eq_of_mem_set hw with h1 | h1
  · exact h w h1
  · rw [h1]; exact hx
theorem rclear_c (r : Int) (L E : List Int) (p : Int) (hL : L.length < 100) (hE : E.length < 100) (hw : wordsOk E) : Contract Tryd.prog G0 39 [tblD r L E, .int .i64 p] (clearD (clearS r L E p)) [] := by
  refine fun0 tys_ok mixed (n := 51) (rs := [.cell 4 25, .tmp 5, .tmp 6]) ⟨Tryd.func39, by kernel_rfl, rfl⟩ rfl rfl (by simp) fun F d0 hF hd => ?_
  obtain ⟨ints, u64s, gv, gh, lenF, hVi, hVu, hVg, hVh, hVl, lenD, ints_len, u64s_len, ints_cells, u64s_cells, ints_at, u64s_at, gv_nil, gh_nil, gv_ne, gh_ne, gv_snoc, gh_snoc, gv_one, gh_one, lt_gv, ren_gv, lk_gh, renH_gh, mem_gh, injK_gh, injH_gh, ints_nil, ints_app, ints_one, ints_cons, ints_ne, u64s_nil, u64s_app, u64s_one, u64s_ne, ints_set, u64s_set⟩ := vocab
  obtain ⟨f_chkT, o_chkT⟩ : ∃ f, f = chkT := ⟨_, rfl⟩
  obtain ⟨f_asksS, o_asksS⟩ : ∃ f, f = asksS := ⟨_, rfl⟩
  obtain ⟨f_getS, o_getS⟩ : ∃ f, f = getS := ⟨_, rfl⟩
  obtain ⟨f_emptyS, o_emptyS⟩ : ∃ f, f = emptyS := ⟨_, rfl⟩
  obtain ⟨f_clearS, o_clearS⟩ : ∃ f, f = clearS := ⟨_, rfl⟩
  have c1 := rget_c r L E p hL hE hw
  unfold tblD at *
  generalize hP : clearS r L E p = X at hd
  rw [clearS] at hP
  generalize hG : getS r L E p = Y at c1
  rw [getS] at hG
  obtain ⟨⟨ek, en, ew, ec, er⟩, ef⟩ := Y
  unfold En.d at c1
  generalize hS : asksS r L E p = S at hP hG
  ((try rewrite [← hVi]); (try rewrite [← hVu]); (try rewrite [← hVg]); (try rewrite [← hVh]); (try rewrite [← o_chkT]); (try rewrite [← o_asksS]); (try rewrite [← o_getS]); (try rewrite [← o_emptyS]); (try rewrite [← o_clearS]); conv => cbv)
  refine .inl ⟨_, _, by subst hF hVi hVu hVg hVh hVl; (try subst o_chkT); (try subst o_asksS); (try subst o_getS); (try subst o_emptyS); (try subst o_clearS); exact c1, by subst hF hVi hVu hVg hVh hVl; (try subst o_chkT); (try subst o_asksS); (try subst o_getS); (try subst o_emptyS); (try subst o_clearS); exact ⟨by simp [inRowsL, inRows, lk], by first | exact .inl rfl | exact .inr ⟨rfl, fun B h => nomatch h⟩⟩, ?_⟩ <;> ((try rewrite [← hVi]); (try rewrite [← hVu]); (try rewrite [← hVg]); (try rewrite [← hVh]); (try rewrite [← o_chkT]); (try rewrite [← o_asksS]); (try rewrite [← o_getS]); (try rewrite [← o_emptyS]); (try rewrite [← o_clearS]); conv => cbv)
  by_cases h0 : S = 0
  · rw [if_neg (by simpa using h0)] at hP hG
    rw [h0] at hS
    obtain ⟨h1, h2, h3⟩ := asksS_ok hS
    obtain ⟨g4, g5⟩ := chkT_len h1
    rw [hG] at hP
    obtain ⟨n, hn⟩ := Int.eq_ofNat_of_zero_le h2
    have hn' : p.toNat = n := by omega
    rw [hn'] at hP hG
    have hef : ef = 0 := by
      have := chkT_words h1 n (by omega)
      rw [hG] at this
      exact this
    subst hef
    split <;> rename_i q1 <;> (try rw [q1]) <;> (((try rewrite [← hVi]); (try rewrite [← hVu]); (try rewrite [← hVg]); (try rewrite [← hVh]); (try rewrite [← o_chkT]); (try rewrite [← o_asksS]); (try rewrite [← o_getS]); (try rewrite [← o_emptyS]); (try rewrite [← o_clearS]); conv => cbv)) <;> (try simp only [hF, fns, cmI, decide_eq_true_eq, decide_eq_false_iff_not, beq_iff_eq, bne_iff_ne, beq_eq_false_iff_ne, bne_eq_false_iff_eq, ne_eq, Int.not_lt, Int.not_le, Classical.not_not, ge_iff_le, gt_iff_lt, Bool.not_eq_true] at q1)
    rotate_left
    · simp at q1
    split <;> rename_i q2 <;> (try rw [q2]) <;> (((try rewrite [← hVi]); (try rewrite [← hVu]); (try rewrite [← hVg]); (try rewrite [← hVh]); (try rewrite [← o_chkT]); (try rewrite [← o_asksS]); (try rewrite [← o_getS]); (try rewrite [← o_emptyS]); (try rewrite [← o_clearS]); conv => cbv)) <;> (try simp only [hF, fns, cmI, decide_eq_true_eq, decide_eq_false_iff_not, beq_iff_eq, bne_iff_ne, beq_eq_false_iff_ne, bne_eq_false_iff_eq, ne_eq, Int.not_lt, Int.not_le, Classical.not_not, ge_iff_le, gt_iff_lt, Bool.not_eq_true] at q2)
    · split <;> rename_i q3 <;> (try rw [q3]) <;> (((try rewrite [← hVi]); (try rewrite [← hVu]); (try rewrite [← hVg]); (try rewrite [← hVh]); (try rewrite [← o_chkT]); (try rewrite [← o_asksS]); (try rewrite [← o_getS]); (try rewrite [← o_emptyS]); (try rewrite [← o_clearS]); conv => cbv)) <;> (try simp only [hF, fns, cmI, decide_eq_true_eq, decide_eq_false_iff_not, beq_iff_eq, bne_iff_ne, beq_eq_false_iff_ne, bne_eq_false_iff_eq, ne_eq, Int.not_lt, Int.not_le, Classical.not_not, ge_iff_le, gt_iff_lt, Bool.not_eq_true] at q3)
      rotate_left
      · simp at q3
      · subst hF hVi hVu hVg hVh hVl; (try subst o_chkT); (try subst o_asksS); (try subst o_getS); (try subst o_emptyS); (try subst o_clearS); subst hd
        simp only [fns]
        refine ⟨by simp [inRows, inRowsL, lk, lenD], ?_⟩
        rw [if_pos q2] at hP
        rw [← hP]
        simp [reify, reifyL, clearD, teZ, tblD, ints, u64s]
    rw [if_neg q2] at hP
    split <;> rename_i q3 <;> (try rw [q3]) <;> (((try rewrite [← hVi]); (try rewrite [← hVu]); (try rewrite [← hVg]); (try rewrite [← hVh]); (try rewrite [← o_chkT]); (try rewrite [← o_asksS]); (try rewrite [← o_getS]); (try rewrite [← o_emptyS]); (try rewrite [← o_clearS]); conv => cbv)) <;> (try simp only [hF, fns, cmI, decide_eq_true_eq, decide_eq_false_iff_not, beq_iff_eq, bne_iff_ne, beq_eq_false_iff_ne, bne_eq_false_iff_eq, ne_eq, Int.not_lt, Int.not_le, Classical.not_not, ge_iff_le, gt_iff_lt, Bool.not_eq_true] at q3)
    · simp at q3
    have c2 := rown_c r L E hL hE (by intro h; rw [h] at g4; cases g4) (by intro h; rw [h] at g5; cases g5)
    unfold tblD tblOwn tblExt at c2
    rw [g4, g5] at c2
    refine .inl ⟨_, _, by subst hF hVi hVu hVg hVh hVl; (try subst o_chkT); (try subst o_asksS); (try subst o_getS); (try subst o_emptyS); (try subst o_clearS); exact c2, by subst hF hVi hVu hVg hVh hVl; (try subst o_chkT); (try subst o_asksS); (try subst o_getS); (try subst o_emptyS); (try subst o_clearS); exact ⟨by simp [inRowsL, inRows, lk], by first | exact .inl rfl | exact .inr ⟨rfl, fun B h => nomatch h⟩⟩, ?_⟩ <;> ((try rewrite [← hVi]); (try rewrite [← hVu]); (try rewrite [← hVg]); (try rewrite [← hVh]); (try rewrite [← o_chkT]); (try rewrite [← o_asksS]); (try rewrite [← o_getS]); (try rewrite [← o_emptyS]); (try rewrite [← o_clearS]); conv => cbv)
    have hl1 := ints_len L
    have hl2 := u64s_len E
    obtain ⟨E2, hE2⟩ : ∃ E2, E2 = E.set n 0 := ⟨_, rfl⟩
    have hst : (u64s E).set n (.int .u64 0) = u64s E2 := by rw [hE2]; exact u64s_set E n 0
    have hl3 : (u64s E2).length = 64 := by rw [u64s_len, hE2]; simp [g5]
    obtain ⟨L2, hL2⟩ : ∃ L2, L2 = L.set (n / 8) (-1) := ⟨_, rfl⟩
    have hst2 : (ints L).set (n / 8) (.int .i64 (-1)) = ints L2 := by rw [hL2]; exact ints_set L _ _
    have hl4 : (ints L2).length = 8 := by rw [ints_len, hL2]; simp [g4]
    obtain ⟨q, hq0⟩ : ∃ q : Nat, q = n / 8 := ⟨_, rfl⟩
    have hq : F.ar .quo .i64 p 8 = (q : Int) := by
      subst hF hVi hVu hVg hVh hVl; (try subst o_chkT); (try subst o_asksS); (try subst o_getS); (try subst o_emptyS); (try subst o_clearS)
      show IntKind.i64.wrap (p.tdiv 8) = _
      rw [IntWalk.i64_quo _ _ (by omega)]
      omega
    have c3 := rempty_c r L E2 q (by omega) (by rw [hE2]; simp [g5]) (by rw [hE2]; exact wordsOk_set hw n (by omega))
    unfold tblD at c3
    obtain ⟨y, hy⟩ : ∃ y, L[q]? = some y := ⟨_, List.getElem?_eq_getElem (by omega)⟩
    rw [← hq0, List.getD_eq_getElem?_getD, hy, Option.getD_some, ← hE2] at hP
    rw [← hq0] at hL2 hst2
    rw [← hL2] at hP
    generalize emptyS E2 q = b at c3 hP
    have e1 : F.sub (ints L) 0 8 = ints L := by subst hF hVi hVu hVg hVh hVl; (try subst o_chkT); (try subst o_asksS); (try subst o_getS); (try subst o_emptyS); (try subst o_clearS); simp [fns, subL, hl1, g4]
    have e2 : F.lset (u64s E) (F.ix 0 p) (.int .u64 0) = u64s E2 := by subst hF hVi hVu hVg hVh hVl; (try subst o_chkT); (try subst o_asksS); (try subst o_getS); (try subst o_emptyS); (try subst o_clearS); simp only [fns]; rw [← hst, ← hn']; simp
    have e3 : F.sub (u64s E2) 0 64 = u64s E2 := by subst hF hVi hVu hVg hVh hVl; (try subst o_chkT); (try subst o_asksS); (try subst o_getS); (try subst o_emptyS); (try subst o_clearS); simp [fns, subL, hl3]
    have e4 : F.lset (ints L) (F.ix 0 q) (.int .i64 (-1)) = ints L2 := by subst hF hVi hVu hVg hVh hVl; (try subst o_chkT); (try subst o_asksS); (try subst o_getS); (try subst o_emptyS); (try subst o_clearS); simp only [fns]; rw [← hst2]; simp
    (conv at e1 => lhs; cbv) <;> (conv at e2 => lhs; cbv) <;> (conv at e3 => lhs; cbv) <;> (conv at e4 => lhs; cbv) <;> (conv at hq => lhs; cbv)
    refine ⟨by subst hF hVi hVu hVg hVh hVl; (try subst o_chkT); (try subst o_asksS); (try subst o_getS); (try subst o_emptyS); (try subst o_clearS); exact ⟨h2, h3⟩, by subst hF hVi hVu hVg hVh hVl; (try subst o_chkT); (try subst o_asksS); (try subst o_getS); (try subst o_emptyS); (try subst o_clearS); simp [fns, hl2, hn]; omega, ?_⟩
    ((try rewrite [← hVi]); (try rewrite [← hVu]); (try rewrite [← hVg]); (try rewrite [← hVh]); (try rewrite [← o_chkT]); (try rewrite [← o_asksS]); (try rewrite [← o_getS]); (try rewrite [← o_emptyS]); (try rewrite [← o_clearS]); conv => cbv)
    refine ⟨by subst hF hVi hVu hVg hVh hVl; (try subst o_chkT); (try subst o_asksS); (try subst o_getS); (try subst o_emptyS); (try subst o_clearS); simp [fns], ?_⟩
    rw [e2]
    ((try rewrite [← hVi]); (try rewrite [← hVu]); (try rewrite [← hVg]); (try rewrite [← hVh]); (try rewrite [← o_chkT]); (try rewrite [← o_asksS]); (try rewrite [← o_getS]); (try rewrite [← o_emptyS]); (try rewrite [← o_clearS]); conv => cbv)
    rw [e1, e3, hq]
    refine .inl ⟨_, _, by subst hF hVi hVu hVg hVh hVl; (try subst o_chkT); (try subst o_asksS); (try subst o_getS); (try subst o_emptyS); (try subst o_clearS); exact c3, by subst hF hVi hVu hVg hVh hVl; (try subst o_chkT); (try subst o_asksS); (try subst o_getS); (try subst o_emptyS); (try subst o_clearS); exact ⟨by simp [inRowsL, inRows, lk, hl1, hl3, g4], .inr ⟨rfl, fun B h => nomatch h⟩⟩, ?_⟩
    cases b
    · ((try rewrite [← hVi]); (try rewrite [← hVu]); (try rewrite [← hVg]); (try rewrite [← hVh]); (try rewrite [← o_chkT]); (try rewrite [← o_asksS]); (try rewrite [← o_getS]); (try rewrite [← o_emptyS]); (try rewrite [← o_clearS]); conv => cbv)
      subst hF hVi hVu hVg hVh hVl; (try subst o_chkT); (try subst o_asksS); (try subst o_getS); (try subst o_emptyS); (try subst o_clearS); subst hd
      simp only [fns]
      refine ⟨by simp [inRows, inRowsL, lk, hl1, hl3, g4], ?_⟩
      rw [← hP]
      simp [clearD, tblD, reify, reifyL, lk, subL, hl1, hl3, g4]
    · ((try rewrite [← hVi]); (try rewrite [← hVu]); (try rewrite [← hVg]); (try rewrite [← hVh]); (try rewrite [← o_chkT]); (try rewrite [← o_asksS]); (try rewrite [← o_getS]); (try rewrite [← o_emptyS]); (try rewrite [← o_clearS]); conv => cbv)
      refine ⟨by subst hF hVi hVu hVg hVh hVl; (try subst o_chkT); (try subst o_asksS); (try subst o_getS); (try subst o_emptyS); (try subst o_clearS); exact ⟨by simp, by simp; omega⟩, by subst hF hVi hVu hVg hVh hVl; (try subst o_chkT); (try subst o_asksS); (try subst o_getS); (try subst o_emptyS); (try subst o_clearS); simp [fns, hl1]; omega, ?_⟩
      rw [e4]
      ((try rewrite [← hVi]); (try rewrite [← hVu]); (try rewrite [← hVg]); (try rewrite [← hVh]); (try rewrite [← o_chkT]); (try rewrite [← o_asksS]); (try rewrite [← o_getS]); (try rewrite [← o_emptyS]); (try rewrite [← o_clearS]); conv => cbv)
      have hpr : F.pr fun _ => 0 ≤ Int.ofNat q := by subst hF hVi hVu hVg hVh hVl; (try subst o_chkT); (try subst o_asksS); (try subst o_getS); (try subst o_emptyS); (try subst o_clearS); simp [fns]
      repeat' (first | exact trivial | exact hpr | apply And.intro | (refine ⟨.int .i64 y, ints_at _ _ _ hy, rfl, ?_⟩; ((try rewrite [← hVi]); (try rewrite [← hVu]); (try rewrite [← hVg]); (try rewrite [← hVh]); (try rewrite [← o_chkT]); (try rewrite [← o_asksS]); (try rewrite [← o_getS]); (try rewrite [← o_emptyS]); (try rewrite [← o_clearS]); conv => cbv)))
      all_goals
        subst hF hVi hVu hVg hVh hVl; (try subst o_chkT); (try subst o_asksS); (try subst o_getS); (try subst o_emptyS); (try subst o_clearS); subst hd
        simp only [fns]
        refine ⟨by simp [inRows, inRowsL, lk, hl4, hl3], ?_⟩
        rw [← hP]
        try simp [clearD, tblD, reify, reifyL, lk, subL, hl4, hl3]
  · rw [if_pos h0] at hP hG
    cases hG
    simp only [enZ] at c1
    split <;> rename_i q1 <;> (try rw [q1]) <;> (((try rewrite [← hVi]); (try rewrite [← hVu]); (try rewrite [← hVg]); (try rewrite [← hVh]); (try rewrite [← o_chkT]); (try rewrite [← o_asksS]); (try rewrite [← o_getS]); (try rewrite [← o_emptyS]); (try rewrite [← o_clearS]); conv => cbv)) <;> (try simp only [hF, fns, cmI, decide_eq_true_eq, decide_eq_false_iff_not, beq_iff_eq, bne_iff_ne, beq_eq_false_iff_ne, bne_eq_false_iff_eq, ne_eq, Int.not_lt, Int.not_le, Classical.not_not, ge_iff_le, gt_iff_lt, Bool.not_eq_true] at q1)
    · exact absurd q1 h0
    split <;> rename_i q2 <;> (try rw [q2]) <;> (((try rewrite [← hVi]); (try rewrite [← hVu]); (try rewrite [← hVg]); (try rewrite [← hVh]); (try rewrite [← o_chkT]); (try rewrite [← o_asksS]); (try rewrite [← o_getS]); (try rewrite [← o_emptyS]); (try rewrite [← o_clearS]); conv => cbv)) <;> (try simp only [hF, fns, cmI, decide_eq_true_eq, decide_eq_false_iff_not, beq_iff_eq, bne_iff_ne, beq_eq_false_iff_ne, bne_eq_false_iff_eq, ne_eq, Int.not_lt, Int.not_le, Classical.not_not, ge_iff_le, gt_iff_lt, Bool.not_eq_true] at q2)
    rotate_left
    · exact absurd q2 h0
    subst hF hVi hVu hVg hVh hVl; (try subst o_chkT); (try subst o_asksS); (try subst o_getS); (try subst o_emptyS); (try subst o_clearS); subst hd
    simp only [fns]
    refine ⟨by simp [inRows, inRowsL, lk], ?_⟩
    rw [← hP]
    simp [reify, reifyL, clearD, teZ, tblD, ints, u64s]
end Go.Proofs.YtppmomobjjpljaaDoor.E
end
