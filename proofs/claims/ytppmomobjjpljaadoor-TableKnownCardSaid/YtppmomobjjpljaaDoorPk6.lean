/- Own texts of the claims of this seat, one behind the other: C3, C4, C5, C6: what a call comes to, and contracts of functions. -/
import Derived.Test.YtppmomobjjpljaaDoorPk5
/- Part C3. -/
section
/- Contracts: tables are checked and looked at (program). -/
namespace Go.Proofs.YtppmomobjjpljaaDoor.E
open Go Go.RowKit
set_option linter.unusedVariables false
set_option linter.unusedSimpArgs false
set_option maxRecDepth 100000
theorem frmS_rng {r : Int} {L : List Int} (h : frmS r L = 0) : ∀ x, x ∈ L → -1 ≤ x ∧ x < 256 := by
  rw [frmS] at h
  split at h
  · omega
  · exact (rngE_zero.1 h).1
theorem pchk_c (r : Int) (L E : List Int) (hL : L.length < 100) (hE : E.length < 100) (hw : wordsOk E) : Contract Tryd.prog G0 15 [tblD r L E] (.int .i64 (chkT r L E)) [] := by
  refine fun0 tys_ok mixed (n := 52) (rs := [.tmp 2]) ⟨Tryd.func15, by kernel_rfl, rfl⟩ rfl rfl (by simp) fun F d0 hF hd => ?_
  obtain ⟨ints, u64s, gv, gh, lenF, hVi, hVu, hVg, hVh, hVl, lenD, ints_len, u64s_len, ints_cells, u64s_cells, ints_at, u64s_at, gv_nil, gh_nil, gv_ne, gh_ne, gv_snoc, gh_snoc, gv_one, gh_one, lt_gv, ren_gv, lk_gh, renH_gh, mem_gh, injK_gh, injH_gh, ints_nil, ints_app, ints_one, ints_cons, ints_ne, u64s_nil, u64s_app, u64s_one, u64s_ne, ints_set, u64s_set⟩ := vocab
  obtain ⟨f_chkT, o_chkT⟩ : ∃ f, f = chkT := ⟨_, rfl⟩
  obtain ⟨f_frmS, o_frmS⟩ : ∃ f, f = frmS := ⟨_, rfl⟩
  generalize hs : chkT r L E = S at hd
  have hl1 := ints_len L
  have hl2 := u64s_len E
  have c1 := fun h => frames_c r L E h
  unfold tblD at *
  ((try rewrite [← hVi]); (try rewrite [← hVu]); (try rewrite [← hVg]); (try rewrite [← hVh]); (try rewrite [← o_chkT]); (try rewrite [← o_frmS]); conv => cbv)
  have out3 : (L.length ≠ 8 ∨ E.length ≠ 64) → S = 3 := fun h => by rw [← hs, chkT, if_pos h]
  split <;> rename_i h1 <;> (try rw [h1]) <;> (((try rewrite [← hVi]); (try rewrite [← hVu]); (try rewrite [← hVg]); (try rewrite [← hVh]); (try rewrite [← o_chkT]); (try rewrite [← o_frmS]); conv => cbv)) <;> (try simp only [hF, fns, cmI, decide_eq_true_eq, decide_eq_false_iff_not, beq_iff_eq, bne_iff_ne, beq_eq_false_iff_ne, bne_eq_false_iff_eq, ne_eq, Int.not_lt, Int.not_le, Classical.not_not, ge_iff_le, gt_iff_lt, Bool.not_eq_true] at h1)
  · subst hF hVi hVu hVg hVh hVl; (try subst o_chkT); (try subst o_frmS); subst hd
    simp only [fns]
    refine ⟨by simp [inRows, inRowsL, lk, lenD], ?_⟩
    simp [hl1] at h1
    rw [out3 (.inl (by omega))]
    simp [reify]
  split <;> rename_i h2 <;> (try rw [h2]) <;> (((try rewrite [← hVi]); (try rewrite [← hVu]); (try rewrite [← hVg]); (try rewrite [← hVh]); (try rewrite [← o_chkT]); (try rewrite [← o_frmS]); conv => cbv)) <;> (try simp only [hF, fns, cmI, decide_eq_true_eq, decide_eq_false_iff_not, beq_iff_eq, bne_iff_ne, beq_eq_false_iff_ne, bne_eq_false_iff_eq, ne_eq, Int.not_lt, Int.not_le, Classical.not_not, ge_iff_le, gt_iff_lt, Bool.not_eq_true] at h2)
  · subst hF hVi hVu hVg hVh hVl; (try subst o_chkT); (try subst o_frmS); subst hd
    simp only [fns]
    refine ⟨by simp [inRows, inRowsL, lk, lenD], ?_⟩
    simp [hl2] at h2
    rw [out3 (.inr (by omega))]
    simp [reify]
  have g4 : L.length = 8 := by simp [hl1] at h1; omega
  have g5 : E.length = 64 := by simp [hl2] at h2; omega
  have c2 := c1 g4
  rw [frmS_chk g4 g5] at hs
  have hrg : frmS r L = 0 → ∀ x, x ∈ L → -1 ≤ x ∧ x < 256 := frmS_rng
  generalize frmS r L = f at c2 hs hrg
  refine .inl ⟨_, _, by subst hF hVi hVu hVg hVh hVl; (try subst o_chkT); (try subst o_frmS); exact c2, by subst hF hVi hVu hVg hVh hVl; (try subst o_chkT); (try subst o_frmS); exact ⟨by simp [inRowsL, inRows, lk], by first | exact .inl rfl | exact .inr ⟨rfl, fun B h => nomatch h⟩⟩, ?_⟩ <;> ((try rewrite [← hVi]); (try rewrite [← hVu]); (try rewrite [← hVg]); (try rewrite [← hVh]); (try rewrite [← o_chkT]); (try rewrite [← o_frmS]); conv => cbv)
  split <;> rename_i h3 <;> (try rw [h3]) <;> (((try rewrite [← hVi]); (try rewrite [← hVu]); (try rewrite [← hVg]); (try rewrite [← hVh]); (try rewrite [← o_chkT]); (try rewrite [← o_frmS]); conv => cbv)) <;> (try simp only [hF, fns, cmI, decide_eq_true_eq, decide_eq_false_iff_not, beq_iff_eq, bne_iff_ne, beq_eq_false_iff_ne, bne_eq_false_iff_eq, ne_eq, Int.not_lt, Int.not_le, Classical.not_not, ge_iff_le, gt_iff_lt, Bool.not_eq_true] at h3)
  · subst hF hVi hVu hVg hVh hVl; (try subst o_chkT); (try subst o_frmS); subst hd
    simp only [fns]
    refine ⟨by simp [inRows, inRowsL, lk, lenD], ?_⟩
    rw [if_pos h3] at hs
    simp [reify, hs]
  subst h3
  rw [if_neg (by simp)] at hs
  refine loop_inv hF ((Nat)) (fun st_ => st_ ≤ 64 ∧ S = wrdE L st_ (E.drop st_)) (fun st_ => { tm := [(1, .ptr 0 3 0 0), (24, .ro (u64s E)), (25, .int .i64 64), (26, .int .i64 st_)], hp := [(0, ⟨3, 25, [.agg [.int .i64 r, .ro (ints L), .ro (u64s E)]], true, true⟩)], nx := 1, nt := 52, fr := [], df := [] }) (fun st_ => 64 - st_) ⟨0, by exact ⟨by simp, hs.symm⟩, wk_of hF (weakR (pie []) (by first | (simp +contextual [renT, renH, renB, renF, renDf, injH, pie, lk, D.ren, D.renL, D.lt, D.ltL, lt_gv, ren_gv, lk_gh, renH_gh, mem_gh, injH_gh, injK, injK_gh, lenD, gv_one, gh_one, subL_one, gv_nil, gh_nil, gv_snoc, gh_snoc, ints_nil, ints_app, ints_one, ints_cons, u64s_nil, u64s_app, u64s_one, ints_set, u64s_set, ints_len, u64s_len, List.nil_append, List.length_append, List.length_cons, List.length_nil, g5]; done) | (subst hF hVi hVu hVg hVh hVl; (try subst o_chkT); (try subst o_frmS); simp only [fns, arI, cmI]; rw [IntWalk.i64_in _ (by simp; omega)]; simp +contextual [renT, renH, renB, renF, renDf, injH, pie, lk, D.ren, D.renL, D.lt, D.ltL, lt_gv, ren_gv, lk_gh, renH_gh, mem_gh, injH_gh, injK, injK_gh, lenD, gv_one, gh_one, subL_one, gv_nil, gh_nil, gv_snoc, gh_snoc, ints_nil, ints_app, ints_one, ints_cons, u64s_nil, u64s_app, u64s_one, ints_set, u64s_set, ints_len, u64s_len, List.nil_append, List.length_append, List.length_cons, List.length_nil, g5]; done) | (subst hF hVi hVu hVg hVh hVl; (try subst o_chkT); (try subst o_frmS); simp +contextual [fns, arI, cmI, renT, renH, renB, renF, renDf, injH, pie, lk, D.ren, D.renL, D.lt, D.ltL, lt_gv, ren_gv, lk_gh, renH_gh, mem_gh, injH_gh, injK, injK_gh, lenD, gv_one, gh_one, subL_one, gv_nil, gh_nil, gv_snoc, gh_snoc, ints_nil, ints_app, ints_one, ints_cons, u64s_nil, u64s_app, u64s_one, ints_set, u64s_set, ints_len, u64s_len, List.nil_append, List.length_append, List.length_cons, List.length_nil, g5])) (by first | (simp +contextual [renT, renH, renB, renF, renDf, injH, pie, lk, D.ren, D.renL, D.lt, D.ltL, lt_gv, ren_gv, lk_gh, renH_gh, mem_gh, injH_gh, injK, injK_gh, lenD, gv_one, gh_one, subL_one, gv_nil, gh_nil, gv_snoc, gh_snoc, ints_nil, ints_app, ints_one, ints_cons, u64s_nil, u64s_app, u64s_one, ints_set, u64s_set, ints_len, u64s_len, List.nil_append, List.length_append, List.length_cons, List.length_nil, g5]; done) | (subst hF hVi hVu hVg hVh hVl; (try subst o_chkT); (try subst o_frmS); simp +contextual [fns, renT, renH, renB, renF, renDf, injH, pie, lk, D.ren, D.renL, D.lt, D.ltL, lt_gv, ren_gv, lk_gh, renH_gh, mem_gh, injH_gh, injK, injK_gh, lenD, gv_one, gh_one, subL_one, gv_nil, gh_nil, gv_snoc, gh_snoc, ints_nil, ints_app, ints_one, ints_cons, u64s_nil, u64s_app, u64s_one, ints_set, u64s_set, ints_len, u64s_len, List.nil_append, List.length_append, List.length_cons, List.length_nil, g5])) (by simp +contextual [renT, renH, renB, renF, renDf, injH, pie, lk, D.ren, D.renL, D.lt, D.ltL, lt_gv, ren_gv, lk_gh, renH_gh, mem_gh, injH_gh, injK, injK_gh, lenD, gv_one, gh_one, subL_one, gv_nil, gh_nil, gv_snoc, gh_snoc, ints_nil, ints_app, ints_one, ints_cons, u64s_nil, u64s_app, u64s_one, ints_set, u64s_set, ints_len, u64s_len, List.nil_append, List.length_append, List.length_cons, List.length_nil, g5]) rfl (by simp [renF, renT, lk, D.ren, D.renL, D.lt, D.ltL]) (by simp [renDf]))⟩ ?_
  rintro k hk
  try simp only at hk
  ((try rewrite [← hVi]); (try rewrite [← hVu]); (try rewrite [← hVg]); (try rewrite [← hVh]); (try rewrite [← o_chkT]); (try rewrite [← o_frmS]); conv => cbv)
  split <;> rename_i h5 <;> (try rw [h5]) <;> (((try rewrite [← hVi]); (try rewrite [← hVu]); (try rewrite [← hVg]); (try rewrite [← hVh]); (try rewrite [← o_chkT]); (try rewrite [← o_frmS]); conv => cbv)) <;> (try simp only [hF, fns, cmI, decide_eq_true_eq, decide_eq_false_iff_not, beq_iff_eq, bne_iff_ne, beq_eq_false_iff_ne, bne_eq_false_iff_eq, ne_eq, Int.not_lt, Int.not_le, Classical.not_not, ge_iff_le, gt_iff_lt, Bool.not_eq_true] at h5)
  · have hlt : k < 64 := by simp at h5; omega
    obtain ⟨x, hx⟩ : ∃ x, E[k]? = some x := ⟨_, List.getElem?_eq_getElem (by omega)⟩
    have hxw := hw x (List.mem_of_getElem? hx)
    have c3 := unpack_c x hxw.1 hxw.2
    have hS := hk.2
    rw [drop_at hx, wrdE] at hS
    generalize unpackS x = X at c3 hS
    obtain ⟨⟨ek, en, ew, ec, er⟩, ef⟩ := X
    unfold En.d at c3
    simp only at hS
    refine ⟨by subst hF hVi hVu hVg hVh hVl; (try subst o_chkT); (try subst o_frmS); simp [fns], .int .u64 x, u64s_at _ _ _ hx, rfl, ?_⟩
    ((try rewrite [← hVi]); (try rewrite [← hVu]); (try rewrite [← hVg]); (try rewrite [← hVh]); (try rewrite [← o_chkT]); (try rewrite [← o_frmS]); conv => cbv)
    refine .inl ⟨_, _, by subst hF hVi hVu hVg hVh hVl; (try subst o_chkT); (try subst o_frmS); exact c3, by subst hF hVi hVu hVg hVh hVl; (try subst o_chkT); (try subst o_frmS); exact ⟨by simp [inRowsL, inRows, lk], by first | exact .inl rfl | exact .inr ⟨rfl, fun B h => nomatch h⟩⟩, ?_⟩ <;> ((try rewrite [← hVi]); (try rewrite [← hVu]); (try rewrite [← hVg]); (try rewrite [← hVh]); (try rewrite [← o_chkT]); (try rewrite [← o_frmS]); conv => cbv)
    split <;> rename_i h6 <;> (try rw [h6]) <;> (((try rewrite [← hVi]); (try rewrite [← hVu]); (try rewrite [← hVg]); (try rewrite [← hVh]); (try rewrite [← o_chkT]); (try rewrite [← o_frmS]); conv => cbv)) <;> (try simp only [hF, fns, cmI, decide_eq_true_eq, decide_eq_false_iff_not, beq_iff_eq, bne_iff_ne, beq_eq_false_iff_ne, bne_eq_false_iff_eq, ne_eq, Int.not_lt, Int.not_le, Classical.not_not, ge_iff_le, gt_iff_lt, Bool.not_eq_true] at h6)
    · subst hF hVi hVu hVg hVh hVl; (try subst o_chkT); (try subst o_frmS); subst hd
      simp only [fns]
      refine ⟨by simp [inRows, inRowsL, lk, lenD], ?_⟩
      rw [if_pos h6] at hS
      simp [reify, hS]
    rw [if_neg (by simpa using h6)] at hS
    split <;> rename_i h7 <;> (try rw [h7]) <;> (((try rewrite [← hVi]); (try rewrite [← hVu]); (try rewrite [← hVg]); (try rewrite [← hVh]); (try rewrite [← o_chkT]); (try rewrite [← o_frmS]); conv => cbv)) <;> (try simp only [hF, fns, cmI, decide_eq_true_eq, decide_eq_false_iff_not, beq_iff_eq, bne_iff_ne, beq_eq_false_iff_ne, bne_eq_false_iff_eq, ne_eq, Int.not_lt, Int.not_le, Classical.not_not, ge_iff_le, gt_iff_lt, Bool.not_eq_true] at h7)
    · obtain ⟨y, hy⟩ : ∃ y, L[k / 8]? = some y := ⟨_, List.getElem?_eq_getElem (by omega)⟩
      have hyd : L.getD (k / 8) 0 = y := by rw [List.getD_eq_getElem?_getD, hy]; rfl
      rw [hyd] at hS
      obtain ⟨q, hq0⟩ : ∃ q : Nat, q = k / 8 := ⟨_, rfl⟩
      have hq : F.ar .quo .i64 (Int.ofNat k) 8 = Int.ofNat q := by
        subst hF hVi hVu hVg hVh hVl; (try subst o_chkT); (try subst o_frmS)
        show IntKind.i64.wrap ((Int.ofNat k).tdiv 8) = _
        rw [IntWalk.i64_quo _ _ (by simp; omega)]
        rw [hq0]; simp
      (conv at hq => lhs; cbv)
      rw [← hq0] at hy
      refine ⟨by subst hF hVi hVu hVg hVh hVl; (try subst o_chkT); (try subst o_frmS); simp [fns], ?_⟩
      rw [hq]
      refine ⟨by subst hF hVi hVu hVg hVh hVl; (try subst o_chkT); (try subst o_frmS); simp [fns], .int .i64 y, ints_at _ _ _ hy, rfl, ?_⟩
      ((try rewrite [← hVi]); (try rewrite [← hVu]); (try rewrite [← hVg]); (try rewrite [← hVh]); (try rewrite [← o_chkT]); (try rewrite [← o_frmS]); conv => cbv)
      split <;> rename_i h8 <;> (try rw [h8]) <;> (((try rewrite [← hVi]); (try rewrite [← hVu]); (try rewrite [← hVg]); (try rewrite [← hVh]); (try rewrite [← o_chkT]); (try rewrite [← o_frmS]); conv => cbv)) <;> (try simp only [hF, fns, cmI, decide_eq_true_eq, decide_eq_false_iff_not, beq_iff_eq, bne_iff_ne, beq_eq_false_iff_ne, bne_eq_false_iff_eq, ne_eq, Int.not_lt, Int.not_le, Classical.not_not, ge_iff_le, gt_iff_lt, Bool.not_eq_true] at h8)
      · subst hF hVi hVu hVg hVh hVl; (try subst o_chkT); (try subst o_frmS); subst hd
        simp only [fns]
        refine ⟨by simp [inRows, inRowsL, lk, lenD], ?_⟩
        rw [if_pos ⟨h7, by omega⟩] at hS
        simp [reify, hS]
      · refine ⟨(k + 1), ?_, by first | omega | (simp; omega) | (simp only; omega), wk_of hF (weakR (pie []) (by first | (simp +contextual [renT, renH, renB, renF, renDf, injH, pie, lk, D.ren, D.renL, D.lt, D.ltL, lt_gv, ren_gv, lk_gh, renH_gh, mem_gh, injH_gh, injK, injK_gh, lenD, gv_one, gh_one, subL_one, gv_nil, gh_nil, gv_snoc, gh_snoc, ints_nil, ints_app, ints_one, ints_cons, u64s_nil, u64s_app, u64s_one, ints_set, u64s_set, ints_len, u64s_len, List.nil_append, List.length_append, List.length_cons, List.length_nil]; done) | (subst hF hVi hVu hVg hVh hVl; (try subst o_chkT); (try subst o_frmS); simp only [fns, arI, cmI]; rw [IntWalk.i64_in _ (by simp; omega)]; simp +contextual [renT, renH, renB, renF, renDf, injH, pie, lk, D.ren, D.renL, D.lt, D.ltL, lt_gv, ren_gv, lk_gh, renH_gh, mem_gh, injH_gh, injK, injK_gh, lenD, gv_one, gh_one, subL_one, gv_nil, gh_nil, gv_snoc, gh_snoc, ints_nil, ints_app, ints_one, ints_cons, u64s_nil, u64s_app, u64s_one, ints_set, u64s_set, ints_len, u64s_len, List.nil_append, List.length_append, List.length_cons, List.length_nil]; done) | (subst hF hVi hVu hVg hVh hVl; (try subst o_chkT); (try subst o_frmS); simp +contextual [fns, arI, cmI, renT, renH, renB, renF, renDf, injH, pie, lk, D.ren, D.renL, D.lt, D.ltL, lt_gv, ren_gv, lk_gh, renH_gh, mem_gh, injH_gh, injK, injK_gh, lenD, gv_one, gh_one, subL_one, gv_nil, gh_nil, gv_snoc, gh_snoc, ints_nil, ints_app, ints_one, ints_cons, u64s_nil, u64s_app, u64s_one, ints_set, u64s_set, ints_len, u64s_len, List.nil_append, List.length_append, List.length_cons, List.length_nil])) (by first | (simp +contextual [renT, renH, renB, renF, renDf, injH, pie, lk, D.ren, D.renL, D.lt, D.ltL, lt_gv, ren_gv, lk_gh, renH_gh, mem_gh, injH_gh, injK, injK_gh, lenD, gv_one, gh_one, subL_one, gv_nil, gh_nil, gv_snoc, gh_snoc, ints_nil, ints_app, ints_one, ints_cons, u64s_nil, u64s_app, u64s_one, ints_set, u64s_set, ints_len, u64s_len, List.nil_append, List.length_append, List.length_cons, List.length_nil]; done) | (subst hF hVi hVu hVg hVh hVl; (try subst o_chkT); (try subst o_frmS); simp +contextual [fns, renT, renH, renB, renF, renDf, injH, pie, lk, D.ren, D.renL, D.lt, D.ltL, lt_gv, ren_gv, lk_gh, renH_gh, mem_gh, injH_gh, injK, injK_gh, lenD, gv_one, gh_one, subL_one, gv_nil, gh_nil, gv_snoc, gh_snoc, ints_nil, ints_app, ints_one, ints_cons, u64s_nil, u64s_app, u64s_one, ints_set, u64s_set, ints_len, u64s_len, List.nil_append, List.length_append, List.length_cons, List.length_nil])) (by simp +contextual [renT, renH, renB, renF, renDf, injH, pie, lk, D.ren, D.renL, D.lt, D.ltL, lt_gv, ren_gv, lk_gh, renH_gh, mem_gh, injH_gh, injK, injK_gh, lenD, gv_one, gh_one, subL_one, gv_nil, gh_nil, gv_snoc, gh_snoc, ints_nil, ints_app, ints_one, ints_cons, u64s_nil, u64s_app, u64s_one, ints_set, u64s_set, ints_len, u64s_len, List.nil_append, List.length_append, List.length_cons, List.length_nil]) rfl (by simp [renF, renT, lk, D.ren, D.renL, D.lt, D.ltL]) (by simp [renDf]))⟩ <;> (skip; (try subst o_chkT); (try subst o_frmS))
        have := hrg rfl y (List.mem_of_getElem? hy)
        rw [if_neg (by omega)] at hS
        exact ⟨by omega, hS⟩
    · refine ⟨(k + 1), ?_, by first | omega | (simp; omega) | (simp only; omega), wk_of hF (weakR (pie []) (by first | (simp +contextual [renT, renH, renB, renF, renDf, injH, pie, lk, D.ren, D.renL, D.lt, D.ltL, lt_gv, ren_gv, lk_gh, renH_gh, mem_gh, injH_gh, injK, injK_gh, lenD, gv_one, gh_one, subL_one, gv_nil, gh_nil, gv_snoc, gh_snoc, ints_nil, ints_app, ints_one, ints_cons, u64s_nil, u64s_app, u64s_one, ints_set, u64s_set, ints_len, u64s_len, List.nil_append, List.length_append, List.length_cons, List.length_nil]; done) | (subst hF hVi hVu hVg hVh hVl; (try subst o_chkT); (try subst o_frmS); simp only [fns, arI, cmI]; rw [IntWalk.i64_in _ (by simp; omega)]; simp +contextual [renT, renH, renB, renF, renDf, injH, pie, lk, D.ren, D.renL, D.lt, D.ltL, lt_gv, ren_gv, lk_gh, renH_gh, mem_gh, injH_gh, injK, injK_gh, lenD, gv_one, gh_one, subL_one, gv_nil, gh_nil, gv_snoc, gh_snoc, ints_nil, ints_app, ints_one, ints_cons, u64s_nil, u64s_app, u64s_one, ints_set, u64s_set, ints_len, u64s_len, List.nil_append, List.length_append, List.length_cons, List.length_nil]; done) | (subst hF hVi hVu hVg hVh hVl; (try subst o_chkT); (try subst o_frmS); simp +contextual [fns, arI, cmI, renT, renH, renB, renF, renDf, injH, pie, lk, D.ren, D.renL, D.lt, D.ltL, lt_gv, ren_gv, lk_gh, renH_gh, mem_gh, injH_gh, injK, injK_gh, lenD, gv_one, gh_one, subL_one, gv_nil, gh_nil, gv_snoc, gh_snoc, ints_nil, ints_app, ints_one, ints_cons, u64s_nil, u64s_app, u64s_one, ints_set, u64s_set, ints_len, u64s_len, List.nil_append, List.length_append, List.length_cons, List.length_nil])) (by first | (simp +contextual [renT, renH, renB, renF, renDf, injH, pie, lk, D.ren, D.renL, D.lt, D.ltL, lt_gv, ren_gv, lk_gh, renH_gh, mem_gh, injH_gh, injK, injK_gh, lenD, gv_one, gh_one, subL_one, gv_nil, gh_nil, gv_snoc, gh_snoc, ints_nil, ints_app, ints_one, ints_cons, u64s_nil, u64s_app, u64s_one, ints_set, u64s_set, ints_len, u64s_len, List.nil_append, List.length_append, List.length_cons, List.length_nil]; done) | (subst hF hVi hVu hVg hVh hVl; (try subst o_chkT); (try subst o_frmS); simp +contextual [fns, renT, renH, renB, renF, renDf, injH, pie, lk, D.ren, D.renL, D.lt, D.ltL, lt_gv, ren_gv, lk_gh, renH_gh, mem_gh, injH_gh, injK, injK_gh, lenD, gv_one, gh_one, subL_one, gv_nil, gh_nil, gv_snoc, gh_snoc, ints_nil, ints_app, ints_one, ints_cons, u64s_nil, u64s_app, u64s_one, ints_set, u64s_set, ints_len, u64s_len, List.nil_append, List.length_append, List.length_cons, List.length_nil])) (by simp +contextual [renT, renH, renB, renF, renDf, injH, pie, lk, D.ren, D.renL, D.lt, D.ltL, lt_gv, ren_gv, lk_gh, renH_gh, mem_gh, injH_gh, injK, injK_gh, lenD, gv_one, gh_one, subL_one, gv_nil, gh_nil, gv_snoc, gh_snoc, ints_nil, ints_app, ints_one, ints_cons, u64s_nil, u64s_app, u64s_one, ints_set, u64s_set, ints_len, u64s_len, List.nil_append, List.length_append, List.length_cons, List.length_nil]) rfl (by simp [renF, renT, lk, D.ren, D.renL, D.lt, D.ltL]) (by simp [renDf]))⟩ <;> (skip; (try subst o_chkT); (try subst o_frmS))
      rw [if_neg (by simp [h7])] at hS
      exact ⟨by omega, hS⟩
  · have hk64 : k = 64 := by simp at h5; omega
    have hS := hk.2
    rw [List.drop_of_length_le (by omega), wrdE] at hS
    subst hF hVi hVu hVg hVh hVl; (try subst o_chkT); (try subst o_frmS); subst hd
    simp only [fns]
    refine ⟨by simp [inRows, inRowsL, lk, lenD], ?_⟩
    simp [reify, hS]
theorem opened_ok (r : Int) (L E : List Int) (hL : L.length < 100) (hE : E.length < 100) (hw : wordsOk E) (h0 : chkT r L E = 0) : Contract Tryd.prog G0 58 [tblD r L E] (.tup [tblOwn r L E, .int .i64 0]) (tblExt L E) := by
  refine funOwn tys_ok mixed (n := 20) (rs := [.cell 2 25, .tmp 3]) ⟨Tryd.func58, by kernel_rfl, rfl⟩ [6, 9] rfl rfl (by simp) fun F d0 e0 hF hd he => ?_
  obtain ⟨ints, u64s, gv, gh, lenF, hVi, hVu, hVg, hVh, hVl, lenD, ints_len, u64s_len, ints_cells, u64s_cells, ints_at, u64s_at, gv_nil, gh_nil, gv_ne, gh_ne, gv_snoc, gh_snoc, gv_one, gh_one, lt_gv, ren_gv, lk_gh, renH_gh, mem_gh, injK_gh, injH_gh, ints_nil, ints_app, ints_one, ints_cons, ints_ne, u64s_nil, u64s_app, u64s_one, u64s_ne, ints_set, u64s_set⟩ := vocab
  obtain ⟨f_chkT, o_chkT⟩ : ∃ f, f = chkT := ⟨_, rfl⟩
  have c1 := pchk_c r L E hL hE hw
  rw [h0] at c1
  obtain ⟨g4, g5⟩ := chkT_len h0
  have hl1 := ints_len L
  have hl2 := u64s_len E
  have c2 := clone_ints (G := G0) (ints L) (ints_cells L) (by intro h; rw [h] at hl1; simp at hl1; omega) (by omega)
  have c3 := clone_u64s (G := G0) (u64s E) (u64s_cells E) (by intro h; rw [h] at hl2; simp at hl2; omega) (by omega)
  rw [hl1, g4] at c2
  rw [hl2, g5] at c3
  unfold tblD at *
  ((try rewrite [← hVi]); (try rewrite [← hVu]); (try rewrite [← hVg]); (try rewrite [← hVh]); (try rewrite [← o_chkT]); conv => cbv)
  refine .inl ⟨_, _, by subst hF hVi hVu hVg hVh hVl; (try subst o_chkT); exact c1, by subst hF hVi hVu hVg hVh hVl; (try subst o_chkT); exact ⟨by simp [inRowsL, inRows, lk], by first | exact .inl rfl | exact .inr ⟨rfl, fun B h => nomatch h⟩⟩, ?_⟩ <;> ((try rewrite [← hVi]); (try rewrite [← hVu]); (try rewrite [← hVg]); (try rewrite [← hVh]); (try rewrite [← o_chkT]); conv => cbv)
  split <;> rename_i h <;> (try rw [h]) <;> (((try rewrite [← hVi]); (try rewrite [← hVu]); (try rewrite [← hVg]); (try rewrite [← hVh]); (try rewrite [← o_chkT]); conv => cbv)) <;> (try simp only [hF, fns, cmI, decide_eq_true_eq, decide_eq_false_iff_not, beq_iff_eq, bne_iff_ne, beq_eq_false_iff_ne, bne_eq_false_iff_eq, ne_eq, Int.not_lt, Int.not_le, Classical.not_not, ge_iff_le, gt_iff_lt, Bool.not_eq_true] at h)
  · exact absurd trivial h
  refine ⟨_, [_], by subst hF hVi hVu hVg hVh hVl; (try subst o_chkT); exact c2, by subst hF hVi hVu hVg hVh hVl; (try subst o_chkT); exact ⟨by simp [inRowsL, inRows, lk], .inl rfl⟩, ?_⟩
  ((try rewrite [← hVi]); (try rewrite [← hVu]); (try rewrite [← hVg]); (try rewrite [← hVh]); (try rewrite [← o_chkT]); conv => cbv)
  refine ⟨by subst hF hVi hVu hVg hVh hVl; (try subst o_chkT); exact ⟨rfl, rfl⟩, ?_⟩
  refine ⟨_, [_], by subst hF hVi hVu hVg hVh hVl; (try subst o_chkT); exact c3, by subst hF hVi hVu hVg hVh hVl; (try subst o_chkT); exact ⟨by simp [inRowsL, inRows, lk], .inl rfl⟩, ?_⟩
  ((try rewrite [← hVi]); (try rewrite [← hVu]); (try rewrite [← hVg]); (try rewrite [← hVh]); (try rewrite [← o_chkT]); conv => cbv)
  refine ⟨by subst hF hVi hVu hVg hVh hVl; (try subst o_chkT); exact ⟨rfl, rfl⟩, ?_⟩
  subst hF hVi hVu hVg hVh hVl; (try subst o_chkT); subst hd; subst he
  simp only [fns]
  refine ⟨by simp [tblOwn, D.ren, D.renL, g4, g5], by simp [tblOwn, tblExt, D.lt, D.ltL], by decide, rfl, fun k B hB => ?_⟩
  match k, hB with
  | 0, hB => simp [tblExt] at hB; subst hB; simp [lk]
  | 1, hB => simp [tblExt] at hB; subst hB; simp [lk]
  | k + 2, hB => simp [tblExt] at hB
theorem opened_bad (r : Int) (L E : List Int) (hL : L.length < 100) (hE : E.length < 100) (hw : wordsOk E) (h0 : chkT r L E ≠ 0) : Contract Tryd.prog G0 58 [tblD r L E] (teZ (chkT r L E)).d [] := by
  refine fun0 tys_ok mixed (n := 20) (rs := [.cell 2 25, .tmp 3]) ⟨Tryd.func58, by kernel_rfl, rfl⟩ rfl rfl (by simp) fun F d0 hF hd => ?_
  obtain ⟨ints, u64s, gv, gh, lenF, hVi, hVu, hVg, hVh, hVl, lenD, ints_len, u64s_len, ints_cells, u64s_cells, ints_at, u64s_at, gv_nil, gh_nil, gv_ne, gh_ne, gv_snoc, gh_snoc, gv_one, gh_one, lt_gv, ren_gv, lk_gh, renH_gh, mem_gh, injK_gh, injH_gh, ints_nil, ints_app, ints_one, ints_cons, ints_ne, u64s_nil, u64s_app, u64s_one, u64s_ne, ints_set, u64s_set⟩ := vocab
  obtain ⟨f_chkT, o_chkT⟩ : ∃ f, f = chkT := ⟨_, rfl⟩
  have c1 := pchk_c r L E hL hE hw
  unfold tblD at *
  generalize chkT r L E = S at *
  ((try rewrite [← hVi]); (try rewrite [← hVu]); (try rewrite [← hVg]); (try rewrite [← hVh]); (try rewrite [← o_chkT]); conv => cbv)
  refine .inl ⟨_, _, by subst hF hVi hVu hVg hVh hVl; (try subst o_chkT); exact c1, by subst hF hVi hVu hVg hVh hVl; (try subst o_chkT); exact ⟨by simp [inRowsL, inRows, lk], by first | exact .inl rfl | exact .inr ⟨rfl, fun B h => nomatch h⟩⟩, ?_⟩ <;> ((try rewrite [← hVi]); (try rewrite [← hVu]); (try rewrite [← hVg]); (try rewrite [← hVh]); (try rewrite [← o_chkT]); conv => cbv)
  split <;> rename_i h <;> (try rw [h]) <;> (((try rewrite [← hVi]); (try rewrite [← hVu]); (try rewrite [← hVg]); (try rewrite [← hVh]); (try rewrite [← o_chkT]); conv => cbv)) <;> (try simp only [hF, fns, cmI, decide_eq_true_eq, decide_eq_false_iff_not, beq_iff_eq, bne_iff_ne, beq_eq_false_iff_ne, bne_eq_false_iff_eq, ne_eq, Int.not_lt, Int.not_le, Classical.not_not, ge_iff_le, gt_iff_lt, Bool.not_eq_true] at h)
  · subst hF hVi hVu hVg hVh hVl; (try subst o_chkT); subst hd
    simp only [fns]
    refine ⟨by simp [inRows, inRowsL, lk, lenD], ?_⟩
    simp [reify, reifyL, teZ, TE.d, tblD, ints, u64s]
  · exact absurd h h0
theorem about_ok (r : Int) (L E : List Int) (p : Int) (hL : L.length < 100) (hE : E.length < 100) (hw : wordsOk E) (h0 : asksS r L E p = 0) : Contract Tryd.prog G0 49 [tblD r L E, .int .i64 p] (.tup [tblOwn r L E, .int .i64 0]) (tblExt L E) := by
  refine funOwn tys_ok mixed (n := 26) (rs := [.cell 4 25, .tmp 5]) ⟨Tryd.func49, by kernel_rfl, rfl⟩ [2, 3] rfl rfl (by simp) fun F d0 e0 hF hd he => ?_
  obtain ⟨ints, u64s, gv, gh, lenF, hVi, hVu, hVg, hVh, hVl, lenD, ints_len, u64s_len, ints_cells, u64s_cells, ints_at, u64s_at, gv_nil, gh_nil, gv_ne, gh_ne, gv_snoc, gh_snoc, gv_one, gh_one, lt_gv, ren_gv, lk_gh, renH_gh, mem_gh, injK_gh, injH_gh, ints_nil, ints_app, ints_one, ints_cons, ints_ne, u64s_nil, u64s_app, u64s_one, u64s_ne, ints_set, u64s_set⟩ := vocab
  obtain ⟨f_chkT, o_chkT⟩ : ∃ f, f = chkT := ⟨_, rfl⟩
  obtain ⟨f_asksS, o_asksS⟩ : ∃ f, f = asksS := ⟨_, rfl⟩
  obtain ⟨h1, h2, h3⟩ := asksS_ok h0
  obtain ⟨g4, g5⟩ := chkT_len h1
  have c1 := opened_ok r L E hL hE hw h1
  unfold tblD tblOwn tblExt at *
  rw [g4, g5] at c1
  ((try rewrite [← hVi]); (try rewrite [← hVu]); (try rewrite [← hVg]); (try rewrite [← hVh]); (try rewrite [← o_chkT]); (try rewrite [← o_asksS]); conv => cbv)
  refine .inl ⟨_, _, by subst hF hVi hVu hVg hVh hVl; (try subst o_chkT); (try subst o_asksS); exact c1, by subst hF hVi hVu hVg hVh hVl; (try subst o_chkT); (try subst o_asksS); exact ⟨by simp [inRowsL, inRows, lk], by first | exact .inl rfl | exact .inr ⟨rfl, fun B h => nomatch h⟩⟩, ?_⟩ <;> ((try rewrite [← hVi]); (try rewrite [← hVu]); (try rewrite [← hVg]); (try rewrite [← hVh]); (try rewrite [← o_chkT]); (try rewrite [← o_asksS]); conv => cbv)
  split <;> rename_i q1 <;> (try rw [q1]) <;> (((try rewrite [← hVi]); (try rewrite [← hVu]); (try rewrite [← hVg]); (try rewrite [← hVh]); (try rewrite [← o_chkT]); (try rewrite [← o_asksS]); conv => cbv)) <;> (try simp only [hF, fns, cmI, decide_eq_true_eq, decide_eq_false_iff_not, beq_iff_eq, bne_iff_ne, beq_eq_false_iff_ne, bne_eq_false_iff_eq, ne_eq, Int.not_lt, Int.not_le, Classical.not_not, ge_iff_le, gt_iff_lt, Bool.not_eq_true] at q1)
  rotate_left
  · simp at q1
  split <;> rename_i q2 <;> (try rw [q2]) <;> (((try rewrite [← hVi]); (try rewrite [← hVu]); (try rewrite [← hVg]); (try rewrite [← hVh]); (try rewrite [← o_chkT]); (try rewrite [← o_asksS]); conv => cbv)) <;> (try simp only [hF, fns, cmI, decide_eq_true_eq, decide_eq_false_iff_not, beq_iff_eq, bne_iff_ne, beq_eq_false_iff_ne, bne_eq_false_iff_eq, ne_eq, Int.not_lt, Int.not_le, Classical.not_not, ge_iff_le, gt_iff_lt, Bool.not_eq_true] at q2)
  · omega
  split <;> rename_i q3 <;> (try rw [q3]) <;> (((try rewrite [← hVi]); (try rewrite [← hVu]); (try rewrite [← hVg]); (try rewrite [← hVh]); (try rewrite [← o_chkT]); (try rewrite [← o_asksS]); conv => cbv)) <;> (try simp only [hF, fns, cmI, decide_eq_true_eq, decide_eq_false_iff_not, beq_iff_eq, bne_iff_ne, beq_eq_false_iff_ne, bne_eq_false_iff_eq, ne_eq, Int.not_lt, Int.not_le, Classical.not_not, ge_iff_le, gt_iff_lt, Bool.not_eq_true] at q3)
  · omega
  subst hF hVi hVu hVg hVh hVl; (try subst o_chkT); (try subst o_asksS); subst hd; subst he
  simp only [fns]
  refine ⟨by simp [D.ren, D.renL, g4, g5], by simp [D.lt, D.ltL], by decide, rfl, fun k B hB => ?_⟩
  match k, hB with
  | 0, hB => simp at hB; subst hB; simp [lk]
  | 1, hB => simp at hB; subst hB; simp [lk]
  | k + 2, hB => simp at hB
theorem about_bad (r : Int) (L E : List Int) (p : Int) (hL : L.length < 100) (hE : E.length < 100) (hw : wordsOk E) (h0 : asksS r L E p ≠ 0) : Contract Tryd.prog G0 49 [tblD r L E, .int .i64 p] (teZ (asksS r L E p)).d [] := by
  refine fun0 tys_ok mixed (n := 26) (rs := [.cell 4 25, .tmp 5]) ⟨Tryd.func49, by kernel_rfl, rfl⟩ rfl rfl (by simp) fun F d0 hF hd => ?_
  obtain ⟨ints, u64s, gv, gh, lenF, hVi, hVu, hVg, hVh, hVl, lenD, ints_len, u64s_len, ints_cells, u64s_cells, ints_at, u64s_at, gv_nil, gh_nil, gv_ne, gh_ne, gv_snoc, gh_snoc, gv_one, gh_one, lt_gv, ren_gv, lk_gh, renH_gh, mem_gh, injK_gh, injH_gh, ints_nil, ints_app, ints_one, ints_cons, ints_ne, u64s_nil, u64s_app, u64s_one, u64s_ne, ints_set, u64s_set⟩ := vocab
  obtain ⟨f_chkT, o_chkT⟩ : ∃ f, f = chkT := ⟨_, rfl⟩
  obtain ⟨f_asksS, o_asksS⟩ : ∃ f, f = asksS := ⟨_, rfl⟩
  by_cases hc : chkT r L E = 0
  · have c1 := opened_ok r L E hL hE hw hc
    obtain ⟨g4, g5⟩ := chkT_len hc
    rw [asksS, hc] at h0
    have hp : p < 0 ∨ p ≥ 64 := by
      rcases Classical.em (p < 0 ∨ p ≥ 64) with h | h
      · exact h
      · rw [if_neg (by simp; omega)] at h0; exact absurd rfl h0
    have hS : asksS r L E p = 2 := by rw [asksS, hc, if_pos ⟨rfl, hp⟩]
    rw [hS] at hd
    unfold tblD tblOwn tblExt at *
    rw [g4, g5] at c1
    ((try rewrite [← hVi]); (try rewrite [← hVu]); (try rewrite [← hVg]); (try rewrite [← hVh]); (try rewrite [← o_chkT]); (try rewrite [← o_asksS]); conv => cbv)
    refine .inl ⟨_, _, by subst hF hVi hVu hVg hVh hVl; (try subst o_chkT); (try subst o_asksS); exact c1, by subst hF hVi hVu hVg hVh hVl; (try subst o_chkT); (try subst o_asksS); exact ⟨by simp [inRowsL, inRows, lk], by first | exact .inl rfl | exact .inr ⟨rfl, fun B h => nomatch h⟩⟩, ?_⟩ <;> ((try rewrite [← hVi]); (try rewrite [← hVu]); (try rewrite [← hVg]); (try rewrite [← hVh]); (try rewrite [← o_chkT]); (try rewrite [← o_asksS]); conv => cbv)
    split <;> rename_i q1 <;> (try rw [q1]) <;> (((try rewrite [← hVi]); (try rewrite [← hVu]); (try rewrite [← hVg]); (try rewrite [← hVh]); (try rewrite [← o_chkT]); (try rewrite [← o_asksS]); conv => cbv)) <;> (try simp only [hF, fns, cmI, decide_eq_true_eq, decide_eq_false_iff_not, beq_iff_eq, bne_iff_ne, beq_eq_false_iff_ne, bne_eq_false_iff_eq, ne_eq, Int.not_lt, Int.not_le, Classical.not_not, ge_iff_le, gt_iff_lt, Bool.not_eq_true] at q1)
    rotate_left
    · simp at q1
    split <;> rename_i q2 <;> (try rw [q2]) <;> (((try rewrite [← hVi]); (try rewrite [← hVu]); (try rewrite [← hVg]); (try rewrite [← hVh]); (try rewrite [← o_chkT]); (try rewrite [← o_asksS]); conv => cbv)) <;> (try simp only [hF, fns, cmI, decide_eq_true_eq, decide_eq_false_iff_not, beq_iff_eq, bne_iff_ne, beq_eq_false_iff_ne, bne_eq_false_iff_eq, ne_eq, Int.not_lt, Int.not_le, Classical.not_not, ge_iff_le, gt_iff_lt, Bool.not_eq_true] at q2)
    · subst hF hVi hVu hVg hVh hVl; (try subst o_chkT); (try subst o_asksS); subst hd
      simp only [fns]
      refine ⟨by simp [inRows, inRowsL, lk, lenD], ?_⟩
      simp [reify, reifyL, teZ, TE.d, tblD, ints, u64s]
    split <;> rename_i q3 <;> (try rw [q3]) <;> (((try rewrite [← hVi]); (try rewrite [← hVu]); (try rewrite [← hVg]); (try rewrite [← hVh]); (try rewrite [← o_chkT]); (try rewrite [← o_asksS]); conv => cbv)) <;> (try simp only [hF, fns, cmI, decide_eq_true_eq, decide_eq_false_iff_not, beq_iff_eq, bne_iff_ne, beq_eq_false_iff_ne, bne_eq_false_iff_eq, ne_eq, Int.not_lt, Int.not_le, Classical.not_not, ge_iff_le, gt_iff_lt, Bool.not_eq_true] at q3)
    · subst hF hVi hVu hVg hVh hVl; (try subst o_chkT); (try subst o_asksS); subst hd
      simp only [fns]
      refine ⟨by simp [inRows, inRowsL, lk, lenD], ?_⟩
      simp [reify, reifyL, teZ, TE.d, tblD, ints, u64s]
    · omega
  · have c1 := opened_bad r L E hL hE hw hc
    have hS : asksS r L E p = chkT r L E := by rw [asksS, if_neg (by simp [hc])]
    rw [hS] at hd
    unfold tblD teZ TE.d at *
    generalize chkT r L E = S at *
    unfold tblD at c1 hd
    simp only at c1 hd
    generalize hn1 : ints [] = n1 at *
    generalize hn2 : u64s [] = n2 at *
    ((try rewrite [← hVi]); (try rewrite [← hVu]); (try rewrite [← hVg]); (try rewrite [← hVh]); (try rewrite [← o_chkT]); (try rewrite [← o_asksS]); conv => cbv)
    refine .inl ⟨_, _, by subst hF hVi hVu hVg hVh hVl; (try subst o_chkT); (try subst o_asksS); exact c1, by subst hF hVi hVu hVg hVh hVl; (try subst o_chkT); (try subst o_asksS); exact ⟨by simp [inRowsL, inRows, lk], by first | exact .inl rfl | exact .inr ⟨rfl, fun B h => nomatch h⟩⟩, ?_⟩ <;> ((try rewrite [← hVi]); (try rewrite [← hVu]); (try rewrite [← hVg]); (try rewrite [← hVh]); (try rewrite [← o_chkT]); (try rewrite [← o_asksS]); conv => cbv)
    split <;> rename_i q1 <;> (try rw [q1]) <;> (((try rewrite [← hVi]); (try rewrite [← hVu]); (try rewrite [← hVg]); (try rewrite [← hVh]); (try rewrite [← o_chkT]); (try rewrite [← o_asksS]); conv => cbv)) <;> (try simp only [hF, fns, cmI, decide_eq_true_eq, decide_eq_false_iff_not, beq_iff_eq, bne_iff_ne, beq_eq_false_iff_ne, bne_eq_false_iff_eq, ne_eq, Int.not_lt, Int.not_le, Classical.not_not, ge_iff_le, gt_iff_lt, Bool.not_eq_true] at q1)
    · exact absurd q1 hc
    subst hF hVi hVu hVg hVh hVl; (try subst o_chkT); (try subst o_asksS); subst hd
    simp only [fns]
    refine ⟨by simp [inRows, inRowsL, lk, lenD], ?_⟩
    simp [reify, reifyL]
end Go.Proofs.YtppmomobjjpljaaDoor.E
end

/- Part C4. -/
section
/- Contracts: tables are looked at and changed (program). -/
namespace Go.Proofs.YtppmomobjjpljaaDoor.E
open Go Go.RowKit
set_option linter.unusedVariables false
set_option linter.unusedSimpArgs false
set_option maxRecDepth 100000
theorem quo8 {F : Fns} (hF : F = fns Tryd.prog G0) {p : Int} {n : Nat} (hn : p = n) (h : n < 1000000) : F.ar .quo .i64 p 8 = ((n / 8 : Nat) : Int) := by
  subst hF
  show IntKind.i64.wrap (p.tdiv 8) = _
  rw [IntWalk.i64_quo _ _ (by omega)]
  omega
theorem chkT_rng {r : Int} {L E : List Int} (h : chkT r L E = 0) {k : Nat} {y : Int} (hy : L[k]? = some y) : -1 ≤ y ∧ y < 256 := (chkT_iff.1 h).rng y (List.mem_of_getElem? hy)
theorem placks_c (r : Int) (L E : List Int) (p : Int) (hL : L.length < 100) (hE : E.length < 100) (hw : wordsOk E) : Contract Tryd.prog G0 19 [tblD r L E, .int .i64 p] (.tup [.bool (decide (asksS r L E p = 0 ∧ L.getD (p.toNat / 8) 0 < 0)), .int .i64 (asksS r L E p)]) [] := by
  refine fun0 tys_ok mixed (n := 24) (rs := [.tmp 4, .tmp 5]) ⟨Tryd.func19, by kernel_rfl, rfl⟩ rfl rfl (by simp) fun F d0 hF hd => ?_
  obtain ⟨ints, u64s, gv, gh, lenF, hVi, hVu, hVg, hVh, hVl, lenD, ints_len, u64s_len, ints_cells, u64s_cells, ints_at, u64s_at, gv_nil, gh_nil, gv_ne, gh_ne, gv_snoc, gh_snoc, gv_one, gh_one, lt_gv, ren_gv, lk_gh, renH_gh, mem_gh, injK_gh, injH_gh, ints_nil, ints_app, ints_one, ints_cons, ints_ne, u64s_nil, u64s_app, u64s_one, u64s_ne, ints_set, u64s_set⟩ := vocab
  obtain ⟨f_chkT, o_chkT⟩ : ∃ f, f = chkT := ⟨_, rfl⟩
  obtain ⟨f_asksS, o_asksS⟩ : ∃ f, f = asksS := ⟨_, rfl⟩
  by_cases h0 : asksS r L E p = 0
  · have c1 := about_ok r L E p hL hE hw h0
    obtain ⟨h1, h2, h3⟩ := asksS_ok h0
    obtain ⟨g4, g5⟩ := chkT_len h1
    rw [h0] at hd
    obtain ⟨n, hn⟩ := Int.eq_ofNat_of_zero_le h2
    obtain ⟨y, hy⟩ : ∃ y, L[n / 8]? = some y := ⟨_, List.getElem?_eq_getElem (by omega)⟩
    have hyr := chkT_rng h1 hy
    have hyd : L.getD (p.toNat / 8) 0 = y := by rw [List.getD_eq_getElem?_getD, hn, Int.toNat_natCast, hy]; rfl
    rw [hyd] at hd
    have hq := quo8 hF hn (by omega)
    obtain ⟨q, hq0⟩ : ∃ q : Nat, q = n / 8 := ⟨_, rfl⟩
    rw [← hq0] at hy hq
    (conv at hq => lhs; cbv)
    unfold tblD tblOwn tblExt at *
    rw [g4, g5] at c1
    ((try rewrite [← hVi]); (try rewrite [← hVu]); (try rewrite [← hVg]); (try rewrite [← hVh]); (try rewrite [← o_chkT]); (try rewrite [← o_asksS]); conv => cbv)
    refine .inl ⟨_, _, by subst hF hVi hVu hVg hVh hVl; (try subst o_chkT); (try subst o_asksS); exact c1, by subst hF hVi hVu hVg hVh hVl; (try subst o_chkT); (try subst o_asksS); exact ⟨by simp [inRowsL, inRows, lk], by first | exact .inl rfl | exact .inr ⟨rfl, fun B h => nomatch h⟩⟩, ?_⟩ <;> ((try rewrite [← hVi]); (try rewrite [← hVu]); (try rewrite [← hVg]); (try rewrite [← hVh]); (try rewrite [← o_chkT]); (try rewrite [← o_asksS]); conv => cbv)
    split <;> rename_i h <;> (try rw [h]) <;> (((try rewrite [← hVi]); (try rewrite [← hVu]); (try rewrite [← hVg]); (try rewrite [← hVh]); (try rewrite [← o_chkT]); (try rewrite [← o_asksS]); conv => cbv)) <;> (try simp only [hF, fns, cmI, decide_eq_true_eq, decide_eq_false_iff_not, beq_iff_eq, bne_iff_ne, beq_eq_false_iff_ne, bne_eq_false_iff_eq, ne_eq, Int.not_lt, Int.not_le, Classical.not_not, ge_iff_le, gt_iff_lt, Bool.not_eq_true] at h)
    · exact absurd trivial h
    refine ⟨by subst hF hVi hVu hVg hVh hVl; (try subst o_chkT); (try subst o_asksS); simp [fns], ?_⟩
    rw [hq]
    refine ⟨by subst hF hVi hVu hVg hVh hVl; (try subst o_chkT); (try subst o_asksS); simp [fns], .int .i64 y, ints_at _ _ _ hy, rfl, ?_⟩
    ((try rewrite [← hVi]); (try rewrite [← hVu]); (try rewrite [← hVg]); (try rewrite [← hVh]); (try rewrite [← o_chkT]); (try rewrite [← o_asksS]); conv => cbv)
    subst hF hVi hVu hVg hVh hVl; (try subst o_chkT); (try subst o_asksS); subst hd
    simp only [fns]
    refine ⟨by simp [inRows, inRowsL, lk, lenD], ?_⟩
    simp [reify, reifyL, cmI]
    rw [Bool.eq_iff_iff]; simp; omega
  · have c1 := about_bad r L E p hL hE hw h0
    generalize asksS r L E p = S at *
    have c1 : Contract Tryd.prog G0 49 [tblD r L E, .int .i64 p] (.tup [.agg [.int .i64 0, .ro [], .ro []], .int .i64 S]) [] := c1
    unfold tblD at *
    ((try rewrite [← hVi]); (try rewrite [← hVu]); (try rewrite [← hVg]); (try rewrite [← hVh]); (try rewrite [← o_chkT]); (try rewrite [← o_asksS]); conv => cbv)
    refine .inl ⟨_, _, by subst hF hVi hVu hVg hVh hVl; (try subst o_chkT); (try subst o_asksS); exact c1, by subst hF hVi hVu hVg hVh hVl; (try subst o_chkT); (try subst o_asksS); exact ⟨by simp [inRowsL, inRows, lk], by first | exact .inl rfl | exact .inr ⟨rfl, fun B h => nomatch h⟩⟩, ?_⟩ <;> ((try rewrite [← hVi]); (try rewrite [← hVu]); (try rewrite [← hVg]); (try rewrite [← hVh]); (try rewrite [← o_chkT]); (try rewrite [← o_asksS]); conv => cbv)
    split <;> rename_i h <;> (try rw [h]) <;> (((try rewrite [← hVi]); (try rewrite [← hVu]); (try rewrite [← hVg]); (try rewrite [← hVh]); (try rewrite [← o_chkT]); (try rewrite [← o_asksS]); conv => cbv)) <;> (try simp only [hF, fns, cmI, decide_eq_true_eq, decide_eq_false_iff_not, beq_iff_eq, bne_iff_ne, beq_eq_false_iff_ne, bne_eq_false_iff_eq, ne_eq, Int.not_lt, Int.not_le, Classical.not_not, ge_iff_le, gt_iff_lt, Bool.not_eq_true] at h)
    · subst hF hVi hVu hVg hVh hVl; (try subst o_chkT); (try subst o_asksS); subst hd
      simp only [fns]
      refine ⟨by simp [inRows, inRowsL, lk, lenD], ?_⟩
      simp [reify, reifyL, h0]
    · exact absurd h h0
theorem pget_c (r : Int) (L E : List Int) (p : Int) (hL : L.length < 100) (hE : E.length < 100) (hw : wordsOk E) : Contract Tryd.prog G0 17 [tblD r L E, .int .i64 p] (.tup [(getS r L E p).1.d, .int .i64 (getS r L E p).2]) [] := by
  refine fun0 tys_ok mixed (n := 26) (rs := [.cell 4 35, .tmp 5]) ⟨Tryd.func17, by kernel_rfl, rfl⟩ rfl rfl (by simp) fun F d0 hF hd => ?_
  obtain ⟨ints, u64s, gv, gh, lenF, hVi, hVu, hVg, hVh, hVl, lenD, ints_len, u64s_len, ints_cells, u64s_cells, ints_at, u64s_at, gv_nil, gh_nil, gv_ne, gh_ne, gv_snoc, gh_snoc, gv_one, gh_one, lt_gv, ren_gv, lk_gh, renH_gh, mem_gh, injK_gh, injH_gh, ints_nil, ints_app, ints_one, ints_cons, ints_ne, u64s_nil, u64s_app, u64s_one, u64s_ne, ints_set, u64s_set⟩ := vocab
  obtain ⟨f_chkT, o_chkT⟩ : ∃ f, f = chkT := ⟨_, rfl⟩
  obtain ⟨f_asksS, o_asksS⟩ : ∃ f, f = asksS := ⟨_, rfl⟩
  obtain ⟨f_getS, o_getS⟩ : ∃ f, f = getS := ⟨_, rfl⟩
  generalize hG : getS r L E p = X at hd
  rw [getS] at hG
  by_cases h0 : asksS r L E p = 0
  · have c1 := about_ok r L E p hL hE hw h0
    obtain ⟨h1, h2, h3⟩ := asksS_ok h0
    obtain ⟨g4, g5⟩ := chkT_len h1
    rw [if_neg (by simpa using h0)] at hG
    obtain ⟨n, hn⟩ := Int.eq_ofNat_of_zero_le h2
    obtain ⟨x, hx⟩ : ∃ x, E[n]? = some x := ⟨_, List.getElem?_eq_getElem (by omega)⟩
    have hxw := hw x (List.mem_of_getElem? hx)
    have c2 := unpack_c x hxw.1 hxw.2
    rw [hn, Int.toNat_natCast, List.getD_eq_getElem?_getD, hx, Option.getD_some] at hG
    rw [hG] at c2
    obtain ⟨⟨ek, en, ew, ec, er⟩, ef⟩ := X
    unfold En.d at c2 hd
    unfold tblD tblOwn tblExt at *
    rw [g4, g5] at c1
    subst hn
    ((try rewrite [← hVi]); (try rewrite [← hVu]); (try rewrite [← hVg]); (try rewrite [← hVh]); (try rewrite [← o_chkT]); (try rewrite [← o_asksS]); (try rewrite [← o_getS]); conv => cbv)
    refine .inl ⟨_, _, by subst hF hVi hVu hVg hVh hVl; (try subst o_chkT); (try subst o_asksS); (try subst o_getS); exact c1, by subst hF hVi hVu hVg hVh hVl; (try subst o_chkT); (try subst o_asksS); (try subst o_getS); exact ⟨by simp [inRowsL, inRows, lk], by first | exact .inl rfl | exact .inr ⟨rfl, fun B h => nomatch h⟩⟩, ?_⟩ <;> ((try rewrite [← hVi]); (try rewrite [← hVu]); (try rewrite [← hVg]); (try rewrite [← hVh]); (try rewrite [← o_chkT]); (try rewrite [← o_asksS]); (try rewrite [← o_getS]); conv => cbv)
    split <;> rename_i h <;> (try rw [h]) <;> (((try rewrite [← hVi]); (try rewrite [← hVu]); (try rewrite [← hVg]); (try rewrite [← hVh]); (try rewrite [← o_chkT]); (try rewrite [← o_asksS]); (try rewrite [← o_getS]); conv => cbv)) <;> (try simp only [hF, fns, cmI, decide_eq_true_eq, decide_eq_false_iff_not, beq_iff_eq, bne_iff_ne, beq_eq_false_iff_ne, bne_eq_false_iff_eq, ne_eq, Int.not_lt, Int.not_le, Classical.not_not, ge_iff_le, gt_iff_lt, Bool.not_eq_true] at h)
    · exact absurd trivial h
    refine ⟨by subst hF hVi hVu hVg hVh hVl; (try subst o_chkT); (try subst o_asksS); (try subst o_getS); simp [fns], .int .u64 x, u64s_at _ _ _ hx, rfl, ?_⟩
    ((try rewrite [← hVi]); (try rewrite [← hVu]); (try rewrite [← hVg]); (try rewrite [← hVh]); (try rewrite [← o_chkT]); (try rewrite [← o_asksS]); (try rewrite [← o_getS]); conv => cbv)
    refine .inl ⟨_, _, by subst hF hVi hVu hVg hVh hVl; (try subst o_chkT); (try subst o_asksS); (try subst o_getS); exact c2, by subst hF hVi hVu hVg hVh hVl; (try subst o_chkT); (try subst o_asksS); (try subst o_getS); exact ⟨by simp [inRowsL, inRows, lk], by first | exact .inl rfl | exact .inr ⟨rfl, fun B h => nomatch h⟩⟩, ?_⟩ <;> ((try rewrite [← hVi]); (try rewrite [← hVu]); (try rewrite [← hVg]); (try rewrite [← hVh]); (try rewrite [← o_chkT]); (try rewrite [← o_asksS]); (try rewrite [← o_getS]); conv => cbv)
    subst hF hVi hVu hVg hVh hVl; (try subst o_chkT); (try subst o_asksS); (try subst o_getS); subst hd
    simp only [fns]
    refine ⟨by simp [inRows, inRowsL, lk, lenD], ?_⟩
    simp [reify, reifyL]
  · have c1 := about_bad r L E p hL hE hw h0
    rw [if_pos h0] at hG
    generalize asksS r L E p = S at *
    have c1 : Contract Tryd.prog G0 49 [tblD r L E, .int .i64 p] (.tup [.agg [.int .i64 0, .ro [], .ro []], .int .i64 S]) [] := c1
    unfold tblD at *
    ((try rewrite [← hVi]); (try rewrite [← hVu]); (try rewrite [← hVg]); (try rewrite [← hVh]); (try rewrite [← o_chkT]); (try rewrite [← o_asksS]); (try rewrite [← o_getS]); conv => cbv)
    refine .inl ⟨_, _, by subst hF hVi hVu hVg hVh hVl; (try subst o_chkT); (try subst o_asksS); (try subst o_getS); exact c1, by subst hF hVi hVu hVg hVh hVl; (try subst o_chkT); (try subst o_asksS); (try subst o_getS); exact ⟨by simp [inRowsL, inRows, lk], by first | exact .inl rfl | exact .inr ⟨rfl, fun B h => nomatch h⟩⟩, ?_⟩ <;> ((try rewrite [← hVi]); (try rewrite [← hVu]); (try rewrite [← hVg]); (try rewrite [← hVh]); (try rewrite [← o_chkT]); (try rewrite [← o_asksS]); (try rewrite [← o_getS]); conv => cbv)
    split <;> rename_i h <;> (try rw [h]) <;> (((try rewrite [← hVi]); (try rewrite [← hVu]); (try rewrite [← hVg]); (try rewrite [← hVh]); (try rewrite [← o_chkT]); (try rewrite [← o_asksS]); (try rewrite [← o_getS]); conv => cbv)) <;> (try simp only [hF, fns, cmI, decide_eq_true_eq, decide_eq_false_iff_not, beq_iff_eq, bne_iff_ne, beq_eq_false_iff_ne, bne_eq_false_iff_eq, ne_eq, Int.not_lt, Int.not_le, Classical.not_not, ge_iff_le, gt_iff_lt, Bool.not_eq_true] at h)
    · subst hF hVi hVu hVg hVh hVl; (try subst o_chkT); (try subst o_asksS); (try subst o_getS); subst hd
      simp only [fns]
      refine ⟨by simp [inRows, inRowsL, lk, lenD], ?_⟩
      rw [← hG]
      simp [reify, reifyL, En.d, enZ]
    · exact absurd h h0
theorem pput_c (r : Int) (L E : List Int) (p : Int) (e : En) (hL : L.length < 100) (hE : E.length < 100) (hw : wordsOk E) : Contract Tryd.prog G0 31 [tblD r L E, .int .i64 p, e.d] (putS r L E p e).d [] := by
  refine fun0 tys_ok mixed (n := 52) (rs := [.cell 6 25, .tmp 7]) ⟨Tryd.func31, by kernel_rfl, rfl⟩ rfl rfl (by simp) fun F d0 hF hd => ?_
  obtain ⟨ints, u64s, gv, gh, lenF, hVi, hVu, hVg, hVh, hVl, lenD, ints_len, u64s_len, ints_cells, u64s_cells, ints_at, u64s_at, gv_nil, gh_nil, gv_ne, gh_ne, gv_snoc, gh_snoc, gv_one, gh_one, lt_gv, ren_gv, lk_gh, renH_gh, mem_gh, injK_gh, injH_gh, ints_nil, ints_app, ints_one, ints_cons, ints_ne, u64s_nil, u64s_app, u64s_one, u64s_ne, ints_set, u64s_set⟩ := vocab
  obtain ⟨f_chkT, o_chkT⟩ : ∃ f, f = chkT := ⟨_, rfl⟩
  obtain ⟨f_asksS, o_asksS⟩ : ∃ f, f = asksS := ⟨_, rfl⟩
  obtain ⟨f_putS, o_putS⟩ : ∃ f, f = putS := ⟨_, rfl⟩
  have c2 := pack_c e
  generalize hP : putS r L E p e = X at hd
  rw [putS] at hP
  obtain ⟨ek, en, ew, ec, er⟩ := e
  generalize packS ⟨ek, en, ew, ec, er⟩ = Y at c2 hP
  obtain ⟨pw, pf⟩ := Y
  unfold En.d at *
  simp only at hP c2
  by_cases h0 : asksS r L E p = 0
  · have c1 := about_ok r L E p hL hE hw h0
    obtain ⟨h1, h2, h3⟩ := asksS_ok h0
    obtain ⟨g4, g5⟩ := chkT_len h1
    rw [if_neg (by simpa using h0)] at hP
    obtain ⟨n, hn⟩ := Int.eq_ofNat_of_zero_le h2
    obtain ⟨y, hy⟩ : ∃ y, L[n / 8]? = some y := ⟨_, List.getElem?_eq_getElem (by omega)⟩
    have hyr := chkT_rng h1 hy
    have hyd : lacksS L p = decide (y < 0) := by rw [lacksS, List.getD_eq_getElem?_getD, hn, Int.toNat_natCast, hy]; rfl
    rw [hyd, hn, Int.toNat_natCast] at hP
    have hq := quo8 hF hn (by omega)
    obtain ⟨q, hq0⟩ : ∃ q : Nat, q = n / 8 := ⟨_, rfl⟩
    rw [← hq0] at hy hq
    have hl1 := ints_len L
    have hl2 := u64s_len E
    obtain ⟨E2, hE2⟩ : ∃ E2, E2 = E.set n pw := ⟨_, rfl⟩
    rw [← hE2] at hP
    have hl3 : (u64s E2).length = 64 := by rw [u64s_len, hE2]; simp [g5]
    subst hn
    have e2 : F.lset (u64s E) (F.ix 0 (Int.ofNat n)) (.int .u64 pw) = u64s E2 := by subst hF hVi hVu hVg hVh hVl; (try subst o_chkT); (try subst o_asksS); (try subst o_putS); simp only [fns]; rw [hE2, ← u64s_set]; simp
    (conv at hq => lhs; cbv) <;> (conv at e2 => lhs; cbv)
    unfold tblD tblOwn tblExt at *
    rw [g4, g5] at c1
    have bad : ∀ f, X = teZ f → X.d = .tup [.agg [.int .i64 0, .ro [], .ro []], .int .i64 f] := fun f h => by rw [h]; rfl
    ((try rewrite [← hVi]); (try rewrite [← hVu]); (try rewrite [← hVg]); (try rewrite [← hVh]); (try rewrite [← o_chkT]); (try rewrite [← o_asksS]); (try rewrite [← o_putS]); conv => cbv)
    refine .inl ⟨_, _, by subst hF hVi hVu hVg hVh hVl; (try subst o_chkT); (try subst o_asksS); (try subst o_putS); exact c1, by subst hF hVi hVu hVg hVh hVl; (try subst o_chkT); (try subst o_asksS); (try subst o_putS); exact ⟨by simp [inRowsL, inRows, lk], by first | exact .inl rfl | exact .inr ⟨rfl, fun B h => nomatch h⟩⟩, ?_⟩ <;> ((try rewrite [← hVi]); (try rewrite [← hVu]); (try rewrite [← hVg]); (try rewrite [← hVh]); (try rewrite [← o_chkT]); (try rewrite [← o_asksS]); (try rewrite [← o_putS]); conv => cbv)
    split <;> rename_i h <;> (try rw [h]) <;> (((try rewrite [← hVi]); (try rewrite [← hVu]); (try rewrite [← hVg]); (try rewrite [← hVh]); (try rewrite [← o_chkT]); (try rewrite [← o_asksS]); (try rewrite [← o_putS]); conv => cbv)) <;> (try simp only [hF, fns, cmI, decide_eq_true_eq, decide_eq_false_iff_not, beq_iff_eq, bne_iff_ne, beq_eq_false_iff_ne, bne_eq_false_iff_eq, ne_eq, Int.not_lt, Int.not_le, Classical.not_not, ge_iff_le, gt_iff_lt, Bool.not_eq_true] at h)
    · exact absurd trivial h
    refine .inl ⟨_, _, by subst hF hVi hVu hVg hVh hVl; (try subst o_chkT); (try subst o_asksS); (try subst o_putS); exact c2, by subst hF hVi hVu hVg hVh hVl; (try subst o_chkT); (try subst o_asksS); (try subst o_putS); exact ⟨by simp [inRowsL, inRows, lk], by first | exact .inl rfl | exact .inr ⟨rfl, fun B h => nomatch h⟩⟩, ?_⟩ <;> ((try rewrite [← hVi]); (try rewrite [← hVu]); (try rewrite [← hVg]); (try rewrite [← hVh]); (try rewrite [← o_chkT]); (try rewrite [← o_asksS]); (try rewrite [← o_putS]); conv => cbv)
    have fin9 : pf = 0 → y < 0 → ek ≠ 0 → X.d = .tup [.agg [.int .i64 0, .ro [], .ro []], .int .i64 9] := fun a1 a2 a3 => bad 9 (by rw [← hP, if_neg (by simpa using a1), if_pos ⟨by simpa using a2, a3⟩])
    have finP : pf ≠ 0 → X.d = .tup [.agg [.int .i64 0, .ro [], .ro []], .int .i64 pf] := fun a1 => bad pf (by rw [← hP, if_pos a1])
    have finG : pf = 0 → ¬ (y < 0 ∧ ek ≠ 0) → X.d = .tup [.agg [.int .i64 r, .ro (ints L), .ro (u64s E2)], .int .i64 0] := fun a1 a2 => by
      subst hVi hVu; rw [← hP, if_neg (by simpa using a1), if_neg (by simpa using a2)]; rfl
    split <;> rename_i q1 <;> (try rw [q1]) <;> (((try rewrite [← hVi]); (try rewrite [← hVu]); (try rewrite [← hVg]); (try rewrite [← hVh]); (try rewrite [← o_chkT]); (try rewrite [← o_asksS]); (try rewrite [← o_putS]); conv => cbv)) <;> (try simp only [hF, fns, cmI, decide_eq_true_eq, decide_eq_false_iff_not, beq_iff_eq, bne_iff_ne, beq_eq_false_iff_ne, bne_eq_false_iff_eq, ne_eq, Int.not_lt, Int.not_le, Classical.not_not, ge_iff_le, gt_iff_lt, Bool.not_eq_true] at q1)
    · refine ⟨by subst hF hVi hVu hVg hVh hVl; (try subst o_chkT); (try subst o_asksS); (try subst o_putS); simp [fns], ?_⟩
      rw [hq]
      refine ⟨by subst hF hVi hVu hVg hVh hVl; (try subst o_chkT); (try subst o_asksS); (try subst o_putS); simp [fns]; omega, .int .i64 y, by subst hF hVi hVu hVg hVh hVl; (try subst o_chkT); (try subst o_asksS); (try subst o_putS); simpa [fns] using ints_at _ _ _ hy, ?_⟩
      ((try rewrite [← hVi]); (try rewrite [← hVu]); (try rewrite [← hVg]); (try rewrite [← hVh]); (try rewrite [← o_chkT]); (try rewrite [← o_asksS]); (try rewrite [← o_putS]); conv => cbv)
      have good : ¬ (y < 0 ∧ ek ≠ 0) → X.d = .tup [.agg [.int .i64 r, .ro (ints L), .ro (u64s E2)], .int .i64 0] := finG q1
      split <;> rename_i q2 <;> (try rw [q2]) <;> (((try rewrite [← hVi]); (try rewrite [← hVu]); (try rewrite [← hVg]); (try rewrite [← hVh]); (try rewrite [← o_chkT]); (try rewrite [← o_asksS]); (try rewrite [← o_putS]); conv => cbv)) <;> (try simp only [hF, fns, cmI, decide_eq_true_eq, decide_eq_false_iff_not, beq_iff_eq, bne_iff_ne, beq_eq_false_iff_ne, bne_eq_false_iff_eq, ne_eq, Int.not_lt, Int.not_le, Classical.not_not, ge_iff_le, gt_iff_lt, Bool.not_eq_true] at q2)
      · split <;> rename_i q3 <;> (try rw [q3]) <;> (((try rewrite [← hVi]); (try rewrite [← hVu]); (try rewrite [← hVg]); (try rewrite [← hVh]); (try rewrite [← o_chkT]); (try rewrite [← o_asksS]); (try rewrite [← o_putS]); conv => cbv)) <;> (try simp only [hF, fns, cmI, decide_eq_true_eq, decide_eq_false_iff_not, beq_iff_eq, bne_iff_ne, beq_eq_false_iff_ne, bne_eq_false_iff_eq, ne_eq, Int.not_lt, Int.not_le, Classical.not_not, ge_iff_le, gt_iff_lt, Bool.not_eq_true] at q3)
        · split <;> rename_i q4 <;> (try rw [q4]) <;> (((try rewrite [← hVi]); (try rewrite [← hVu]); (try rewrite [← hVg]); (try rewrite [← hVh]); (try rewrite [← o_chkT]); (try rewrite [← o_asksS]); (try rewrite [← o_putS]); conv => cbv)) <;> (try simp only [hF, fns, cmI, decide_eq_true_eq, decide_eq_false_iff_not, beq_iff_eq, bne_iff_ne, beq_eq_false_iff_ne, bne_eq_false_iff_eq, ne_eq, Int.not_lt, Int.not_le, Classical.not_not, ge_iff_le, gt_iff_lt, Bool.not_eq_true] at q4)
          rotate_left
          · simp at q4
          subst hF hVi hVu hVg hVh hVl; (try subst o_chkT); (try subst o_asksS); (try subst o_putS); subst hd
          simp only [fns]
          refine ⟨by simp [inRows, inRowsL, lk, lenD], ?_⟩
          rw [fin9 q1 (by omega) q3]
          simp [reify, reifyL]
        · split <;> rename_i q4 <;> (try rw [q4]) <;> (((try rewrite [← hVi]); (try rewrite [← hVu]); (try rewrite [← hVg]); (try rewrite [← hVh]); (try rewrite [← o_chkT]); (try rewrite [← o_asksS]); (try rewrite [← o_putS]); conv => cbv)) <;> (try simp only [hF, fns, cmI, decide_eq_true_eq, decide_eq_false_iff_not, beq_iff_eq, bne_iff_ne, beq_eq_false_iff_ne, bne_eq_false_iff_eq, ne_eq, Int.not_lt, Int.not_le, Classical.not_not, ge_iff_le, gt_iff_lt, Bool.not_eq_true] at q4)
          · exact absurd q1 q4
          refine ⟨by subst hF hVi hVu hVg hVh hVl; (try subst o_chkT); (try subst o_asksS); (try subst o_putS); simp [fns]; omega, by subst hF hVi hVu hVg hVh hVl; (try subst o_chkT); (try subst o_asksS); (try subst o_putS); simp [fns, hl2]; omega, ?_⟩
          rw [e2]
          ((try rewrite [← hVi]); (try rewrite [← hVu]); (try rewrite [← hVg]); (try rewrite [← hVh]); (try rewrite [← o_chkT]); (try rewrite [← o_asksS]); (try rewrite [← o_putS]); conv => cbv)
          subst hF hVi hVu hVg hVh hVl; (try subst o_chkT); (try subst o_asksS); (try subst o_putS); subst hd
          simp only [fns]
          refine ⟨by simp [inRows, inRowsL, lk, hl1, hl3, g4], ?_⟩
          rw [good (by omega)]
          simp [reify, reifyL, lk, subL, hl1, hl3, g4]
      · split <;> rename_i q4 <;> (try rw [q4]) <;> (((try rewrite [← hVi]); (try rewrite [← hVu]); (try rewrite [← hVg]); (try rewrite [← hVh]); (try rewrite [← o_chkT]); (try rewrite [← o_asksS]); (try rewrite [← o_putS]); conv => cbv)) <;> (try simp only [hF, fns, cmI, decide_eq_true_eq, decide_eq_false_iff_not, beq_iff_eq, bne_iff_ne, beq_eq_false_iff_ne, bne_eq_false_iff_eq, ne_eq, Int.not_lt, Int.not_le, Classical.not_not, ge_iff_le, gt_iff_lt, Bool.not_eq_true] at q4)
        · exact absurd q1 q4
        refine ⟨by subst hF hVi hVu hVg hVh hVl; (try subst o_chkT); (try subst o_asksS); (try subst o_putS); simp [fns]; omega, by subst hF hVi hVu hVg hVh hVl; (try subst o_chkT); (try subst o_asksS); (try subst o_putS); simp [fns, hl2]; omega, ?_⟩
        rw [e2]
        ((try rewrite [← hVi]); (try rewrite [← hVu]); (try rewrite [← hVg]); (try rewrite [← hVh]); (try rewrite [← o_chkT]); (try rewrite [← o_asksS]); (try rewrite [← o_putS]); conv => cbv)
        subst hF hVi hVu hVg hVh hVl; (try subst o_chkT); (try subst o_asksS); (try subst o_putS); subst hd
        simp only [fns]
        refine ⟨by simp [inRows, inRowsL, lk, hl1, hl3, g4], ?_⟩
        rw [good (by omega)]
        simp [reify, reifyL, lk, subL, hl1, hl3, g4]
    · split <;> rename_i q4 <;> (try rw [q4]) <;> (((try rewrite [← hVi]); (try rewrite [← hVu]); (try rewrite [← hVg]); (try rewrite [← hVh]); (try rewrite [← o_chkT]); (try rewrite [← o_asksS]); (try rewrite [← o_putS]); conv => cbv)) <;> (try simp only [hF, fns, cmI, decide_eq_true_eq, decide_eq_false_iff_not, beq_iff_eq, bne_iff_ne, beq_eq_false_iff_ne, bne_eq_false_iff_eq, ne_eq, Int.not_lt, Int.not_le, Classical.not_not, ge_iff_le, gt_iff_lt, Bool.not_eq_true] at q4)
      · subst hF hVi hVu hVg hVh hVl; (try subst o_chkT); (try subst o_asksS); (try subst o_putS); subst hd
        simp only [fns]
        refine ⟨by simp [inRows, inRowsL, lk, lenD], ?_⟩
        rw [finP q1]
        simp [reify, reifyL]
      · exact absurd q4 q1
  · have c1 := about_bad r L E p hL hE hw h0
    rw [if_pos h0] at hP
    generalize asksS r L E p = S at *
    have c1 : Contract Tryd.prog G0 49 [tblD r L E, .int .i64 p] (.tup [.agg [.int .i64 0, .ro [], .ro []], .int .i64 S]) [] := c1
    unfold tblD at *
    ((try rewrite [← hVi]); (try rewrite [← hVu]); (try rewrite [← hVg]); (try rewrite [← hVh]); (try rewrite [← o_chkT]); (try rewrite [← o_asksS]); (try rewrite [← o_putS]); conv => cbv)
    refine .inl ⟨_, _, by subst hF hVi hVu hVg hVh hVl; (try subst o_chkT); (try subst o_asksS); (try subst o_putS); exact c1, by subst hF hVi hVu hVg hVh hVl; (try subst o_chkT); (try subst o_asksS); (try subst o_putS); exact ⟨by simp [inRowsL, inRows, lk], by first | exact .inl rfl | exact .inr ⟨rfl, fun B h => nomatch h⟩⟩, ?_⟩ <;> ((try rewrite [← hVi]); (try rewrite [← hVu]); (try rewrite [← hVg]); (try rewrite [← hVh]); (try rewrite [← o_chkT]); (try rewrite [← o_asksS]); (try rewrite [← o_putS]); conv => cbv)
    split <;> rename_i h <;> (try rw [h]) <;> (((try rewrite [← hVi]); (try rewrite [← hVu]); (try rewrite [← hVg]); (try rewrite [← hVh]); (try rewrite [← o_chkT]); (try rewrite [← o_asksS]); (try rewrite [← o_putS]); conv => cbv)) <;> (try simp only [hF, fns, cmI, decide_eq_true_eq, decide_eq_false_iff_not, beq_iff_eq, bne_iff_ne, beq_eq_false_iff_ne, bne_eq_false_iff_eq, ne_eq, Int.not_lt, Int.not_le, Classical.not_not, ge_iff_le, gt_iff_lt, Bool.not_eq_true] at h)
    · subst hF hVi hVu hVg hVh hVl; (try subst o_chkT); (try subst o_asksS); (try subst o_putS); subst hd
      simp only [fns]
      refine ⟨by simp [inRows, inRowsL, lk, lenD], ?_⟩
      rw [teZ_d hP.symm]
      simp [reify, reifyL]
    · exact absurd h h0
end Go.Proofs.YtppmomobjjpljaaDoor.E
end

/- Part C5. -/
section
/- Contracts: leaves are set, empty leaves (program). -/
namespace Go.Proofs.YtppmomobjjpljaaDoor.E
open Go Go.RowKit
set_option linter.unusedVariables false
set_option linter.unusedSimpArgs false
set_option maxRecDepth 100000
theorem psetLeaf_c (r : Int) (L E : List Int) (leaf f : Int) (hL : L.length < 100) (hE : E.length < 100) (hw : wordsOk E) : Contract Tryd.prog G0 37 [tblD r L E, .int .i64 leaf, .int .i64 f] (setLeafS r L E leaf f).d [] := by
  refine fun0 tys_ok mixed (n := 66) (rs := [.cell 6 25, .tmp 7]) ⟨Tryd.func37, by kernel_rfl, rfl⟩ rfl rfl (by simp) fun F d0 hF hd => ?_
  obtain ⟨ints, u64s, gv, gh, lenF, hVi, hVu, hVg, hVh, hVl, lenD, ints_len, u64s_len, ints_cells, u64s_cells, ints_at, u64s_at, gv_nil, gh_nil, gv_ne, gh_ne, gv_snoc, gh_snoc, gv_one, gh_one, lt_gv, ren_gv, lk_gh, renH_gh, mem_gh, injK_gh, injH_gh, ints_nil, ints_app, ints_one, ints_cons, ints_ne, u64s_nil, u64s_app, u64s_one, u64s_ne, ints_set, u64s_set⟩ := vocab
  obtain ⟨f_chkT, o_chkT⟩ : ∃ f, f = chkT := ⟨_, rfl⟩
  obtain ⟨f_setLeafS, o_setLeafS⟩ : ∃ f, f = setLeafS := ⟨_, rfl⟩
  generalize hP : setLeafS r L E leaf f = X at hd
  rw [setLeafS] at hP
  by_cases h0 : chkT r L E = 0
  · have c1 := opened_ok r L E hL hE hw h0
    obtain ⟨g4, g5⟩ := chkT_len h0
    have ho := chkT_iff.1 h0
    rw [if_neg (by simpa using h0)] at hP
    have hl1 := ints_len L
    have hl2 := u64s_len E
    have c2 := contains_c (G := G0) L f (by omega)
    have hu : usesS r L 8 f = (r == f || L.contains f) := by rw [usesS, List.take_of_length_le (by simp [g4])]
    rw [hu] at hP
    generalize L.contains f = b at c2 hP
    unfold tblD tblOwn tblExt at *
    rw [g4, g5] at c1
    ((try rewrite [← hVi]); (try rewrite [← hVu]); (try rewrite [← hVg]); (try rewrite [← hVh]); (try rewrite [← o_chkT]); (try rewrite [← o_setLeafS]); conv => cbv)
    refine .inl ⟨_, _, by subst hF hVi hVu hVg hVh hVl; (try subst o_chkT); (try subst o_setLeafS); exact c1, by subst hF hVi hVu hVg hVh hVl; (try subst o_chkT); (try subst o_setLeafS); exact ⟨by simp [inRowsL, inRows, lk], by first | exact .inl rfl | exact .inr ⟨rfl, fun B h => nomatch h⟩⟩, ?_⟩ <;> ((try rewrite [← hVi]); (try rewrite [← hVu]); (try rewrite [← hVg]); (try rewrite [← hVh]); (try rewrite [← o_chkT]); (try rewrite [← o_setLeafS]); conv => cbv)
    split <;> rename_i q0 <;> (try rw [q0]) <;> (((try rewrite [← hVi]); (try rewrite [← hVu]); (try rewrite [← hVg]); (try rewrite [← hVh]); (try rewrite [← o_chkT]); (try rewrite [← o_setLeafS]); conv => cbv)) <;> (try simp only [hF, fns, cmI, decide_eq_true_eq, decide_eq_false_iff_not, beq_iff_eq, bne_iff_ne, beq_eq_false_iff_ne, bne_eq_false_iff_eq, ne_eq, Int.not_lt, Int.not_le, Classical.not_not, ge_iff_le, gt_iff_lt, Bool.not_eq_true] at q0)
    · exact absurd trivial q0
    have bad : ∀ e, X = teZ e → X.d = .tup [.agg [.int .i64 0, .ro [], .ro []], .int .i64 e] := fun f h => by rw [h]; rfl
    have bad2 : (leaf < 0 ∨ leaf ≥ 8 ∨ f < 0 ∨ f ≥ 256) → X.d = .tup [.agg [.int .i64 0, .ro [], .ro []], .int .i64 2] := fun h => bad 2 (by rw [← hP, if_pos h])
    split <;> rename_i q1 <;> (try rw [q1]) <;> (((try rewrite [← hVi]); (try rewrite [← hVu]); (try rewrite [← hVg]); (try rewrite [← hVh]); (try rewrite [← o_chkT]); (try rewrite [← o_setLeafS]); conv => cbv)) <;> (try simp only [hF, fns, cmI, decide_eq_true_eq, decide_eq_false_iff_not, beq_iff_eq, bne_iff_ne, beq_eq_false_iff_ne, bne_eq_false_iff_eq, ne_eq, Int.not_lt, Int.not_le, Classical.not_not, ge_iff_le, gt_iff_lt, Bool.not_eq_true] at q1)
    · split <;> rename_i z1 <;> (try rw [z1]) <;> (((try rewrite [← hVi]); (try rewrite [← hVu]); (try rewrite [← hVg]); (try rewrite [← hVh]); (try rewrite [← o_chkT]); (try rewrite [← o_setLeafS]); conv => cbv)) <;> (try simp only [hF, fns, cmI, decide_eq_true_eq, decide_eq_false_iff_not, beq_iff_eq, bne_iff_ne, beq_eq_false_iff_ne, bne_eq_false_iff_eq, ne_eq, Int.not_lt, Int.not_le, Classical.not_not, ge_iff_le, gt_iff_lt, Bool.not_eq_true] at z1)
      rotate_left
      · simp at z1
      subst hF hVi hVu hVg hVh hVl; (try subst o_chkT); (try subst o_setLeafS); subst hd
      simp only [fns]
      refine ⟨by simp [inRows, inRowsL, lk, lenD], ?_⟩
      rw [bad2 (.inl q1)]
      simp [reify, reifyL]
    split <;> rename_i q2 <;> (try rw [q2]) <;> (((try rewrite [← hVi]); (try rewrite [← hVu]); (try rewrite [← hVg]); (try rewrite [← hVh]); (try rewrite [← o_chkT]); (try rewrite [← o_setLeafS]); conv => cbv)) <;> (try simp only [hF, fns, cmI, decide_eq_true_eq, decide_eq_false_iff_not, beq_iff_eq, bne_iff_ne, beq_eq_false_iff_ne, bne_eq_false_iff_eq, ne_eq, Int.not_lt, Int.not_le, Classical.not_not, ge_iff_le, gt_iff_lt, Bool.not_eq_true] at q2)
    · split <;> rename_i z1 <;> (try rw [z1]) <;> (((try rewrite [← hVi]); (try rewrite [← hVu]); (try rewrite [← hVg]); (try rewrite [← hVh]); (try rewrite [← o_chkT]); (try rewrite [← o_setLeafS]); conv => cbv)) <;> (try simp only [hF, fns, cmI, decide_eq_true_eq, decide_eq_false_iff_not, beq_iff_eq, bne_iff_ne, beq_eq_false_iff_ne, bne_eq_false_iff_eq, ne_eq, Int.not_lt, Int.not_le, Classical.not_not, ge_iff_le, gt_iff_lt, Bool.not_eq_true] at z1)
      rotate_left
      · simp at z1
      subst hF hVi hVu hVg hVh hVl; (try subst o_chkT); (try subst o_setLeafS); subst hd
      simp only [fns]
      refine ⟨by simp [inRows, inRowsL, lk, lenD], ?_⟩
      rw [bad2 (.inr (.inl q2))]
      simp [reify, reifyL]
    split <;> rename_i q3 <;> (try rw [q3]) <;> (((try rewrite [← hVi]); (try rewrite [← hVu]); (try rewrite [← hVg]); (try rewrite [← hVh]); (try rewrite [← o_chkT]); (try rewrite [← o_setLeafS]); conv => cbv)) <;> (try simp only [hF, fns, cmI, decide_eq_true_eq, decide_eq_false_iff_not, beq_iff_eq, bne_iff_ne, beq_eq_false_iff_ne, bne_eq_false_iff_eq, ne_eq, Int.not_lt, Int.not_le, Classical.not_not, ge_iff_le, gt_iff_lt, Bool.not_eq_true] at q3)
    · split <;> rename_i z1 <;> (try rw [z1]) <;> (((try rewrite [← hVi]); (try rewrite [← hVu]); (try rewrite [← hVg]); (try rewrite [← hVh]); (try rewrite [← o_chkT]); (try rewrite [← o_setLeafS]); conv => cbv)) <;> (try simp only [hF, fns, cmI, decide_eq_true_eq, decide_eq_false_iff_not, beq_iff_eq, bne_iff_ne, beq_eq_false_iff_ne, bne_eq_false_iff_eq, ne_eq, Int.not_lt, Int.not_le, Classical.not_not, ge_iff_le, gt_iff_lt, Bool.not_eq_true] at z1)
      rotate_left
      · simp at z1
      subst hF hVi hVu hVg hVh hVl; (try subst o_chkT); (try subst o_setLeafS); subst hd
      simp only [fns]
      refine ⟨by simp [inRows, inRowsL, lk, lenD], ?_⟩
      rw [bad2 (.inr (.inr (.inl q3)))]
      simp [reify, reifyL]
    split <;> rename_i q4 <;> (try rw [q4]) <;> (((try rewrite [← hVi]); (try rewrite [← hVu]); (try rewrite [← hVg]); (try rewrite [← hVh]); (try rewrite [← o_chkT]); (try rewrite [← o_setLeafS]); conv => cbv)) <;> (try simp only [hF, fns, cmI, decide_eq_true_eq, decide_eq_false_iff_not, beq_iff_eq, bne_iff_ne, beq_eq_false_iff_ne, bne_eq_false_iff_eq, ne_eq, Int.not_lt, Int.not_le, Classical.not_not, ge_iff_le, gt_iff_lt, Bool.not_eq_true] at q4)
    · split <;> rename_i z1 <;> (try rw [z1]) <;> (((try rewrite [← hVi]); (try rewrite [← hVu]); (try rewrite [← hVg]); (try rewrite [← hVh]); (try rewrite [← o_chkT]); (try rewrite [← o_setLeafS]); conv => cbv)) <;> (try simp only [hF, fns, cmI, decide_eq_true_eq, decide_eq_false_iff_not, beq_iff_eq, bne_iff_ne, beq_eq_false_iff_ne, bne_eq_false_iff_eq, ne_eq, Int.not_lt, Int.not_le, Classical.not_not, ge_iff_le, gt_iff_lt, Bool.not_eq_true] at z1)
      rotate_left
      · simp at z1
      subst hF hVi hVu hVg hVh hVl; (try subst o_chkT); (try subst o_setLeafS); subst hd
      simp only [fns]
      refine ⟨by simp [inRows, inRowsL, lk, lenD], ?_⟩
      rw [bad2 (.inr (.inr (.inr q4)))]
      simp [reify, reifyL]
    rw [if_neg (by omega)] at hP
    split <;> rename_i q5 <;> (try rw [q5]) <;> (((try rewrite [← hVi]); (try rewrite [← hVu]); (try rewrite [← hVg]); (try rewrite [← hVh]); (try rewrite [← o_chkT]); (try rewrite [← o_setLeafS]); conv => cbv)) <;> (try simp only [hF, fns, cmI, decide_eq_true_eq, decide_eq_false_iff_not, beq_iff_eq, bne_iff_ne, beq_eq_false_iff_ne, bne_eq_false_iff_eq, ne_eq, Int.not_lt, Int.not_le, Classical.not_not, ge_iff_le, gt_iff_lt, Bool.not_eq_true] at q5)
    · split <;> rename_i z1 <;> (try rw [z1]) <;> (((try rewrite [← hVi]); (try rewrite [← hVu]); (try rewrite [← hVg]); (try rewrite [← hVh]); (try rewrite [← o_chkT]); (try rewrite [← o_setLeafS]); conv => cbv)) <;> (try simp only [hF, fns, cmI, decide_eq_true_eq, decide_eq_false_iff_not, beq_iff_eq, bne_iff_ne, beq_eq_false_iff_ne, bne_eq_false_iff_eq, ne_eq, Int.not_lt, Int.not_le, Classical.not_not, ge_iff_le, gt_iff_lt, Bool.not_eq_true] at z1)
      rotate_left
      · simp at z1
      subst hF hVi hVu hVg hVh hVl; (try subst o_chkT); (try subst o_setLeafS); subst hd
      simp only [fns]
      refine ⟨by simp [inRows, inRowsL, lk, lenD], ?_⟩
      rw [bad 9 (by rw [← hP, if_pos (by omega)])]
      simp [reify, reifyL]
    have hr0 := ho.root
    rw [if_neg (by omega)] at hP
    obtain ⟨n, hn⟩ := Int.eq_ofNat_of_zero_le q1
    obtain ⟨y, hy⟩ : ∃ y, L[n]? = some y := ⟨_, List.getElem?_eq_getElem (by omega)⟩
    have hyr := chkT_rng h0 hy
    rw [hn, Int.toNat_natCast, List.getD_eq_getElem?_getD, hy, Option.getD_some] at hP
    subst hn
    obtain ⟨L2, hL2⟩ : ∃ L2, L2 = L.set n f := ⟨_, rfl⟩
    rw [← hL2] at hP
    have hl3 : (ints L2).length = 8 := by rw [ints_len, hL2]; simp [g4]
    have e1 : F.sub (ints L) 0 8 = ints L := by subst hF hVi hVu hVg hVh hVl; (try subst o_chkT); (try subst o_setLeafS); simp [fns, subL, hl1, g4]
    have e2 : F.lset (ints L) (F.ix 0 (Int.ofNat n)) (.int .i64 f) = ints L2 := by subst hF hVi hVu hVg hVh hVl; (try subst o_chkT); (try subst o_setLeafS); simp only [fns]; rw [hL2, ← ints_set]; simp
    (conv at e1 => lhs; cbv) <;> (conv at e2 => lhs; cbv)
    refine ⟨by subst hF hVi hVu hVg hVh hVl; (try subst o_chkT); (try subst o_setLeafS); simp [fns]; omega, .int .i64 y, by subst hF hVi hVu hVg hVh hVl; (try subst o_chkT); (try subst o_setLeafS); simpa [fns] using ints_at _ _ _ hy, ?_⟩
    ((try rewrite [← hVi]); (try rewrite [← hVu]); (try rewrite [← hVg]); (try rewrite [← hVh]); (try rewrite [← o_chkT]); (try rewrite [← o_setLeafS]); conv => cbv)
    split <;> rename_i q6 <;> (try rw [q6]) <;> (((try rewrite [← hVi]); (try rewrite [← hVu]); (try rewrite [← hVg]); (try rewrite [← hVh]); (try rewrite [← o_chkT]); (try rewrite [← o_setLeafS]); conv => cbv)) <;> (try simp only [hF, fns, cmI, decide_eq_true_eq, decide_eq_false_iff_not, beq_iff_eq, bne_iff_ne, beq_eq_false_iff_ne, bne_eq_false_iff_eq, ne_eq, Int.not_lt, Int.not_le, Classical.not_not, ge_iff_le, gt_iff_lt, Bool.not_eq_true] at q6)
    · split <;> rename_i z1 <;> (try rw [z1]) <;> (((try rewrite [← hVi]); (try rewrite [← hVu]); (try rewrite [← hVg]); (try rewrite [← hVh]); (try rewrite [← o_chkT]); (try rewrite [← o_setLeafS]); conv => cbv)) <;> (try simp only [hF, fns, cmI, decide_eq_true_eq, decide_eq_false_iff_not, beq_iff_eq, bne_iff_ne, beq_eq_false_iff_ne, bne_eq_false_iff_eq, ne_eq, Int.not_lt, Int.not_le, Classical.not_not, ge_iff_le, gt_iff_lt, Bool.not_eq_true] at z1)
      rotate_left
      · simp at z1
      subst hF hVi hVu hVg hVh hVl; (try subst o_chkT); (try subst o_setLeafS); subst hd
      simp only [fns]
      refine ⟨by simp [inRows, inRowsL, lk, lenD], ?_⟩
      rw [bad 7 (by rw [← hP, if_pos (.inl (by omega))])]
      simp [reify, reifyL]
    split <;> rename_i q7 <;> (try rw [q7]) <;> (((try rewrite [← hVi]); (try rewrite [← hVu]); (try rewrite [← hVg]); (try rewrite [← hVh]); (try rewrite [← o_chkT]); (try rewrite [← o_setLeafS]); conv => cbv)) <;> (try simp only [hF, fns, cmI, decide_eq_true_eq, decide_eq_false_iff_not, beq_iff_eq, bne_iff_ne, beq_eq_false_iff_ne, bne_eq_false_iff_eq, ne_eq, Int.not_lt, Int.not_le, Classical.not_not, ge_iff_le, gt_iff_lt, Bool.not_eq_true] at q7)
    · split <;> rename_i z1 <;> (try rw [z1]) <;> (((try rewrite [← hVi]); (try rewrite [← hVu]); (try rewrite [← hVg]); (try rewrite [← hVh]); (try rewrite [← o_chkT]); (try rewrite [← o_setLeafS]); conv => cbv)) <;> (try simp only [hF, fns, cmI, decide_eq_true_eq, decide_eq_false_iff_not, beq_iff_eq, bne_iff_ne, beq_eq_false_iff_ne, bne_eq_false_iff_eq, ne_eq, Int.not_lt, Int.not_le, Classical.not_not, ge_iff_le, gt_iff_lt, Bool.not_eq_true] at z1)
      rotate_left
      · simp at z1
      subst hF hVi hVu hVg hVh hVl; (try subst o_chkT); (try subst o_setLeafS); subst hd
      simp only [fns]
      refine ⟨by simp [inRows, inRowsL, lk, lenD], ?_⟩
      rw [bad 7 (by rw [← hP, if_pos (.inr (by simp [q7]))])]
      simp [reify, reifyL]
    rw [e1]
    refine .inl ⟨_, _, by subst hF hVi hVu hVg hVh hVl; (try subst o_chkT); (try subst o_setLeafS); exact c2, by subst hF hVi hVu hVg hVh hVl; (try subst o_chkT); (try subst o_setLeafS); exact ⟨by simp [inRowsL, inRows, lk, hl1, g4], .inr ⟨rfl, fun B h => nomatch h⟩⟩, ?_⟩
    cases b
    · ((try rewrite [← hVi]); (try rewrite [← hVu]); (try rewrite [← hVg]); (try rewrite [← hVh]); (try rewrite [← o_chkT]); (try rewrite [← o_setLeafS]); conv => cbv)
      split <;> rename_i z1 <;> (try rw [z1]) <;> (((try rewrite [← hVi]); (try rewrite [← hVu]); (try rewrite [← hVg]); (try rewrite [← hVh]); (try rewrite [← o_chkT]); (try rewrite [← o_setLeafS]); conv => cbv)) <;> (try simp only [hF, fns, cmI, decide_eq_true_eq, decide_eq_false_iff_not, beq_iff_eq, bne_iff_ne, beq_eq_false_iff_ne, bne_eq_false_iff_eq, ne_eq, Int.not_lt, Int.not_le, Classical.not_not, ge_iff_le, gt_iff_lt, Bool.not_eq_true] at z1)
      · exact absurd trivial z1
      refine ⟨by subst hF hVi hVu hVg hVh hVl; (try subst o_chkT); (try subst o_setLeafS); simp [fns]; omega, by subst hF hVi hVu hVg hVh hVl; (try subst o_chkT); (try subst o_setLeafS); simp [fns, hl1]; omega, ?_⟩
      rw [e2]
      ((try rewrite [← hVi]); (try rewrite [← hVu]); (try rewrite [← hVg]); (try rewrite [← hVh]); (try rewrite [← o_chkT]); (try rewrite [← o_setLeafS]); conv => cbv)
      subst hF hVi hVu hVg hVh hVl; (try subst o_chkT); (try subst o_setLeafS); subst hd
      simp only [fns]
      refine ⟨by simp [inRows, inRowsL, lk, hl2, hl3, g5], ?_⟩
      rw [← hP, if_neg (by intro h; rcases h with h | h; omega; simp at h; exact q7 h.symm)]
      simp [TE.d, tblD, reify, reifyL, lk, subL, hl2, hl3, g5]
    · ((try rewrite [← hVi]); (try rewrite [← hVu]); (try rewrite [← hVg]); (try rewrite [← hVh]); (try rewrite [← o_chkT]); (try rewrite [← o_setLeafS]); conv => cbv)
      split <;> rename_i z1 <;> (try rw [z1]) <;> (((try rewrite [← hVi]); (try rewrite [← hVu]); (try rewrite [← hVg]); (try rewrite [← hVh]); (try rewrite [← o_chkT]); (try rewrite [← o_setLeafS]); conv => cbv)) <;> (try simp only [hF, fns, cmI, decide_eq_true_eq, decide_eq_false_iff_not, beq_iff_eq, bne_iff_ne, beq_eq_false_iff_ne, bne_eq_false_iff_eq, ne_eq, Int.not_lt, Int.not_le, Classical.not_not, ge_iff_le, gt_iff_lt, Bool.not_eq_true] at z1)
      rotate_left
      · simp at z1
      subst hF hVi hVu hVg hVh hVl; (try subst o_chkT); (try subst o_setLeafS); subst hd
      simp only [fns]
      refine ⟨by simp [inRows, inRowsL, lk, lenD], ?_⟩
      rw [bad 7 (by rw [← hP, if_pos (.inr (by simp))])]
      simp [reify, reifyL]
  · have c1 := opened_bad r L E hL hE hw h0
    rw [if_pos h0] at hP
    generalize chkT r L E = S at *
    have c1 : Contract Tryd.prog G0 58 [tblD r L E] (.tup [.agg [.int .i64 0, .ro [], .ro []], .int .i64 S]) [] := c1
    unfold tblD at *
    ((try rewrite [← hVi]); (try rewrite [← hVu]); (try rewrite [← hVg]); (try rewrite [← hVh]); (try rewrite [← o_chkT]); (try rewrite [← o_setLeafS]); conv => cbv)
    refine .inl ⟨_, _, by subst hF hVi hVu hVg hVh hVl; (try subst o_chkT); (try subst o_setLeafS); exact c1, by subst hF hVi hVu hVg hVh hVl; (try subst o_chkT); (try subst o_setLeafS); exact ⟨by simp [inRowsL, inRows, lk], by first | exact .inl rfl | exact .inr ⟨rfl, fun B h => nomatch h⟩⟩, ?_⟩ <;> ((try rewrite [← hVi]); (try rewrite [← hVu]); (try rewrite [← hVg]); (try rewrite [← hVh]); (try rewrite [← o_chkT]); (try rewrite [← o_setLeafS]); conv => cbv)
    split <;> rename_i h <;> (try rw [h]) <;> (((try rewrite [← hVi]); (try rewrite [← hVu]); (try rewrite [← hVg]); (try rewrite [← hVh]); (try rewrite [← o_chkT]); (try rewrite [← o_setLeafS]); conv => cbv)) <;> (try simp only [hF, fns, cmI, decide_eq_true_eq, decide_eq_false_iff_not, beq_iff_eq, bne_iff_ne, beq_eq_false_iff_ne, bne_eq_false_iff_eq, ne_eq, Int.not_lt, Int.not_le, Classical.not_not, ge_iff_le, gt_iff_lt, Bool.not_eq_true] at h)
    · split <;> rename_i h2 <;> (try rw [h2]) <;> (((try rewrite [← hVi]); (try rewrite [← hVu]); (try rewrite [← hVg]); (try rewrite [← hVh]); (try rewrite [← o_chkT]); (try rewrite [← o_setLeafS]); conv => cbv)) <;> (try simp only [hF, fns, cmI, decide_eq_true_eq, decide_eq_false_iff_not, beq_iff_eq, bne_iff_ne, beq_eq_false_iff_ne, bne_eq_false_iff_eq, ne_eq, Int.not_lt, Int.not_le, Classical.not_not, ge_iff_le, gt_iff_lt, Bool.not_eq_true] at h2)
      · subst hF hVi hVu hVg hVh hVl; (try subst o_chkT); (try subst o_setLeafS); subst hd
        simp only [fns]
        refine ⟨by simp [inRows, inRowsL, lk, lenD], ?_⟩
        rw [teZ_d hP.symm]
        simp [reify, reifyL]
      · exact absurd h2 h0
    · exact absurd h h0
theorem unpackS_zero {w : Int} (h0 : 0 ≤ w) (h1 : (unpackS w).2 = 0) : (unpackS w).1.k = 0 ↔ w = 0 := by
  constructor
  · intro hk
    rw [unpackS] at h1 hk
    split at h1
    · simp at h1
    · rename_i a1
      split at h1
      · simp at h1
      · rename_i a2
        split at h1
        · rename_i a3; exact absurd h1 a3
        · rename_i a3
          rw [if_neg a1, if_neg a2, if_neg a3] at hk
          simp only [unW] at hk a3
          have a4 : chkS ⟨w % 4, w / 256, w / 4 % 2 == 1, w / 8 % 2 == 1, w / 16 % 2 == 1⟩ = 0 := by simpa using a3
          simp only [chkS] at a4
          rw [hk] at a4
          simp at a4
          grind
  · intro h; subst h; decide
theorem pempty_c (r : Int) (L E : List Int) (q : Nat) (hq : q < 8) (hE : E.length = 64) (hw : wordsOk E) (hok : ∀ i, i < 64 → (unpackS (E.getD i 0)).2 = 0) : Contract Tryd.prog G0 57 [tblD r L E, .int .i64 q] (.bool (emptyS E q)) [] := by
  refine fun0 tys_ok mixed (n := 19) (rs := [.tmp 4]) ⟨Tryd.func57, by kernel_rfl, rfl⟩ rfl rfl (by simp) fun F d0 hF hd => ?_
  obtain ⟨ints, u64s, gv, gh, lenF, hVi, hVu, hVg, hVh, hVl, lenD, ints_len, u64s_len, ints_cells, u64s_cells, ints_at, u64s_at, gv_nil, gh_nil, gv_ne, gh_ne, gv_snoc, gh_snoc, gv_one, gh_one, lt_gv, ren_gv, lk_gh, renH_gh, mem_gh, injK_gh, injH_gh, ints_nil, ints_app, ints_one, ints_cons, ints_ne, u64s_nil, u64s_app, u64s_one, u64s_ne, ints_set, u64s_set⟩ := vocab
  obtain ⟨f_emptyS, o_emptyS⟩ : ∃ f, f = emptyS := ⟨_, rfl⟩
  have hl2 := u64s_len E
  unfold tblD
  generalize hS : emptyS E q = S at hd
  rw [emptyS] at hS
  obtain ⟨z, hz⟩ : ∃ z : Int, z = q := ⟨_, rfl⟩
  rw [← hz]
  have hm : F.ar .mul .i64 z 8 = z * 8 := by subst hF hVi hVu hVg hVh hVl; (try subst o_emptyS); exact IntWalk.i64_in _ (by omega)
  have ha : F.ar .add .i64 z 1 = z + 1 := by subst hF hVi hVu hVg hVh hVl; (try subst o_emptyS); exact IntWalk.i64_in _ (by omega)
  obtain ⟨z1, hz1⟩ : ∃ z1 : Int, z1 = z + 1 := ⟨_, rfl⟩
  rw [← hz1] at ha
  have hm1 : F.ar .mul .i64 z1 8 = z1 * 8 := by subst hF hVi hVu hVg hVh hVl; (try subst o_emptyS); exact IntWalk.i64_in _ (by omega)
  obtain ⟨lo, hlo⟩ : ∃ lo : Int, lo = z * 8 := ⟨_, rfl⟩
  obtain ⟨hi, hhi⟩ : ∃ hi : Int, hi = z1 * 8 := ⟨_, rfl⟩
  rw [← hlo] at hm
  rw [← hhi] at hm1
  (conv at hm => lhs; cbv) <;> (conv at ha => lhs; cbv) <;> (conv at hm1 => lhs; cbv)
  ((try rewrite [← hVi]); (try rewrite [← hVu]); (try rewrite [← hVg]); (try rewrite [← hVh]); (try rewrite [← o_emptyS]); conv => cbv)
  rw [hm, ha, hm1]
  obtain ⟨W, hW⟩ : ∃ W, W = (E.drop (q * 8)).take 8 := ⟨_, rfl⟩
  have hWl : W.length = 8 := by rw [hW]; simp; omega
  have hWg : ∀ k, k < 8 → E.getD (q * 8 + k) 0 = W.getD k 0 := fun k hk => by
    rw [hW, List.getD_eq_getElem?_getD, List.getD_eq_getElem?_getD, List.getElem?_take_of_lt hk, List.getElem?_drop]
  have hWz : S = W.all fun w => w == 0 := by
    rw [← hS, Bool.eq_iff_iff, List.all_eq_true, List.all_eq_true]
    have key : ∀ k, k < 8 → (kindOf E (q * 8 + k) = 0 ↔ W.getD k 0 = 0) := fun k hk => by
      rw [kindOf, hWg k hk]
      have h1 := hok (q * 8 + k) (by omega)
      rw [hWg k hk] at h1
      refine unpackS_zero ?_ h1
      obtain ⟨x, hx⟩ : ∃ x, E[q * 8 + k]? = some x := ⟨_, List.getElem?_eq_getElem (by omega)⟩
      have h2 := hWg k hk
      rw [List.getD_eq_getElem?_getD, hx, Option.getD_some] at h2
      rw [← h2]
      exact (hw x (List.mem_of_getElem? hx)).1
    constructor
    · intro h w hw2
      obtain ⟨k, hk⟩ := List.mem_iff_getElem?.1 hw2
      have hk8 : k < 8 := by have := (List.getElem?_eq_some_iff.1 hk).1; omega
      have := (key k hk8).1 (by simpa using h k (by simpa using hk8))
      rw [List.getD_eq_getElem?_getD, hk] at this
      simpa using this
    · intro h k hk
      have hk8 : k < 8 := by simpa using hk
      obtain ⟨x, hx⟩ : ∃ x, W[k]? = some x := ⟨_, List.getElem?_eq_getElem (by omega)⟩
      have h1 := h x (List.mem_of_getElem? hx)
      have h2 : W.getD k 0 = 0 := by rw [List.getD_eq_getElem?_getD, hx]; simpa using h1
      simpa using (key k hk8).2 h2
  obtain ⟨a0, a1, a2, a3, a4, a5, a6, a7, hWe⟩ : ∃ a0 a1 a2 a3 a4 a5 a6 a7, W = [a0, a1, a2, a3, a4, a5, a6, a7] := by
    match W, hWl with
    | [a0, a1, a2, a3, a4, a5, a6, a7], _ => exact ⟨_, _, _, _, _, _, _, _, rfl⟩
  have e1 : F.sub (u64s E) (F.ix 0 lo) (F.sb (F.ix 0 hi) (F.ix 0 lo)) = [.int .u64 a0, .int .u64 a1, .int .u64 a2, .int .u64 a3, .int .u64 a4, .int .u64 a5, .int .u64 a6, .int .u64 a7] := by
    subst hF hVi hVu hVg hVh hVl; (try subst o_emptyS)
    simp only [fns, subL]
    have h1 : 0 + hi.toNat - (0 + lo.toNat) = 8 := by omega
    have h2 : 0 + lo.toNat = q * 8 := by omega
    rw [h1, h2, if_neg (by rw [hl2]; omega)]
    rw [hWe] at hW
    simp only [u64s, ← List.map_drop, ← List.map_take, ← hW]
    rfl
  (conv at e1 => lhs; cbv)
  rw [e1]
  refine ⟨by subst hF hVi hVu hVg hVh hVl; (try subst o_emptyS); simp only [fns]; omega, by subst hF hVi hVu hVg hVh hVl; (try subst o_emptyS); simp only [fns]; omega, by subst hF hVi hVu hVg hVh hVl; (try subst o_emptyS); simp only [fns]; exact ⟨by omega, by rw [hl2]; omega, u64s_cells E⟩, [.int .u64 a0, .int .u64 a1, .int .u64 a2, .int .u64 a3, .int .u64 a4, .int .u64 a5, .int .u64 a6, .int .u64 a7], by subst hF hVi hVu hVg hVh hVl; (try subst o_emptyS); simp only [fns]; exact ⟨trivial, by decide, by simp, rfl, by simp [D.cells]⟩, ?_⟩
  ((try rewrite [← hVi]); (try rewrite [← hVu]); (try rewrite [← hVg]); (try rewrite [← hVh]); (try rewrite [← o_emptyS]); conv => cbv)
  obtain ⟨eo, heo⟩ : ∃ b, b = eqL [.int .u64 a0, .int .u64 a1, .int .u64 a2, .int .u64 a3, .int .u64 a4, .int .u64 a5, .int .u64 a6, .int .u64 a7] [.int .u64 0, .int .u64 0, .int .u64 0, .int .u64 0, .int .u64 0, .int .u64 0, .int .u64 0, .int .u64 0] := ⟨_, rfl⟩
  refine ⟨eo, by
    subst hF hVi hVu hVg hVh hVl; (try subst o_emptyS)
    rw [heo]
    exact eq_ok (l := List.replicate 8 (Y.int .u64)) (m := 4) (by kernel_rfl) (by kernel_rfl) (by kernel_rfl) (by decide) (by repeat (first | exact kinL_nil | refine kinL_int ?_ | refine kinL_bool ?_ | refine kinL_str ?_)) (by repeat (first | exact kinL_nil | refine kinL_int ?_ | refine kinL_bool ?_ | refine kinL_str ?_)), ?_⟩
  ((try rewrite [← hVi]); (try rewrite [← hVu]); (try rewrite [← hVg]); (try rewrite [← hVh]); (try rewrite [← o_emptyS]); conv => cbv)
  subst hF hVi hVu hVg hVh hVl; (try subst o_emptyS); subst hd
  simp only [fns]
  refine ⟨by simp [inRows, inRowsL, lk, lenD], ?_⟩
  rw [hWz, hWe, heo]
  simp [reify, eqL, eqD, Bool.and_assoc]
end Go.Proofs.YtppmomobjjpljaaDoor.E
end

/- Part C6. -/
section
/- Contracts: pages, counts, frames (program). -/
namespace Go.Proofs.YtppmomobjjpljaaDoor.E
open Go Go.RowKit
set_option linter.unusedVariables false
set_option linter.unusedSimpArgs false
set_option maxRecDepth 100000
theorem unpackS_kind {w : Int} (h : (unpackS w).2 = 0) : w % 4 ≠ 3 ∧ (unpackS w).1.k = w % 4 := by
  rw [unpackS] at h ⊢
  split at h
  · simp at h
  · rename_i a1
    split at h
    · simp at h
    · rename_i a2
      split at h
      · rename_i a3; exact absurd h a3
      · rename_i a3
        rw [if_neg a1, if_neg a2, if_neg a3]
        exact ⟨a1, rfl⟩
theorem ppages_c (r : Int) (L E : List Int) (kind : Int) (hL : L.length < 100) (hE : E.length < 100) (hw : wordsOk E) : Contract Tryd.prog G0 23 [tblD r L E, .int .i64 kind] (.tup [.ro (ints (pagesS r L E kind).1), .int .i64 (pagesS r L E kind).2]) [] := by
  refine fun0 tys_ok mixed (n := 49) (rs := [.tmp 4, .tmp 5]) ⟨Tryd.func23, by kernel_rfl, rfl⟩ rfl rfl (by simp) fun F d0 hF hd => ?_
  obtain ⟨ints, u64s, gv, gh, lenF, hVi, hVu, hVg, hVh, hVl, lenD, ints_len, u64s_len, ints_cells, u64s_cells, ints_at, u64s_at, gv_nil, gh_nil, gv_ne, gh_ne, gv_snoc, gh_snoc, gv_one, gh_one, lt_gv, ren_gv, lk_gh, renH_gh, mem_gh, injK_gh, injH_gh, ints_nil, ints_app, ints_one, ints_cons, ints_ne, u64s_nil, u64s_app, u64s_one, u64s_ne, ints_set, u64s_set⟩ := vocab
  obtain ⟨f_chkT, o_chkT⟩ : ∃ f, f = chkT := ⟨_, rfl⟩
  obtain ⟨f_pagesUp, o_pagesUp⟩ : ∃ f, f = pagesUp := ⟨_, rfl⟩
  obtain ⟨f_pagesS, o_pagesS⟩ : ∃ f, f = pagesS := ⟨_, rfl⟩
  have c1 := pchk_c r L E hL hE hw
  have hl2 := u64s_len E
  unfold tblD at *
  generalize hP : pagesS r L E kind = X at hd
  rw [pagesS] at hP
  generalize hS : chkT r L E = S at c1 hP
  ((try rewrite [← hVi]); (try rewrite [← hVu]); (try rewrite [← hVg]); (try rewrite [← hVh]); (try rewrite [← o_chkT]); (try rewrite [← o_pagesUp]); (try rewrite [← o_pagesS]); conv => cbv)
  refine .inl ⟨_, _, by subst hF hVi hVu hVg hVh hVl; (try subst o_chkT); (try subst o_pagesUp); (try subst o_pagesS); exact c1, by subst hF hVi hVu hVg hVh hVl; (try subst o_chkT); (try subst o_pagesUp); (try subst o_pagesS); exact ⟨by simp [inRowsL, inRows, lk], by first | exact .inl rfl | exact .inr ⟨rfl, fun B h => nomatch h⟩⟩, ?_⟩ <;> ((try rewrite [← hVi]); (try rewrite [← hVu]); (try rewrite [← hVg]); (try rewrite [← hVh]); (try rewrite [← o_chkT]); (try rewrite [← o_pagesUp]); (try rewrite [← o_pagesS]); conv => cbv)
  by_cases h0 : S = 0
  rotate_left
  · rw [if_pos h0] at hP
    split <;> rename_i q0 <;> (try rw [q0]) <;> (((try rewrite [← hVi]); (try rewrite [← hVu]); (try rewrite [← hVg]); (try rewrite [← hVh]); (try rewrite [← o_chkT]); (try rewrite [← o_pagesUp]); (try rewrite [← o_pagesS]); conv => cbv)) <;> (try simp only [hF, fns, cmI, decide_eq_true_eq, decide_eq_false_iff_not, beq_iff_eq, bne_iff_ne, beq_eq_false_iff_ne, bne_eq_false_iff_eq, ne_eq, Int.not_lt, Int.not_le, Classical.not_not, ge_iff_le, gt_iff_lt, Bool.not_eq_true] at q0)
    · exact absurd q0 h0
    split <;> rename_i q1 <;> (try rw [q1]) <;> (((try rewrite [← hVi]); (try rewrite [← hVu]); (try rewrite [← hVg]); (try rewrite [← hVh]); (try rewrite [← o_chkT]); (try rewrite [← o_pagesUp]); (try rewrite [← o_pagesS]); conv => cbv)) <;> (try simp only [hF, fns, cmI, decide_eq_true_eq, decide_eq_false_iff_not, beq_iff_eq, bne_iff_ne, beq_eq_false_iff_ne, bne_eq_false_iff_eq, ne_eq, Int.not_lt, Int.not_le, Classical.not_not, ge_iff_le, gt_iff_lt, Bool.not_eq_true] at q1)
    · subst hF hVi hVu hVg hVh hVl; (try subst o_chkT); (try subst o_pagesUp); (try subst o_pagesS); subst hd
      simp only [fns]
      refine ⟨by simp [inRows, inRowsL, lk, lenD], ?_⟩
      rw [← hP]
      simp [reify, reifyL, ints]
    · exact absurd q1 h0
  subst h0
  rw [if_neg (by simp)] at hP
  obtain ⟨g4, g5⟩ := chkT_len hS
  split <;> rename_i q0 <;> (try rw [q0]) <;> (((try rewrite [← hVi]); (try rewrite [← hVu]); (try rewrite [← hVg]); (try rewrite [← hVh]); (try rewrite [← o_chkT]); (try rewrite [← o_pagesUp]); (try rewrite [← o_pagesS]); conv => cbv)) <;> (try simp only [hF, fns, cmI, decide_eq_true_eq, decide_eq_false_iff_not, beq_iff_eq, bne_iff_ne, beq_eq_false_iff_ne, bne_eq_false_iff_eq, ne_eq, Int.not_lt, Int.not_le, Classical.not_not, ge_iff_le, gt_iff_lt, Bool.not_eq_true] at q0)
  rotate_left
  · simp at q0
  split <;> rename_i h1 <;> (try rw [h1]) <;> (((try rewrite [← hVi]); (try rewrite [← hVu]); (try rewrite [← hVg]); (try rewrite [← hVh]); (try rewrite [← o_chkT]); (try rewrite [← o_pagesUp]); (try rewrite [← o_pagesS]); conv => cbv)) <;> (try simp only [hF, fns, cmI, decide_eq_true_eq, decide_eq_false_iff_not, beq_iff_eq, bne_iff_ne, beq_eq_false_iff_ne, bne_eq_false_iff_eq, ne_eq, Int.not_lt, Int.not_le, Classical.not_not, ge_iff_le, gt_iff_lt, Bool.not_eq_true] at h1)
  · split <;> rename_i z1 <;> (try rw [z1]) <;> (((try rewrite [← hVi]); (try rewrite [← hVu]); (try rewrite [← hVg]); (try rewrite [← hVh]); (try rewrite [← o_chkT]); (try rewrite [← o_pagesUp]); (try rewrite [← o_pagesS]); conv => cbv)) <;> (try simp only [hF, fns, cmI, decide_eq_true_eq, decide_eq_false_iff_not, beq_iff_eq, bne_iff_ne, beq_eq_false_iff_ne, bne_eq_false_iff_eq, ne_eq, Int.not_lt, Int.not_le, Classical.not_not, ge_iff_le, gt_iff_lt, Bool.not_eq_true] at z1)
    rotate_left
    · simp at z1
    subst hF hVi hVu hVg hVh hVl; (try subst o_chkT); (try subst o_pagesUp); (try subst o_pagesS); subst hd
    simp only [fns]
    refine ⟨by simp [inRows, inRowsL, lk, lenD], ?_⟩
    rw [if_pos (.inl h1)] at hP
    rw [← hP]
    simp [reify, reifyL, ints]
  split <;> rename_i h2 <;> (try rw [h2]) <;> (((try rewrite [← hVi]); (try rewrite [← hVu]); (try rewrite [← hVg]); (try rewrite [← hVh]); (try rewrite [← o_chkT]); (try rewrite [← o_pagesUp]); (try rewrite [← o_pagesS]); conv => cbv)) <;> (try simp only [hF, fns, cmI, decide_eq_true_eq, decide_eq_false_iff_not, beq_iff_eq, bne_iff_ne, beq_eq_false_iff_ne, bne_eq_false_iff_eq, ne_eq, Int.not_lt, Int.not_le, Classical.not_not, ge_iff_le, gt_iff_lt, Bool.not_eq_true] at h2)
  · split <;> rename_i z1 <;> (try rw [z1]) <;> (((try rewrite [← hVi]); (try rewrite [← hVu]); (try rewrite [← hVg]); (try rewrite [← hVh]); (try rewrite [← o_chkT]); (try rewrite [← o_pagesUp]); (try rewrite [← o_pagesS]); conv => cbv)) <;> (try simp only [hF, fns, cmI, decide_eq_true_eq, decide_eq_false_iff_not, beq_iff_eq, bne_iff_ne, beq_eq_false_iff_ne, bne_eq_false_iff_eq, ne_eq, Int.not_lt, Int.not_le, Classical.not_not, ge_iff_le, gt_iff_lt, Bool.not_eq_true] at z1)
    rotate_left
    · simp at z1
    subst hF hVi hVu hVg hVh hVl; (try subst o_chkT); (try subst o_pagesUp); (try subst o_pagesS); subst hd
    simp only [fns]
    refine ⟨by simp [inRows, inRowsL, lk, lenD], ?_⟩
    rw [if_pos (.inr h2)] at hP
    rw [← hP]
    simp [reify, reifyL, ints]
  rw [if_neg (by omega)] at hP
  split <;> rename_i z1 <;> (try rw [z1]) <;> (((try rewrite [← hVi]); (try rewrite [← hVu]); (try rewrite [← hVg]); (try rewrite [← hVh]); (try rewrite [← o_chkT]); (try rewrite [← o_pagesUp]); (try rewrite [← o_pagesS]); conv => cbv)) <;> (try simp only [hF, fns, cmI, decide_eq_true_eq, decide_eq_false_iff_not, beq_iff_eq, bne_iff_ne, beq_eq_false_iff_ne, bne_eq_false_iff_eq, ne_eq, Int.not_lt, Int.not_le, Classical.not_not, ge_iff_le, gt_iff_lt, Bool.not_eq_true] at z1)
  · exact absurd trivial z1
  refine loop_inv hF ((Nat) × (List Int)) (fun st_ => (st_.1) ≤ 64 ∧ (st_.2) = pagesUp E kind (st_.1)) (fun st_ => { tm := [(1, .int .i64 kind), (7, gv 3 1 (ints (st_.2))), (28, .ro (u64s E)), (29, .int .i64 64), (30, .int .i64 (st_.1))], hp := gh 3 1 3 (ints (st_.2)) [], nx := 4, nt := 49, fr := [], df := [] }) (fun st_ => 64 - (st_.1)) ⟨(0, []), by exact ⟨by simp, rfl⟩, wk_of hF (weakR (pie []) (by first | (simp +contextual [renT, renH, renB, renF, renDf, injH, pie, lk, D.ren, D.renL, D.lt, D.ltL, lt_gv, ren_gv, lk_gh, renH_gh, mem_gh, injH_gh, injK, injK_gh, lenD, gv_one, gh_one, subL_one, gv_nil, gh_nil, gv_snoc, gh_snoc, ints_nil, ints_app, ints_one, ints_cons, u64s_nil, u64s_app, u64s_one, ints_set, u64s_set, ints_len, u64s_len, List.nil_append, List.length_append, List.length_cons, List.length_nil, g5]; done) | (subst hF hVi hVu hVg hVh hVl; (try subst o_chkT); (try subst o_pagesUp); (try subst o_pagesS); simp only [fns, arI, cmI]; rw [IntWalk.i64_in _ (by simp; omega)]; simp +contextual [renT, renH, renB, renF, renDf, injH, pie, lk, D.ren, D.renL, D.lt, D.ltL, lt_gv, ren_gv, lk_gh, renH_gh, mem_gh, injH_gh, injK, injK_gh, lenD, gv_one, gh_one, subL_one, gv_nil, gh_nil, gv_snoc, gh_snoc, ints_nil, ints_app, ints_one, ints_cons, u64s_nil, u64s_app, u64s_one, ints_set, u64s_set, ints_len, u64s_len, List.nil_append, List.length_append, List.length_cons, List.length_nil, g5]; done) | (subst hF hVi hVu hVg hVh hVl; (try subst o_chkT); (try subst o_pagesUp); (try subst o_pagesS); simp +contextual [fns, arI, cmI, renT, renH, renB, renF, renDf, injH, pie, lk, D.ren, D.renL, D.lt, D.ltL, lt_gv, ren_gv, lk_gh, renH_gh, mem_gh, injH_gh, injK, injK_gh, lenD, gv_one, gh_one, subL_one, gv_nil, gh_nil, gv_snoc, gh_snoc, ints_nil, ints_app, ints_one, ints_cons, u64s_nil, u64s_app, u64s_one, ints_set, u64s_set, ints_len, u64s_len, List.nil_append, List.length_append, List.length_cons, List.length_nil, g5])) (by first | (simp +contextual [renT, renH, renB, renF, renDf, injH, pie, lk, D.ren, D.renL, D.lt, D.ltL, lt_gv, ren_gv, lk_gh, renH_gh, mem_gh, injH_gh, injK, injK_gh, lenD, gv_one, gh_one, subL_one, gv_nil, gh_nil, gv_snoc, gh_snoc, ints_nil, ints_app, ints_one, ints_cons, u64s_nil, u64s_app, u64s_one, ints_set, u64s_set, ints_len, u64s_len, List.nil_append, List.length_append, List.length_cons, List.length_nil, g5]; done) | (subst hF hVi hVu hVg hVh hVl; (try subst o_chkT); (try subst o_pagesUp); (try subst o_pagesS); simp +contextual [fns, renT, renH, renB, renF, renDf, injH, pie, lk, D.ren, D.renL, D.lt, D.ltL, lt_gv, ren_gv, lk_gh, renH_gh, mem_gh, injH_gh, injK, injK_gh, lenD, gv_one, gh_one, subL_one, gv_nil, gh_nil, gv_snoc, gh_snoc, ints_nil, ints_app, ints_one, ints_cons, u64s_nil, u64s_app, u64s_one, ints_set, u64s_set, ints_len, u64s_len, List.nil_append, List.length_append, List.length_cons, List.length_nil, g5])) (by simp +contextual [renT, renH, renB, renF, renDf, injH, pie, lk, D.ren, D.renL, D.lt, D.ltL, lt_gv, ren_gv, lk_gh, renH_gh, mem_gh, injH_gh, injK, injK_gh, lenD, gv_one, gh_one, subL_one, gv_nil, gh_nil, gv_snoc, gh_snoc, ints_nil, ints_app, ints_one, ints_cons, u64s_nil, u64s_app, u64s_one, ints_set, u64s_set, ints_len, u64s_len, List.nil_append, List.length_append, List.length_cons, List.length_nil, g5]) rfl (by simp [renF, renT, lk, D.ren, D.renL, D.lt, D.ltL]) (by simp [renDf]))⟩ ?_
  rintro ⟨k, acc⟩ hk
  try simp only at hk
  ((try rewrite [← hVi]); (try rewrite [← hVu]); (try rewrite [← hVg]); (try rewrite [← hVh]); (try rewrite [← o_chkT]); (try rewrite [← o_pagesUp]); (try rewrite [← o_pagesS]); conv => cbv)
  obtain ⟨hk1, hk2⟩ := hk
  split <;> rename_i h5 <;> (try rw [h5]) <;> (((try rewrite [← hVi]); (try rewrite [← hVu]); (try rewrite [← hVg]); (try rewrite [← hVh]); (try rewrite [← o_chkT]); (try rewrite [← o_pagesUp]); (try rewrite [← o_pagesS]); conv => cbv)) <;> (try simp only [hF, fns, cmI, decide_eq_true_eq, decide_eq_false_iff_not, beq_iff_eq, bne_iff_ne, beq_eq_false_iff_ne, bne_eq_false_iff_eq, ne_eq, Int.not_lt, Int.not_le, Classical.not_not, ge_iff_le, gt_iff_lt, Bool.not_eq_true] at h5)
  · have hlt : k < 64 := by simp at h5; omega
    obtain ⟨x, hx⟩ : ∃ x, E[k]? = some x := ⟨_, List.getElem?_eq_getElem (by omega)⟩
    have hxw := hw x (List.mem_of_getElem? hx)
    have hkw := chkT_words hS k hlt
    have hkd : kindOf E k = x % 4 ∧ x % 4 ≠ 3 := by
      rw [kindOf]
      rw [List.getD_eq_getElem?_getD, hx] at hkw ⊢
      have := unpackS_kind hkw
      exact ⟨this.2, this.1⟩
    have c2 := kind_c x hxw.1 hxw.2
    have hks : kindS x = (x % 4, 0) := by rw [kindS, if_neg hkd.2]
    rw [hks] at c2
    obtain ⟨ek, hek⟩ : ∃ ek, ek = x % 4 := ⟨_, rfl⟩
    rw [← hek] at c2 hkd
    simp only at c2
    have hal := pagesUp_len E kind k
    rw [← hk2] at hal
    refine ⟨by subst hF hVi hVu hVg hVh hVl; (try subst o_chkT); (try subst o_pagesUp); (try subst o_pagesS); simp [fns], .int .u64 x, u64s_at _ _ _ hx, rfl, ?_⟩
    ((try rewrite [← hVi]); (try rewrite [← hVu]); (try rewrite [← hVg]); (try rewrite [← hVh]); (try rewrite [← o_chkT]); (try rewrite [← o_pagesUp]); (try rewrite [← o_pagesS]); conv => cbv)
    refine .inl ⟨_, _, by subst hF hVi hVu hVg hVh hVl; (try subst o_chkT); (try subst o_pagesUp); (try subst o_pagesS); exact c2, by subst hF hVi hVu hVg hVh hVl; (try subst o_chkT); (try subst o_pagesUp); (try subst o_pagesS); exact ⟨by simp [inRowsL, inRows, lk], by first | exact .inl rfl | exact .inr ⟨rfl, fun B h => nomatch h⟩⟩, ?_⟩ <;> ((try rewrite [← hVi]); (try rewrite [← hVu]); (try rewrite [← hVg]); (try rewrite [← hVh]); (try rewrite [← o_chkT]); (try rewrite [← o_pagesUp]); (try rewrite [← o_pagesS]); conv => cbv)
    split <;> rename_i h6 <;> (try rw [h6]) <;> (((try rewrite [← hVi]); (try rewrite [← hVu]); (try rewrite [← hVg]); (try rewrite [← hVh]); (try rewrite [← o_chkT]); (try rewrite [← o_pagesUp]); (try rewrite [← o_pagesS]); conv => cbv)) <;> (try simp only [hF, fns, cmI, decide_eq_true_eq, decide_eq_false_iff_not, beq_iff_eq, bne_iff_ne, beq_eq_false_iff_ne, bne_eq_false_iff_eq, ne_eq, Int.not_lt, Int.not_le, Classical.not_not, ge_iff_le, gt_iff_lt, Bool.not_eq_true] at h6)
    · rcases Classical.em (acc = []) with ha | ha
      · subst ha
        simp only [gv_nil, gh_nil, ints_nil]
        ((try rewrite [← hVi]); (try rewrite [← hVu]); (try rewrite [← hVg]); (try rewrite [← hVh]); (try rewrite [← o_chkT]); (try rewrite [← o_pagesUp]); (try rewrite [← o_pagesS]); conv => cbv)
        refine ⟨by subst hF hVi hVu hVg hVh hVl; (try subst o_chkT); (try subst o_pagesUp); (try subst o_pagesS); simp [fns, inRow, lk, D.cells, subL], by subst hF hVi hVu hVg hVh hVl; (try subst o_chkT); (try subst o_pagesUp); (try subst o_pagesS); simp [fns, subL], fun h => (by subst hF hVi hVu hVg hVh hVl; (try subst o_chkT); (try subst o_pagesUp); (try subst o_pagesS); simp [fns, subL] at h), fun _ => ?_⟩ <;> ((try rewrite [← hVi]); (try rewrite [← hVu]); (try rewrite [← hVg]); (try rewrite [← hVh]); (try rewrite [← o_chkT]); (try rewrite [← o_pagesUp]); (try rewrite [← o_pagesS]); conv => cbv)
        refine ⟨(k + 1, [(k : Int)]), ?_, by first | omega | (simp; omega) | (simp only; omega), wk_of hF (weakR (pie [(3, 5)]) (by first | (simp +contextual [renT, renH, renB, renF, renDf, injH, pie, lk, D.ren, D.renL, D.lt, D.ltL, lt_gv, ren_gv, lk_gh, renH_gh, mem_gh, injH_gh, injK, injK_gh, lenD, gv_one, gh_one, subL_one, gv_nil, gh_nil, gv_snoc, gh_snoc, ints_nil, ints_app, ints_one, ints_cons, u64s_nil, u64s_app, u64s_one, ints_set, u64s_set, ints_len, u64s_len, List.nil_append, List.length_append, List.length_cons, List.length_nil]; done) | (subst hF hVi hVu hVg hVh hVl; (try subst o_chkT); (try subst o_pagesUp); (try subst o_pagesS); simp only [fns, arI, cmI]; rw [IntWalk.i64_in _ (by simp; omega)]; simp +contextual [renT, renH, renB, renF, renDf, injH, pie, lk, D.ren, D.renL, D.lt, D.ltL, lt_gv, ren_gv, lk_gh, renH_gh, mem_gh, injH_gh, injK, injK_gh, lenD, gv_one, gh_one, subL_one, gv_nil, gh_nil, gv_snoc, gh_snoc, ints_nil, ints_app, ints_one, ints_cons, u64s_nil, u64s_app, u64s_one, ints_set, u64s_set, ints_len, u64s_len, List.nil_append, List.length_append, List.length_cons, List.length_nil]; done) | (subst hF hVi hVu hVg hVh hVl; (try subst o_chkT); (try subst o_pagesUp); (try subst o_pagesS); simp +contextual [fns, arI, cmI, renT, renH, renB, renF, renDf, injH, pie, lk, D.ren, D.renL, D.lt, D.ltL, lt_gv, ren_gv, lk_gh, renH_gh, mem_gh, injH_gh, injK, injK_gh, lenD, gv_one, gh_one, subL_one, gv_nil, gh_nil, gv_snoc, gh_snoc, ints_nil, ints_app, ints_one, ints_cons, u64s_nil, u64s_app, u64s_one, ints_set, u64s_set, ints_len, u64s_len, List.nil_append, List.length_append, List.length_cons, List.length_nil])) (by first | (simp +contextual [renT, renH, renB, renF, renDf, injH, pie, lk, D.ren, D.renL, D.lt, D.ltL, lt_gv, ren_gv, lk_gh, renH_gh, mem_gh, injH_gh, injK, injK_gh, lenD, gv_one, gh_one, subL_one, gv_nil, gh_nil, gv_snoc, gh_snoc, ints_nil, ints_app, ints_one, ints_cons, u64s_nil, u64s_app, u64s_one, ints_set, u64s_set, ints_len, u64s_len, List.nil_append, List.length_append, List.length_cons, List.length_nil]; done) | (subst hF hVi hVu hVg hVh hVl; (try subst o_chkT); (try subst o_pagesUp); (try subst o_pagesS); simp +contextual [fns, renT, renH, renB, renF, renDf, injH, pie, lk, D.ren, D.renL, D.lt, D.ltL, lt_gv, ren_gv, lk_gh, renH_gh, mem_gh, injH_gh, injK, injK_gh, lenD, gv_one, gh_one, subL_one, gv_nil, gh_nil, gv_snoc, gh_snoc, ints_nil, ints_app, ints_one, ints_cons, u64s_nil, u64s_app, u64s_one, ints_set, u64s_set, ints_len, u64s_len, List.nil_append, List.length_append, List.length_cons, List.length_nil])) (by simp +contextual [renT, renH, renB, renF, renDf, injH, pie, lk, D.ren, D.renL, D.lt, D.ltL, lt_gv, ren_gv, lk_gh, renH_gh, mem_gh, injH_gh, injK, injK_gh, lenD, gv_one, gh_one, subL_one, gv_nil, gh_nil, gv_snoc, gh_snoc, ints_nil, ints_app, ints_one, ints_cons, u64s_nil, u64s_app, u64s_one, ints_set, u64s_set, ints_len, u64s_len, List.nil_append, List.length_append, List.length_cons, List.length_nil]) rfl (by simp [renF, renT, lk, D.ren, D.renL, D.lt, D.ltL]) (by simp [renDf]))⟩ <;> (skip; (try subst o_chkT); (try subst o_pagesUp); (try subst o_pagesS))
        refine ⟨by simp only; omega, ?_⟩
        simp only
        rw [pagesUp, List.range_succ, List.filter_append, List.map_append]
        rw [pagesUp] at hk2
        rw [← hk2, List.filter_cons_of_pos (by simp [hkd.1, h6])]; rfl
      · simp only [gv_ne (ints_ne ha), gh_ne (ints_ne ha)]
        ((try rewrite [← hVi]); (try rewrite [← hVu]); (try rewrite [← hVg]); (try rewrite [← hVh]); (try rewrite [← o_chkT]); (try rewrite [← o_pagesUp]); (try rewrite [← o_pagesS]); conv => cbv)
        refine ⟨by subst hF hVi hVu hVg hVh hVl; (try subst o_chkT); (try subst o_pagesUp); (try subst o_pagesS); simp [fns, inRow, lk, D.cells, subL], by subst hF hVi hVu hVg hVh hVl; (try subst o_chkT); (try subst o_pagesUp); (try subst o_pagesS); simp [fns, subL, lenD, ints_len, u64s_len]; try omega, ?_⟩ <;> ((try rewrite [← hVi]); (try rewrite [← hVu]); (try rewrite [← hVg]); (try rewrite [← hVh]); (try rewrite [← o_chkT]); (try rewrite [← o_pagesUp]); (try rewrite [← o_pagesS]); conv => cbv)
        refine ⟨(k + 1, acc ++ [(k : Int)]), ?_, by first | omega | (simp; omega) | (simp only; omega), wk_of hF (weakR (pie []) (by first | (simp +contextual [renT, renH, renB, renF, renDf, injH, pie, lk, D.ren, D.renL, D.lt, D.ltL, lt_gv, ren_gv, lk_gh, renH_gh, mem_gh, injH_gh, injK, injK_gh, lenD, gv_one, gh_one, subL_one, gv_nil, gh_nil, gv_snoc, gh_snoc, ints_nil, ints_app, ints_one, ints_cons, u64s_nil, u64s_app, u64s_one, ints_set, u64s_set, ints_len, u64s_len, List.nil_append, List.length_append, List.length_cons, List.length_nil]; done) | (subst hF hVi hVu hVg hVh hVl; (try subst o_chkT); (try subst o_pagesUp); (try subst o_pagesS); simp only [fns, arI, cmI]; rw [IntWalk.i64_in _ (by simp; omega)]; simp +contextual [renT, renH, renB, renF, renDf, injH, pie, lk, D.ren, D.renL, D.lt, D.ltL, lt_gv, ren_gv, lk_gh, renH_gh, mem_gh, injH_gh, injK, injK_gh, lenD, gv_one, gh_one, subL_one, gv_nil, gh_nil, gv_snoc, gh_snoc, ints_nil, ints_app, ints_one, ints_cons, u64s_nil, u64s_app, u64s_one, ints_set, u64s_set, ints_len, u64s_len, List.nil_append, List.length_append, List.length_cons, List.length_nil]; done) | (subst hF hVi hVu hVg hVh hVl; (try subst o_chkT); (try subst o_pagesUp); (try subst o_pagesS); simp +contextual [fns, arI, cmI, renT, renH, renB, renF, renDf, injH, pie, lk, D.ren, D.renL, D.lt, D.ltL, lt_gv, ren_gv, lk_gh, renH_gh, mem_gh, injH_gh, injK, injK_gh, lenD, gv_one, gh_one, subL_one, gv_nil, gh_nil, gv_snoc, gh_snoc, ints_nil, ints_app, ints_one, ints_cons, u64s_nil, u64s_app, u64s_one, ints_set, u64s_set, ints_len, u64s_len, List.nil_append, List.length_append, List.length_cons, List.length_nil])) (by first | (simp +contextual [renT, renH, renB, renF, renDf, injH, pie, lk, D.ren, D.renL, D.lt, D.ltL, lt_gv, ren_gv, lk_gh, renH_gh, mem_gh, injH_gh, injK, injK_gh, lenD, gv_one, gh_one, subL_one, gv_nil, gh_nil, gv_snoc, gh_snoc, ints_nil, ints_app, ints_one, ints_cons, u64s_nil, u64s_app, u64s_one, ints_set, u64s_set, ints_len, u64s_len, List.nil_append, List.length_append, List.length_cons, List.length_nil]; done) | (subst hF hVi hVu hVg hVh hVl; (try subst o_chkT); (try subst o_pagesUp); (try subst o_pagesS); simp +contextual [fns, renT, renH, renB, renF, renDf, injH, pie, lk, D.ren, D.renL, D.lt, D.ltL, lt_gv, ren_gv, lk_gh, renH_gh, mem_gh, injH_gh, injK, injK_gh, lenD, gv_one, gh_one, subL_one, gv_nil, gh_nil, gv_snoc, gh_snoc, ints_nil, ints_app, ints_one, ints_cons, u64s_nil, u64s_app, u64s_one, ints_set, u64s_set, ints_len, u64s_len, List.nil_append, List.length_append, List.length_cons, List.length_nil])) (by simp +contextual [renT, renH, renB, renF, renDf, injH, pie, lk, D.ren, D.renL, D.lt, D.ltL, lt_gv, ren_gv, lk_gh, renH_gh, mem_gh, injH_gh, injK, injK_gh, lenD, gv_one, gh_one, subL_one, gv_nil, gh_nil, gv_snoc, gh_snoc, ints_nil, ints_app, ints_one, ints_cons, u64s_nil, u64s_app, u64s_one, ints_set, u64s_set, ints_len, u64s_len, List.nil_append, List.length_append, List.length_cons, List.length_nil]) rfl (by simp [renF, renT, lk, D.ren, D.renL, D.lt, D.ltL]) (by simp [renDf]))⟩ <;> (skip; (try subst o_chkT); (try subst o_pagesUp); (try subst o_pagesS))
        refine ⟨by simp only; omega, ?_⟩
        simp only
        rw [pagesUp, List.range_succ, List.filter_append, List.map_append]
        rw [pagesUp] at hk2
        rw [← hk2, List.filter_cons_of_pos (by simp [hkd.1, h6])]; rfl
    · refine ⟨(k + 1, acc), ?_, by first | omega | (simp; omega) | (simp only; omega), wk_of hF (weakR (pie []) (by first | (simp +contextual [renT, renH, renB, renF, renDf, injH, pie, lk, D.ren, D.renL, D.lt, D.ltL, lt_gv, ren_gv, lk_gh, renH_gh, mem_gh, injH_gh, injK, injK_gh, lenD, gv_one, gh_one, subL_one, gv_nil, gh_nil, gv_snoc, gh_snoc, ints_nil, ints_app, ints_one, ints_cons, u64s_nil, u64s_app, u64s_one, ints_set, u64s_set, ints_len, u64s_len, List.nil_append, List.length_append, List.length_cons, List.length_nil]; done) | (subst hF hVi hVu hVg hVh hVl; (try subst o_chkT); (try subst o_pagesUp); (try subst o_pagesS); simp only [fns, arI, cmI]; rw [IntWalk.i64_in _ (by simp; omega)]; simp +contextual [renT, renH, renB, renF, renDf, injH, pie, lk, D.ren, D.renL, D.lt, D.ltL, lt_gv, ren_gv, lk_gh, renH_gh, mem_gh, injH_gh, injK, injK_gh, lenD, gv_one, gh_one, subL_one, gv_nil, gh_nil, gv_snoc, gh_snoc, ints_nil, ints_app, ints_one, ints_cons, u64s_nil, u64s_app, u64s_one, ints_set, u64s_set, ints_len, u64s_len, List.nil_append, List.length_append, List.length_cons, List.length_nil]; done) | (subst hF hVi hVu hVg hVh hVl; (try subst o_chkT); (try subst o_pagesUp); (try subst o_pagesS); simp +contextual [fns, arI, cmI, renT, renH, renB, renF, renDf, injH, pie, lk, D.ren, D.renL, D.lt, D.ltL, lt_gv, ren_gv, lk_gh, renH_gh, mem_gh, injH_gh, injK, injK_gh, lenD, gv_one, gh_one, subL_one, gv_nil, gh_nil, gv_snoc, gh_snoc, ints_nil, ints_app, ints_one, ints_cons, u64s_nil, u64s_app, u64s_one, ints_set, u64s_set, ints_len, u64s_len, List.nil_append, List.length_append, List.length_cons, List.length_nil])) (by first | (simp +contextual [renT, renH, renB, renF, renDf, injH, pie, lk, D.ren, D.renL, D.lt, D.ltL, lt_gv, ren_gv, lk_gh, renH_gh, mem_gh, injH_gh, injK, injK_gh, lenD, gv_one, gh_one, subL_one, gv_nil, gh_nil, gv_snoc, gh_snoc, ints_nil, ints_app, ints_one, ints_cons, u64s_nil, u64s_app, u64s_one, ints_set, u64s_set, ints_len, u64s_len, List.nil_append, List.length_append, List.length_cons, List.length_nil]; done) | (subst hF hVi hVu hVg hVh hVl; (try subst o_chkT); (try subst o_pagesUp); (try subst o_pagesS); simp +contextual [fns, renT, renH, renB, renF, renDf, injH, pie, lk, D.ren, D.renL, D.lt, D.ltL, lt_gv, ren_gv, lk_gh, renH_gh, mem_gh, injH_gh, injK, injK_gh, lenD, gv_one, gh_one, subL_one, gv_nil, gh_nil, gv_snoc, gh_snoc, ints_nil, ints_app, ints_one, ints_cons, u64s_nil, u64s_app, u64s_one, ints_set, u64s_set, ints_len, u64s_len, List.nil_append, List.length_append, List.length_cons, List.length_nil])) (by simp +contextual [renT, renH, renB, renF, renDf, injH, pie, lk, D.ren, D.renL, D.lt, D.ltL, lt_gv, ren_gv, lk_gh, renH_gh, mem_gh, injH_gh, injK, injK_gh, lenD, gv_one, gh_one, subL_one, gv_nil, gh_nil, gv_snoc, gh_snoc, ints_nil, ints_app, ints_one, ints_cons, u64s_nil, u64s_app, u64s_one, ints_set, u64s_set, ints_len, u64s_len, List.nil_append, List.length_append, List.length_cons, List.length_nil]) rfl (by simp [renF, renT, lk, D.ren, D.renL, D.lt, D.ltL]) (by simp [renDf]))⟩ <;> (skip; (try subst o_chkT); (try subst o_pagesUp); (try subst o_pagesS))
      refine ⟨by simp only; omega, ?_⟩
      simp only
      rw [pagesUp, List.range_succ, List.filter_append, List.map_append]
      rw [pagesUp] at hk2
      rw [← hk2, List.filter_cons_of_neg (by simp [hkd.1, h6])]; simp
  · have hk64 : k = 64 := by simp at h5; omega
    rw [hk64] at hk2
    rw [← hk2] at hP
    rcases Classical.em (acc = []) with ha | ha
    · rw [ha] at hP ⊢
      simp only [gv_nil, gh_nil, ints_nil]
      ((try rewrite [← hVi]); (try rewrite [← hVu]); (try rewrite [← hVg]); (try rewrite [← hVh]); (try rewrite [← o_chkT]); (try rewrite [← o_pagesUp]); (try rewrite [← o_pagesS]); conv => cbv)
      subst hF hVi hVu hVg hVh hVl; (try subst o_chkT); (try subst o_pagesUp); (try subst o_pagesS); subst hd
      simp only [fns]
      refine ⟨by simp [inRows, inRowsL, lk, lenD], ?_⟩
      rw [← hP]
      simp [reify, reifyL, lk, subL, ints]
    · simp only [gv_ne (ints_ne ha), gh_ne (ints_ne ha)]
      ((try rewrite [← hVi]); (try rewrite [← hVu]); (try rewrite [← hVg]); (try rewrite [← hVh]); (try rewrite [← o_chkT]); (try rewrite [← o_pagesUp]); (try rewrite [← o_pagesS]); conv => cbv)
      subst hF hVi hVu hVg hVh hVl; (try subst o_chkT); (try subst o_pagesUp); (try subst o_pagesS); subst hd
      simp only [fns]
      refine ⟨by simp [inRows, inRowsL, lk, lenD], ?_⟩
      rw [← hP]
      simp [reify, reifyL, lk, subL, ints, lenD]
theorem pcounts_c (r : Int) (L E : List Int) (hL : L.length < 100) (hE : E.length < 100) (hw : wordsOk E) : Contract Tryd.prog G0 26 [tblD r L E] (.tup [.int .i64 (countsS r L E).1, .int .i64 (countsS r L E).2.1, .int .i64 (countsS r L E).2.2]) [] := by
  refine fun0 tys_ok mixed (n := 25) (rs := [.tmp 2, .tmp 3, .tmp 4]) ⟨Tryd.func26, by kernel_rfl, rfl⟩ rfl rfl (by simp) fun F d0 hF hd => ?_
  obtain ⟨ints, u64s, gv, gh, lenF, hVi, hVu, hVg, hVh, hVl, lenD, ints_len, u64s_len, ints_cells, u64s_cells, ints_at, u64s_at, gv_nil, gh_nil, gv_ne, gh_ne, gv_snoc, gh_snoc, gv_one, gh_one, lt_gv, ren_gv, lk_gh, renH_gh, mem_gh, injK_gh, injH_gh, ints_nil, ints_app, ints_one, ints_cons, ints_ne, u64s_nil, u64s_app, u64s_one, u64s_ne, ints_set, u64s_set⟩ := vocab
  obtain ⟨f_chkT, o_chkT⟩ : ∃ f, f = chkT := ⟨_, rfl⟩
  obtain ⟨f_pagesUp, o_pagesUp⟩ : ∃ f, f = pagesUp := ⟨_, rfl⟩
  obtain ⟨f_pagesS, o_pagesS⟩ : ∃ f, f = pagesS := ⟨_, rfl⟩
  obtain ⟨f_countsS, o_countsS⟩ : ∃ f, f = countsS := ⟨_, rfl⟩
  have c1 := ppages_c r L E 1 hL hE hw
  have c2 := ppages_c r L E 2 hL hE hw
  unfold tblD at *
  generalize hP : countsS r L E = X at hd
  rw [countsS] at hP
  have p1 : pagesS r L E 1 = if chkT r L E ≠ 0 then ([], chkT r L E) else (pagesUp E 1 64, 0) := by rw [pagesS]; simp
  have p2 : pagesS r L E 2 = if chkT r L E ≠ 0 then ([], chkT r L E) else (pagesUp E 2 64, 0) := by rw [pagesS]; simp
  generalize chkT r L E = S at *
  generalize pagesS r L E 1 = A at *
  generalize pagesS r L E 2 = B at *
  obtain ⟨a1, a2⟩ := A
  obtain ⟨b1, b2⟩ := B
  ((try rewrite [← hVi]); (try rewrite [← hVu]); (try rewrite [← hVg]); (try rewrite [← hVh]); (try rewrite [← o_chkT]); (try rewrite [← o_pagesUp]); (try rewrite [← o_pagesS]); (try rewrite [← o_countsS]); conv => cbv)
  refine .inl ⟨_, _, by subst hF hVi hVu hVg hVh hVl; (try subst o_chkT); (try subst o_pagesUp); (try subst o_pagesS); (try subst o_countsS); exact c1, by subst hF hVi hVu hVg hVh hVl; (try subst o_chkT); (try subst o_pagesUp); (try subst o_pagesS); (try subst o_countsS); exact ⟨by simp [inRowsL, inRows, lk], by first | exact .inl rfl | exact .inr ⟨rfl, fun B h => nomatch h⟩⟩, ?_⟩ <;> ((try rewrite [← hVi]); (try rewrite [← hVu]); (try rewrite [← hVg]); (try rewrite [← hVh]); (try rewrite [← o_chkT]); (try rewrite [← o_pagesUp]); (try rewrite [← o_pagesS]); (try rewrite [← o_countsS]); conv => cbv)
  by_cases hS : S = 0
  · rw [if_neg (by simpa using hS)] at p1 p2 hP
    cases p1; cases p2
    simp only at c1 c2
    split <;> rename_i h <;> (try rw [h]) <;> (((try rewrite [← hVi]); (try rewrite [← hVu]); (try rewrite [← hVg]); (try rewrite [← hVh]); (try rewrite [← o_chkT]); (try rewrite [← o_pagesUp]); (try rewrite [← o_pagesS]); (try rewrite [← o_countsS]); conv => cbv)) <;> (try simp only [hF, fns, cmI, decide_eq_true_eq, decide_eq_false_iff_not, beq_iff_eq, bne_iff_ne, beq_eq_false_iff_ne, bne_eq_false_iff_eq, ne_eq, Int.not_lt, Int.not_le, Classical.not_not, ge_iff_le, gt_iff_lt, Bool.not_eq_true] at h)
    · exact absurd trivial h
    refine .inl ⟨_, _, by subst hF hVi hVu hVg hVh hVl; (try subst o_chkT); (try subst o_pagesUp); (try subst o_pagesS); (try subst o_countsS); exact c2, by subst hF hVi hVu hVg hVh hVl; (try subst o_chkT); (try subst o_pagesUp); (try subst o_pagesS); (try subst o_countsS); exact ⟨by simp [inRowsL, inRows, lk], by first | exact .inl rfl | exact .inr ⟨rfl, fun B h => nomatch h⟩⟩, ?_⟩ <;> ((try rewrite [← hVi]); (try rewrite [← hVu]); (try rewrite [← hVg]); (try rewrite [← hVh]); (try rewrite [← o_chkT]); (try rewrite [← o_pagesUp]); (try rewrite [← o_pagesS]); (try rewrite [← o_countsS]); conv => cbv)
    subst hF hVi hVu hVg hVh hVl; (try subst o_chkT); (try subst o_pagesUp); (try subst o_pagesS); (try subst o_countsS); subst hd
    simp only [fns]
    refine ⟨by simp [inRows, inRowsL, lk, lenD], ?_⟩
    rw [← hP]
    simp [reify, reifyL, ints_len]
  · rw [if_pos hS] at p1 p2 hP
    cases p1; cases p2
    simp only at c1 c2
    split <;> rename_i h <;> (try rw [h]) <;> (((try rewrite [← hVi]); (try rewrite [← hVu]); (try rewrite [← hVg]); (try rewrite [← hVh]); (try rewrite [← o_chkT]); (try rewrite [← o_pagesUp]); (try rewrite [← o_pagesS]); (try rewrite [← o_countsS]); conv => cbv)) <;> (try simp only [hF, fns, cmI, decide_eq_true_eq, decide_eq_false_iff_not, beq_iff_eq, bne_iff_ne, beq_eq_false_iff_ne, bne_eq_false_iff_eq, ne_eq, Int.not_lt, Int.not_le, Classical.not_not, ge_iff_le, gt_iff_lt, Bool.not_eq_true] at h)
    · subst hF hVi hVu hVg hVh hVl; (try subst o_chkT); (try subst o_pagesUp); (try subst o_pagesS); (try subst o_countsS); subst hd
      simp only [fns]
      refine ⟨by simp [inRows, inRowsL, lk, lenD], ?_⟩
      rw [← hP]
      simp [reify, reifyL]
    · exact absurd h hS
end Go.Proofs.YtppmomobjjpljaaDoor.E
end
