/- Own texts of the claims of this seat, one behind the other: C7, C8, C9, C10: what a call comes to, and contracts of functions. -/
import Derived.Test.YtppmomobjjpljaaDoorPk6
/- Part C7. -/
section
/- Contracts: frames (program). -/
namespace Go.Proofs.YtppmomobjjpljaaDoor.E
open Go Go.RowKit
set_option linter.unusedVariables false
set_option linter.unusedSimpArgs false
set_option maxRecDepth 100000
theorem isNone_c (x : Int) : Contract Tryd.prog G0 53 [.int .i64 x] (.bool (x == -1)) [] := by
  refine fun0 tys_ok mixed (n := 5) (rs := [.tmp 2]) ⟨Tryd.func53, by kernel_rfl, rfl⟩ rfl rfl (by simp) fun F d0 hF hd => ?_
  obtain ⟨ints, u64s, gv, gh, lenF, hVi, hVu, hVg, hVh, hVl, lenD, ints_len, u64s_len, ints_cells, u64s_cells, ints_at, u64s_at, gv_nil, gh_nil, gv_ne, gh_ne, gv_snoc, gh_snoc, gv_one, gh_one, lt_gv, ren_gv, lk_gh, renH_gh, mem_gh, injK_gh, injH_gh, ints_nil, ints_app, ints_one, ints_cons, ints_ne, u64s_nil, u64s_app, u64s_one, u64s_ne, ints_set, u64s_set⟩ := vocab
  generalize hb : (x == -1) = b at hd
  ((try rewrite [← hVi]); (try rewrite [← hVu]); (try rewrite [← hVg]); (try rewrite [← hVh]); conv => cbv)
  subst hF hVi hVu hVg hVh hVl; subst hd
  simp only [fns]
  refine ⟨by simp [inRows, inRowsL, lk, lenD], ?_⟩
  simp [reify, cmI, hb]
theorem idxP_spec (p : Int → Bool) : ∀ (l : List Int) (k : Nat), (idxP p k l = -1 ∧ ∀ x, x ∈ l → p x = false) ∨ ∃ i : Nat, idxP p k l = ((k + i : Nat) : Int) ∧ i < l.length ∧ (∀ x, x ∈ l.take i → p x = false) ∧ ∀ x, l[i]? = some x → p x = true
  | [], k => .inl ⟨rfl, by simp⟩
  | y :: l, k => by
    rw [idxP]
    split
    · rename_i h
      exact .inr ⟨0, by simp, by simp, by simp, fun x hx => by simp at hx; rw [← hx]; exact h⟩
    · rename_i h
      have hy : p y = false := by simpa using h
      rcases idxP_spec p l (k + 1) with ⟨h1, h2⟩ | ⟨i, h1, h2, h3, h4⟩
      · exact .inl ⟨h1, fun x hx => by rcases List.mem_cons.1 hx with h5 | h5; rw [h5]; exact hy; exact h2 x h5⟩
      · refine .inr ⟨i + 1, by rw [h1]; omega, by simp; omega, fun x hx => ?_, fun x hx => h4 x (by simpa using hx)⟩
        rw [List.take_succ_cons] at hx
        rcases List.mem_cons.1 hx with h5 | h5
        · rw [h5]; exact hy
        · exact h3 x h5
theorem filter_frames {L : List Int} {r : Int} (h : ∀ x, x ∈ L → -1 ≤ x) (hr : -1 ≤ r) : (L ++ [r]).filter (fun x => !(x == -1)) = leavesS L ++ if 0 ≤ r then [r] else [] := by
  rw [List.filter_append, leavesS]
  congr 1
  · refine List.filter_congr fun x hx => ?_
    have := h x hx
    rw [Bool.eq_iff_iff]; simp; omega
  · split
    · rw [List.filter_cons_of_pos (by simp; omega)]; rfl
    · rw [List.filter_cons_of_neg (by simp; omega)]; rfl
theorem pframes_c (r : Int) (L E : List Int) (hL : L.length < 100) (hE : E.length < 100) (hw : wordsOk E) : Contract Tryd.prog G0 21 [tblD r L E] (.tup [.ro (ints (framesS r L E).1), .int .i64 (framesS r L E).2]) [] := by
  refine fun0 tys_ok mixed (n := 20) (rs := [.tmp 2, .tmp 3]) ⟨Tryd.func21, by kernel_rfl, rfl⟩ rfl rfl (by simp) fun F d0 hF hd => ?_
  obtain ⟨ints, u64s, gv, gh, lenF, hVi, hVu, hVg, hVh, hVl, lenD, ints_len, u64s_len, ints_cells, u64s_cells, ints_at, u64s_at, gv_nil, gh_nil, gv_ne, gh_ne, gv_snoc, gh_snoc, gv_one, gh_one, lt_gv, ren_gv, lk_gh, renH_gh, mem_gh, injK_gh, injH_gh, ints_nil, ints_app, ints_one, ints_cons, ints_ne, u64s_nil, u64s_app, u64s_one, u64s_ne, ints_set, u64s_set⟩ := vocab
  obtain ⟨f_chkT, o_chkT⟩ : ∃ f, f = chkT := ⟨_, rfl⟩
  obtain ⟨f_framesS, o_framesS⟩ : ∃ f, f = framesS := ⟨_, rfl⟩
  obtain ⟨f_idxP, o_idxP⟩ : ∃ f, f = idxP := ⟨_, rfl⟩
  have c1 := pchk_c r L E hL hE hw
  have hl1 := ints_len L
  unfold tblD at *
  generalize hP : framesS r L E = X at hd
  rw [framesS] at hP
  generalize hS : chkT r L E = S at c1 hP
  ((try rewrite [← hVi]); (try rewrite [← hVu]); (try rewrite [← hVg]); (try rewrite [← hVh]); (try rewrite [← o_chkT]); (try rewrite [← o_framesS]); (try rewrite [← o_idxP]); conv => cbv)
  refine .inl ⟨_, _, by subst hF hVi hVu hVg hVh hVl; (try subst o_chkT); (try subst o_framesS); (try subst o_idxP); exact c1, by subst hF hVi hVu hVg hVh hVl; (try subst o_chkT); (try subst o_framesS); (try subst o_idxP); exact ⟨by simp [inRowsL, inRows, lk], by first | exact .inl rfl | exact .inr ⟨rfl, fun B h => nomatch h⟩⟩, ?_⟩ <;> ((try rewrite [← hVi]); (try rewrite [← hVu]); (try rewrite [← hVg]); (try rewrite [← hVh]); (try rewrite [← o_chkT]); (try rewrite [← o_framesS]); (try rewrite [← o_idxP]); conv => cbv)
  split <;> rename_i h <;> (try rw [h]) <;> (((try rewrite [← hVi]); (try rewrite [← hVu]); (try rewrite [← hVg]); (try rewrite [← hVh]); (try rewrite [← o_chkT]); (try rewrite [← o_framesS]); (try rewrite [← o_idxP]); conv => cbv)) <;> (try simp only [hF, fns, cmI, decide_eq_true_eq, decide_eq_false_iff_not, beq_iff_eq, bne_iff_ne, beq_eq_false_iff_ne, bne_eq_false_iff_eq, ne_eq, Int.not_lt, Int.not_le, Classical.not_not, ge_iff_le, gt_iff_lt, Bool.not_eq_true] at h)
  · subst hF hVi hVu hVg hVh hVl; (try subst o_chkT); (try subst o_framesS); (try subst o_idxP); subst hd
    simp only [fns]
    refine ⟨by simp [inRows, inRowsL, lk, lenD], ?_⟩
    rw [if_pos h] at hP
    rw [← hP]
    simp [reify, reifyL, ints]
  subst h
  rw [if_neg (by simp)] at hP
  obtain ⟨g4, g5⟩ := chkT_len hS
  have ho := chkT_iff.1 hS
  have c2 := clone_ints (G := G0) (ints L) (ints_cells L) (by intro h; rw [h] at hl1; simp at hl1; omega) (by omega)
  rw [hl1, g4] at c2
  obtain ⟨A, hA⟩ : ∃ A, A = L ++ [r] := ⟨_, rfl⟩
  have hAl : A.length = 9 := by rw [hA]; simp [g4]
  have hlA := ints_len A
  rw [← filter_frames (fun x hx => (ho.rng x hx).1) ho.root.1, ← hA] at hP
  have e1 : F.sub [D.int .i64 r] 0 1 = [D.int .i64 r] := by subst hF hVi hVu hVg hVh hVl; (try subst o_chkT); (try subst o_framesS); (try subst o_idxP); rfl
  have e2 : F.app (ints L) [D.int .i64 r] = ints A := by subst hF hVi hVu hVg hVh hVl; (try subst o_chkT); (try subst o_framesS); (try subst o_idxP); simp only [fns]; rw [hA, ints_app]; rfl
  have e3 : F.am 8 1 (F.len [D.int .i64 r]) = 9 := by subst hF hVi hVu hVg hVh hVl; (try subst o_chkT); (try subst o_framesS); (try subst o_idxP); rfl
  have e4 : F.sub (ints A) 0 9 = ints A := by subst hF hVi hVu hVg hVh hVl; (try subst o_chkT); (try subst o_framesS); (try subst o_idxP); simp [fns, subL, hlA, hAl]
  (conv at e1 => lhs; cbv) <;> (conv at e2 => lhs; cbv) <;> (conv at e3 => lhs; cbv) <;> (conv at e4 => lhs; cbv)
  refine ⟨_, [_], by subst hF hVi hVu hVg hVh hVl; (try subst o_chkT); (try subst o_framesS); (try subst o_idxP); exact c2, by subst hF hVi hVu hVg hVh hVl; (try subst o_chkT); (try subst o_framesS); (try subst o_idxP); exact ⟨by simp [inRowsL, inRows, lk], .inl rfl⟩, ?_⟩
  ((try rewrite [← hVi]); (try rewrite [← hVu]); (try rewrite [← hVg]); (try rewrite [← hVh]); (try rewrite [← o_chkT]); (try rewrite [← o_framesS]); (try rewrite [← o_idxP]); conv => cbv)
  refine ⟨by subst hF hVi hVu hVg hVh hVl; (try subst o_chkT); (try subst o_framesS); (try subst o_idxP); exact ⟨rfl, rfl⟩, ?_⟩
  rw [e1]
  refine ⟨by subst hF hVi hVu hVg hVh hVl; (try subst o_chkT); (try subst o_framesS); (try subst o_idxP); simp [fns, inRow, lk, D.cells], by subst hF hVi hVu hVg hVh hVl; (try subst o_chkT); (try subst o_framesS); (try subst o_idxP); simp [fns, hl1, g4], ?_⟩
  rw [e2, e3]
  ((try rewrite [← hVi]); (try rewrite [← hVu]); (try rewrite [← hVg]); (try rewrite [← hVh]); (try rewrite [← o_chkT]); (try rewrite [← o_framesS]); (try rewrite [← o_idxP]); conv => cbv)
  refine .inr (inPlace tys_ok mixed hF (n := 42) (rs := [.tmp 4]) ⟨Tryd.func52, by kernel_rfl, rfl⟩ rfl rfl (by simp) rfl ?_)
  ((try rewrite [← hVi]); (try rewrite [← hVu]); (try rewrite [← hVg]); (try rewrite [← hVh]); (try rewrite [← o_chkT]); (try rewrite [← o_framesS]); (try rewrite [← o_idxP]); conv => cbv)
  rw [e4]
  have c3 := indexFunc_c (G := G0) 53 (fun x => x == -1) isNone_c A (by omega)
  have hsp := idxP_spec (fun x => x == -1) A 0
  generalize idxP (fun x => x == -1) 0 A = i0 at c3 hsp
  refine .inl ⟨_, _, by subst hF hVi hVu hVg hVh hVl; (try subst o_chkT); (try subst o_framesS); (try subst o_idxP); exact c3, by subst hF hVi hVu hVg hVh hVl; (try subst o_chkT); (try subst o_framesS); (try subst o_idxP); exact ⟨by simp [inRowsL, inRows, lk, hlA, hAl], .inr ⟨rfl, fun B h => nomatch h⟩⟩, ?_⟩
  ((try rewrite [← hVi]); (try rewrite [← hVu]); (try rewrite [← hVg]); (try rewrite [← hVh]); (try rewrite [← o_chkT]); (try rewrite [← o_framesS]); (try rewrite [← o_idxP]); conv => cbv)
  split <;> rename_i q0 <;> (try rw [q0]) <;> (((try rewrite [← hVi]); (try rewrite [← hVu]); (try rewrite [← hVg]); (try rewrite [← hVh]); (try rewrite [← o_chkT]); (try rewrite [← o_framesS]); (try rewrite [← o_idxP]); conv => cbv)) <;> (try simp only [hF, fns, cmI, decide_eq_true_eq, decide_eq_false_iff_not, beq_iff_eq, bne_iff_ne, beq_eq_false_iff_ne, bne_eq_false_iff_eq, ne_eq, Int.not_lt, Int.not_le, Classical.not_not, ge_iff_le, gt_iff_lt, Bool.not_eq_true] at q0)
  · subst hF hVi hVu hVg hVh hVl; (try subst o_chkT); (try subst o_framesS); (try subst o_idxP); subst hd
    simp only [fns]
    refine ⟨by simp [inRows, inRowsL, lk, hlA, hAl], ?_⟩
    have hall : ∀ x, x ∈ A → (x == -1) = false := by
      rcases hsp with ⟨_, h2⟩ | ⟨i, h1, _⟩
      · exact h2
      · omega
    rw [← hP, List.filter_eq_self.2 (fun x hx => by simp only [hall x hx]; rfl)]
    simp [reify, reifyL, lk, subL, hlA, hAl]
  obtain ⟨i, hi, hi9, ht, hp⟩ : ∃ i : Nat, i0 = i ∧ i < 9 ∧ (∀ x, x ∈ A.take i → (x == -1) = false) ∧ ∀ x, A[i]? = some x → (x == -1) = true := by
    rcases hsp with ⟨h1, _⟩ | ⟨i, h1, h2, h3, h4⟩
    · exact absurd h1 q0
    · exact ⟨i, by rw [h1]; simp, by omega, h3, h4⟩
  have hfi : (A.take (i + 1)).filter (fun x => !(x == -1)) = A.take i := by
    obtain ⟨y, hy⟩ : ∃ y, A[i]? = some y := ⟨_, List.getElem?_eq_getElem (by omega)⟩
    rw [take_at hy, List.filter_append, List.filter_cons_of_neg (by simp [hp y hy]), List.filter_eq_self.2 (fun x hx => by simp only [ht x hx]; rfl)]
    simp
  have e7 : F.ar .add .i64 i0 1 = ((i + 1 : Nat) : Int) := by subst hF hVi hVu hVg hVh hVl; (try subst o_chkT); (try subst o_framesS); (try subst o_idxP); rw [hi]; exact i64_nat (by omega)
  (conv at e7 => lhs; cbv)
  rw [e7]
  subst hi
  refine loop_inv hF ((Nat) × (Nat) × (List Int)) (fun st_ => (st_.2.1) < (st_.1) ∧ (st_.1) ≤ 9 ∧ (st_.2.2).length = 9 ∧ (st_.2.2).take (st_.2.1) = (A.take (st_.1)).filter (fun x => !(x == -1)) ∧ (st_.2.2).drop (st_.1) = A.drop (st_.1)) (fun st_ => { tm := [(0, .sl 3 1 0 9), (1, .fn 53 []), (5, .int .i64 (st_.2.1)), (6, .int .i64 (st_.1))], hp := [(3, ⟨1, 3, ints (st_.2.2), true, false⟩)], nx := 9, nt := 42, fr := [[]], df := [] }) (fun st_ => 9 - (st_.1)) ⟨(i + 1, i, A), by exact ⟨by simp, by simp; omega, by simp [hAl], by simp only; exact hfi.symm, rfl⟩, wk_of hF (weakR (pie []) (by first | (simp +contextual [renT, renH, renB, renF, renDf, injH, pie, lk, D.ren, D.renL, D.lt, D.ltL, lt_gv, ren_gv, lk_gh, renH_gh, mem_gh, injH_gh, injK, injK_gh, lenD, gv_one, gh_one, subL_one, gv_nil, gh_nil, gv_snoc, gh_snoc, ints_nil, ints_app, ints_one, ints_cons, u64s_nil, u64s_app, u64s_one, ints_set, u64s_set, ints_len, u64s_len, List.nil_append, List.length_append, List.length_cons, List.length_nil]; done) | (subst hF hVi hVu hVg hVh hVl; (try subst o_chkT); (try subst o_framesS); (try subst o_idxP); simp only [fns, arI, cmI]; rw [IntWalk.i64_in _ (by simp; omega)]; simp +contextual [renT, renH, renB, renF, renDf, injH, pie, lk, D.ren, D.renL, D.lt, D.ltL, lt_gv, ren_gv, lk_gh, renH_gh, mem_gh, injH_gh, injK, injK_gh, lenD, gv_one, gh_one, subL_one, gv_nil, gh_nil, gv_snoc, gh_snoc, ints_nil, ints_app, ints_one, ints_cons, u64s_nil, u64s_app, u64s_one, ints_set, u64s_set, ints_len, u64s_len, List.nil_append, List.length_append, List.length_cons, List.length_nil]; done) | (subst hF hVi hVu hVg hVh hVl; (try subst o_chkT); (try subst o_framesS); (try subst o_idxP); simp +contextual [fns, arI, cmI, renT, renH, renB, renF, renDf, injH, pie, lk, D.ren, D.renL, D.lt, D.ltL, lt_gv, ren_gv, lk_gh, renH_gh, mem_gh, injH_gh, injK, injK_gh, lenD, gv_one, gh_one, subL_one, gv_nil, gh_nil, gv_snoc, gh_snoc, ints_nil, ints_app, ints_one, ints_cons, u64s_nil, u64s_app, u64s_one, ints_set, u64s_set, ints_len, u64s_len, List.nil_append, List.length_append, List.length_cons, List.length_nil])) (by first | (simp +contextual [renT, renH, renB, renF, renDf, injH, pie, lk, D.ren, D.renL, D.lt, D.ltL, lt_gv, ren_gv, lk_gh, renH_gh, mem_gh, injH_gh, injK, injK_gh, lenD, gv_one, gh_one, subL_one, gv_nil, gh_nil, gv_snoc, gh_snoc, ints_nil, ints_app, ints_one, ints_cons, u64s_nil, u64s_app, u64s_one, ints_set, u64s_set, ints_len, u64s_len, List.nil_append, List.length_append, List.length_cons, List.length_nil]; done) | (subst hF hVi hVu hVg hVh hVl; (try subst o_chkT); (try subst o_framesS); (try subst o_idxP); simp +contextual [fns, renT, renH, renB, renF, renDf, injH, pie, lk, D.ren, D.renL, D.lt, D.ltL, lt_gv, ren_gv, lk_gh, renH_gh, mem_gh, injH_gh, injK, injK_gh, lenD, gv_one, gh_one, subL_one, gv_nil, gh_nil, gv_snoc, gh_snoc, ints_nil, ints_app, ints_one, ints_cons, u64s_nil, u64s_app, u64s_one, ints_set, u64s_set, ints_len, u64s_len, List.nil_append, List.length_append, List.length_cons, List.length_nil])) (by simp +contextual [renT, renH, renB, renF, renDf, injH, pie, lk, D.ren, D.renL, D.lt, D.ltL, lt_gv, ren_gv, lk_gh, renH_gh, mem_gh, injH_gh, injK, injK_gh, lenD, gv_one, gh_one, subL_one, gv_nil, gh_nil, gv_snoc, gh_snoc, ints_nil, ints_app, ints_one, ints_cons, u64s_nil, u64s_app, u64s_one, ints_set, u64s_set, ints_len, u64s_len, List.nil_append, List.length_append, List.length_cons, List.length_nil]) rfl (by simp [renF, renT, lk, D.ren, D.renL, D.lt, D.ltL]) (by simp [renDf]))⟩ ?_
  rintro ⟨j, i, C⟩ hk
  try simp only at hk
  ((try rewrite [← hVi]); (try rewrite [← hVu]); (try rewrite [← hVg]); (try rewrite [← hVh]); (try rewrite [← o_chkT]); (try rewrite [← o_framesS]); (try rewrite [← o_idxP]); conv => cbv)
  obtain ⟨hk1, hk2, hk3, hk4, hk5⟩ := hk
  have hlC := ints_len C
  split <;> rename_i h5 <;> (try rw [h5]) <;> (((try rewrite [← hVi]); (try rewrite [← hVu]); (try rewrite [← hVg]); (try rewrite [← hVh]); (try rewrite [← o_chkT]); (try rewrite [← o_framesS]); (try rewrite [← o_idxP]); conv => cbv)) <;> (try simp only [hF, fns, cmI, decide_eq_true_eq, decide_eq_false_iff_not, beq_iff_eq, bne_iff_ne, beq_eq_false_iff_ne, bne_eq_false_iff_eq, ne_eq, Int.not_lt, Int.not_le, Classical.not_not, ge_iff_le, gt_iff_lt, Bool.not_eq_true] at h5)
  · have hlt : j < 9 := by simp at h5; omega
    obtain ⟨x, hx⟩ : ∃ x, A[j]? = some x := ⟨_, List.getElem?_eq_getElem (by omega)⟩
    have hCx : C[j]? = some x := by
      have := congrArg (·[0]?) hk5
      simpa [hx] using this
    refine ⟨by subst hF hVi hVu hVg hVh hVl; (try subst o_chkT); (try subst o_framesS); (try subst o_idxP); simp [fns]; omega, .int .i64 x, by subst hF hVi hVu hVg hVh hVl; (try subst o_chkT); (try subst o_framesS); (try subst o_idxP); simpa [fns] using ints_at _ _ _ hCx, ?_⟩
    ((try rewrite [← hVi]); (try rewrite [← hVu]); (try rewrite [← hVg]); (try rewrite [← hVh]); (try rewrite [← o_chkT]); (try rewrite [← o_framesS]); (try rewrite [← o_idxP]); conv => cbv)
    have c4 := isNone_c x
    have hnx := take_at hx
    generalize hb : (x == -1) = b at c4
    refine .inl ⟨_, _, by subst hF hVi hVu hVg hVh hVl; (try subst o_chkT); (try subst o_framesS); (try subst o_idxP); exact c4, by subst hF hVi hVu hVg hVh hVl; (try subst o_chkT); (try subst o_framesS); (try subst o_idxP); exact ⟨by simp [inRowsL, inRows, lk], by first | exact .inl rfl | exact .inr ⟨rfl, fun B h => nomatch h⟩⟩, ?_⟩ <;> ((try rewrite [← hVi]); (try rewrite [← hVu]); (try rewrite [← hVg]); (try rewrite [← hVh]); (try rewrite [← o_chkT]); (try rewrite [← o_framesS]); (try rewrite [← o_idxP]); conv => cbv)
    cases b
    · obtain ⟨C2, hC2⟩ : ∃ C2, C2 = C.set i x := ⟨_, rfl⟩
      have e5 : F.lset (ints C) (F.ix 0 (Int.ofNat i)) (.int .i64 x) = ints C2 := by subst hF hVi hVu hVg hVh hVl; (try subst o_chkT); (try subst o_framesS); (try subst o_idxP); simp only [fns]; rw [hC2, ← ints_set]; simp
      (conv at e5 => lhs; cbv)
      ((try rewrite [← hVi]); (try rewrite [← hVu]); (try rewrite [← hVg]); (try rewrite [← hVh]); (try rewrite [← o_chkT]); (try rewrite [← o_framesS]); (try rewrite [← o_idxP]); conv => cbv)
      refine ⟨by subst hF hVi hVu hVg hVh hVl; (try subst o_chkT); (try subst o_framesS); (try subst o_idxP); simp [fns]; omega, by subst hF hVi hVu hVg hVh hVl; (try subst o_chkT); (try subst o_framesS); (try subst o_idxP); simp [fns, hlC]; omega, ?_⟩
      rw [e5]
      ((try rewrite [← hVi]); (try rewrite [← hVu]); (try rewrite [← hVg]); (try rewrite [← hVh]); (try rewrite [← o_chkT]); (try rewrite [← o_framesS]); (try rewrite [← o_idxP]); conv => cbv)
      have e6 : F.ar .add .i64 (Int.ofNat i) 1 = ((i + 1 : Nat) : Int) := by subst hF hVi hVu hVg hVh hVl; (try subst o_chkT); (try subst o_framesS); (try subst o_idxP); exact i64_nat (by omega)
      (conv at e6 => lhs; cbv)
      rw [e6]
      refine ⟨(j + 1, i + 1, C2), ?_, by first | omega | (simp; omega) | (simp only; omega), wk_of hF (weakR (pie []) (by first | (simp +contextual [renT, renH, renB, renF, renDf, injH, pie, lk, D.ren, D.renL, D.lt, D.ltL, lt_gv, ren_gv, lk_gh, renH_gh, mem_gh, injH_gh, injK, injK_gh, lenD, gv_one, gh_one, subL_one, gv_nil, gh_nil, gv_snoc, gh_snoc, ints_nil, ints_app, ints_one, ints_cons, u64s_nil, u64s_app, u64s_one, ints_set, u64s_set, ints_len, u64s_len, List.nil_append, List.length_append, List.length_cons, List.length_nil]; done) | (subst hF hVi hVu hVg hVh hVl; (try subst o_chkT); (try subst o_framesS); (try subst o_idxP); simp only [fns, arI, cmI]; rw [IntWalk.i64_in _ (by simp; omega)]; simp +contextual [renT, renH, renB, renF, renDf, injH, pie, lk, D.ren, D.renL, D.lt, D.ltL, lt_gv, ren_gv, lk_gh, renH_gh, mem_gh, injH_gh, injK, injK_gh, lenD, gv_one, gh_one, subL_one, gv_nil, gh_nil, gv_snoc, gh_snoc, ints_nil, ints_app, ints_one, ints_cons, u64s_nil, u64s_app, u64s_one, ints_set, u64s_set, ints_len, u64s_len, List.nil_append, List.length_append, List.length_cons, List.length_nil]; done) | (subst hF hVi hVu hVg hVh hVl; (try subst o_chkT); (try subst o_framesS); (try subst o_idxP); simp +contextual [fns, arI, cmI, renT, renH, renB, renF, renDf, injH, pie, lk, D.ren, D.renL, D.lt, D.ltL, lt_gv, ren_gv, lk_gh, renH_gh, mem_gh, injH_gh, injK, injK_gh, lenD, gv_one, gh_one, subL_one, gv_nil, gh_nil, gv_snoc, gh_snoc, ints_nil, ints_app, ints_one, ints_cons, u64s_nil, u64s_app, u64s_one, ints_set, u64s_set, ints_len, u64s_len, List.nil_append, List.length_append, List.length_cons, List.length_nil])) (by first | (simp +contextual [renT, renH, renB, renF, renDf, injH, pie, lk, D.ren, D.renL, D.lt, D.ltL, lt_gv, ren_gv, lk_gh, renH_gh, mem_gh, injH_gh, injK, injK_gh, lenD, gv_one, gh_one, subL_one, gv_nil, gh_nil, gv_snoc, gh_snoc, ints_nil, ints_app, ints_one, ints_cons, u64s_nil, u64s_app, u64s_one, ints_set, u64s_set, ints_len, u64s_len, List.nil_append, List.length_append, List.length_cons, List.length_nil]; done) | (subst hF hVi hVu hVg hVh hVl; (try subst o_chkT); (try subst o_framesS); (try subst o_idxP); simp +contextual [fns, renT, renH, renB, renF, renDf, injH, pie, lk, D.ren, D.renL, D.lt, D.ltL, lt_gv, ren_gv, lk_gh, renH_gh, mem_gh, injH_gh, injK, injK_gh, lenD, gv_one, gh_one, subL_one, gv_nil, gh_nil, gv_snoc, gh_snoc, ints_nil, ints_app, ints_one, ints_cons, u64s_nil, u64s_app, u64s_one, ints_set, u64s_set, ints_len, u64s_len, List.nil_append, List.length_append, List.length_cons, List.length_nil])) (by simp +contextual [renT, renH, renB, renF, renDf, injH, pie, lk, D.ren, D.renL, D.lt, D.ltL, lt_gv, ren_gv, lk_gh, renH_gh, mem_gh, injH_gh, injK, injK_gh, lenD, gv_one, gh_one, subL_one, gv_nil, gh_nil, gv_snoc, gh_snoc, ints_nil, ints_app, ints_one, ints_cons, u64s_nil, u64s_app, u64s_one, ints_set, u64s_set, ints_len, u64s_len, List.nil_append, List.length_append, List.length_cons, List.length_nil]) rfl (by simp [renF, renT, lk, D.ren, D.renL, D.lt, D.ltL]) (by simp [renDf]))⟩ <;> (skip; (try subst o_chkT); (try subst o_framesS); (try subst o_idxP))
      refine ⟨by simp only; omega, by simp only; omega, by simp [hC2, hk3], ?_, ?_⟩
      · simp only
        rw [hnx, List.filter_append, ← hk4, List.filter_cons_of_pos (by simp only [hb]; rfl), hC2]
        have hCi : (C.set i x)[i]? = some x := by rw [List.getElem?_set_self (by omega)]
        rw [take_at hCi, List.take_set_of_le (Nat.le_refl i)]; rfl
      · simp only
        rw [hC2, List.drop_set_of_lt (by omega)]
        have := congrArg (List.drop 1) hk5
        simpa using this
    · ((try rewrite [← hVi]); (try rewrite [← hVu]); (try rewrite [← hVg]); (try rewrite [← hVh]); (try rewrite [← o_chkT]); (try rewrite [← o_framesS]); (try rewrite [← o_idxP]); conv => cbv)
      refine ⟨(j + 1, i, C), ?_, by first | omega | (simp; omega) | (simp only; omega), wk_of hF (weakR (pie []) (by first | (simp +contextual [renT, renH, renB, renF, renDf, injH, pie, lk, D.ren, D.renL, D.lt, D.ltL, lt_gv, ren_gv, lk_gh, renH_gh, mem_gh, injH_gh, injK, injK_gh, lenD, gv_one, gh_one, subL_one, gv_nil, gh_nil, gv_snoc, gh_snoc, ints_nil, ints_app, ints_one, ints_cons, u64s_nil, u64s_app, u64s_one, ints_set, u64s_set, ints_len, u64s_len, List.nil_append, List.length_append, List.length_cons, List.length_nil]; done) | (subst hF hVi hVu hVg hVh hVl; (try subst o_chkT); (try subst o_framesS); (try subst o_idxP); simp only [fns, arI, cmI]; rw [IntWalk.i64_in _ (by simp; omega)]; simp +contextual [renT, renH, renB, renF, renDf, injH, pie, lk, D.ren, D.renL, D.lt, D.ltL, lt_gv, ren_gv, lk_gh, renH_gh, mem_gh, injH_gh, injK, injK_gh, lenD, gv_one, gh_one, subL_one, gv_nil, gh_nil, gv_snoc, gh_snoc, ints_nil, ints_app, ints_one, ints_cons, u64s_nil, u64s_app, u64s_one, ints_set, u64s_set, ints_len, u64s_len, List.nil_append, List.length_append, List.length_cons, List.length_nil]; done) | (subst hF hVi hVu hVg hVh hVl; (try subst o_chkT); (try subst o_framesS); (try subst o_idxP); simp +contextual [fns, arI, cmI, renT, renH, renB, renF, renDf, injH, pie, lk, D.ren, D.renL, D.lt, D.ltL, lt_gv, ren_gv, lk_gh, renH_gh, mem_gh, injH_gh, injK, injK_gh, lenD, gv_one, gh_one, subL_one, gv_nil, gh_nil, gv_snoc, gh_snoc, ints_nil, ints_app, ints_one, ints_cons, u64s_nil, u64s_app, u64s_one, ints_set, u64s_set, ints_len, u64s_len, List.nil_append, List.length_append, List.length_cons, List.length_nil])) (by first | (simp +contextual [renT, renH, renB, renF, renDf, injH, pie, lk, D.ren, D.renL, D.lt, D.ltL, lt_gv, ren_gv, lk_gh, renH_gh, mem_gh, injH_gh, injK, injK_gh, lenD, gv_one, gh_one, subL_one, gv_nil, gh_nil, gv_snoc, gh_snoc, ints_nil, ints_app, ints_one, ints_cons, u64s_nil, u64s_app, u64s_one, ints_set, u64s_set, ints_len, u64s_len, List.nil_append, List.length_append, List.length_cons, List.length_nil]; done) | (subst hF hVi hVu hVg hVh hVl; (try subst o_chkT); (try subst o_framesS); (try subst o_idxP); simp +contextual [fns, renT, renH, renB, renF, renDf, injH, pie, lk, D.ren, D.renL, D.lt, D.ltL, lt_gv, ren_gv, lk_gh, renH_gh, mem_gh, injH_gh, injK, injK_gh, lenD, gv_one, gh_one, subL_one, gv_nil, gh_nil, gv_snoc, gh_snoc, ints_nil, ints_app, ints_one, ints_cons, u64s_nil, u64s_app, u64s_one, ints_set, u64s_set, ints_len, u64s_len, List.nil_append, List.length_append, List.length_cons, List.length_nil])) (by simp +contextual [renT, renH, renB, renF, renDf, injH, pie, lk, D.ren, D.renL, D.lt, D.ltL, lt_gv, ren_gv, lk_gh, renH_gh, mem_gh, injH_gh, injK, injK_gh, lenD, gv_one, gh_one, subL_one, gv_nil, gh_nil, gv_snoc, gh_snoc, ints_nil, ints_app, ints_one, ints_cons, u64s_nil, u64s_app, u64s_one, ints_set, u64s_set, ints_len, u64s_len, List.nil_append, List.length_append, List.length_cons, List.length_nil]) rfl (by simp [renF, renT, lk, D.ren, D.renL, D.lt, D.ltL]) (by simp [renDf]))⟩ <;> (skip; (try subst o_chkT); (try subst o_framesS); (try subst o_idxP))
      refine ⟨by simp only; omega, by simp only; omega, by simpa using hk3, ?_, ?_⟩
      · simp only
        rw [hnx, List.filter_append, ← hk4, List.filter_cons_of_neg (by simp [hb])]; simp
      · simp only
        have := congrArg (List.drop 1) hk5
        simpa using this
  · have hj9 : j = 9 := by simp at h5; omega
    subst hj9
    rw [List.take_of_length_le (show A.length ≤ 9 by omega)] at hk4
    refine ⟨by subst hF hVi hVu hVg hVh hVl; (try subst o_chkT); (try subst o_framesS); (try subst o_idxP); simp [fns], by subst hF hVi hVu hVg hVh hVl; (try subst o_chkT); (try subst o_framesS); (try subst o_idxP); simp only [fns, Int.ofNat_eq_natCast, Int.toNat_natCast]; omega, fun h => ?_, fun h1 h2 => ?_, fun h1 h2 => ?_⟩
    · ((try rewrite [← hVi]); (try rewrite [← hVu]); (try rewrite [← hVg]); (try rewrite [← hVh]); (try rewrite [← o_chkT]); (try rewrite [← o_framesS]); (try rewrite [← o_idxP]); conv => cbv)
      have hi0 : i = 0 := by subst hF hVi hVu hVg hVh hVl; (try subst o_chkT); (try subst o_framesS); (try subst o_idxP); simpa [fns] using h
      subst hF hVi hVu hVg hVh hVl; (try subst o_chkT); (try subst o_framesS); (try subst o_idxP); subst hd
      simp only [fns, Int.ofNat_eq_natCast, Int.toNat_natCast]
      subst hi0
      refine ⟨⟨by simp [hlC, hk3], rfl⟩, by simp, by simp, by simp [inRows, inRowsL, lk], ?_⟩
      rw [← hP, ← hk4]
      simp [reify, reifyL, lk, subL, clrL, ints]
    · exfalso
      subst hF hVi hVu hVg hVh hVl; (try subst o_chkT); (try subst o_framesS); (try subst o_idxP)
      simp only [fns, Int.ofNat_eq_natCast, Int.toNat_natCast] at h1 h2
      omega
    · ((try rewrite [← hVi]); (try rewrite [← hVu]); (try rewrite [← hVg]); (try rewrite [← hVh]); (try rewrite [← o_chkT]); (try rewrite [← o_framesS]); (try rewrite [← o_idxP]); conv => cbv)
      subst hF hVi hVu hVg hVh hVl; (try subst o_chkT); (try subst o_framesS); (try subst o_idxP); subst hd
      simp only [fns, Int.ofNat_eq_natCast, Int.toNat_natCast] at h1 h2 ⊢
      have hcl : (clrL (ints C) i (9 - i) (.int .i64 0)).length = 9 := by simp [clrL, hlC, hk3]; omega
      have hct : (clrL (ints C) i (9 - i) (.int .i64 0)).take i = ints (C.take i) := by
        rw [clrL, List.append_assoc, List.take_left' (by simp [hlC, hk3]; omega), ints_take]
      simp only [Nat.zero_add, Nat.mul_one]
      refine ⟨⟨by simp [hlC, hk3]; omega, rfl⟩, by simp, by omega, by simp [inRows, inRowsL, lk, hcl]; omega, ?_⟩
      rw [← hP, ← hk4]
      simp [reify, reifyL, lk]
      rw [subL_take _ _ (by rw [hcl]; omega), hct]
end Go.Proofs.YtppmomobjjpljaaDoor.E
end

/- Part C8. -/
section
/- Contracts: new tables (program). -/
namespace Go.Proofs.YtppmomobjjpljaaDoor.E
open Go Go.RowKit
set_option linter.unusedVariables false
set_option linter.unusedSimpArgs false
set_option maxRecDepth 100000
theorem mul64_c : Contract Tryd.prog G0 78 [.int .u64 1, .int .u64 8] (.tup [.int .u64 0, .int .u64 8]) [] := by
  refine fun0 tys_ok mixed (n := 51) (rs := [.tmp 4, .tmp 5]) ⟨Tryd.func78, by kernel_rfl, rfl⟩ rfl rfl (by simp) fun F d0 hF hd => ?_
  obtain ⟨ints, u64s, gv, gh, lenF, hVi, hVu, hVg, hVh, hVl, lenD, ints_len, u64s_len, ints_cells, u64s_cells, ints_at, u64s_at, gv_nil, gh_nil, gv_ne, gh_ne, gv_snoc, gh_snoc, gv_one, gh_one, lt_gv, ren_gv, lk_gh, renH_gh, mem_gh, injK_gh, injH_gh, ints_nil, ints_app, ints_one, ints_cons, ints_ne, u64s_nil, u64s_app, u64s_one, u64s_ne, ints_set, u64s_set⟩ := vocab
  ((try rewrite [← hVi]); (try rewrite [← hVu]); (try rewrite [← hVg]); (try rewrite [← hVh]); conv => cbv)
  subst hF hVi hVu hVg hVh hVl; subst hd
  simp only [fns]
  refine ⟨by decide, by decide, by decide, by decide, by decide, by simp [inRows, inRowsL, lk], ?_⟩
  simp only [reify, reifyL]
  have h1 : ∀ a b : Int, a = 0 → b = 8 → some (D.tup [.int .u64 a, .int .u64 b]) = some (D.tup [.int .u64 0, .int .u64 8]) := fun a b h1 h2 => by rw [h1, h2]
  exact h1 _ _ (by decide) (by decide)
theorem mul_c : Contract Tryd.prog G0 64 [.int .u64 1, .int .u64 8] (.tup [.int .u64 0, .int .u64 8]) [] := by
  refine fun0 tys_ok mixed (n := 30) (rs := [.tmp 4, .tmp 5]) ⟨Tryd.func64, by kernel_rfl, rfl⟩ rfl rfl (by simp) fun F d0 hF hd => ?_
  obtain ⟨ints, u64s, gv, gh, lenF, hVi, hVu, hVg, hVh, hVl, lenD, ints_len, u64s_len, ints_cells, u64s_cells, ints_at, u64s_at, gv_nil, gh_nil, gv_ne, gh_ne, gv_snoc, gh_snoc, gv_one, gh_one, lt_gv, ren_gv, lk_gh, renH_gh, mem_gh, injK_gh, injH_gh, ints_nil, ints_app, ints_one, ints_cons, ints_ne, u64s_nil, u64s_app, u64s_one, u64s_ne, ints_set, u64s_set⟩ := vocab
  ((try rewrite [← hVi]); (try rewrite [← hVu]); (try rewrite [← hVg]); (try rewrite [← hVh]); conv => cbv)
  refine .inl ⟨_, _, by subst hF hVi hVu hVg hVh hVl; exact mul64_c, by subst hF hVi hVu hVg hVh hVl; exact ⟨by simp [inRowsL, inRows, lk], by first | exact .inl rfl | exact .inr ⟨rfl, fun B h => nomatch h⟩⟩, ?_⟩ <;> ((try rewrite [← hVi]); (try rewrite [← hVu]); (try rewrite [← hVg]); (try rewrite [← hVh]); conv => cbv)
  subst hF hVi hVu hVg hVh hVl; subst hd
  simp only [fns]
  refine ⟨by simp [inRows, inRowsL, lk, lenD], ?_⟩
  simp [reify, reifyL]
theorem repeat_c : Contract Tryd.prog G0 43 [.ro [.int .i64 (-1)], .int .i64 8] (.sl 0 1 0 8) [⟨1, 3, ints (List.replicate 8 (-1)), true, false⟩] := by
  refine funOwn tys_ok mixed (n := 48) (rs := [.tmp 4]) ⟨Tryd.func43, by kernel_rfl, rfl⟩ [0] rfl rfl (by simp) fun F d0 e0 hF hd he => ?_
  obtain ⟨ints, u64s, gv, gh, lenF, hVi, hVu, hVg, hVh, hVl, lenD, ints_len, u64s_len, ints_cells, u64s_cells, ints_at, u64s_at, gv_nil, gh_nil, gv_ne, gh_ne, gv_snoc, gh_snoc, gv_one, gh_one, lt_gv, ren_gv, lk_gh, renH_gh, mem_gh, injK_gh, injH_gh, ints_nil, ints_app, ints_one, ints_cons, ints_ne, u64s_nil, u64s_app, u64s_one, u64s_ne, ints_set, u64s_set⟩ := vocab
  obtain ⟨R, hR⟩ : ∃ R, R = ints (List.replicate 8 (-1)) := ⟨_, rfl⟩
  rw [← hVi] at he
  rw [← hR] at he
  have e1 : F.cv .u64 (F.nat (F.len [D.int .i64 (-1)])) = 1 := by subst hF hVi hVu hVg hVh hVl; decide
  have e2 : F.cv .u64 8 = 8 := by subst hF hVi hVu hVg hVh hVl; decide
  have e3 : F.cv .i64 8 = 8 := by subst hF hVi hVu hVg hVh hVl; decide
  have e4 : F.ix 0 8 = 8 := by subst hF hVi hVu hVg hVh hVl; rfl
  (conv at e1 => lhs; cbv) <;> (conv at e2 => lhs; cbv) <;> (conv at e3 => lhs; cbv) <;> (conv at e4 => lhs; cbv)
  ((try rewrite [← hVi]); (try rewrite [← hVu]); (try rewrite [← hVg]); (try rewrite [← hVh]); conv => cbv)
  split <;> rename_i h1 <;> (try rw [h1]) <;> (((try rewrite [← hVi]); (try rewrite [← hVu]); (try rewrite [← hVg]); (try rewrite [← hVh]); conv => cbv)) <;> (try simp only [hF, fns, cmI, decide_eq_true_eq, decide_eq_false_iff_not, beq_iff_eq, bne_iff_ne, beq_eq_false_iff_ne, bne_eq_false_iff_eq, ne_eq, Int.not_lt, Int.not_le, Classical.not_not, ge_iff_le, gt_iff_lt, Bool.not_eq_true] at h1)
  · simp at h1
  rw [e1, e2]
  ((try rewrite [← hVi]); (try rewrite [← hVu]); (try rewrite [← hVg]); (try rewrite [← hVh]); conv => cbv)
  refine .inl ⟨_, _, by subst hF hVi hVu hVg hVh hVl; exact mul_c, by subst hF hVi hVu hVg hVh hVl; exact ⟨by simp [inRowsL, inRows, lk], by first | exact .inl rfl | exact .inr ⟨rfl, fun B h => nomatch h⟩⟩, ?_⟩ <;> ((try rewrite [← hVi]); (try rewrite [← hVu]); (try rewrite [← hVg]); (try rewrite [← hVh]); conv => cbv)
  split <;> rename_i h2 <;> (try rw [h2]) <;> (((try rewrite [← hVi]); (try rewrite [← hVu]); (try rewrite [← hVg]); (try rewrite [← hVh]); conv => cbv)) <;> (try simp only [hF, fns, cmI, decide_eq_true_eq, decide_eq_false_iff_not, beq_iff_eq, bne_iff_ne, beq_eq_false_iff_ne, bne_eq_false_iff_eq, ne_eq, Int.not_lt, Int.not_le, Classical.not_not, ge_iff_le, gt_iff_lt, Bool.not_eq_true] at h2)
  · simp at h2
  split <;> rename_i h3 <;> (try rw [h3]) <;> (((try rewrite [← hVi]); (try rewrite [← hVu]); (try rewrite [← hVg]); (try rewrite [← hVh]); conv => cbv)) <;> (try simp only [hF, fns, cmI, decide_eq_true_eq, decide_eq_false_iff_not, beq_iff_eq, bne_iff_ne, beq_eq_false_iff_ne, bne_eq_false_iff_eq, ne_eq, Int.not_lt, Int.not_le, Classical.not_not, ge_iff_le, gt_iff_lt, Bool.not_eq_true] at h3)
  · simp at h3
  rw [e3]
  refine ⟨by subst hF hVi hVu hVg hVh hVl; simp [fns], ?_⟩
  rw [e4]
  ((try rewrite [← hVi]); (try rewrite [← hVu]); (try rewrite [← hVg]); (try rewrite [← hVh]); conv => cbv)
  obtain ⟨Z, hZ⟩ : ∃ Z, Z = List.replicate 8 (0 : Int) := ⟨_, rfl⟩
  have e5 : F.rep 8 (.int .i64 0) = ints Z := by subst hF hVi hVu hVg hVh hVl; rw [hZ]; rfl
  have e6 : F.cpy (ints Z) 0 8 [D.int .i64 (-1)] = ints (List.replicate 1 (-1) ++ List.replicate 7 0) := by subst hF hVi hVu hVg hVh hVl; rw [hZ]; rfl
  have e7 : F.nat (F.mn 8 (F.len [D.int .i64 (-1)])) = 1 := by subst hF hVi hVu hVg hVh hVl; rfl
  obtain ⟨C1, hC1⟩ : ∃ C1, C1 = List.replicate 1 (-1) ++ List.replicate 7 (0 : Int) := ⟨_, rfl⟩
  rw [← hC1] at e6
  (conv at e5 => lhs; cbv) <;> (conv at e6 => lhs; cbv) <;> (conv at e7 => lhs; cbv)
  rw [e5]
  ((try rewrite [← hVi]); (try rewrite [← hVu]); (try rewrite [← hVg]); (try rewrite [← hVh]); conv => cbv)
  refine ⟨by subst hF hVi hVu hVg hVh hVl; simp only [fns]; exact ⟨by rw [hZ]; decide, trivial, by simp [D.cells]⟩, ?_⟩
  rw [e6, e7]
  refine loop_inv hF ((Nat) × (List Int)) (fun st_ => ((st_.1) = 1 ∨ (st_.1) = 2 ∨ (st_.1) = 4 ∨ (st_.1) = 8) ∧ (st_.2) = List.replicate (st_.1) (-1) ++ List.replicate (8 - (st_.1)) 0) (fun st_ => { tm := [(7, .sl 0 1 0 8), (8, .int .i64 (st_.1))], hp := [(0, ⟨1, 3, ints (st_.2), true, false⟩)], nx := 1, nt := 48, fr := [], df := [] }) (fun st_ => 8 - (st_.1)) ⟨(1, C1), by exact ⟨.inl rfl, hC1⟩, wk_of hF (weakR (pie []) (by first | (simp +contextual [renT, renH, renB, renF, renDf, injH, pie, lk, D.ren, D.renL, D.lt, D.ltL, lt_gv, ren_gv, lk_gh, renH_gh, mem_gh, injH_gh, injK, injK_gh, lenD, gv_one, gh_one, subL_one, gv_nil, gh_nil, gv_snoc, gh_snoc, ints_nil, ints_app, ints_one, ints_cons, u64s_nil, u64s_app, u64s_one, ints_set, u64s_set, ints_len, u64s_len, List.nil_append, List.length_append, List.length_cons, List.length_nil]; done) | (subst hF hVi hVu hVg hVh hVl; simp only [fns, arI, cmI]; rw [IntWalk.i64_in _ (by simp; omega)]; simp +contextual [renT, renH, renB, renF, renDf, injH, pie, lk, D.ren, D.renL, D.lt, D.ltL, lt_gv, ren_gv, lk_gh, renH_gh, mem_gh, injH_gh, injK, injK_gh, lenD, gv_one, gh_one, subL_one, gv_nil, gh_nil, gv_snoc, gh_snoc, ints_nil, ints_app, ints_one, ints_cons, u64s_nil, u64s_app, u64s_one, ints_set, u64s_set, ints_len, u64s_len, List.nil_append, List.length_append, List.length_cons, List.length_nil]; done) | (subst hF hVi hVu hVg hVh hVl; simp +contextual [fns, arI, cmI, renT, renH, renB, renF, renDf, injH, pie, lk, D.ren, D.renL, D.lt, D.ltL, lt_gv, ren_gv, lk_gh, renH_gh, mem_gh, injH_gh, injK, injK_gh, lenD, gv_one, gh_one, subL_one, gv_nil, gh_nil, gv_snoc, gh_snoc, ints_nil, ints_app, ints_one, ints_cons, u64s_nil, u64s_app, u64s_one, ints_set, u64s_set, ints_len, u64s_len, List.nil_append, List.length_append, List.length_cons, List.length_nil])) (by first | (simp +contextual [renT, renH, renB, renF, renDf, injH, pie, lk, D.ren, D.renL, D.lt, D.ltL, lt_gv, ren_gv, lk_gh, renH_gh, mem_gh, injH_gh, injK, injK_gh, lenD, gv_one, gh_one, subL_one, gv_nil, gh_nil, gv_snoc, gh_snoc, ints_nil, ints_app, ints_one, ints_cons, u64s_nil, u64s_app, u64s_one, ints_set, u64s_set, ints_len, u64s_len, List.nil_append, List.length_append, List.length_cons, List.length_nil]; done) | (subst hF hVi hVu hVg hVh hVl; simp +contextual [fns, renT, renH, renB, renF, renDf, injH, pie, lk, D.ren, D.renL, D.lt, D.ltL, lt_gv, ren_gv, lk_gh, renH_gh, mem_gh, injH_gh, injK, injK_gh, lenD, gv_one, gh_one, subL_one, gv_nil, gh_nil, gv_snoc, gh_snoc, ints_nil, ints_app, ints_one, ints_cons, u64s_nil, u64s_app, u64s_one, ints_set, u64s_set, ints_len, u64s_len, List.nil_append, List.length_append, List.length_cons, List.length_nil])) (by simp +contextual [renT, renH, renB, renF, renDf, injH, pie, lk, D.ren, D.renL, D.lt, D.ltL, lt_gv, ren_gv, lk_gh, renH_gh, mem_gh, injH_gh, injK, injK_gh, lenD, gv_one, gh_one, subL_one, gv_nil, gh_nil, gv_snoc, gh_snoc, ints_nil, ints_app, ints_one, ints_cons, u64s_nil, u64s_app, u64s_one, ints_set, u64s_set, ints_len, u64s_len, List.nil_append, List.length_append, List.length_cons, List.length_nil]) rfl (by simp [renF, renT, lk, D.ren, D.renL, D.lt, D.ltL]) (by simp [renDf]))⟩ ?_
  rintro ⟨n, C⟩ hk
  try simp only at hk
  ((try rewrite [← hVi]); (try rewrite [← hVu]); (try rewrite [← hVg]); (try rewrite [← hVh]); conv => cbv)
  obtain ⟨hk1, hk2⟩ := hk
  have hlC : (ints C).length = 8 := by rw [ints_len, hk2]; simp; omega
  split <;> rename_i h5 <;> (try rw [h5]) <;> (((try rewrite [← hVi]); (try rewrite [← hVu]); (try rewrite [← hVg]); (try rewrite [← hVh]); conv => cbv)) <;> (try simp only [hF, fns, cmI, decide_eq_true_eq, decide_eq_false_iff_not, beq_iff_eq, bne_iff_ne, beq_eq_false_iff_ne, bne_eq_false_iff_eq, ne_eq, Int.not_lt, Int.not_le, Classical.not_not, ge_iff_le, gt_iff_lt, Bool.not_eq_true] at h5)
  · have hlt : n < 8 := by simp at h5; omega
    have hn3 : n = 1 ∨ n = 2 ∨ n = 4 := by omega
    obtain ⟨n2, hn2⟩ : ∃ n2, n2 = 2 * n := ⟨_, rfl⟩
    obtain ⟨C2, hC2⟩ : ∃ C2, C2 = List.replicate n2 (-1) ++ List.replicate (8 - n2) (0 : Int) := ⟨_, rfl⟩
    have e8 : F.cpy (ints C) (F.am 0 1 (F.ix 0 (Int.ofNat n))) (F.sb 8 (F.ix 0 (Int.ofNat n))) (F.sub (ints C) 0 (F.ix 0 (Int.ofNat n))) = ints C2 := by
      subst hF hVi hVu hVg hVh hVl
      rw [hC2, hn2, hk2]
      clear hk2 hC2 hn2 h5 hlt hlC hk1
      rcases hn3 with rfl | rfl | rfl <;> rfl
    have e9 : F.ar .add .i64 (Int.ofNat n) (F.nat (F.mn (F.sb 8 (F.ix 0 (Int.ofNat n))) (F.len (F.sub (ints C) 0 (F.ix 0 (Int.ofNat n)))))) = (n2 : Int) := by
      subst hF hVi hVu hVg hVh hVl
      rw [hn2, hk2]
      clear hk2 hC2 hn2 h5 hlt hlC hk1 e8
      rcases hn3 with rfl | rfl | rfl <;> rfl
    (conv at e8 => lhs; cbv) <;> (conv at e9 => lhs; cbv)
    have fin : (n2 = 1 ∨ n2 = 2 ∨ n2 = 4 ∨ n2 = 8) ∧ C2 = List.replicate n2 (-1) ++ List.replicate (8 - n2) 0 := ⟨by omega, hC2⟩
    have s1 : F.pr fun _ => 0 ≤ Int.ofNat n := by subst hF hVi hVu hVg hVh hVl; simp [fns]
    have s2 : F.pr fun _ => F.ix 0 (Int.ofNat n) ≤ 8 ∧ 8 ≤ 8 := by subst hF hVi hVu hVg hVh hVl; simp [fns]; omega
    have s3 : F.pr fun _ => F.ix 0 (Int.ofNat n) ≤ 8 := by subst hF hVi hVu hVg hVh hVl; simp [fns]; omega
    have n1 : F.ix 0 (Int.ofNat n) = 0 → False := by subst hF hVi hVu hVg hVh hVl; simp [fns]; omega
    have n3 : F.ix 0 (Int.ofNat n) = 8 → False := by subst hF hVi hVu hVg hVh hVl; simp [fns]; omega
    refine ⟨s1, s2, fun h => (n1 h).elim, fun _ h => (n3 h).elim, fun _ _ => ?_⟩
    ((try rewrite [← hVi]); (try rewrite [← hVu]); (try rewrite [← hVg]); (try rewrite [← hVh]); conv => cbv)
    refine ⟨s1, s3, ?_⟩
    ((try rewrite [← hVi]); (try rewrite [← hVu]); (try rewrite [← hVg]); (try rewrite [← hVh]); conv => cbv)
    refine ⟨by subst hF hVi hVu hVg hVh hVl; simp only [fns, Int.ofNat_eq_natCast, Int.toNat_natCast]; exact ⟨by rw [hlC]; omega, by simp [inRow, lk, hlC]; omega, fun d hd => ints_cells C d (by rw [subL] at hd; split at hd; exact hd; exact List.mem_of_mem_drop (List.mem_of_mem_take hd))⟩, ?_⟩
    rw [e8, e9]
    refine ⟨(n2, C2), ?_, by first | omega | (simp; omega) | (simp only; omega), wk_of hF (weakR (pie []) (by first | (simp +contextual [renT, renH, renB, renF, renDf, injH, pie, lk, D.ren, D.renL, D.lt, D.ltL, lt_gv, ren_gv, lk_gh, renH_gh, mem_gh, injH_gh, injK, injK_gh, lenD, gv_one, gh_one, subL_one, gv_nil, gh_nil, gv_snoc, gh_snoc, ints_nil, ints_app, ints_one, ints_cons, u64s_nil, u64s_app, u64s_one, ints_set, u64s_set, ints_len, u64s_len, List.nil_append, List.length_append, List.length_cons, List.length_nil]; done) | (subst hF hVi hVu hVg hVh hVl; simp only [fns, arI, cmI]; rw [IntWalk.i64_in _ (by simp; omega)]; simp +contextual [renT, renH, renB, renF, renDf, injH, pie, lk, D.ren, D.renL, D.lt, D.ltL, lt_gv, ren_gv, lk_gh, renH_gh, mem_gh, injH_gh, injK, injK_gh, lenD, gv_one, gh_one, subL_one, gv_nil, gh_nil, gv_snoc, gh_snoc, ints_nil, ints_app, ints_one, ints_cons, u64s_nil, u64s_app, u64s_one, ints_set, u64s_set, ints_len, u64s_len, List.nil_append, List.length_append, List.length_cons, List.length_nil]; done) | (subst hF hVi hVu hVg hVh hVl; simp +contextual [fns, arI, cmI, renT, renH, renB, renF, renDf, injH, pie, lk, D.ren, D.renL, D.lt, D.ltL, lt_gv, ren_gv, lk_gh, renH_gh, mem_gh, injH_gh, injK, injK_gh, lenD, gv_one, gh_one, subL_one, gv_nil, gh_nil, gv_snoc, gh_snoc, ints_nil, ints_app, ints_one, ints_cons, u64s_nil, u64s_app, u64s_one, ints_set, u64s_set, ints_len, u64s_len, List.nil_append, List.length_append, List.length_cons, List.length_nil])) (by first | (simp +contextual [renT, renH, renB, renF, renDf, injH, pie, lk, D.ren, D.renL, D.lt, D.ltL, lt_gv, ren_gv, lk_gh, renH_gh, mem_gh, injH_gh, injK, injK_gh, lenD, gv_one, gh_one, subL_one, gv_nil, gh_nil, gv_snoc, gh_snoc, ints_nil, ints_app, ints_one, ints_cons, u64s_nil, u64s_app, u64s_one, ints_set, u64s_set, ints_len, u64s_len, List.nil_append, List.length_append, List.length_cons, List.length_nil]; done) | (subst hF hVi hVu hVg hVh hVl; simp +contextual [fns, renT, renH, renB, renF, renDf, injH, pie, lk, D.ren, D.renL, D.lt, D.ltL, lt_gv, ren_gv, lk_gh, renH_gh, mem_gh, injH_gh, injK, injK_gh, lenD, gv_one, gh_one, subL_one, gv_nil, gh_nil, gv_snoc, gh_snoc, ints_nil, ints_app, ints_one, ints_cons, u64s_nil, u64s_app, u64s_one, ints_set, u64s_set, ints_len, u64s_len, List.nil_append, List.length_append, List.length_cons, List.length_nil])) (by simp +contextual [renT, renH, renB, renF, renDf, injH, pie, lk, D.ren, D.renL, D.lt, D.ltL, lt_gv, ren_gv, lk_gh, renH_gh, mem_gh, injH_gh, injK, injK_gh, lenD, gv_one, gh_one, subL_one, gv_nil, gh_nil, gv_snoc, gh_snoc, ints_nil, ints_app, ints_one, ints_cons, u64s_nil, u64s_app, u64s_one, ints_set, u64s_set, ints_len, u64s_len, List.nil_append, List.length_append, List.length_cons, List.length_nil]) rfl (by simp [renF, renT, lk, D.ren, D.renL, D.lt, D.ltL]) (by simp [renDf]))⟩
    exact fin
  · have hn8 : n = 8 := by simp at h5; omega
    subst hn8
    subst hF hVi hVu hVg hVh hVl; subst hd; subst he
    simp only [fns]
    have hCR : ints C = R := by rw [hk2, hR]; rfl
    refine ⟨by simp [D.ren], by simp [D.lt], by decide, rfl, fun k B hB => ?_⟩
    match k, hB with
    | 0, hB => simp at hB; subst hB; simp [lk, hCR]
    | k + 1, hB => simp at hB
theorem pnew_c (root : Int) : Contract Tryd.prog G0 12 [.int .i64 root] (newS root).d [] := by
  refine fun0 tys_ok mixed (n := 16) (rs := [.cell 2 25, .tmp 3]) ⟨Tryd.func12, by kernel_rfl, rfl⟩ rfl rfl (by simp) fun F d0 hF hd => ?_
  obtain ⟨ints, u64s, gv, gh, lenF, hVi, hVu, hVg, hVh, hVl, lenD, ints_len, u64s_len, ints_cells, u64s_cells, ints_at, u64s_at, gv_nil, gh_nil, gv_ne, gh_ne, gv_snoc, gh_snoc, gv_one, gh_one, lt_gv, ren_gv, lk_gh, renH_gh, mem_gh, injK_gh, injH_gh, ints_nil, ints_app, ints_one, ints_cons, ints_ne, u64s_nil, u64s_app, u64s_one, u64s_ne, ints_set, u64s_set⟩ := vocab
  obtain ⟨f_newS, o_newS⟩ : ∃ f, f = newS := ⟨_, rfl⟩
  generalize hP : newS root = X at hd
  rw [newS] at hP
  obtain ⟨R, hR⟩ : ∃ R, R = List.replicate 64 (0 : Int) := ⟨_, rfl⟩
  have hRl : R.length = 64 := by rw [hR]; rfl
  obtain ⟨Q, hQ⟩ : ∃ Q, Q = List.replicate 8 (-1 : Int) := ⟨_, rfl⟩
  have hQl : Q.length = 8 := by rw [hQ]; rfl
  have c1 := repeat_c
  rw [← hR, ← hQ] at hP
  rw [← hQ] at c1
  have e1 : F.sub [D.int .i64 (-1)] 0 1 = [D.int .i64 (-1)] := by subst hF hVi hVu hVg hVh hVl; (try subst o_newS); rfl
  (conv at e1 => lhs; cbv)
  ((try rewrite [← hVi]); (try rewrite [← hVu]); (try rewrite [← hVg]); (try rewrite [← hVh]); (try rewrite [← o_newS]); conv => cbv)
  split <;> rename_i h1 <;> (try rw [h1]) <;> (((try rewrite [← hVi]); (try rewrite [← hVu]); (try rewrite [← hVg]); (try rewrite [← hVh]); (try rewrite [← o_newS]); conv => cbv)) <;> (try simp only [hF, fns, cmI, decide_eq_true_eq, decide_eq_false_iff_not, beq_iff_eq, bne_iff_ne, beq_eq_false_iff_ne, bne_eq_false_iff_eq, ne_eq, Int.not_lt, Int.not_le, Classical.not_not, ge_iff_le, gt_iff_lt, Bool.not_eq_true] at h1)
  · subst hF hVi hVu hVg hVh hVl; (try subst o_newS); subst hd
    simp only [fns]
    refine ⟨by simp [inRows, inRowsL, lk, lenD], ?_⟩
    rw [if_pos (.inl h1)] at hP
    rw [teZ_d hP.symm]
    simp [reify, reifyL]
  split <;> rename_i h2 <;> (try rw [h2]) <;> (((try rewrite [← hVi]); (try rewrite [← hVu]); (try rewrite [← hVg]); (try rewrite [← hVh]); (try rewrite [← o_newS]); conv => cbv)) <;> (try simp only [hF, fns, cmI, decide_eq_true_eq, decide_eq_false_iff_not, beq_iff_eq, bne_iff_ne, beq_eq_false_iff_ne, bne_eq_false_iff_eq, ne_eq, Int.not_lt, Int.not_le, Classical.not_not, ge_iff_le, gt_iff_lt, Bool.not_eq_true] at h2)
  · subst hF hVi hVu hVg hVh hVl; (try subst o_newS); subst hd
    simp only [fns]
    refine ⟨by simp [inRows, inRowsL, lk, lenD], ?_⟩
    rw [if_pos (.inr h2)] at hP
    rw [teZ_d hP.symm]
    simp [reify, reifyL]
  rw [if_neg (by omega)] at hP
  rw [e1]
  have hdry : ∀ B : Blk, B ∈ [(⟨1, 3, ints Q, true, false⟩ : Blk)] → ∀ e : D, e ∈ B.els → e.dry = true := fun B hB e he => by
    rw [List.mem_singleton.1 hB] at he
    rw [hVi] at he
    simp only [Go.Proofs.YtppmomobjjpljaaDoor.E.ints, List.mem_map] at he
    obtain ⟨x, _, rfl⟩ := he
    rfl
  refine ⟨_, [_], by subst hF hVi hVu hVg hVh hVl; (try subst o_newS); exact c1, by subst hF hVi hVu hVg hVh hVl; (try subst o_newS); exact ⟨by simp [inRowsL, inRows, lk], .inr ⟨rfl, hdry⟩⟩, ?_⟩
  ((try rewrite [← hVi]); (try rewrite [← hVu]); (try rewrite [← hVg]); (try rewrite [← hVh]); (try rewrite [← o_newS]); conv => cbv)
  refine ⟨by subst hF hVi hVu hVg hVh hVl; (try subst o_newS); exact ⟨rfl, rfl⟩, by subst hF hVi hVu hVg hVh hVl; (try subst o_newS); simp [fns], ?_⟩
  have hR2 : F.rep 64 (.int .u64 0) = u64s R := by subst hF hVi hVu hVg hVh hVl; (try subst o_newS); rw [hR]; rfl
  (conv at hR2 => lhs; cbv)
  rw [hR2]
  subst hF hVi hVu hVg hVh hVl; (try subst o_newS); subst hd
  simp only [fns]
  refine ⟨by simp [inRows, inRowsL, lk, ints_len, u64s_len, hRl, hQl], ?_⟩
  rw [← hP]
  simp [TE.d, tblD, reify, reifyL, lk, subL, ints_len, u64s_len, hRl, hQl]
end Go.Proofs.YtppmomobjjpljaaDoor.E
end

/- Part C9. -/
section
/- Contracts: empty leaves are released, entries are cleared (program). -/
namespace Go.Proofs.YtppmomobjjpljaaDoor.E
open Go Go.RowKit
set_option linter.unusedVariables false
set_option linter.unusedSimpArgs false
set_option maxRecDepth 100000
theorem emptyS_iff {r : Int} {L E : List Int} (h : chkT r L E = 0) (hw : wordsOk E) {q : Nat} (hq : q < 8) : emptyS E q = true ↔ ∀ j, j < 8 → E.getD (q * 8 + j) 0 = 0 := by
  have h64 := (chkT_len h).2
  have key : ∀ j, j < 8 → (kindOf E (q * 8 + j) = 0 ↔ E.getD (q * 8 + j) 0 = 0) := fun j hj => by
    rw [kindOf]
    refine unpackS_zero ?_ (chkT_words h _ (by omega))
    obtain ⟨x, hx⟩ : ∃ x, E[q * 8 + j]? = some x := ⟨_, List.getElem?_eq_getElem (by omega)⟩
    rw [List.getD_eq_getElem?_getD, hx]
    exact (hw x (List.mem_of_getElem? hx)).1
  rw [emptyS, List.all_eq_true]
  constructor
  · intro h1 j hj; exact (key j hj).1 (by simpa using h1 j (by simpa using hj))
  · intro h1 j hj; have hj : j < 8 := by simpa using hj
    simpa using (key j hj).2 (h1 j hj)
theorem ptrim_c (r : Int) (L E : List Int) (hL : L.length < 100) (hE : E.length < 100) (hw : wordsOk E) : Contract Tryd.prog G0 34 [tblD r L E] (trimD (trimS r L E)) [] := by
  refine fun0 tys_ok mixed (n := 56) (rs := [.cell 2 25, .tmp 3, .tmp 4]) ⟨Tryd.func34, by kernel_rfl, rfl⟩ rfl rfl (by simp) fun F d0 hF hd => ?_
  obtain ⟨ints, u64s, gv, gh, lenF, hVi, hVu, hVg, hVh, hVl, lenD, ints_len, u64s_len, ints_cells, u64s_cells, ints_at, u64s_at, gv_nil, gh_nil, gv_ne, gh_ne, gv_snoc, gh_snoc, gv_one, gh_one, lt_gv, ren_gv, lk_gh, renH_gh, mem_gh, injK_gh, injH_gh, ints_nil, ints_app, ints_one, ints_cons, ints_ne, u64s_nil, u64s_app, u64s_one, u64s_ne, ints_set, u64s_set⟩ := vocab
  obtain ⟨f_chkT, o_chkT⟩ : ∃ f, f = chkT := ⟨_, rfl⟩
  obtain ⟨f_emptyS, o_emptyS⟩ : ∃ f, f = emptyS := ⟨_, rfl⟩
  obtain ⟨f_goneUp, o_goneUp⟩ : ∃ f, f = goneUp := ⟨_, rfl⟩
  obtain ⟨f_trimS, o_trimS⟩ : ∃ f, f = trimS := ⟨_, rfl⟩
  generalize hP : trimS r L E = X at hd
  rw [trimS] at hP
  by_cases h0 : chkT r L E = 0
  rotate_left
  · have c1 := opened_bad r L E hL hE hw h0
    rw [if_pos h0] at hP
    generalize chkT r L E = S at *
    have c1 : Contract Tryd.prog G0 58 [tblD r L E] (.tup [.agg [.int .i64 0, .ro [], .ro []], .int .i64 S]) [] := c1
    unfold tblD at *
    ((try rewrite [← hVi]); (try rewrite [← hVu]); (try rewrite [← hVg]); (try rewrite [← hVh]); (try rewrite [← o_chkT]); (try rewrite [← o_emptyS]); (try rewrite [← o_goneUp]); (try rewrite [← o_trimS]); conv => cbv)
    refine .inl ⟨_, _, by subst hF hVi hVu hVg hVh hVl; (try subst o_chkT); (try subst o_emptyS); (try subst o_goneUp); (try subst o_trimS); exact c1, by subst hF hVi hVu hVg hVh hVl; (try subst o_chkT); (try subst o_emptyS); (try subst o_goneUp); (try subst o_trimS); exact ⟨by simp [inRowsL, inRows, lk], by first | exact .inl rfl | exact .inr ⟨rfl, fun B h => nomatch h⟩⟩, ?_⟩ <;> ((try rewrite [← hVi]); (try rewrite [← hVu]); (try rewrite [← hVg]); (try rewrite [← hVh]); (try rewrite [← o_chkT]); (try rewrite [← o_emptyS]); (try rewrite [← o_goneUp]); (try rewrite [← o_trimS]); conv => cbv)
    split <;> rename_i h <;> (try rw [h]) <;> (((try rewrite [← hVi]); (try rewrite [← hVu]); (try rewrite [← hVg]); (try rewrite [← hVh]); (try rewrite [← o_chkT]); (try rewrite [← o_emptyS]); (try rewrite [← o_goneUp]); (try rewrite [← o_trimS]); conv => cbv)) <;> (try simp only [hF, fns, cmI, decide_eq_true_eq, decide_eq_false_iff_not, beq_iff_eq, bne_iff_ne, beq_eq_false_iff_ne, bne_eq_false_iff_eq, ne_eq, Int.not_lt, Int.not_le, Classical.not_not, ge_iff_le, gt_iff_lt, Bool.not_eq_true] at h)
    · subst hF hVi hVu hVg hVh hVl; (try subst o_chkT); (try subst o_emptyS); (try subst o_goneUp); (try subst o_trimS); subst hd
      simp only [fns]
      refine ⟨by simp [inRows, inRowsL, lk, lenD], ?_⟩
      rw [← hP]
      simp [reify, reifyL, trimD, teZ, tblD, ints, u64s]
    · exact absurd h h0
  rw [if_neg (by simpa using h0)] at hP
  have c1 := opened_ok r L E hL hE hw h0
  obtain ⟨g4, g5⟩ := chkT_len h0
  have ho := chkT_iff.1 h0
  unfold tblD tblOwn tblExt at *
  rw [g4, g5] at c1
  ((try rewrite [← hVi]); (try rewrite [← hVu]); (try rewrite [← hVg]); (try rewrite [← hVh]); (try rewrite [← o_chkT]); (try rewrite [← o_emptyS]); (try rewrite [← o_goneUp]); (try rewrite [← o_trimS]); conv => cbv)
  refine .inl ⟨_, _, by subst hF hVi hVu hVg hVh hVl; (try subst o_chkT); (try subst o_emptyS); (try subst o_goneUp); (try subst o_trimS); exact c1, by subst hF hVi hVu hVg hVh hVl; (try subst o_chkT); (try subst o_emptyS); (try subst o_goneUp); (try subst o_trimS); exact ⟨by simp [inRowsL, inRows, lk], by first | exact .inl rfl | exact .inr ⟨rfl, fun B h => nomatch h⟩⟩, ?_⟩ <;> ((try rewrite [← hVi]); (try rewrite [← hVu]); (try rewrite [← hVg]); (try rewrite [← hVh]); (try rewrite [← o_chkT]); (try rewrite [← o_emptyS]); (try rewrite [← o_goneUp]); (try rewrite [← o_trimS]); conv => cbv)
  split <;> rename_i h <;> (try rw [h]) <;> (((try rewrite [← hVi]); (try rewrite [← hVu]); (try rewrite [← hVg]); (try rewrite [← hVh]); (try rewrite [← o_chkT]); (try rewrite [← o_emptyS]); (try rewrite [← o_goneUp]); (try rewrite [← o_trimS]); conv => cbv)) <;> (try simp only [hF, fns, cmI, decide_eq_true_eq, decide_eq_false_iff_not, beq_iff_eq, bne_iff_ne, beq_eq_false_iff_ne, bne_eq_false_iff_eq, ne_eq, Int.not_lt, Int.not_le, Classical.not_not, ge_iff_le, gt_iff_lt, Bool.not_eq_true] at h)
  · exact absurd trivial h
  refine loop_inv hF ((Nat) × (List Int) × (List Int)) (fun st_ => (st_.1) ≤ 8 ∧ (st_.2.1) = mixL (trimA L E) L (st_.1) ∧ (st_.2.2) = goneUp L E (st_.1)) (fun st_ => { tm := [(2, .ptr 1 3 0 0), (5, .ptr 4 3 0 0), (7, gv 5 1 (ints (st_.2.2))), (19, .int .i64 (st_.1))], hp := (4, ⟨3, 25, [.agg [.int .i64 r, .sl 2 1 0 8, .sl 3 1 0 64]], false, true⟩) :: (2, ⟨1, 3, ints (st_.2.1), true, false⟩) :: (3, ⟨1, 66, u64s E, true, false⟩) :: (1, ⟨3, 25, [.agg [.int .i64 0, .nil, .nil]], true, true⟩) :: gh 5 1 3 (ints (st_.2.2)) [], nx := 6, nt := 56, fr := [], df := [] }) (fun st_ => 8 - (st_.1)) ⟨(0, L, []), by exact ⟨by simp, by simp [mix_zero], rfl⟩, wk_of hF (weakR (pie []) (by first | (simp +contextual [renT, renH, renB, renF, renDf, injH, pie, lk, D.ren, D.renL, D.lt, D.ltL, lt_gv, ren_gv, lk_gh, renH_gh, mem_gh, injH_gh, injK, injK_gh, lenD, gv_one, gh_one, subL_one, gv_nil, gh_nil, gv_snoc, gh_snoc, ints_nil, ints_app, ints_one, ints_cons, u64s_nil, u64s_app, u64s_one, ints_set, u64s_set, ints_len, u64s_len, List.nil_append, List.length_append, List.length_cons, List.length_nil]; done) | (subst hF hVi hVu hVg hVh hVl; (try subst o_chkT); (try subst o_emptyS); (try subst o_goneUp); (try subst o_trimS); simp only [fns, arI, cmI]; rw [IntWalk.i64_in _ (by simp; omega)]; simp +contextual [renT, renH, renB, renF, renDf, injH, pie, lk, D.ren, D.renL, D.lt, D.ltL, lt_gv, ren_gv, lk_gh, renH_gh, mem_gh, injH_gh, injK, injK_gh, lenD, gv_one, gh_one, subL_one, gv_nil, gh_nil, gv_snoc, gh_snoc, ints_nil, ints_app, ints_one, ints_cons, u64s_nil, u64s_app, u64s_one, ints_set, u64s_set, ints_len, u64s_len, List.nil_append, List.length_append, List.length_cons, List.length_nil]; done) | (subst hF hVi hVu hVg hVh hVl; (try subst o_chkT); (try subst o_emptyS); (try subst o_goneUp); (try subst o_trimS); simp +contextual [fns, arI, cmI, renT, renH, renB, renF, renDf, injH, pie, lk, D.ren, D.renL, D.lt, D.ltL, lt_gv, ren_gv, lk_gh, renH_gh, mem_gh, injH_gh, injK, injK_gh, lenD, gv_one, gh_one, subL_one, gv_nil, gh_nil, gv_snoc, gh_snoc, ints_nil, ints_app, ints_one, ints_cons, u64s_nil, u64s_app, u64s_one, ints_set, u64s_set, ints_len, u64s_len, List.nil_append, List.length_append, List.length_cons, List.length_nil])) (by first | (simp +contextual [renT, renH, renB, renF, renDf, injH, pie, lk, D.ren, D.renL, D.lt, D.ltL, lt_gv, ren_gv, lk_gh, renH_gh, mem_gh, injH_gh, injK, injK_gh, lenD, gv_one, gh_one, subL_one, gv_nil, gh_nil, gv_snoc, gh_snoc, ints_nil, ints_app, ints_one, ints_cons, u64s_nil, u64s_app, u64s_one, ints_set, u64s_set, ints_len, u64s_len, List.nil_append, List.length_append, List.length_cons, List.length_nil]; done) | (subst hF hVi hVu hVg hVh hVl; (try subst o_chkT); (try subst o_emptyS); (try subst o_goneUp); (try subst o_trimS); simp +contextual [fns, renT, renH, renB, renF, renDf, injH, pie, lk, D.ren, D.renL, D.lt, D.ltL, lt_gv, ren_gv, lk_gh, renH_gh, mem_gh, injH_gh, injK, injK_gh, lenD, gv_one, gh_one, subL_one, gv_nil, gh_nil, gv_snoc, gh_snoc, ints_nil, ints_app, ints_one, ints_cons, u64s_nil, u64s_app, u64s_one, ints_set, u64s_set, ints_len, u64s_len, List.nil_append, List.length_append, List.length_cons, List.length_nil])) (by simp +contextual [renT, renH, renB, renF, renDf, injH, pie, lk, D.ren, D.renL, D.lt, D.ltL, lt_gv, ren_gv, lk_gh, renH_gh, mem_gh, injH_gh, injK, injK_gh, lenD, gv_one, gh_one, subL_one, gv_nil, gh_nil, gv_snoc, gh_snoc, ints_nil, ints_app, ints_one, ints_cons, u64s_nil, u64s_app, u64s_one, ints_set, u64s_set, ints_len, u64s_len, List.nil_append, List.length_append, List.length_cons, List.length_nil]) rfl (by simp [renF, renT, lk, D.ren, D.renL, D.lt, D.ltL]) (by simp [renDf]))⟩ ?_
  rintro ⟨k, cur, acc⟩ hk
  try simp only at hk
  ((try rewrite [← hVi]); (try rewrite [← hVu]); (try rewrite [← hVg]); (try rewrite [← hVh]); (try rewrite [← o_chkT]); (try rewrite [← o_emptyS]); (try rewrite [← o_goneUp]); (try rewrite [← o_trimS]); conv => cbv)
  obtain ⟨hk1, hk2, hk3⟩ := hk
  have hcl : cur.length = 8 := by rw [hk2, mix_length (by rw [trimA_len, g4]), g4]
  have hal : acc.length ≤ 8 := by rw [hk3]; exact Nat.le_trans (goneUp_len L E k) hk1
  have hlC := ints_len cur
  split <;> rename_i h5 <;> (try rw [h5]) <;> (((try rewrite [← hVi]); (try rewrite [← hVu]); (try rewrite [← hVg]); (try rewrite [← hVh]); (try rewrite [← o_chkT]); (try rewrite [← o_emptyS]); (try rewrite [← o_goneUp]); (try rewrite [← o_trimS]); conv => cbv)) <;> (try simp only [hF, fns, cmI, decide_eq_true_eq, decide_eq_false_iff_not, beq_iff_eq, bne_iff_ne, beq_eq_false_iff_ne, bne_eq_false_iff_eq, ne_eq, Int.not_lt, Int.not_le, Classical.not_not, ge_iff_le, gt_iff_lt, Bool.not_eq_true] at h5)
  · have hlt : k < 8 := by simp at h5; omega
    obtain ⟨x, hx⟩ : ∃ x, L[k]? = some x := ⟨_, List.getElem?_eq_getElem (by omega)⟩
    have hxr := ho.rng x (List.mem_of_getElem? hx)
    have hxd : L.getD k 0 = x := by rw [List.getD_eq_getElem?_getD, hx]; rfl
    have hcx : cur[k]? = some x := by rw [hk2, mix_at (Nat.le_refl k) (by rw [trimA_len]; omega), hx]
    have ht := trimA_at (L := L) (E := E) hlt
    have hg := goneUp_succ L E k
    rw [hxd] at ht hg
    have hem := emptyS_iff h0 hw hlt
    generalize emptyS E k = b at ht hg hem
    have keep : ¬ (0 ≤ x ∧ b = true) → k + 1 ≤ 8 ∧ cur = mixL (trimA L E) L (k + 1) ∧ acc = goneUp L E (k + 1) := fun h => by
      rw [if_neg h] at ht hg
      exact ⟨by omega, by rw [mix_keep ht hx, hk2], by rw [hg, hk3]; simp⟩
    have upd : (0 ≤ x ∧ b = true) → k + 1 ≤ 8 ∧ cur.set k (-1) = mixL (trimA L E) L (k + 1) ∧ acc ++ [x] = goneUp L E (k + 1) := fun h => by
      rw [if_pos h] at ht hg
      exact ⟨by omega, by rw [hk2, mix_set ht hx], by rw [hg, hk3]⟩
    refine ⟨by subst hF hVi hVu hVg hVh hVl; (try subst o_chkT); (try subst o_emptyS); (try subst o_goneUp); (try subst o_trimS); simp [fns]; omega, .int .i64 x, by subst hF hVi hVu hVg hVh hVl; (try subst o_chkT); (try subst o_emptyS); (try subst o_goneUp); (try subst o_trimS); simpa [fns] using ints_at _ _ _ hcx, ?_⟩
    ((try rewrite [← hVi]); (try rewrite [← hVu]); (try rewrite [← hVg]); (try rewrite [← hVh]); (try rewrite [← o_chkT]); (try rewrite [← o_emptyS]); (try rewrite [← o_goneUp]); (try rewrite [← o_trimS]); conv => cbv)
    split <;> rename_i h6 <;> (try rw [h6]) <;> (((try rewrite [← hVi]); (try rewrite [← hVu]); (try rewrite [← hVg]); (try rewrite [← hVh]); (try rewrite [← o_chkT]); (try rewrite [← o_emptyS]); (try rewrite [← o_goneUp]); (try rewrite [← o_trimS]); conv => cbv)) <;> (try simp only [hF, fns, cmI, decide_eq_true_eq, decide_eq_false_iff_not, beq_iff_eq, bne_iff_ne, beq_eq_false_iff_ne, bne_eq_false_iff_eq, ne_eq, Int.not_lt, Int.not_le, Classical.not_not, ge_iff_le, gt_iff_lt, Bool.not_eq_true] at h6)
    · refine ⟨(k + 1, cur, acc), ?_, by first | omega | (simp; omega) | (simp only; omega), wk_of hF (weakR (pie []) (by first | (simp +contextual [renT, renH, renB, renF, renDf, injH, pie, lk, D.ren, D.renL, D.lt, D.ltL, lt_gv, ren_gv, lk_gh, renH_gh, mem_gh, injH_gh, injK, injK_gh, lenD, gv_one, gh_one, subL_one, gv_nil, gh_nil, gv_snoc, gh_snoc, ints_nil, ints_app, ints_one, ints_cons, u64s_nil, u64s_app, u64s_one, ints_set, u64s_set, ints_len, u64s_len, List.nil_append, List.length_append, List.length_cons, List.length_nil]; done) | (subst hF hVi hVu hVg hVh hVl; (try subst o_chkT); (try subst o_emptyS); (try subst o_goneUp); (try subst o_trimS); simp only [fns, arI, cmI]; rw [IntWalk.i64_in _ (by simp; omega)]; simp +contextual [renT, renH, renB, renF, renDf, injH, pie, lk, D.ren, D.renL, D.lt, D.ltL, lt_gv, ren_gv, lk_gh, renH_gh, mem_gh, injH_gh, injK, injK_gh, lenD, gv_one, gh_one, subL_one, gv_nil, gh_nil, gv_snoc, gh_snoc, ints_nil, ints_app, ints_one, ints_cons, u64s_nil, u64s_app, u64s_one, ints_set, u64s_set, ints_len, u64s_len, List.nil_append, List.length_append, List.length_cons, List.length_nil]; done) | (subst hF hVi hVu hVg hVh hVl; (try subst o_chkT); (try subst o_emptyS); (try subst o_goneUp); (try subst o_trimS); simp +contextual [fns, arI, cmI, renT, renH, renB, renF, renDf, injH, pie, lk, D.ren, D.renL, D.lt, D.ltL, lt_gv, ren_gv, lk_gh, renH_gh, mem_gh, injH_gh, injK, injK_gh, lenD, gv_one, gh_one, subL_one, gv_nil, gh_nil, gv_snoc, gh_snoc, ints_nil, ints_app, ints_one, ints_cons, u64s_nil, u64s_app, u64s_one, ints_set, u64s_set, ints_len, u64s_len, List.nil_append, List.length_append, List.length_cons, List.length_nil])) (by first | (simp +contextual [renT, renH, renB, renF, renDf, injH, pie, lk, D.ren, D.renL, D.lt, D.ltL, lt_gv, ren_gv, lk_gh, renH_gh, mem_gh, injH_gh, injK, injK_gh, lenD, gv_one, gh_one, subL_one, gv_nil, gh_nil, gv_snoc, gh_snoc, ints_nil, ints_app, ints_one, ints_cons, u64s_nil, u64s_app, u64s_one, ints_set, u64s_set, ints_len, u64s_len, List.nil_append, List.length_append, List.length_cons, List.length_nil]; done) | (subst hF hVi hVu hVg hVh hVl; (try subst o_chkT); (try subst o_emptyS); (try subst o_goneUp); (try subst o_trimS); simp +contextual [fns, renT, renH, renB, renF, renDf, injH, pie, lk, D.ren, D.renL, D.lt, D.ltL, lt_gv, ren_gv, lk_gh, renH_gh, mem_gh, injH_gh, injK, injK_gh, lenD, gv_one, gh_one, subL_one, gv_nil, gh_nil, gv_snoc, gh_snoc, ints_nil, ints_app, ints_one, ints_cons, u64s_nil, u64s_app, u64s_one, ints_set, u64s_set, ints_len, u64s_len, List.nil_append, List.length_append, List.length_cons, List.length_nil])) (by simp +contextual [renT, renH, renB, renF, renDf, injH, pie, lk, D.ren, D.renL, D.lt, D.ltL, lt_gv, ren_gv, lk_gh, renH_gh, mem_gh, injH_gh, injK, injK_gh, lenD, gv_one, gh_one, subL_one, gv_nil, gh_nil, gv_snoc, gh_snoc, ints_nil, ints_app, ints_one, ints_cons, u64s_nil, u64s_app, u64s_one, ints_set, u64s_set, ints_len, u64s_len, List.nil_append, List.length_append, List.length_cons, List.length_nil]) rfl (by simp [renF, renT, lk, D.ren, D.renL, D.lt, D.ltL]) (by simp [renDf]))⟩ <;> (skip; (try subst o_chkT); (try subst o_emptyS); (try subst o_goneUp); (try subst o_trimS))
      exact keep (by omega)
    refine loop_inv hF ((Nat)) (fun st_ => st_ ≤ 8 ∧ ∀ j, j < st_ → E.getD (k * 8 + j) 0 = 0) (fun st_ => { tm := [(2, .ptr 1 3 0 0), (5, .ptr 4 3 0 0), (7, gv 5 1 (ints acc)), (8, .int .i64 k), (19, .int .i64 k), (28, .int .i64 st_)], hp := (4, ⟨3, 25, [.agg [.int .i64 r, .sl 2 1 0 8, .sl 3 1 0 64]], false, true⟩) :: (2, ⟨1, 3, ints cur, true, false⟩) :: (3, ⟨1, 66, u64s E, true, false⟩) :: (1, ⟨3, 25, [.agg [.int .i64 0, .nil, .nil]], true, true⟩) :: gh 5 1 3 (ints acc) [], nx := 6, nt := 56, fr := [], df := [] }) (fun st_ => 8 - st_) ⟨0, by exact ⟨by simp, fun j hj => absurd hj (Nat.not_lt_zero j)⟩, wk_of hF (weakR (pie []) (by first | (simp +contextual [renT, renH, renB, renF, renDf, injH, pie, lk, D.ren, D.renL, D.lt, D.ltL, lt_gv, ren_gv, lk_gh, renH_gh, mem_gh, injH_gh, injK, injK_gh, lenD, gv_one, gh_one, subL_one, gv_nil, gh_nil, gv_snoc, gh_snoc, ints_nil, ints_app, ints_one, ints_cons, u64s_nil, u64s_app, u64s_one, ints_set, u64s_set, ints_len, u64s_len, List.nil_append, List.length_append, List.length_cons, List.length_nil]; done) | (subst hF hVi hVu hVg hVh hVl; (try subst o_chkT); (try subst o_emptyS); (try subst o_goneUp); (try subst o_trimS); simp only [fns, arI, cmI]; rw [IntWalk.i64_in _ (by simp; omega)]; simp +contextual [renT, renH, renB, renF, renDf, injH, pie, lk, D.ren, D.renL, D.lt, D.ltL, lt_gv, ren_gv, lk_gh, renH_gh, mem_gh, injH_gh, injK, injK_gh, lenD, gv_one, gh_one, subL_one, gv_nil, gh_nil, gv_snoc, gh_snoc, ints_nil, ints_app, ints_one, ints_cons, u64s_nil, u64s_app, u64s_one, ints_set, u64s_set, ints_len, u64s_len, List.nil_append, List.length_append, List.length_cons, List.length_nil]; done) | (subst hF hVi hVu hVg hVh hVl; (try subst o_chkT); (try subst o_emptyS); (try subst o_goneUp); (try subst o_trimS); simp +contextual [fns, arI, cmI, renT, renH, renB, renF, renDf, injH, pie, lk, D.ren, D.renL, D.lt, D.ltL, lt_gv, ren_gv, lk_gh, renH_gh, mem_gh, injH_gh, injK, injK_gh, lenD, gv_one, gh_one, subL_one, gv_nil, gh_nil, gv_snoc, gh_snoc, ints_nil, ints_app, ints_one, ints_cons, u64s_nil, u64s_app, u64s_one, ints_set, u64s_set, ints_len, u64s_len, List.nil_append, List.length_append, List.length_cons, List.length_nil])) (by first | (simp +contextual [renT, renH, renB, renF, renDf, injH, pie, lk, D.ren, D.renL, D.lt, D.ltL, lt_gv, ren_gv, lk_gh, renH_gh, mem_gh, injH_gh, injK, injK_gh, lenD, gv_one, gh_one, subL_one, gv_nil, gh_nil, gv_snoc, gh_snoc, ints_nil, ints_app, ints_one, ints_cons, u64s_nil, u64s_app, u64s_one, ints_set, u64s_set, ints_len, u64s_len, List.nil_append, List.length_append, List.length_cons, List.length_nil]; done) | (subst hF hVi hVu hVg hVh hVl; (try subst o_chkT); (try subst o_emptyS); (try subst o_goneUp); (try subst o_trimS); simp +contextual [fns, renT, renH, renB, renF, renDf, injH, pie, lk, D.ren, D.renL, D.lt, D.ltL, lt_gv, ren_gv, lk_gh, renH_gh, mem_gh, injH_gh, injK, injK_gh, lenD, gv_one, gh_one, subL_one, gv_nil, gh_nil, gv_snoc, gh_snoc, ints_nil, ints_app, ints_one, ints_cons, u64s_nil, u64s_app, u64s_one, ints_set, u64s_set, ints_len, u64s_len, List.nil_append, List.length_append, List.length_cons, List.length_nil])) (by simp +contextual [renT, renH, renB, renF, renDf, injH, pie, lk, D.ren, D.renL, D.lt, D.ltL, lt_gv, ren_gv, lk_gh, renH_gh, mem_gh, injH_gh, injK, injK_gh, lenD, gv_one, gh_one, subL_one, gv_nil, gh_nil, gv_snoc, gh_snoc, ints_nil, ints_app, ints_one, ints_cons, u64s_nil, u64s_app, u64s_one, ints_set, u64s_set, ints_len, u64s_len, List.nil_append, List.length_append, List.length_cons, List.length_nil]) rfl (by simp [renF, renT, lk, D.ren, D.renL, D.lt, D.ltL]) (by simp [renDf]))⟩ ?_
    rintro q hq
    try simp only at hq
    ((try rewrite [← hVi]); (try rewrite [← hVu]); (try rewrite [← hVg]); (try rewrite [← hVh]); (try rewrite [← o_chkT]); (try rewrite [← o_emptyS]); (try rewrite [← o_goneUp]); (try rewrite [← o_trimS]); conv => cbv)
    split <;> rename_i h7 <;> (try rw [h7]) <;> (((try rewrite [← hVi]); (try rewrite [← hVu]); (try rewrite [← hVg]); (try rewrite [← hVh]); (try rewrite [← o_chkT]); (try rewrite [← o_emptyS]); (try rewrite [← o_goneUp]); (try rewrite [← o_trimS]); conv => cbv)) <;> (try simp only [hF, fns, cmI, decide_eq_true_eq, decide_eq_false_iff_not, beq_iff_eq, bne_iff_ne, beq_eq_false_iff_ne, bne_eq_false_iff_eq, ne_eq, Int.not_lt, Int.not_le, Classical.not_not, ge_iff_le, gt_iff_lt, Bool.not_eq_true] at h7)
    · have hqlt : q < 8 := by simp at h7; omega
      obtain ⟨m, hm⟩ : ∃ m, m = k * 8 + q := ⟨_, rfl⟩
      obtain ⟨y, hy⟩ : ∃ y, E[m]? = some y := ⟨_, List.getElem?_eq_getElem (by omega)⟩
      have hyd : E.getD (k * 8 + q) 0 = y := by rw [← hm, List.getD_eq_getElem?_getD, hy]; rfl
      have e1 : F.ar .add .i64 (F.ar .mul .i64 (Int.ofNat k) 8) (Int.ofNat q) = (m : Int) := by
        subst hF hVi hVu hVg hVh hVl; (try subst o_chkT); (try subst o_emptyS); (try subst o_goneUp); (try subst o_trimS)
        show IntKind.i64.wrap (IntKind.i64.wrap (Int.ofNat k * 8) + Int.ofNat q) = _
        rw [IntWalk.i64_in (Int.ofNat k * 8) (by simp; omega), IntWalk.i64_in _ (by simp; omega), hm]
        simp
      (conv at e1 => lhs; cbv)
      rw [e1]
      refine ⟨by subst hF hVi hVu hVg hVh hVl; (try subst o_chkT); (try subst o_emptyS); (try subst o_goneUp); (try subst o_trimS); simp [fns]; omega, .int .u64 y, by subst hF hVi hVu hVg hVh hVl; (try subst o_chkT); (try subst o_emptyS); (try subst o_goneUp); (try subst o_trimS); simpa [fns] using u64s_at _ _ _ hy, ?_⟩
      ((try rewrite [← hVi]); (try rewrite [← hVu]); (try rewrite [← hVg]); (try rewrite [← hVh]); (try rewrite [← o_chkT]); (try rewrite [← o_emptyS]); (try rewrite [← o_goneUp]); (try rewrite [← o_trimS]); conv => cbv)
      split <;> rename_i h8 <;> (try rw [h8]) <;> (((try rewrite [← hVi]); (try rewrite [← hVu]); (try rewrite [← hVg]); (try rewrite [← hVh]); (try rewrite [← o_chkT]); (try rewrite [← o_emptyS]); (try rewrite [← o_goneUp]); (try rewrite [← o_trimS]); conv => cbv)) <;> (try simp only [hF, fns, cmI, decide_eq_true_eq, decide_eq_false_iff_not, beq_iff_eq, bne_iff_ne, beq_eq_false_iff_ne, bne_eq_false_iff_eq, ne_eq, Int.not_lt, Int.not_le, Classical.not_not, ge_iff_le, gt_iff_lt, Bool.not_eq_true] at h8)
      · refine ⟨(k + 1, cur, acc), ?_, by first | omega | (simp; omega) | (simp only; omega), wk_of hF (weakR (pie []) (by first | (simp +contextual [renT, renH, renB, renF, renDf, injH, pie, lk, D.ren, D.renL, D.lt, D.ltL, lt_gv, ren_gv, lk_gh, renH_gh, mem_gh, injH_gh, injK, injK_gh, lenD, gv_one, gh_one, subL_one, gv_nil, gh_nil, gv_snoc, gh_snoc, ints_nil, ints_app, ints_one, ints_cons, u64s_nil, u64s_app, u64s_one, ints_set, u64s_set, ints_len, u64s_len, List.nil_append, List.length_append, List.length_cons, List.length_nil]; done) | (subst hF hVi hVu hVg hVh hVl; (try subst o_chkT); (try subst o_emptyS); (try subst o_goneUp); (try subst o_trimS); simp only [fns, arI, cmI]; rw [IntWalk.i64_in _ (by simp; omega)]; simp +contextual [renT, renH, renB, renF, renDf, injH, pie, lk, D.ren, D.renL, D.lt, D.ltL, lt_gv, ren_gv, lk_gh, renH_gh, mem_gh, injH_gh, injK, injK_gh, lenD, gv_one, gh_one, subL_one, gv_nil, gh_nil, gv_snoc, gh_snoc, ints_nil, ints_app, ints_one, ints_cons, u64s_nil, u64s_app, u64s_one, ints_set, u64s_set, ints_len, u64s_len, List.nil_append, List.length_append, List.length_cons, List.length_nil]; done) | (subst hF hVi hVu hVg hVh hVl; (try subst o_chkT); (try subst o_emptyS); (try subst o_goneUp); (try subst o_trimS); simp +contextual [fns, arI, cmI, renT, renH, renB, renF, renDf, injH, pie, lk, D.ren, D.renL, D.lt, D.ltL, lt_gv, ren_gv, lk_gh, renH_gh, mem_gh, injH_gh, injK, injK_gh, lenD, gv_one, gh_one, subL_one, gv_nil, gh_nil, gv_snoc, gh_snoc, ints_nil, ints_app, ints_one, ints_cons, u64s_nil, u64s_app, u64s_one, ints_set, u64s_set, ints_len, u64s_len, List.nil_append, List.length_append, List.length_cons, List.length_nil])) (by first | (simp +contextual [renT, renH, renB, renF, renDf, injH, pie, lk, D.ren, D.renL, D.lt, D.ltL, lt_gv, ren_gv, lk_gh, renH_gh, mem_gh, injH_gh, injK, injK_gh, lenD, gv_one, gh_one, subL_one, gv_nil, gh_nil, gv_snoc, gh_snoc, ints_nil, ints_app, ints_one, ints_cons, u64s_nil, u64s_app, u64s_one, ints_set, u64s_set, ints_len, u64s_len, List.nil_append, List.length_append, List.length_cons, List.length_nil]; done) | (subst hF hVi hVu hVg hVh hVl; (try subst o_chkT); (try subst o_emptyS); (try subst o_goneUp); (try subst o_trimS); simp +contextual [fns, renT, renH, renB, renF, renDf, injH, pie, lk, D.ren, D.renL, D.lt, D.ltL, lt_gv, ren_gv, lk_gh, renH_gh, mem_gh, injH_gh, injK, injK_gh, lenD, gv_one, gh_one, subL_one, gv_nil, gh_nil, gv_snoc, gh_snoc, ints_nil, ints_app, ints_one, ints_cons, u64s_nil, u64s_app, u64s_one, ints_set, u64s_set, ints_len, u64s_len, List.nil_append, List.length_append, List.length_cons, List.length_nil])) (by simp +contextual [renT, renH, renB, renF, renDf, injH, pie, lk, D.ren, D.renL, D.lt, D.ltL, lt_gv, ren_gv, lk_gh, renH_gh, mem_gh, injH_gh, injK, injK_gh, lenD, gv_one, gh_one, subL_one, gv_nil, gh_nil, gv_snoc, gh_snoc, ints_nil, ints_app, ints_one, ints_cons, u64s_nil, u64s_app, u64s_one, ints_set, u64s_set, ints_len, u64s_len, List.nil_append, List.length_append, List.length_cons, List.length_nil]) rfl (by simp [renF, renT, lk, D.ren, D.renL, D.lt, D.ltL]) (by simp [renDf]))⟩ <;> (skip; (try subst o_chkT); (try subst o_emptyS); (try subst o_goneUp); (try subst o_trimS))
        refine keep fun h9 => h8 ?_
        rw [← hyd]
        exact hem.1 h9.2 q hqlt
      · refine ⟨(q + 1), ?_, by first | omega | (simp; omega) | (simp only; omega), wk_of hF (weakR (pie []) (by first | (simp +contextual [renT, renH, renB, renF, renDf, injH, pie, lk, D.ren, D.renL, D.lt, D.ltL, lt_gv, ren_gv, lk_gh, renH_gh, mem_gh, injH_gh, injK, injK_gh, lenD, gv_one, gh_one, subL_one, gv_nil, gh_nil, gv_snoc, gh_snoc, ints_nil, ints_app, ints_one, ints_cons, u64s_nil, u64s_app, u64s_one, ints_set, u64s_set, ints_len, u64s_len, List.nil_append, List.length_append, List.length_cons, List.length_nil]; done) | (subst hF hVi hVu hVg hVh hVl; (try subst o_chkT); (try subst o_emptyS); (try subst o_goneUp); (try subst o_trimS); simp only [fns, arI, cmI]; rw [IntWalk.i64_in _ (by simp; omega)]; simp +contextual [renT, renH, renB, renF, renDf, injH, pie, lk, D.ren, D.renL, D.lt, D.ltL, lt_gv, ren_gv, lk_gh, renH_gh, mem_gh, injH_gh, injK, injK_gh, lenD, gv_one, gh_one, subL_one, gv_nil, gh_nil, gv_snoc, gh_snoc, ints_nil, ints_app, ints_one, ints_cons, u64s_nil, u64s_app, u64s_one, ints_set, u64s_set, ints_len, u64s_len, List.nil_append, List.length_append, List.length_cons, List.length_nil]; done) | (subst hF hVi hVu hVg hVh hVl; (try subst o_chkT); (try subst o_emptyS); (try subst o_goneUp); (try subst o_trimS); simp +contextual [fns, arI, cmI, renT, renH, renB, renF, renDf, injH, pie, lk, D.ren, D.renL, D.lt, D.ltL, lt_gv, ren_gv, lk_gh, renH_gh, mem_gh, injH_gh, injK, injK_gh, lenD, gv_one, gh_one, subL_one, gv_nil, gh_nil, gv_snoc, gh_snoc, ints_nil, ints_app, ints_one, ints_cons, u64s_nil, u64s_app, u64s_one, ints_set, u64s_set, ints_len, u64s_len, List.nil_append, List.length_append, List.length_cons, List.length_nil])) (by first | (simp +contextual [renT, renH, renB, renF, renDf, injH, pie, lk, D.ren, D.renL, D.lt, D.ltL, lt_gv, ren_gv, lk_gh, renH_gh, mem_gh, injH_gh, injK, injK_gh, lenD, gv_one, gh_one, subL_one, gv_nil, gh_nil, gv_snoc, gh_snoc, ints_nil, ints_app, ints_one, ints_cons, u64s_nil, u64s_app, u64s_one, ints_set, u64s_set, ints_len, u64s_len, List.nil_append, List.length_append, List.length_cons, List.length_nil]; done) | (subst hF hVi hVu hVg hVh hVl; (try subst o_chkT); (try subst o_emptyS); (try subst o_goneUp); (try subst o_trimS); simp +contextual [fns, renT, renH, renB, renF, renDf, injH, pie, lk, D.ren, D.renL, D.lt, D.ltL, lt_gv, ren_gv, lk_gh, renH_gh, mem_gh, injH_gh, injK, injK_gh, lenD, gv_one, gh_one, subL_one, gv_nil, gh_nil, gv_snoc, gh_snoc, ints_nil, ints_app, ints_one, ints_cons, u64s_nil, u64s_app, u64s_one, ints_set, u64s_set, ints_len, u64s_len, List.nil_append, List.length_append, List.length_cons, List.length_nil])) (by simp +contextual [renT, renH, renB, renF, renDf, injH, pie, lk, D.ren, D.renL, D.lt, D.ltL, lt_gv, ren_gv, lk_gh, renH_gh, mem_gh, injH_gh, injK, injK_gh, lenD, gv_one, gh_one, subL_one, gv_nil, gh_nil, gv_snoc, gh_snoc, ints_nil, ints_app, ints_one, ints_cons, u64s_nil, u64s_app, u64s_one, ints_set, u64s_set, ints_len, u64s_len, List.nil_append, List.length_append, List.length_cons, List.length_nil]) rfl (by simp [renF, renT, lk, D.ren, D.renL, D.lt, D.ltL]) (by simp [renDf]))⟩ <;> (skip; (try subst o_chkT); (try subst o_emptyS); (try subst o_goneUp); (try subst o_trimS))
        refine ⟨by omega, fun j hj => ?_⟩
        rcases Nat.lt_succ_iff_lt_or_eq.1 hj with h9 | h9
        · exact hq.2 j h9
        · rw [h9, hyd]; exact h8
    · have hq8 : q = 8 := by simp at h7; omega
      have hb : b = true := hem.2 fun j hj => hq.2 j (by omega)
      refine ⟨by subst hF hVi hVu hVg hVh hVl; (try subst o_chkT); (try subst o_emptyS); (try subst o_goneUp); (try subst o_trimS); simp [fns]; omega, .int .i64 x, by subst hF hVi hVu hVg hVh hVl; (try subst o_chkT); (try subst o_emptyS); (try subst o_goneUp); (try subst o_trimS); simpa [fns] using ints_at _ _ _ hcx, ?_⟩
      ((try rewrite [← hVi]); (try rewrite [← hVu]); (try rewrite [← hVg]); (try rewrite [← hVh]); (try rewrite [← o_chkT]); (try rewrite [← o_emptyS]); (try rewrite [← o_goneUp]); (try rewrite [← o_trimS]); conv => cbv)
      rcases Classical.em (acc = []) with ha | ha
      · subst ha
        simp only [gv_nil, gh_nil, ints_nil]
        ((try rewrite [← hVi]); (try rewrite [← hVu]); (try rewrite [← hVg]); (try rewrite [← hVh]); (try rewrite [← o_chkT]); (try rewrite [← o_emptyS]); (try rewrite [← o_goneUp]); (try rewrite [← o_trimS]); conv => cbv)
        refine ⟨by subst hF hVi hVu hVg hVh hVl; (try subst o_chkT); (try subst o_emptyS); (try subst o_goneUp); (try subst o_trimS); simp [fns, inRow, lk, D.cells, subL], by subst hF hVi hVu hVg hVh hVl; (try subst o_chkT); (try subst o_emptyS); (try subst o_goneUp); (try subst o_trimS); simp [fns, subL], fun h => (by subst hF hVi hVu hVg hVh hVl; (try subst o_chkT); (try subst o_emptyS); (try subst o_goneUp); (try subst o_trimS); simp [fns, subL] at h), fun _ => ?_⟩ <;> ((try rewrite [← hVi]); (try rewrite [← hVu]); (try rewrite [← hVg]); (try rewrite [← hVh]); (try rewrite [← o_chkT]); (try rewrite [← o_emptyS]); (try rewrite [← o_goneUp]); (try rewrite [← o_trimS]); conv => cbv)
        refine ⟨by subst hF hVi hVu hVg hVh hVl; (try subst o_chkT); (try subst o_emptyS); (try subst o_goneUp); (try subst o_trimS); simp [fns]; omega, by subst hF hVi hVu hVg hVh hVl; (try subst o_chkT); (try subst o_emptyS); (try subst o_goneUp); (try subst o_trimS); simp [fns, ints_len]; omega, ?_⟩
        ((try rewrite [← hVi]); (try rewrite [← hVu]); (try rewrite [← hVg]); (try rewrite [← hVh]); (try rewrite [← o_chkT]); (try rewrite [← o_emptyS]); (try rewrite [← o_goneUp]); (try rewrite [← o_trimS]); conv => cbv)
        refine ⟨(k + 1, cur.set k (-1), [x]), ?_, by first | omega | (simp; omega) | (simp only; omega), wk_of hF (weakR (pie [(5, 7)]) (by first | (simp +contextual [renT, renH, renB, renF, renDf, injH, pie, lk, D.ren, D.renL, D.lt, D.ltL, lt_gv, ren_gv, lk_gh, renH_gh, mem_gh, injH_gh, injK, injK_gh, lenD, gv_one, gh_one, subL_one, gv_nil, gh_nil, gv_snoc, gh_snoc, ints_nil, ints_app, ints_one, ints_cons, u64s_nil, u64s_app, u64s_one, ints_set, u64s_set, ints_len, u64s_len, List.nil_append, List.length_append, List.length_cons, List.length_nil]; done) | (subst hF hVi hVu hVg hVh hVl; (try subst o_chkT); (try subst o_emptyS); (try subst o_goneUp); (try subst o_trimS); simp only [fns, arI, cmI]; rw [IntWalk.i64_in _ (by simp; omega)]; simp +contextual [renT, renH, renB, renF, renDf, injH, pie, lk, D.ren, D.renL, D.lt, D.ltL, lt_gv, ren_gv, lk_gh, renH_gh, mem_gh, injH_gh, injK, injK_gh, lenD, gv_one, gh_one, subL_one, gv_nil, gh_nil, gv_snoc, gh_snoc, ints_nil, ints_app, ints_one, ints_cons, u64s_nil, u64s_app, u64s_one, ints_set, u64s_set, ints_len, u64s_len, List.nil_append, List.length_append, List.length_cons, List.length_nil]; done) | (subst hF hVi hVu hVg hVh hVl; (try subst o_chkT); (try subst o_emptyS); (try subst o_goneUp); (try subst o_trimS); simp +contextual [fns, arI, cmI, renT, renH, renB, renF, renDf, injH, pie, lk, D.ren, D.renL, D.lt, D.ltL, lt_gv, ren_gv, lk_gh, renH_gh, mem_gh, injH_gh, injK, injK_gh, lenD, gv_one, gh_one, subL_one, gv_nil, gh_nil, gv_snoc, gh_snoc, ints_nil, ints_app, ints_one, ints_cons, u64s_nil, u64s_app, u64s_one, ints_set, u64s_set, ints_len, u64s_len, List.nil_append, List.length_append, List.length_cons, List.length_nil])) (by first | (simp +contextual [renT, renH, renB, renF, renDf, injH, pie, lk, D.ren, D.renL, D.lt, D.ltL, lt_gv, ren_gv, lk_gh, renH_gh, mem_gh, injH_gh, injK, injK_gh, lenD, gv_one, gh_one, subL_one, gv_nil, gh_nil, gv_snoc, gh_snoc, ints_nil, ints_app, ints_one, ints_cons, u64s_nil, u64s_app, u64s_one, ints_set, u64s_set, ints_len, u64s_len, List.nil_append, List.length_append, List.length_cons, List.length_nil]; done) | (subst hF hVi hVu hVg hVh hVl; (try subst o_chkT); (try subst o_emptyS); (try subst o_goneUp); (try subst o_trimS); simp +contextual [fns, renT, renH, renB, renF, renDf, injH, pie, lk, D.ren, D.renL, D.lt, D.ltL, lt_gv, ren_gv, lk_gh, renH_gh, mem_gh, injH_gh, injK, injK_gh, lenD, gv_one, gh_one, subL_one, gv_nil, gh_nil, gv_snoc, gh_snoc, ints_nil, ints_app, ints_one, ints_cons, u64s_nil, u64s_app, u64s_one, ints_set, u64s_set, ints_len, u64s_len, List.nil_append, List.length_append, List.length_cons, List.length_nil])) (by simp +contextual [renT, renH, renB, renF, renDf, injH, pie, lk, D.ren, D.renL, D.lt, D.ltL, lt_gv, ren_gv, lk_gh, renH_gh, mem_gh, injH_gh, injK, injK_gh, lenD, gv_one, gh_one, subL_one, gv_nil, gh_nil, gv_snoc, gh_snoc, ints_nil, ints_app, ints_one, ints_cons, u64s_nil, u64s_app, u64s_one, ints_set, u64s_set, ints_len, u64s_len, List.nil_append, List.length_append, List.length_cons, List.length_nil]) rfl (by simp [renF, renT, lk, D.ren, D.renL, D.lt, D.ltL]) (by simp [renDf]))⟩ <;> (skip; (try subst o_chkT); (try subst o_emptyS); (try subst o_goneUp); (try subst o_trimS))
        exact upd ⟨by omega, hb⟩
      · simp only [gv_ne (ints_ne ha), gh_ne (ints_ne ha)]
        ((try rewrite [← hVi]); (try rewrite [← hVu]); (try rewrite [← hVg]); (try rewrite [← hVh]); (try rewrite [← o_chkT]); (try rewrite [← o_emptyS]); (try rewrite [← o_goneUp]); (try rewrite [← o_trimS]); conv => cbv)
        refine ⟨by subst hF hVi hVu hVg hVh hVl; (try subst o_chkT); (try subst o_emptyS); (try subst o_goneUp); (try subst o_trimS); simp [fns, inRow, lk, D.cells, subL], by subst hF hVi hVu hVg hVh hVl; (try subst o_chkT); (try subst o_emptyS); (try subst o_goneUp); (try subst o_trimS); simp [fns, subL, lenD, ints_len, u64s_len]; try omega, ?_⟩ <;> ((try rewrite [← hVi]); (try rewrite [← hVu]); (try rewrite [← hVg]); (try rewrite [← hVh]); (try rewrite [← o_chkT]); (try rewrite [← o_emptyS]); (try rewrite [← o_goneUp]); (try rewrite [← o_trimS]); conv => cbv)
        refine ⟨by subst hF hVi hVu hVg hVh hVl; (try subst o_chkT); (try subst o_emptyS); (try subst o_goneUp); (try subst o_trimS); simp [fns]; omega, by subst hF hVi hVu hVg hVh hVl; (try subst o_chkT); (try subst o_emptyS); (try subst o_goneUp); (try subst o_trimS); simp [fns, ints_len]; omega, ?_⟩
        ((try rewrite [← hVi]); (try rewrite [← hVu]); (try rewrite [← hVg]); (try rewrite [← hVh]); (try rewrite [← o_chkT]); (try rewrite [← o_emptyS]); (try rewrite [← o_goneUp]); (try rewrite [← o_trimS]); conv => cbv)
        refine ⟨(k + 1, cur.set k (-1), acc ++ [x]), ?_, by first | omega | (simp; omega) | (simp only; omega), wk_of hF (weakR (pie []) (by first | (simp +contextual [renT, renH, renB, renF, renDf, injH, pie, lk, D.ren, D.renL, D.lt, D.ltL, lt_gv, ren_gv, lk_gh, renH_gh, mem_gh, injH_gh, injK, injK_gh, lenD, gv_one, gh_one, subL_one, gv_nil, gh_nil, gv_snoc, gh_snoc, ints_nil, ints_app, ints_one, ints_cons, u64s_nil, u64s_app, u64s_one, ints_set, u64s_set, ints_len, u64s_len, List.nil_append, List.length_append, List.length_cons, List.length_nil]; done) | (subst hF hVi hVu hVg hVh hVl; (try subst o_chkT); (try subst o_emptyS); (try subst o_goneUp); (try subst o_trimS); simp only [fns, arI, cmI]; rw [IntWalk.i64_in _ (by simp; omega)]; simp +contextual [renT, renH, renB, renF, renDf, injH, pie, lk, D.ren, D.renL, D.lt, D.ltL, lt_gv, ren_gv, lk_gh, renH_gh, mem_gh, injH_gh, injK, injK_gh, lenD, gv_one, gh_one, subL_one, gv_nil, gh_nil, gv_snoc, gh_snoc, ints_nil, ints_app, ints_one, ints_cons, u64s_nil, u64s_app, u64s_one, ints_set, u64s_set, ints_len, u64s_len, List.nil_append, List.length_append, List.length_cons, List.length_nil]; done) | (subst hF hVi hVu hVg hVh hVl; (try subst o_chkT); (try subst o_emptyS); (try subst o_goneUp); (try subst o_trimS); simp +contextual [fns, arI, cmI, renT, renH, renB, renF, renDf, injH, pie, lk, D.ren, D.renL, D.lt, D.ltL, lt_gv, ren_gv, lk_gh, renH_gh, mem_gh, injH_gh, injK, injK_gh, lenD, gv_one, gh_one, subL_one, gv_nil, gh_nil, gv_snoc, gh_snoc, ints_nil, ints_app, ints_one, ints_cons, u64s_nil, u64s_app, u64s_one, ints_set, u64s_set, ints_len, u64s_len, List.nil_append, List.length_append, List.length_cons, List.length_nil])) (by first | (simp +contextual [renT, renH, renB, renF, renDf, injH, pie, lk, D.ren, D.renL, D.lt, D.ltL, lt_gv, ren_gv, lk_gh, renH_gh, mem_gh, injH_gh, injK, injK_gh, lenD, gv_one, gh_one, subL_one, gv_nil, gh_nil, gv_snoc, gh_snoc, ints_nil, ints_app, ints_one, ints_cons, u64s_nil, u64s_app, u64s_one, ints_set, u64s_set, ints_len, u64s_len, List.nil_append, List.length_append, List.length_cons, List.length_nil]; done) | (subst hF hVi hVu hVg hVh hVl; (try subst o_chkT); (try subst o_emptyS); (try subst o_goneUp); (try subst o_trimS); simp +contextual [fns, renT, renH, renB, renF, renDf, injH, pie, lk, D.ren, D.renL, D.lt, D.ltL, lt_gv, ren_gv, lk_gh, renH_gh, mem_gh, injH_gh, injK, injK_gh, lenD, gv_one, gh_one, subL_one, gv_nil, gh_nil, gv_snoc, gh_snoc, ints_nil, ints_app, ints_one, ints_cons, u64s_nil, u64s_app, u64s_one, ints_set, u64s_set, ints_len, u64s_len, List.nil_append, List.length_append, List.length_cons, List.length_nil])) (by simp +contextual [renT, renH, renB, renF, renDf, injH, pie, lk, D.ren, D.renL, D.lt, D.ltL, lt_gv, ren_gv, lk_gh, renH_gh, mem_gh, injH_gh, injK, injK_gh, lenD, gv_one, gh_one, subL_one, gv_nil, gh_nil, gv_snoc, gh_snoc, ints_nil, ints_app, ints_one, ints_cons, u64s_nil, u64s_app, u64s_one, ints_set, u64s_set, ints_len, u64s_len, List.nil_append, List.length_append, List.length_cons, List.length_nil]) rfl (by simp [renF, renT, lk, D.ren, D.renL, D.lt, D.ltL]) (by simp [renDf]))⟩ <;> (skip; (try subst o_chkT); (try subst o_emptyS); (try subst o_goneUp); (try subst o_trimS))
        exact upd ⟨by omega, hb⟩
  · have hk8 : k = 8 := by simp at h5; omega
    have hcur : cur = trimA L E := by rw [hk2, mix_len (by rw [trimA_len]; omega) (by omega)]
    rw [hk8] at hk3
    rcases Classical.em (acc = []) with ha | ha
    · rw [ha] at hk3 ⊢
      simp only [gv_nil, gh_nil, ints_nil]
      ((try rewrite [← hVi]); (try rewrite [← hVu]); (try rewrite [← hVg]); (try rewrite [← hVh]); (try rewrite [← o_chkT]); (try rewrite [← o_emptyS]); (try rewrite [← o_goneUp]); (try rewrite [← o_trimS]); conv => cbv)
      subst hF hVi hVu hVg hVh hVl; (try subst o_chkT); (try subst o_emptyS); (try subst o_goneUp); (try subst o_trimS); subst hd
      simp only [fns]
      refine ⟨by simp [inRows, inRowsL, lk, lenD, ints_len, u64s_len, hcl, g5], ?_⟩
      rw [← hP, ← hcur, ← hk3]
      simp [trimD, tblD, reify, reifyL, lk, subL, lenD, ints_len, u64s_len, hcl, g5, ints]
    · simp only [gv_ne (ints_ne ha), gh_ne (ints_ne ha)]
      ((try rewrite [← hVi]); (try rewrite [← hVu]); (try rewrite [← hVg]); (try rewrite [← hVh]); (try rewrite [← o_chkT]); (try rewrite [← o_emptyS]); (try rewrite [← o_goneUp]); (try rewrite [← o_trimS]); conv => cbv)
      subst hF hVi hVu hVg hVh hVl; (try subst o_chkT); (try subst o_emptyS); (try subst o_goneUp); (try subst o_trimS); subst hd
      simp only [fns]
      refine ⟨by simp [inRows, inRowsL, lk, lenD, ints_len, u64s_len, hcl, g5], ?_⟩
      rw [← hP, ← hcur, ← hk3]
      simp [trimD, tblD, reify, reifyL, lk, subL, lenD, ints_len, u64s_len, hcl, g5]
end Go.Proofs.YtppmomobjjpljaaDoor.E
end

/- Part C10. -/
section
/- Contracts: entries are cleared (program). -/
namespace Go.Proofs.YtppmomobjjpljaaDoor.E
open Go Go.RowKit
set_option linter.unusedVariables false
set_option linter.unusedSimpArgs false
set_option maxRecDepth 100000
theorem pclear_c (r : Int) (L E : List Int) (p : Int) (hL : L.length < 100) (hE : E.length < 100) (hw : wordsOk E) : Contract Tryd.prog G0 33 [tblD r L E, .int .i64 p] (clearD (clearS r L E p)) [] := by
  refine fun0 tys_ok mixed (n := 36) (rs := [.cell 4 25, .cell 5 3, .tmp 6]) ⟨Tryd.func33, by kernel_rfl, rfl⟩ rfl rfl (by simp) fun F d0 hF hd => ?_
  obtain ⟨ints, u64s, gv, gh, lenF, hVi, hVu, hVg, hVh, hVl, lenD, ints_len, u64s_len, ints_cells, u64s_cells, ints_at, u64s_at, gv_nil, gh_nil, gv_ne, gh_ne, gv_snoc, gh_snoc, gv_one, gh_one, lt_gv, ren_gv, lk_gh, renH_gh, mem_gh, injK_gh, injH_gh, ints_nil, ints_app, ints_one, ints_cons, ints_ne, u64s_nil, u64s_app, u64s_one, u64s_ne, ints_set, u64s_set⟩ := vocab
  obtain ⟨f_chkT, o_chkT⟩ : ∃ f, f = chkT := ⟨_, rfl⟩
  obtain ⟨f_asksS, o_asksS⟩ : ∃ f, f = asksS := ⟨_, rfl⟩
  obtain ⟨f_emptyS, o_emptyS⟩ : ∃ f, f = emptyS := ⟨_, rfl⟩
  obtain ⟨f_clearS, o_clearS⟩ : ∃ f, f = clearS := ⟨_, rfl⟩
  generalize hP : clearS r L E p = X at hd
  rw [clearS] at hP
  by_cases h0 : asksS r L E p = 0
  rotate_left
  · have c1 := about_bad r L E p hL hE hw h0
    rw [if_pos h0] at hP
    generalize asksS r L E p = S at *
    have c1 : Contract Tryd.prog G0 49 [tblD r L E, .int .i64 p] (.tup [.agg [.int .i64 0, .ro [], .ro []], .int .i64 S]) [] := c1
    unfold tblD at *
    ((try rewrite [← hVi]); (try rewrite [← hVu]); (try rewrite [← hVg]); (try rewrite [← hVh]); (try rewrite [← o_chkT]); (try rewrite [← o_asksS]); (try rewrite [← o_emptyS]); (try rewrite [← o_clearS]); conv => cbv)
    refine .inl ⟨_, _, by subst hF hVi hVu hVg hVh hVl; (try subst o_chkT); (try subst o_asksS); (try subst o_emptyS); (try subst o_clearS); exact c1, by subst hF hVi hVu hVg hVh hVl; (try subst o_chkT); (try subst o_asksS); (try subst o_emptyS); (try subst o_clearS); exact ⟨by simp [inRowsL, inRows, lk], by first | exact .inl rfl | exact .inr ⟨rfl, fun B h => nomatch h⟩⟩, ?_⟩ <;> ((try rewrite [← hVi]); (try rewrite [← hVu]); (try rewrite [← hVg]); (try rewrite [← hVh]); (try rewrite [← o_chkT]); (try rewrite [← o_asksS]); (try rewrite [← o_emptyS]); (try rewrite [← o_clearS]); conv => cbv)
    split <;> rename_i q1 <;> (try rw [q1]) <;> (((try rewrite [← hVi]); (try rewrite [← hVu]); (try rewrite [← hVg]); (try rewrite [← hVh]); (try rewrite [← o_chkT]); (try rewrite [← o_asksS]); (try rewrite [← o_emptyS]); (try rewrite [← o_clearS]); conv => cbv)) <;> (try simp only [hF, fns, cmI, decide_eq_true_eq, decide_eq_false_iff_not, beq_iff_eq, bne_iff_ne, beq_eq_false_iff_ne, bne_eq_false_iff_eq, ne_eq, Int.not_lt, Int.not_le, Classical.not_not, ge_iff_le, gt_iff_lt, Bool.not_eq_true] at q1)
    · exact absurd q1 h0
    split <;> rename_i q2 <;> (try rw [q2]) <;> (((try rewrite [← hVi]); (try rewrite [← hVu]); (try rewrite [← hVg]); (try rewrite [← hVh]); (try rewrite [← o_chkT]); (try rewrite [← o_asksS]); (try rewrite [← o_emptyS]); (try rewrite [← o_clearS]); conv => cbv)) <;> (try simp only [hF, fns, cmI, decide_eq_true_eq, decide_eq_false_iff_not, beq_iff_eq, bne_iff_ne, beq_eq_false_iff_ne, bne_eq_false_iff_eq, ne_eq, Int.not_lt, Int.not_le, Classical.not_not, ge_iff_le, gt_iff_lt, Bool.not_eq_true] at q2)
    · subst hF hVi hVu hVg hVh hVl; (try subst o_chkT); (try subst o_asksS); (try subst o_emptyS); (try subst o_clearS); subst hd
      simp only [fns]
      refine ⟨by simp [inRows, inRowsL, lk, lenD], ?_⟩
      rw [← hP]
      simp [reify, reifyL, clearD, teZ, tblD, ints, u64s]
    · exact absurd q2 h0
  rw [if_neg (by simpa using h0)] at hP
  have c1 := about_ok r L E p hL hE hw h0
  obtain ⟨h1, h2, h3⟩ := asksS_ok h0
  obtain ⟨g4, g5⟩ := chkT_len h1
  obtain ⟨n, hn⟩ := Int.eq_ofNat_of_zero_le h2
  obtain ⟨x, hx⟩ : ∃ x, E[n]? = some x := ⟨_, List.getElem?_eq_getElem (by omega)⟩
  have hxw := hw x (List.mem_of_getElem? hx)
  have hxe : E.getD p.toNat 0 = x := by rw [hn, Int.toNat_natCast, List.getD_eq_getElem?_getD, hx]; rfl
  have hux : (unpackS x).1.k = 0 ↔ x = 0 := by
    refine unpackS_zero hxw.1 ?_
    have := chkT_words h1 n (by omega)
    rwa [List.getD_eq_getElem?_getD, hx] at this
  rw [hxe] at hP
  rw [hn, Int.toNat_natCast] at hP
  obtain ⟨y, hy⟩ : ∃ y, L[n / 8]? = some y := ⟨_, List.getElem?_eq_getElem (by omega)⟩
  rw [List.getD_eq_getElem?_getD, hy, Option.getD_some] at hP
  have hq := quo8 hF hn (by omega)
  obtain ⟨q, hq0⟩ : ∃ q : Nat, q = n / 8 := ⟨_, rfl⟩
  rw [← hq0] at hy hq hP
  have hl1 := ints_len L
  have hl2 := u64s_len E
  obtain ⟨E2, hE2⟩ : ∃ E2, E2 = E.set n 0 := ⟨_, rfl⟩
  have hE2l : E2.length = 64 := by rw [hE2]; simp [g5]
  have hl3 : (u64s E2).length = 64 := by rw [u64s_len, hE2l]
  obtain ⟨L2, hL2⟩ : ∃ L2, L2 = L.set q (-1) := ⟨_, rfl⟩
  have hl4 : (ints L2).length = 8 := by rw [ints_len, hL2]; simp [g4]
  have hok2 : ∀ i, i < 64 → (unpackS (E2.getD i 0)).2 = 0 := fun i hi => by
    rw [hE2]
    rcases Nat.decEq n i with hni | hni
    · rw [List.getD_eq_getElem?_getD, List.getElem?_set_ne hni, ← List.getD_eq_getElem?_getD]; exact chkT_words h1 i hi
    · subst hni; rw [List.getD_eq_getElem?_getD, List.getElem?_set_self (by omega)]; decide
  have c3 := pempty_c r L E2 q (by omega) hE2l (by rw [hE2]; exact wordsOk_set hw n (by omega)) hok2
  rw [← hE2, ← hL2] at hP
  generalize emptyS E2 q = b at c3 hP
  have e1 : F.sub (ints L) 0 8 = ints L := by subst hF hVi hVu hVg hVh hVl; (try subst o_chkT); (try subst o_asksS); (try subst o_emptyS); (try subst o_clearS); simp [fns, subL, hl1, g4]
  have e2 : F.lset (u64s E) (F.ix 0 (Int.ofNat n)) (.int .u64 0) = u64s E2 := by subst hF hVi hVu hVg hVh hVl; (try subst o_chkT); (try subst o_asksS); (try subst o_emptyS); (try subst o_clearS); simp only [fns]; rw [hE2, ← u64s_set]; simp
  have e3 : F.sub (u64s E2) 0 64 = u64s E2 := by subst hF hVi hVu hVg hVh hVl; (try subst o_chkT); (try subst o_asksS); (try subst o_emptyS); (try subst o_clearS); simp [fns, subL, hl3]
  have e4 : F.lset (ints L) (F.ix 0 (Int.ofNat q)) (.int .i64 (-1)) = ints L2 := by subst hF hVi hVu hVg hVh hVl; (try subst o_chkT); (try subst o_asksS); (try subst o_emptyS); (try subst o_clearS); simp only [fns]; rw [hL2, ← ints_set]; simp
  subst hn
  (conv at e1 => lhs; cbv) <;> (conv at e2 => lhs; cbv) <;> (conv at e3 => lhs; cbv) <;> (conv at e4 => lhs; cbv) <;> (conv at hq => lhs; cbv)
  unfold tblD tblOwn tblExt at *
  rw [g4, g5] at c1
  ((try rewrite [← hVi]); (try rewrite [← hVu]); (try rewrite [← hVg]); (try rewrite [← hVh]); (try rewrite [← o_chkT]); (try rewrite [← o_asksS]); (try rewrite [← o_emptyS]); (try rewrite [← o_clearS]); conv => cbv)
  refine .inl ⟨_, _, by subst hF hVi hVu hVg hVh hVl; (try subst o_chkT); (try subst o_asksS); (try subst o_emptyS); (try subst o_clearS); exact c1, by subst hF hVi hVu hVg hVh hVl; (try subst o_chkT); (try subst o_asksS); (try subst o_emptyS); (try subst o_clearS); exact ⟨by simp [inRowsL, inRows, lk], by first | exact .inl rfl | exact .inr ⟨rfl, fun B h => nomatch h⟩⟩, ?_⟩ <;> ((try rewrite [← hVi]); (try rewrite [← hVu]); (try rewrite [← hVg]); (try rewrite [← hVh]); (try rewrite [← o_chkT]); (try rewrite [← o_asksS]); (try rewrite [← o_emptyS]); (try rewrite [← o_clearS]); conv => cbv)
  split <;> rename_i q0 <;> (try rw [q0]) <;> (((try rewrite [← hVi]); (try rewrite [← hVu]); (try rewrite [← hVg]); (try rewrite [← hVh]); (try rewrite [← o_chkT]); (try rewrite [← o_asksS]); (try rewrite [← o_emptyS]); (try rewrite [← o_clearS]); conv => cbv)) <;> (try simp only [hF, fns, cmI, decide_eq_true_eq, decide_eq_false_iff_not, beq_iff_eq, bne_iff_ne, beq_eq_false_iff_ne, bne_eq_false_iff_eq, ne_eq, Int.not_lt, Int.not_le, Classical.not_not, ge_iff_le, gt_iff_lt, Bool.not_eq_true] at q0)
  rotate_left
  · simp at q0
  refine ⟨by subst hF hVi hVu hVg hVh hVl; (try subst o_chkT); (try subst o_asksS); (try subst o_emptyS); (try subst o_clearS); simp [fns]; omega, .int .u64 x, by subst hF hVi hVu hVg hVh hVl; (try subst o_chkT); (try subst o_asksS); (try subst o_emptyS); (try subst o_clearS); simpa [fns] using u64s_at _ _ _ hx, ?_⟩
  ((try rewrite [← hVi]); (try rewrite [← hVu]); (try rewrite [← hVg]); (try rewrite [← hVh]); (try rewrite [← o_chkT]); (try rewrite [← o_asksS]); (try rewrite [← o_emptyS]); (try rewrite [← o_clearS]); conv => cbv)
  split <;> rename_i q1 <;> (try rw [q1]) <;> (((try rewrite [← hVi]); (try rewrite [← hVu]); (try rewrite [← hVg]); (try rewrite [← hVh]); (try rewrite [← o_chkT]); (try rewrite [← o_asksS]); (try rewrite [← o_emptyS]); (try rewrite [← o_clearS]); conv => cbv)) <;> (try simp only [hF, fns, cmI, decide_eq_true_eq, decide_eq_false_iff_not, beq_iff_eq, bne_iff_ne, beq_eq_false_iff_ne, bne_eq_false_iff_eq, ne_eq, Int.not_lt, Int.not_le, Classical.not_not, ge_iff_le, gt_iff_lt, Bool.not_eq_true] at q1)
  · rw [if_pos (hux.2 q1)] at hP
    split <;> rename_i z1 <;> (try rw [z1]) <;> (((try rewrite [← hVi]); (try rewrite [← hVu]); (try rewrite [← hVg]); (try rewrite [← hVh]); (try rewrite [← o_chkT]); (try rewrite [← o_asksS]); (try rewrite [← o_emptyS]); (try rewrite [← o_clearS]); conv => cbv)) <;> (try simp only [hF, fns, cmI, decide_eq_true_eq, decide_eq_false_iff_not, beq_iff_eq, bne_iff_ne, beq_eq_false_iff_ne, bne_eq_false_iff_eq, ne_eq, Int.not_lt, Int.not_le, Classical.not_not, ge_iff_le, gt_iff_lt, Bool.not_eq_true] at z1)
    rotate_left
    · simp at z1
    subst hF hVi hVu hVg hVh hVl; (try subst o_chkT); (try subst o_asksS); (try subst o_emptyS); (try subst o_clearS); subst hd
    simp only [fns]
    refine ⟨by simp [inRows, inRowsL, lk, lenD], ?_⟩
    rw [← hP]
    simp [reify, reifyL, clearD, teZ, tblD, ints, u64s]
  rw [if_neg (by rw [hux]; exact q1)] at hP
  split <;> rename_i z1 <;> (try rw [z1]) <;> (((try rewrite [← hVi]); (try rewrite [← hVu]); (try rewrite [← hVg]); (try rewrite [← hVh]); (try rewrite [← o_chkT]); (try rewrite [← o_asksS]); (try rewrite [← o_emptyS]); (try rewrite [← o_clearS]); conv => cbv)) <;> (try simp only [hF, fns, cmI, decide_eq_true_eq, decide_eq_false_iff_not, beq_iff_eq, bne_iff_ne, beq_eq_false_iff_ne, bne_eq_false_iff_eq, ne_eq, Int.not_lt, Int.not_le, Classical.not_not, ge_iff_le, gt_iff_lt, Bool.not_eq_true] at z1)
  · exact absurd trivial z1
  refine ⟨by subst hF hVi hVu hVg hVh hVl; (try subst o_chkT); (try subst o_asksS); (try subst o_emptyS); (try subst o_clearS); simp [fns], ?_⟩
  rw [hq]
  ((try rewrite [← hVi]); (try rewrite [← hVu]); (try rewrite [← hVg]); (try rewrite [← hVh]); (try rewrite [← o_chkT]); (try rewrite [← o_asksS]); (try rewrite [← o_emptyS]); (try rewrite [← o_clearS]); conv => cbv)
  refine ⟨by subst hF hVi hVu hVg hVh hVl; (try subst o_chkT); (try subst o_asksS); (try subst o_emptyS); (try subst o_clearS); simp [fns]; omega, by subst hF hVi hVu hVg hVh hVl; (try subst o_chkT); (try subst o_asksS); (try subst o_emptyS); (try subst o_clearS); simp [fns, hl2]; omega, ?_⟩
  rw [e2]
  ((try rewrite [← hVi]); (try rewrite [← hVu]); (try rewrite [← hVg]); (try rewrite [← hVh]); (try rewrite [← o_chkT]); (try rewrite [← o_asksS]); (try rewrite [← o_emptyS]); (try rewrite [← o_clearS]); conv => cbv)
  refine inPlace tys_ok mixed hF (n := 15) (rs := []) ⟨Tryd.func56, by kernel_rfl, rfl⟩ rfl rfl (by simp) rfl ?_
  ((try rewrite [← hVi]); (try rewrite [← hVu]); (try rewrite [← hVg]); (try rewrite [← hVh]); (try rewrite [← o_chkT]); (try rewrite [← o_asksS]); (try rewrite [← o_emptyS]); (try rewrite [← o_clearS]); conv => cbv)
  rw [e1, e3]
  refine .inl ⟨_, _, by subst hF hVi hVu hVg hVh hVl; (try subst o_chkT); (try subst o_asksS); (try subst o_emptyS); (try subst o_clearS); exact c3, by subst hF hVi hVu hVg hVh hVl; (try subst o_chkT); (try subst o_asksS); (try subst o_emptyS); (try subst o_clearS); exact ⟨by simp [inRowsL, inRows, lk, hl1, hl3, g4], .inr ⟨rfl, fun B h => nomatch h⟩⟩, ?_⟩
  cases b
  · ((try rewrite [← hVi]); (try rewrite [← hVu]); (try rewrite [← hVg]); (try rewrite [← hVh]); (try rewrite [← o_chkT]); (try rewrite [← o_asksS]); (try rewrite [← o_emptyS]); (try rewrite [← o_clearS]); conv => cbv)
    subst hF hVi hVu hVg hVh hVl; (try subst o_chkT); (try subst o_asksS); (try subst o_emptyS); (try subst o_clearS); subst hd
    simp only [fns]
    refine ⟨by simp [inRows, inRowsL, lk, hl1, hl3, g4], ?_⟩
    rw [← hP]
    simp [clearD, tblD, reify, reifyL, lk, subL, hl1, hl3, g4]
  · ((try rewrite [← hVi]); (try rewrite [← hVu]); (try rewrite [← hVg]); (try rewrite [← hVh]); (try rewrite [← o_chkT]); (try rewrite [← o_asksS]); (try rewrite [← o_emptyS]); (try rewrite [← o_clearS]); conv => cbv)
    refine ⟨by subst hF hVi hVu hVg hVh hVl; (try subst o_chkT); (try subst o_asksS); (try subst o_emptyS); (try subst o_clearS); simp [fns]; omega, .int .i64 y, by subst hF hVi hVu hVg hVh hVl; (try subst o_chkT); (try subst o_asksS); (try subst o_emptyS); (try subst o_clearS); simpa [fns] using ints_at _ _ _ hy, ?_⟩
    ((try rewrite [← hVi]); (try rewrite [← hVu]); (try rewrite [← hVg]); (try rewrite [← hVh]); (try rewrite [← o_chkT]); (try rewrite [← o_asksS]); (try rewrite [← o_emptyS]); (try rewrite [← o_clearS]); conv => cbv)
    refine ⟨by subst hF hVi hVu hVg hVh hVl; (try subst o_chkT); (try subst o_asksS); (try subst o_emptyS); (try subst o_clearS); simp [fns]; omega, by subst hF hVi hVu hVg hVh hVl; (try subst o_chkT); (try subst o_asksS); (try subst o_emptyS); (try subst o_clearS); simp [fns, hl1]; omega, ?_⟩
    rw [e4]
    ((try rewrite [← hVi]); (try rewrite [← hVu]); (try rewrite [← hVg]); (try rewrite [← hVh]); (try rewrite [← o_chkT]); (try rewrite [← o_asksS]); (try rewrite [← o_emptyS]); (try rewrite [← o_clearS]); conv => cbv)
    subst hF hVi hVu hVg hVh hVl; (try subst o_chkT); (try subst o_asksS); (try subst o_emptyS); (try subst o_clearS); subst hd
    simp only [fns]
    refine ⟨by simp [inRows, inRowsL, lk, hl4, hl3], ?_⟩
    rw [← hP]
    simp [clearD, tblD, reify, reifyL, lk, subL, hl4, hl3]
end Go.Proofs.YtppmomobjjpljaaDoor.E
end
