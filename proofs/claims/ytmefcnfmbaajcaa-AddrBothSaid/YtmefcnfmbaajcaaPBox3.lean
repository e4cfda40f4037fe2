/- Of the seat Ytmefcnfmbaajcaa: Lean functions that say what Go functions compute, and proofs that the Go code comes to these answers. Written by a program of this session (it runs the kit's printer, with hand proofs for what that refuses). Conditions: those of each theorem. -/
import Derived.Test.YtmefcnfmbaajcaaPBox0
import Derived.Test.YtmefcnfmbaajcaaPBox2
import Derived.Test.YtmefcnfmbaajcaaKIter
namespace Go.Proofs.Ytmefcnfmbaajcaa.PBo
open Go.RowKit Go.Proofs.YtmefcnfmbaajcaaW.PrintWords Go.Proofs.YtmefcnfmbaajcaaW.PrintLast Go.Proofs.YtmefcnfmbaajcaaW.PrintMore
attribute [local go_sem] max2_int min2_int max_two min_two max_three min_three max_four min_four   -- for this text's walks alone
set_option linter.unusedVariables false
set_option linter.unusedSimpArgs false

/-! ### addr_Pieces: function 20 -/
--HAND
open Go.Proofs.Ytmefcnfmbaajcaa.KIter
section
attribute [local go_sem] Oper.semAt_some

def pcs : Nat → Int → Int → List S23
  | 0, _, _ => []
  | k + 1, f, t => if f ≤ t then ⟨f, mn (f / 8 * 8 + 7) t⟩ :: pcs k (mn (f / 8 * 8 + 7) t + 1) t else []

theorem or7 (f : Int) (h0 : 0 ≤ f) (h1 : f < 64) : Go.bits .or .i64 f 7 = f / 8 * 8 + 7 := by
  obtain ⟨k, rfl⟩ := Int.eq_ofNat_of_zero_le h0
  have h : ∀ k : Fin 64, Go.bits .or .i64 ((k.val : Nat) : Int) 7 = ((k.val : Nat) : Int) / 8 * 8 + 7 := by decide
  exact h ⟨k, by omega⟩

set_option maxRecDepth 100000 in
set_option maxHeartbeats 2000000 in
theorem pieces1_in (F : Fence) (n : Nat) (h6 : F.fn 32) (hro : F.round = none) (hn : 1 ≤ n) (l Bn n₀ : Nat) (a b : Int) (ha : 0 ≤ a) (hab : a ≤ b) (hb : b < 64) (J Jx : List S23 → World → Prop)
    (hY : ∀ pre x W, J pre W → pre.length < 64 → YieldAt F (n - 1) Try.prog l #[.agg #[.int .i64 x.f0, .int .i64 x.f1]] W fun e W' =>
      (e = .returned (.bool true) ∧ J (pre ++ [x]) W' ∧ KB n₀ Bn W W') ∨ (e = .returned (.bool false) ∧ Jx (pre ++ [x]) W'))
    (W : World) (hc : Blk W Bn #[.int .i64 a, .int .i64 b] 23) (h0 : J [] W) :
    CallsIn F n Try.prog 32 #[.func (.yield l) #[] #[], .pointer (some ⟨Bn, 0, none⟩)] W fun e W' => (∃ v, e = .returned v) ∧
      ((∃ ys, ys = pcs 64 a b ∧ J ys W') ∨ (∃ pre, pre <+: pcs 64 a b ∧ Jx pre W')) := by
  have hc0 : W.cell? ⟨Bn, 0, none⟩ = some (.int .i64 a) := hc.cell 0
  have hc1 : W.cell? ⟨Bn, 1, none⟩ = some (.int .i64 b) := hc.cell 1
  refine callsIn_of_wp Try.func32 rfl h6 ?_ hro
  simp only [Try.ntmps32, List.size_toArray, List.length_cons, List.length_nil, Nat.reduceAdd, Nat.reduceSub, Array.replicate_succ, Array.replicate_zero, List.push_toArray, List.append_toArray, List.nil_append, List.cons_append]
  gi_wp2
  gi_loopw [3] (fun p wr => ∃ (pre : List S23) (k : Nat) (f : Int), p = .int .i64 f ∧ 0 ≤ f ∧ f ≤ 64 ∧ pcs 64 a b = pre ++ pcs k f b ∧ pre.length + k = 64 ∧ 64 - f ≤ k ∧ J pre wr ∧ Blk wr Bn #[.int .i64 a, .int .i64 b] 23)
    (fun p wr => 64 - (intOf p).toNat)
  case atStart =>
    exact ⟨[], 64, a, rfl, ha, by omega, rfl, rfl, by omega, h0, hc⟩
  case round =>
    obtain ⟨pre, k, f, rfl, hf0, hf1, hx, hl, hk, hJs, hbl⟩ := hrel
    have hd0 : wr.cell? ⟨Bn, 0, none⟩ = some (.int .i64 a) := hbl.cell 0
    have hd1 : wr.cell? ⟨Bn, 1, none⟩ = some (.int .i64 b) := hbl.cell 1
    by_cases hfb : f ≤ b
    · have ho := or7 f hf0 (by omega)
      obtain ⟨k, rfl⟩ : ∃ k', k = k' + 1 := ⟨k - 1, by omega⟩
      by_cases hm : b < f / 8 * 8 + 7
      · obtain ⟨fn, tmps, assign, body, hy, hR⟩ := hY pre ⟨f, b⟩ wr hJs (by omega)
        have hx2 : pcs 64 a b = (pre ++ [⟨f, b⟩]) ++ pcs k (b + 1) b := by rw [hx, pcs, if_pos hfb]; unfold mn; rw [if_pos hm]; simp
        have HX := Lib.hid hx2
        clear hx hx2
        gi_wp2
        refine hR.mono ?_
        rintro e W3 (⟨rfl, hJ3, hk3⟩ | ⟨rfl, hJx3⟩)
        · gi_wp2
          go_roundw
          case rel => exact ⟨_, k, b + 1, rfl, by omega, by omega, HX.out, by simp; omega, by omega, hJ3, hbl.same hk3.2⟩
          case measure => simp [intOf]; omega
        · gi_wp2
          refine bodyPost_ret (results_none rfl _ _ _) rfl ?_
          exact ⟨⟨_, rfl⟩, .inr ⟨_, ⟨_, HX.out.symm⟩, hJx3⟩⟩
      · obtain ⟨fn, tmps, assign, body, hy, hR⟩ := hY pre ⟨f, f / 8 * 8 + 7⟩ wr hJs (by omega)
        have hx2 : pcs 64 a b = (pre ++ [⟨f, f / 8 * 8 + 7⟩]) ++ pcs k (f / 8 * 8 + 7 + 1) b := by rw [hx, pcs, if_pos hfb]; unfold mn; rw [if_neg hm]; simp
        have HX := Lib.hid hx2
        clear hx hx2
        gi_wp2
        refine hR.mono ?_
        rintro e W3 (⟨rfl, hJ3, hk3⟩ | ⟨rfl, hJx3⟩)
        · gi_wp2
          go_roundw
          case rel => exact ⟨_, k, f / 8 * 8 + 7 + 1, rfl, by omega, by omega, HX.out, by simp; omega, by omega, hJ3, hbl.same hk3.2⟩
          case measure => simp [intOf]; omega
        · gi_wp2
          refine bodyPost_ret (results_none rfl _ _ _) rfl ?_
          exact ⟨⟨_, rfl⟩, .inr ⟨_, ⟨_, HX.out.symm⟩, hJx3⟩⟩
    · have hx2 : pcs 64 a b = pre := by rw [hx]; cases k with
        | zero => simp [pcs]
        | succ k => rw [pcs, if_neg hfb]; simp
      have HX := Lib.hid hx2
      clear hx hx2
      gi_wp2
      go_end0
      exact ⟨⟨_, rfl⟩, .inl (by rw [HX.out]; exact hJs)⟩

set_option maxHeartbeats 1000000 in
theorem pieces_in (F : Fence) (n : Nat) (h5 : F.fn 31) (hro : F.round = none) (a b : Int) (w : World) :
    CallsIn F n Try.prog 31 #[.agg #[.int .i64 a, .int .i64 b]] w fun e w' => e = .returned (.func (.func 32) #[] #[.pointer (some ⟨w.heap.size, 0, none⟩)]) ∧ w' = w.alloc (.cells #[.int .i64 a, .int .i64 b] 23) := by
  refine callsIn_of_wp Try.func31 rfl h5 ?_ hro
  simp only [Try.ntmps31, List.size_toArray, List.length_cons, List.length_nil, Nat.reduceAdd, Nat.reduceSub, Array.replicate_succ, Array.replicate_zero, List.push_toArray, List.append_toArray, List.nil_append, List.cons_append]
  gi_wp2
  go_ret
  exact ⟨rfl, rfl⟩

theorem pieces_stops (F : Fence) (n : Nat) (h6 : F.fn 32) (hro : F.round = none) (hn : 1 ≤ n) (Bn n₀ : Nat) (a b : Int) (ha : 0 ≤ a) (hab : a ≤ b) (hb : b < 64) (w : World)
    (hc : Blk w Bn #[.int .i64 a, .int .i64 b] 23) :
    SeqStopsK F n Try.prog 32 #[.pointer (some ⟨Bn, 0, none⟩)] (fun x : S23 => #[.agg #[.int .i64 x.f0, .int .i64 x.f1]]) (KB n₀ Bn) (fun ys => ys = pcs 64 a b) (fun pre => pre <+: pcs 64 a b) 64 w := fun l J Jx W hW _ _ hY h0 =>
  pieces1_in F n h6 hro hn l Bn n₀ a b ha hab hb J Jx hY W (hc.below hW hc.lt) h0

def cel23 (xs : List S23) : List Value := xs.flatMap fun x => [.int .i64 x.f0, .int .i64 x.f1]
theorem cel23_snoc (xs : List S23) (x : S23) : cel23 (xs ++ [x]) = cel23 xs ++ [.int .i64 x.f0, .int .i64 x.f1] := by simp [cel23]
theorem infoP : (Try.prog.info? 23).map (fun i => (i.zero, i.size, i.bytes)) = some (some (.agg #[.int .i64 0, .int .i64 0]), 2, 16) := by kernel_rfl
theorem reps23 {w : World} {base : Nat} {ok : Nat → Prop} : ∀ xs : List S23, Reps (k23.M w base ok) 2 xs (cel23 xs) := by
  refine snoc_ind (Reps.none _ _) fun xs x ih => ?_
  rw [cel23_snoc]; exact ih.snoc (k23_mkM _ _ _ x) rfl

def addr_Pieces.f (a0_0 : Int) (a0_1 : Int) : Option (List S23 × Int) := (addr_Check.f a0_0 a0_1).bind fun e => if e = 0 then some (pcs 64 a0_0 a0_1, 0) else some ([], e)

theorem addr_Check.zero {a b : Int} (h : addr_Check.f a b = some 0) : 0 ≤ a ∧ a ≤ b ∧ b < 64 := by
  unfold addr_Check.f at h
  split at h
  · simp at h
  · split at h
    · simp at h
    · split at h
      · simp at h
      · omega

set_option maxRecDepth 100000 in
set_option maxHeartbeats 4000000 in
theorem Pieces_ok (a b : Int) (w : World) (hc : addr_Check.f a b = some 0) :
    Calls Try.prog 20 #[.agg #[.int .i64 a, .int .i64 b]] w fun e w' => ∃ v0_ : Value, e = .returned (.tuple #[v0_, .int .i64 0]) ∧ Kd.R k23 23 w' w.heap.size (fun _ => True) v0_ (pcs 64 a b) ∧ Below w.heap.size w w' := by
  obtain ⟨ha, hab, hb⟩ := addr_Check.zero hc
  have hu23 := Try.underlying23
  refine (callsIn_wide (n := 9)).1 ?_
  refine callsIn_of_wp_marks Try.func20 rfl trivial ?_ rfl
  simp only [Try.ntmps20, List.size_toArray, List.length_cons, List.length_nil, Nat.reduceAdd, Nat.reduceSub, Array.replicate_succ, Array.replicate_zero, List.push_toArray, List.append_toArray, List.nil_append, List.cons_append]
  gi_wp2_with (first | (refine ⟨trivial, ?_⟩; gi_at_call 23; refine (callsIn_wide.2 (addr_Check.calls a b 0 _ hc)).mono ?_; rintro e w1 ⟨rfl, hb1⟩; have hK1 := (Blk.new w #[.int .i64 a, .int .i64 b] 23).below hb1 (by simp); have hz0 : w1.cell? ⟨w.heap.size, 0, none⟩ = some (.int .i64 a) := hK1.cell 0; have hz1 : w1.cell? ⟨w.heap.size, 1, none⟩ = some (.int .i64 b) := hK1.cell 1; have hsz : w.heap.size < w1.heap.size := by have := hb1.size; rw [World.size_alloc] at this; omega) | (refine ⟨trivial, ?_⟩; gi_at_call 31; refine (pieces_in Fence.wide 8 trivial rfl a b _).mono ?_; rintro e w2 ⟨rfl, rfl⟩))
  -- the loop
  have bO := (Boxed.new w1 36 (.slice none 0 0)).alloc (.cells #[.int .i64 a, .int .i64 b] 23)
  have bP := Blk.new (w1.alloc (.cells #[.slice none 0 0] 36)) #[.int .i64 a, .int .i64 b] 23
  rw [World.size_alloc] at bP
  have hB0 : Below w.heap.size w ((w1.alloc (.cells #[.slice none 0 0] 36)).alloc (.cells #[.int .i64 a, .int .i64 b] 23)) :=
    ((((Below.refl _ w).alloc (Nat.le_refl _) _).trans (hb1.mono (by simp))).alloc (by omega) _).alloc (by simp; omega) _
  have hsz0 : w1.heap.size + 1 < ((w1.alloc (.cells #[.slice none 0 0] 36)).alloc (.cells #[.int .i64 a, .int .i64 b] 23)).heap.size := by simp
  obtain ⟨W0, hW0⟩ : ∃ W0, (w1.alloc (.cells #[.slice none 0 0] 36)).alloc (.cells #[.int .i64 a, .int .i64 b] 23) = W0 := ⟨_, rfl⟩
  rw [hW0] at bO bP hB0 hsz0 ⊢
  clear hW0 hz0 hz1 hK1 hb1
  obtain ⟨i0, hi, hi0, hi1, hi2⟩ := info_parts infoP
  refine wpIn_rangeFunc_ownH (F := Fence.wide) rfl (by omega) (gf := 32) (lb := #[.pointer (some ⟨w1.heap.size + 1, 0, none⟩)]) rfl trivial (enters_of Try.func32 (by kernel_rfl) rfl)
    (pieces_stops Fence.wide 8 trivial rfl (by omega) (w1.heap.size + 1) w.heap.size a b ha hab hb W0 bP) KB.t (KB.b hB0.size (by omega)) (Below.refl _ _) (fun _ => rfl)
    (fun pre W => (∃ v, Boxed W w1.heap.size 36 v ∧ W.ownsRow W0.heap.size 23 2 v pre.length (cel23 pre) ∧ True) ∧ Below W0.heap.size W0 W0 ∧ Below w.heap.size w W ∧ W0.heap.size ≤ W.heap.size)
    (fun _ _ _ => False)
    (OwnFrom.and (Own.from (holdsRow_own _ _ _ _ _ (fun pre => pre.length) cel23 (fun _ _ => True)) _) (OwnFrom.and (ownFrom_pure _ (fun _ => Below W0.heap.size W0 W0)) (OwnFrom.and (ownFrom_below (Nat.le_refl _) hB0.size) (fun s X Y row hs hg hr => Nat.le_trans hs hg.size))))
    (fun _ _ _ _ _ hs _ _ => hs)
    ⟨⟨_, bO, World.ownsRow_nil _ _ _ _, trivial⟩, Below.refl _ _, hB0, Nat.le_refl _⟩
    (fun x a' W => ∃ Bx, W0.heap.size ≤ Bx ∧ Blk W Bx #[.int .i64 x.f0, .int .i64 x.f1] 23 ∧ a' = { tmps := #[.agg #[.int .i64 a, .int .i64 b], .pointer (some ⟨w.heap.size, 0, none⟩), .slice none 0 0, .int .i64 0, .int .i64 0, .pointer (some ⟨w1.heap.size, 0, none⟩), .pointer (some ⟨Bx, 0, none⟩), .agg #[.int .i64 a, .int .i64 b], .int .i64 0, .int .i64 0, .bool false, undef, .agg #[.int .i64 a, .int .i64 b], .func (.func 32) #[] #[.pointer (some ⟨w1.heap.size + 1, 0, none⟩)], .agg #[.int .i64 x.f0, .int .i64 x.f1], undef, undef, undef, undef, undef], defers := [] })
    (fun x a' _ X Y row hs hg hr => by obtain ⟨Bx, h1, h2, h3⟩ := hs; exact ⟨Bx, h1, blk_own Bx _ 23 () X Y row h2 hg (fun r e => (hr r e).2), h3⟩)
    ?assign ?body ?done ?stop
  case assign =>
    rintro l pre x W K ⟨⟨v, hv, hrow, _⟩, _, hB, hS⟩ hK
    gi_wp2
    exact hK _ _ ((KeepsOthers.alloc _ _).from _) (KB.alloc hB.size (by omega) _) ⟨⟨v, hv.alloc _, hrow.alloc _, trivial⟩, Below.refl _ _, hB.alloc hB.size _, by simp; omega⟩ ⟨W.heap.size, hS, Blk.new W _ _, rfl⟩
  case body =>
    rintro l pre x a' W hl ⟨r, hr⟩ ⟨⟨v, hv, hrow, _⟩, _, hB, hS⟩ ⟨Bx, hBx, bX, rfl⟩ hlt
    have cO := hv.cell
    have cX0 : W.cell? ⟨Bx, 0, none⟩ = some (.int .i64 x.f0) := bX.cell 0
    have cX1 : W.cell? ⟨Bx, 1, none⟩ = some (.int .i64 x.f1) := bX.cell 1
    gi_wp2_with (gi_at_builtin; refine wpListIn_append_own _ rfl _ _ 36 rfl W0.heap.size 23 i0 (.agg #[.int .i64 0, .int .i64 0]) 2 16 Try.underlying36 hi hi0 hi1 hi2 rfl (by decide) _ _ _ rfl (hrow.alloc _) ⟨W.heap.size, 0, none⟩ 1 1 [.int .i64 x.f0, .int .i64 x.f1] rfl rfl ?c1 ?c2 ?c3 ?c4 ?c5 ?_)
    case c1 => exact cells_new W _ _
    case c2 => simp [Value.oneCell']
    case c3 => unfold maxLen; omega
    case c4 => omega
    case c5 => simp; omega
    intro v' w2 hown' hgrow _
    obtain ⟨g', cap', rfl⟩ := ownsRow_succ hown'
    obtain ⟨hv1, hv2, hr2, hk2, hb2, hj2⟩ := appendedK hv (by omega) hS hrow hown' hgrow
    have cO1 := hv1.cell
    have fO1 := hv1.frozen
    gi_wp2
    refine ⟨hk2.from _, ⟨hb2 _ (by omega), hj2 _ (by omega) (by omega)⟩, ⟨_, hv2, ?_, trivial⟩, Below.refl _ _, hB.trans (hb2 _ (by omega)), by have := hk2.size; omega⟩
    rw [cel23_snoc, List.length_append]
    exact hr2
  case done =>
    rintro D zs W hD rfl ⟨⟨v, hv, hrow, _⟩, _, hB, hS⟩ hK
    have cO := hv.cell
    gi_wp2
    refine ⟨by simp, .inl ⟨_, _, rfl, run_takeDeferred hK, ?_⟩⟩
    refine ⟨_, results_tmp2 rfl _ _ _, v, rfl, ?_, hB.trans (belowK_b (w := w) (Nat.le_refl _) W D _ _ (by have := hB0.size; omega) hK rfl rfl)⟩
    exact R_of_owns (d := k23) (own_weaken (ownsRow_putObj hrow _ hK rfl) hB0.size) (fun _ => reps23 _)
  case stop =>
    rintro D c pre W _ _ h _
    exact h.elim

set_option maxRecDepth 100000 in
set_option maxHeartbeats 4000000 in
theorem Pieces_no (a b e0 : Int) (w : World) (hc : addr_Check.f a b = some e0) (h0 : e0 ≠ 0) :
    Calls Try.prog 20 #[.agg #[.int .i64 a, .int .i64 b]] w fun e w' => e = .returned (.tuple #[.slice none 0 0, .int .i64 e0]) ∧ Below w.heap.size w w' := by
  have hu23 := Try.underlying23
  have h0b : (!(e0 == 0)) = true := by simp [h0]
  go_enter Try.func20, Try.ntmps20
  go_wp2_with (go_at_call 23; refine (addr_Check.calls a b e0 _ hc).mono ?_; rintro e w1 ⟨rfl, hb1⟩)
  go_ret2
  exact ⟨rfl, ((Below.refl _ w).alloc (Nat.le_refl _) _).trans (hb1.mono (by simp))⟩
end
set_option maxHeartbeats 8000000 in
set_option maxRecDepth 100000 in
theorem addr_Pieces.calls (a0_0 : Int) (a0_1 : Int) (r1 : List (S23)) (r2 : Int) (w : World) (h : addr_Pieces.f a0_0 a0_1 = some (r1, r2)) :
  Calls Try.prog 20 #[.agg #[.int .i64 a0_0, .int .i64 a0_1]] w fun e w' => ∃ v0_ : Value, e = .returned (.tuple #[v0_, .int .i64 r2]) ∧ Kd.R k23 23 w' w.heap.size (fun _ => True) v0_ r1 ∧ Below w.heap.size w w' := by
  unfold addr_Pieces.f at h
  cases hc : addr_Check.f a0_0 a0_1 with
  | none => rw [hc] at h; simp at h
  | some e0 =>
    rw [hc] at h
    simp only [Option.bind_some] at h
    by_cases h0 : e0 = 0
    · subst h0
      rw [if_pos rfl] at h
      simp only [Option.some.injEq, Prod.mk.injEq] at h
      obtain ⟨rfl, rfl⟩ := h
      exact Pieces_ok a0_0 a0_1 w hc
    · rw [if_neg h0] at h
      simp only [Option.some.injEq, Prod.mk.injEq] at h
      obtain ⟨rfl, rfl⟩ := h
      exact (Pieces_no a0_0 a0_1 e0 w hc h0).mono fun e w' ⟨he, hb⟩ => ⟨_, he, Kd.R_nil _ _ _ _ _, hb⟩

end Go.Proofs.Ytmefcnfmbaajcaa.PBo
